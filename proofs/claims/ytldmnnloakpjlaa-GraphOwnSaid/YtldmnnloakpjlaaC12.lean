/- Plain facts: what the documents' answers for graphs are. -/
import Derived.Test.YtldmnnloakpjlaaC9
import Derived.Test.YtldmnnloakpjlaaC11
set_option linter.unusedSimpArgs false
set_option linter.unusedVariables false
set_option linter.unnecessarySimpa false
namespace Go.Proofs.Ytldmnnloakpjlaa

theorem good_row (N : Nat) (fs : List (Int × Int)) (a b : Int) : b ∈ rowF (newF N fs).1 a ↔ (a, b) ∈ goodF N fs := by
  rw [newF_mem, goodF_mem, badE_false, okN_iff, okN_iff]
  simp only [validE]
  constructor
  · rintro ⟨h1, h2, h3⟩; exact ⟨h1, h2.1, h2.2, h3.1, h3.2⟩
  · rintro ⟨h1, h2, h3, h4, h5⟩; exact ⟨h1, ⟨h2, h3⟩, h4, h5⟩
theorem good_valid (N : Nat) (fs : List (Int × Int)) : ∀ e ∈ goodF N fs, validE N e := fun e he => badE_false.1 ((goodF_mem N e fs).1 he).2
theorem ends_bit {n : Nat} {a : Int} {back : Bool} {es : List (Int × Int)} (hv : ∀ e ∈ es, validE n e) (b : Int) :
    bitAt (endsM n a es back) b = true ↔ (if back then (b, a) else (a, b)) ∈ es := by
  unfold endsM
  induction es using snoc_ind with
  | nil => simp [bitAt_rep]
  | snoc s e ih =>
    have ih := ih fun x hx => hv x (List.mem_append_left _ hx)
    have hlen := endsM_len n a back s (List.replicate n false)
    rw [List.length_replicate] at hlen
    rw [List.foldl_append]
    generalize s.foldl (endF a back) (List.replicate n false) = m at *
    have hve := hv e (by simp)
    obtain ⟨x, y⟩ := e
    obtain ⟨h1, h2, h3, h4⟩ := hve
    simp only at h1 h2 h3 h4
    have hx : okN m.length x = true := okN_iff.2 ⟨h1, by omega⟩
    have hy : okN m.length y = true := okN_iff.2 ⟨h3, by omega⟩
    simp only [List.foldl_cons, List.foldl_nil, endF, List.mem_append, List.mem_singleton]
    cases back
    · simp only [Bool.false_eq_true, if_false] at *
      by_cases hxa : x = a
      · subst hxa
        rw [if_pos rfl, bitAt_set hy]
        by_cases hb : b = y
        · subst hb; simp
        · simp [hb, ih]
      · rw [if_neg hxa, ih]
        simp only [Prod.mk.injEq]
        constructor
        · exact .inl
        · rintro (h | ⟨h, _⟩)
          · exact h
          · exact absurd h.symm hxa
    · simp only [if_true] at *
      by_cases hya : y = a
      · subst hya
        rw [if_pos rfl, bitAt_set hx]
        by_cases hb : b = x
        · subst hb; simp
        · simp [hb, ih]
      · rw [if_neg hya, ih]
        simp only [Prod.mk.injEq]
        constructor
        · exact .inl
        · rintro (h | ⟨_, h⟩)
          · exact h
          · exact absurd h.symm hya
theorem ends_len (n : Nat) (a : Int) (es : List (Int × Int)) (back : Bool) : (endsM n a es back).length = n := by
  unfold endsM; rw [endsM_len n a back]; simp
theorem next_ends (N : Nat) (fs : List (Int × Int)) (a : Int) : rowF (newF N fs).1 a = listedF (endsM N a (goodF N fs) false) N := by
  have hl := ends_len N a (goodF N fs) false
  refine sorted_ext ((newF_graph N fs).nx.row a).1 (listedF_sorted _ _) fun b => ?_
  rw [good_row]
  have := mem_listedF (l := endsM N a (goodF N fs) false) (b := b)
  rw [hl] at this
  rw [this, ends_bit (good_valid N fs)]
  rfl
theorem prev_ends (N : Nat) (fs : List (Int × Int)) (a : Int) : rowF (newF N fs).2 a = listedF (endsM N a (goodF N fs) true) N := by
  have hl := ends_len N a (goodF N fs) true
  refine sorted_ext ((newF_graph N fs).pv.row a).1 (listedF_sorted _ _) fun b => ?_
  have := mem_listedF (l := endsM N a (goodF N fs) true) (b := b)
  rw [hl] at this
  rw [this, ends_bit (good_valid N fs), if_pos rfl, ← good_row, (newF_graph N fs).both]
theorem listed_set {m : List Bool} {p : Int → Prop} (h : ∀ b, bitAt m b = true ↔ p b) : SetOf (listedF m m.length) p :=
  ⟨listedF_sorted _ _, fun b => by rw [mem_listedF, h]⟩
end Go.Proofs.Ytldmnnloakpjlaa
