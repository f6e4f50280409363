/- Plain facts: the good edges among those drawn. -/
import Derived.Test.YtldmnnloakpjlaaB5
set_option linter.unusedSimpArgs false
set_option linter.unusedVariables false
set_option linter.unnecessarySimpa false
namespace Go.Proofs.Ytldmnnloakpjlaa

theorem snoc_ind {α : Type} {P : List α → Prop} (nil : P []) (snoc : ∀ s a, P s → P (s ++ [a])) (l : List α) : P l := by
  have : ∀ n (l : List α), l.length = n → P l := by
    intro n
    induction n with
    | zero => intro l hl; rw [List.length_eq_zero_iff.1 hl]; exact nil
    | succ n ih =>
      intro l hl
      rcases List.eq_nil_or_concat l with h | ⟨s, a, h⟩
      · subst h; simp at hl
      · rw [List.concat_eq_append] at h
        subst h
        exact snoc s a (ih s (by simpa using hl))
  exact this _ l rfl
theorem contains_take {l : List (Int × Int)} (e : Int × Int) {j : Nat} (h : j < l.length) : (l.take (j + 1)).contains e = ((l.take j).contains e || (l[j] == e)) := by
  have h1 : l.take (j + 1) = l.take j ++ [l[j]] := by
    rw [List.take_add_one, List.getElem?_eq_getElem h]; rfl
  rw [h1, Bool.eq_iff_iff]
  simp only [List.contains_iff_mem, List.mem_append, List.mem_singleton, Bool.or_eq_true, beq_iff_eq]
  constructor
  · rintro (h2 | h2)
    · exact .inl h2
    · exact .inr h2.symm
  · rintro (h2 | h2)
    · exact .inl h2
    · exact .inr h2.symm
def badE (n : Int) (e : Int × Int) : Bool := decide (e.1 < 0) || decide (e.1 ≥ n) || decide (e.2 < 0) || decide (e.2 ≥ n)
def goodS (n : Int) (g : List (Int × Int)) (e : Int × Int) : List (Int × Int) := if badE n e || g.contains e then g else g ++ [e]
def goodF (n : Int) (es : List (Int × Int)) : List (Int × Int) := es.foldl (goodS n) []
theorem goodF_snoc (n : Int) (es : List (Int × Int)) (e : Int × Int) : goodF n (es ++ [e]) = goodS n (goodF n es) e := by simp [goodF]
theorem goodF_take (n : Int) (es : List (Int × Int)) {k : Nat} (h : k < es.length) : goodF n (es.take (k + 1)) = goodS n (goodF n (es.take k)) es[k] := by
  rw [List.take_add_one, List.getElem?_eq_getElem h]
  exact goodF_snoc _ _ _
theorem goodF_len (n : Int) : ∀ es : List (Int × Int), (goodF n es).length ≤ es.length := by
  intro es
  induction es using snoc_ind with
  | nil => simp [goodF]
  | snoc es e ih =>
    rw [goodF_snoc]; unfold goodS
    split <;> simp <;> omega
theorem goodF_mem (n : Int) (x : Int × Int) (es : List (Int × Int)) : x ∈ goodF n es ↔ x ∈ es ∧ badE n x = false := by
  induction es using snoc_ind with
  | nil => simp [goodF]
  | snoc es e ih =>
    rw [goodF_snoc]; unfold goodS
    by_cases hb : badE n e = true
    · simp only [hb, Bool.true_or, if_true, ih, List.mem_append, List.mem_singleton]
      constructor
      · rintro ⟨h1, h2⟩; exact ⟨.inl h1, h2⟩
      · rintro ⟨h1 | h1, h2⟩
        · exact ⟨h1, h2⟩
        · subst h1; rw [hb] at h2; cases h2
    · have hb' : badE n e = false := by simpa using hb
      by_cases hc : (goodF n es).contains e = true
      · simp only [hb', hc, Bool.or_true, if_true, ih, List.mem_append, List.mem_singleton]
        have hm : e ∈ goodF n es := by simpa using hc
        constructor
        · rintro ⟨h1, h2⟩; exact ⟨.inl h1, h2⟩
        · rintro ⟨h1 | h1, h2⟩
          · exact ⟨h1, h2⟩
          · subst h1; exact ih.1 hm
      · have hc' : (goodF n es).contains e = false := by simpa using hc
        simp only [hb', hc', Bool.or_false, Bool.false_eq_true, if_false, ih, List.mem_append, List.mem_singleton]
        constructor
        · rintro (⟨h1, h2⟩ | h1)
          · exact ⟨.inl h1, h2⟩
          · subst h1; exact ⟨.inr rfl, hb'⟩
        · rintro ⟨h1 | h1, h2⟩
          · exact .inl ⟨h1, h2⟩
          · exact .inr h1
theorem goodF_nodup (n : Int) (es : List (Int × Int)) : (goodF n es).Nodup := by
  induction es using snoc_ind with
  | nil => simp [goodF]
  | snoc es e ih =>
    rw [goodF_snoc]; unfold goodS
    split
    · exact ih
    · rename_i h
      refine List.nodup_append.2 ⟨ih, by simp, ?_⟩
      intro a ha b hb
      simp only [List.mem_singleton] at hb
      subst hb
      intro hab
      subst hab
      simp [ha] at h
theorem badE_false {n : Nat} {e : Int × Int} : badE n e = false ↔ validE n e := by
  simp [badE, validE]
  omega
end Go.Proofs.Ytldmnnloakpjlaa
