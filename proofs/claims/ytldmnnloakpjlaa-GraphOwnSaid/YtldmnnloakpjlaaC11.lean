/- Plain facts: ways by growing sets. -/
import Derived.Test.YtldmnnloakpjlaaC8
set_option linter.unusedSimpArgs false
set_option linter.unusedVariables false
set_option linter.unnecessarySimpa false
namespace Go.Proofs.Ytldmnnloakpjlaa

def falses (m : List Bool) : Nat := m.countP (! ·)
theorem falses_set {m : List Bool} {i : Nat} (hi : i < m.length) (h : m[i] = false) : falses (m.set i true) + 1 = falses m := by
  induction m generalizing i with
  | nil => simp at hi
  | cons a m ih =>
    cases i with
    | zero => simp at h; subst h; simp [falses]
    | succ i =>
      simp only [List.length_cons, Nat.add_lt_add_iff_right] at hi
      have := ih hi (by simpa using h)
      simp only [falses, List.set_cons_succ, List.countP_cons] at *
      omega
/-- What a set of marks is, while it grows. -/
structure MI (nx : List (List Int)) (l : List Int) (m : List Bool) : Prop where
  len : m.length = nx.length
  base : ∀ b, b ∈ l → okN nx.length b = true → bitAt m b = true
  sound : ∀ b, bitAt m b = true → Rch nx l b
theorem MI.grow {nx : List (List Int)} {l : List Int} {m : List Bool} (h : MI nx l m) {x y : Int} (hx : bitAt m x = true) (hy : y ∈ rowF nx x) (hk : okN nx.length y = true) : MI nx l (m.set y.toNat true) := by
  have hs : ∀ b, bitAt (m.set y.toNat true) b = if b = y then true else bitAt m b := fun b => bitAt_set (by rw [h.len]; exact hk)
  refine ⟨by simp [h.len], fun b hb hkb => ?_, fun b hb => ?_⟩
  · rw [hs]; split
    · rfl
    · exact h.base b hb hkb
  · rw [hs] at hb
    split at hb
    · rename_i e; subst e; exact .step (h.sound x hx) hy
    · exact h.sound b hb
theorem MI.fin {nx : List (List Int)} {l : List Int} {m : List Bool} (h : MI nx l m) (hc : ∀ x y, y ∈ rowF nx x → bitAt m x = true → bitAt m y = true) (b : Int) : bitAt m b = true ↔ Rch nx l b := by
  refine ⟨h.sound b, fun hr => ?_⟩
  induction hr with
  | base h1 h2 => exact h.base _ h1 h2
  | step _ hb ih => exact hc _ _ hb ih
/-- The marks of the first ones. -/
def baseF (n : Nat) (m : List Bool) (a : Int) : List Bool := if okN n a then m.set a.toNat true else m
theorem baseF_len (n : Nat) : ∀ (l : List Int) (m : List Bool), (l.foldl (baseF n) m).length = m.length
  | [], m => rfl
  | a :: l, m => by
    rw [List.foldl_cons, baseF_len n l]
    unfold baseF; split <;> simp
theorem base_start {nx : List (List Int)} (l : List Int) : MI nx l (l.foldl (baseF nx.length) (List.replicate nx.length false)) := by
  have key : ∀ l' : List Int, (∀ b, bitAt (l'.foldl (baseF nx.length) (List.replicate nx.length false)) b = true ↔ b ∈ l' ∧ okN nx.length b = true) := by
    intro l'
    induction l' using snoc_ind with
    | nil => intro b; simp [bitAt_rep]
    | snoc s a ih =>
      intro b
      rw [List.foldl_append]
      have hlen := baseF_len nx.length s (List.replicate nx.length false)
      rw [List.length_replicate] at hlen
      generalize s.foldl (baseF nx.length) (List.replicate nx.length false) = m at *
      simp only [List.foldl_cons, List.foldl_nil, baseF, List.mem_append, List.mem_singleton]
      by_cases ha : okN nx.length a = true
      · rw [if_pos ha, bitAt_set (by rw [hlen]; exact ha)]
        by_cases e : b = a
        · subst e; simp [ha]
        · simp [e, ih]
      · rw [if_neg ha, ih]
        constructor
        · rintro ⟨h1, h2⟩; exact ⟨.inl h1, h2⟩
        · rintro ⟨h1 | h1, h2⟩
          · exact ⟨h1, h2⟩
          · subst h1; exact absurd h2 ha
  refine ⟨by rw [baseF_len]; simp, fun b hb hk => (key l b).2 ⟨hb, hk⟩, fun b hb => ?_⟩
  have := (key l b).1 hb
  exact .base this.1 this.2
end Go.Proofs.Ytldmnnloakpjlaa
