/- Plain facts: edges that are new just once. -/
import Derived.Test.YtldmnnloakpjlaaC8
set_option linter.unusedSimpArgs false
set_option linter.unusedVariables false
set_option linter.unnecessarySimpa false
namespace Go.Proofs.Ytldmnnloakpjlaa

theorem goodF_prefix (n : Int) (s t : List (Int × Int)) : ∃ r, goodF n (s ++ t) = goodF n s ++ r := by
  induction t using snoc_ind with
  | nil => exact ⟨[], by simp⟩
  | snoc t e ih =>
    obtain ⟨r, h⟩ := ih
    rw [← List.append_assoc, goodF_snoc, h]
    unfold goodS
    split
    · exact ⟨r, rfl⟩
    · exact ⟨r ++ [e], by simp⟩
theorem goodF_at (n : Int) (fs : List (Int × Int)) {k : Nat} (h : k < fs.length) (hg : goodS n (goodF n (fs.take k)) fs[k] = goodF n (fs.take k) ++ [fs[k]]) :
    (goodF n fs)[(goodF n (fs.take k)).length]? = some fs[k] := by
  obtain ⟨r, hr⟩ := goodF_prefix n (fs.take (k + 1)) (fs.drop (k + 1))
  rw [List.take_append_drop, goodF_take n fs h, hg] at hr
  rw [hr, List.append_assoc, List.getElem?_append_right (Nat.le_refl _), Nat.sub_self]
  rfl
theorem newF_take (N : Nat) (fs : List (Int × Int)) {k : Nat} (h : k < fs.length) : newF N (fs.take (k + 1)) = growF (newF N (fs.take k)) fs[k] := by
  unfold newF
  rw [List.take_add_one, List.getElem?_eq_getElem h, List.foldl_append]
  rfl
theorem add_good (N : Nat) (fs : List (Int × Int)) (k : Nat) (a b : Int) : addOk (newF N (fs.take k)).1 a b = !(badE N (a, b) || (goodF N (fs.take k)).contains (a, b)) := by
  rw [Bool.eq_iff_iff, addOk_iff (newF_graph N (fs.take k)).nx.len, newF_mem, Bool.not_eq_true', Bool.or_eq_false_iff]
  have h1 : badE N (a, b) = false ↔ okN N a = true ∧ okN N b = true := by
    rw [badE_false, okN_iff, okN_iff]
    simp only [validE]
    omega
  have h2 : (goodF N (fs.take k)).contains (a, b) = false ↔ ¬ ((a, b) ∈ fs.take k ∧ badE N (a, b) = false) := by
    rw [← goodF_mem]
    simp
  rw [h2, h1]
  constructor
  · rintro ⟨h3, h4, h5⟩
    exact ⟨⟨h3, h4⟩, fun h => h5 ⟨h.1, h3, h4⟩⟩
  · rintro ⟨⟨h3, h4⟩, h5⟩
    exact ⟨h3, h4, fun h => h5 ⟨h.1, h3, h4⟩⟩
end Go.Proofs.Ytldmnnloakpjlaa
