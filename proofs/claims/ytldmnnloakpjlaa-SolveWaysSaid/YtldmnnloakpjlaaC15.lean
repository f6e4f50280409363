/- Plain facts for SolveWays. -/
import Derived.Test.YtldmnnloakpjlaaC14
set_option linter.unusedSimpArgs false
set_option linter.unusedVariables false
set_option linter.unnecessarySimpa false
namespace Go.Proofs.Ytldmnnloakpjlaa

def passF (k : List (List Int)) (F : Int) (s : List (Int × Int)) : List (Int × Int) := s.filter fun x => !(rowF k x.1).contains F
theorem passF_take {k : List (List Int)} {F : Int} {s : List (Int × Int)} {i : Nat} (h : i < s.length) : passF k F (s.take (i + 1)) = if (rowF k s[i].1).contains F then passF k F (s.take i) else passF k F (s.take i) ++ [s[i]] := by
  unfold passF
  rw [List.take_succ_eq_append_getElem h, List.filter_append]
  cases hc : (rowF k s[i].1).contains F <;> simp only [List.filter_cons, List.filter_nil, hc, Bool.not_true, Bool.not_false, if_true, Bool.false_eq_true, if_false, List.append_nil]
theorem newF_snoc (N : Nat) (s : List (Int × Int)) (e : Int × Int) : newF N (s ++ [e]) = growF (newF N s) e := by simp [newF]
open Classical in
noncomputable def comesB (g nx' : List (List Int)) (F b : Int) (x : Int × Int) : Bool := (rowF g x.1).contains F && decide (Way nx' x.2 b)
open Classical in
theorem comesB_iff {g nx' : List (List Int)} {F b : Int} {x : Int × Int} : comesB g nx' F b x = true ↔ F ∈ rowF g x.1 ∧ Way nx' x.2 b := by
  unfold comesB
  rw [Bool.and_eq_true, List.contains_iff_mem, decide_eq_true_eq]
theorem comes_ways {N : Nat} {s : List (Int × Int)} {g k : List (List Int)} {F : Nat} (hv : ∀ x ∈ s, validE N x) (b : Int) :
    s.any (comesB g (newF N (passF k F s)).1 F b) = true ↔ Comes (newF N s).1 g k b F := by
  rw [List.any_eq_true]
  have hrow : ∀ a b, b ∈ rowF (newF N s).1 a ↔ (a, b) ∈ s := fun a b => by
    rw [newF_mem]
    exact ⟨fun h => h.1, fun h => ⟨h, okN_iff.2 ⟨(hv _ h).1, (hv _ h).2.1⟩, okN_iff.2 ⟨(hv _ h).2.2.1, (hv _ h).2.2.2⟩⟩⟩
  have hrow' : ∀ a b, b ∈ rowF (newF N (passF k F s)).1 a ↔ (a, b) ∈ s ∧ (F : Int) ∉ rowF k a := fun a b => by
    rw [newF_mem]
    unfold passF
    rw [List.mem_filter]
    simp only [Bool.not_eq_true', List.contains_eq_mem, decide_eq_false_iff_not]
    constructor
    · rintro ⟨h, _, _⟩; exact h
    · rintro ⟨h1, h2⟩
      exact ⟨⟨h1, h2⟩, okN_iff.2 ⟨(hv _ h1).1, (hv _ h1).2.1⟩, okN_iff.2 ⟨(hv _ h1).2.2.1, (hv _ h1).2.2.2⟩⟩
  constructor
  · rintro ⟨x, hx, h⟩
    obtain ⟨h1, h2⟩ := comesB_iff.1 h
    have h0 : Comes (newF N s).1 g k x.2 F := .gen ((hrow _ _).2 hx) h1
    clear h1 hx h
    induction h2 with
    | refl => exact h0
    | step _ hc ih => exact .step ((hrow _ _).2 ((hrow' _ _).1 hc).1) ih ((hrow' _ _).1 hc).2
  · intro h
    have : ∃ x, x ∈ s ∧ (F : Int) ∈ rowF g x.1 ∧ Way (newF N (passF k F s)).1 x.2 b := by
      generalize hF : F = f at h
      induction h with
      | @gen a b f h1 h2 => subst hF; exact ⟨(a, b), (hrow _ _).1 h1, h2, .refl⟩
      | @step a b f h1 _ h3 ih =>
        subst hF
        obtain ⟨x, k1, k2, k3⟩ := ih rfl
        exact ⟨x, k1, k2, .step k3 ((hrow' _ _).2 ⟨(hrow _ _).1 h1, h3⟩)⟩
    obtain ⟨x, k1, k2, k3⟩ := this
    exact ⟨x, k1, comesB_iff.2 ⟨k2, k3⟩⟩
theorem any_takeP {p : Int × Int → Bool} {s : List (Int × Int)} {i : Nat} (h : i < s.length) : (s.take (i + 1)).any p = ((s.take i).any p || p s[i]) := by
  rw [List.take_succ_eq_append_getElem h, List.any_append]
  simp
end Go.Proofs.Ytldmnnloakpjlaa
