/- Plain facts for the laws of graphs. -/
import Derived.Test.YtldmnnloakpjlaaC5
import Derived.Test.YtldmnnloakpjlaaC3
import Derived.Test.YtldmnnloakpjlaaC6
set_option linter.unusedSimpArgs false
set_option linter.unusedVariables false
set_option linter.unnecessarySimpa false
namespace Go.Proofs.Ytldmnnloakpjlaa

theorem modf_nat (n : Int) (k : Nat) (hk : 0 < k) : ∃ N : Nat, modf n k = N ∧ N < k := by
  have h1 : ¬ ((k : Int) < 1) := by omega
  have h2 : -(k : Int) < n.tmod k := Int.lt_tmod_of_pos n (by omega)
  have h3 : n.tmod k < k := Int.tmod_lt_of_pos n (by omega)
  unfold modf
  rw [if_neg h1]
  split
  · exact ⟨(n.tmod k + k).toNat, by omega, by omega⟩
  · exact ⟨(n.tmod k).toNat, by omega, by omega⟩

theorem SetOf.len {nx : List (List Int)} {r m : List Int} (hg : GoodRows nx.length nx) (h : SetOf r (Rch nx m)) : r.length ≤ nx.length := by
  have := sorted_len (n := nx.length) (m := 0) h.le (fun y hy => okN_iff.1 (((h.mem y).1 hy).ok hg)) (by omega)
  omega
theorem rch_one {nx : List (List Int)} {a b : Int} (ha : okN nx.length a = true) : Rch nx [a] b ↔ Way nx a b := by
  constructor
  · intro h
    induction h with
    | base h1 _ => rw [List.mem_singleton] at h1; subst h1; exact .refl
    | step _ hb ih => exact .step ih hb
  · intro h
    induction h with
    | refl => exact .base (by simp) ha
    | step _ hc ih => exact .step ih hc
theorem IsPart.same {nx : List (List Int)} {a b m m' : Int} (h : IsPart nx a m) (h' : IsPart nx b m') : m = m' ↔ Way nx a b ∧ Way nx b a := by
  constructor
  · intro e
    subst e
    exact h.1.trans h'.1.symm
  · intro hab
    have hb : Both nx a b := hab
    exact Int.le_antisymm (h.2 _ (hb.trans h'.1)) (h'.2 _ (hb.symm.trans h.1))
theorem IsPart.le {nx : List (List Int)} {a m : Int} (h : IsPart nx a m) : m ≤ a := h.2 _ (.refl a)
end Go.Proofs.Ytldmnnloakpjlaa
