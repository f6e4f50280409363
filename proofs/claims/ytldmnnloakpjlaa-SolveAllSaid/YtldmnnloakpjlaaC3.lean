/- Plain facts: what is reached; marks told as a list. -/
import Derived.Test.YtldmnnloakpjlaaC2
import Derived.Test.YtldmnnloakpjlaaB3
set_option linter.unusedSimpArgs false
set_option linter.unusedVariables false
set_option linter.unnecessarySimpa false
namespace Go.Proofs.Ytldmnnloakpjlaa

/-- Ways from some nodes. -/
inductive Rch (nx : List (List Int)) (from_ : List Int) : Int → Prop
  | base {a : Int} : a ∈ from_ → okN nx.length a = true → Rch nx from_ a
  | step {a b : Int} : Rch nx from_ a → b ∈ rowF nx a → Rch nx from_ b
theorem Rch.ok {nx : List (List Int)} {l : List Int} (hg : GoodRows nx.length nx) {b : Int} (h : Rch nx l b) : okN nx.length b = true := by
  cases h with
  | base _ h => exact h
  | step _ hb => exact (hg.row _).2 _ hb
theorem via_rch {nx : List (List Int)} {sn : List Bool} {td l : List Int} (hm : ∀ b, bitAt sn b = true ↔ b ∈ td) (ht : ∀ b, b ∈ td ↔ b ∈ l ∧ okN nx.length b = true) (b : Int) : Via nx sn td b ↔ Rch nx l b := by
  constructor
  · intro h
    induction h with
    | base ha => exact .base ((ht _).1 ha).1 ((ht _).1 ha).2
    | step _ hb _ ih => exact .step ih hb
  · intro h
    induction h with
    | base h1 h2 => exact .base ((ht _).2 ⟨h1, h2⟩)
    | @step a b _ hb ih =>
      cases hs : bitAt sn b with
      | true => exact .base ((hm b).1 hs)
      | false => exact .step ih hb hs
theorem mem_listedF {l : List Bool} {b : Int} : b ∈ listedF l l.length ↔ bitAt l b = true := by
  unfold listedF
  rw [List.mem_map]
  constructor
  · rintro ⟨i, hi, rfl⟩
    rw [List.mem_filter, List.mem_range] at hi
    have hk : okN l.length (i : Int) = true := okN_iff.2 ⟨by omega, by omega⟩
    rw [(bitAt_ok hk).2]
    simpa [List.getD] using hi.2
  · intro h
    have hk := bitAt_true h
    obtain ⟨h1, h2⟩ := bitAt_ok hk
    have h3 := okN_iff.1 hk
    refine ⟨b.toNat, ?_, by omega⟩
    rw [List.mem_filter, List.mem_range]
    rw [h2] at h
    exact ⟨h1, by simpa [List.getD] using h⟩
theorem listedF_sorted (l : List Bool) (k : Nat) : (listedF l k).Pairwise (· < ·) := by
  unfold listedF
  rw [List.pairwise_map]
  refine List.Pairwise.filter _ ?_
  exact (List.pairwise_lt_range (n := k)).imp fun h => by omega
/-- A list that says a set of nodes. -/
structure SetOf (l : List Int) (p : Int → Prop) : Prop where
  le : l.Pairwise (· < ·)
  mem : ∀ b, b ∈ l ↔ p b
theorem SetOf.eq {l m : List Int} {p q : Int → Prop} (hl : SetOf l p) (hm : SetOf m q) (h : ∀ b, p b ↔ q b) : l = m :=
  sorted_ext hl.le hm.le fun b => by rw [hl.mem, hm.mem, h]
end Go.Proofs.Ytldmnnloakpjlaa
