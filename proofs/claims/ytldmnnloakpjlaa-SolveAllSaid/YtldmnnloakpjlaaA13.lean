/- The heap without some blocks. -/
import Derived.Test.YtldmnnloakpjlaaA10
set_option linter.unusedVariables false
namespace Go.Proofs.Ytldmnnloakpjlaa
open Go

open Classical in
/-- The heap without the blocks N. -/
noncomputable def hpNo (w : World) (N : Nat → Prop) : Hp := fun b => if N b then none else w.heap[b]?
theorem hpNo_in {w : World} {N : Nat → Prop} {b : Nat} (h : N b) : hpNo w N b = none := by unfold hpNo; rw [if_pos h]
theorem hpNo_oth {w : World} {N : Nat → Prop} {b : Nat} (h : ¬ N b) : hpNo w N b = w.heap[b]? := by unfold hpNo; rw [if_neg h]
theorem hpNo_le (w : World) (N : Nat → Prop) : hle (hpNo w N) (hpOf w) := fun b o e => by
  by_cases h : N b
  · rw [hpNo_in h] at e; cases e
  · rw [hpNo_oth h] at e; exact e
theorem hpNo_mod {w w' : World} {N N' M : Nat → Prop} (hm : Mod M w w') (hM : ∀ b, M b → N b) (hN : ∀ b, N' b → N b ∨ w.heap.size ≤ b) : hle (hpNo w N) (hpNo w' N') := fun b o e => by
  by_cases h : N b
  · rw [hpNo_in h] at e; cases e
  · rw [hpNo_oth h] at e
    have hb : b < w.heap.size := (Array.getElem?_eq_some_iff.1 e).1
    have h' : ¬ N' b := fun hb' => by
      rcases hN b hb' with k | k
      · exact h k
      · omega
    rw [hpNo_oth h', hm.block b hb fun hh => h (hM b hh)]
    exact e
theorem hpNo_base {w0 w : World} {N : Nat → Prop} (hx : Ext w0 w) (hN : ∀ b, N b → w0.heap.size ≤ b) : hle (hpOf w0) (hpNo w N) := fun b o e => by
  have hb : b < w0.heap.size := (Array.getElem?_eq_some_iff.1 (show w0.heap[b]? = some o from e)).1
  have hn : ¬ N b := fun h => by have := hN b h; omega
  rw [hpNo_oth hn]
  exact hle_ext hx b o e
section
variable {α : Type} [Rep α] {h : Hp} {w : World} {T : TypeId} {v : Value} {xs : List α} {N : Nat → Prop}
/-- Another step, and more or fewer blocks left out. -/
theorem Own.noMod {w' : World} {N' M : Nat → Prop} (ho : Own (hpNo w N) w T v xs) (hm : Mod M w w') (hM : ∀ b, M b → N b) (hd : ∀ b, blk v b → ¬ M b) (hN : ∀ b, N' b → N b ∨ w.heap.size ≤ b) (hv : ∀ b, blk v b → N' b) : Own (hpNo w' N') w' T v xs :=
  (ho.mod hm hd).up (hpNo_mod hm hM hN) fun b hb => hpNo_in (hv b hb)
theorem Own.roNo {k : Hp} (hu : Own k w T v xs) (hk : hle k (hpNo w N)) (hd : ∀ b, blk v b → ¬ N b) : R (hpNo w N) v xs := hu.ro hk fun b hb => hpNo_oth (hd b hb)
theorem Own.reNo (ho : Own h w T v xs) (hh : hle h (hpNo w N)) (hv : ∀ b, blk v b → N b) : Own (hpNo w N) w T v xs := ho.up hh fun b hb => hpNo_in (hv b hb)
end
end Go.Proofs.Ytldmnnloakpjlaa
