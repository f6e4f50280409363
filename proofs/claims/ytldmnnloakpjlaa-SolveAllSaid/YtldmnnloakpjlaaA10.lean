/- A list whose elements lie in blocks of their own: the heap but the list's own block. -/
import Derived.Test.YtldmnnloakpjlaaA9
set_option linter.unusedVariables false
namespace Go.Proofs.Ytldmnnloakpjlaa
open Go

open Classical in
/-- The heap without v's own block. -/
noncomputable def hpBut (w : World) (v : Value) : Hp := fun b => if blk v b then none else w.heap[b]?
theorem hpBut_own {w : World} {v : Value} {b : Nat} (h : blk v b) : hpBut w v b = none := by unfold hpBut; rw [if_pos h]
theorem hpBut_oth {w : World} {v : Value} {b : Nat} (h : ¬ blk v b) : hpBut w v b = w.heap[b]? := by unfold hpBut; rw [if_neg h]
theorem hpBut_le (w : World) (v : Value) : hle (hpBut w v) (hpOf w) := fun b o e => by
  by_cases h : blk v b
  · rw [hpBut_own h] at e; cases e
  · rw [hpBut_oth h] at e; exact e
theorem hpBut_mod {w w' : World} {v v' : Value} (hm : Mod (blk v) w w') (hv : movedTo w v v') : hle (hpBut w v) (hpBut w' v') := fun b o e => by
  by_cases h : blk v b
  · rw [hpBut_own h] at e; cases e
  · rw [hpBut_oth h] at e
    have hb : b < w.heap.size := (Array.getElem?_eq_some_iff.1 e).1
    have h' : ¬ blk v' b := fun hb' => by
      rcases hv b hb' with k | k
      · exact h k
      · omega
    rw [hpBut_oth h', hm.block b hb h]
    exact e
theorem hpBut_ext {w w' : World} {v : Value} (hx : Ext w w') : hle (hpBut w v) (hpBut w' v) := fun b o e => by
  by_cases h : blk v b
  · rw [hpBut_own h] at e; cases e
  · rw [hpBut_oth h] at e
    have hb : b < w.heap.size := (Array.getElem?_eq_some_iff.1 e).1
    rw [hpBut_oth h, hx.block b hb id]
    exact e
section
variable {α : Type} [Rep α] {h : Hp} {w : World} {T : TypeId} {v : Value} {xs : List α}
theorem Own.rebase (ho : Own h w T v xs) (hw : hle h (hpOf w)) : Own (hpBut w v) w T v xs := by
  refine ho.up (fun b o e => ?_) fun b hb => hpBut_own hb
  have hn : ¬ blk v b := fun hb => by rw [ho.free hb] at e; cases e
  rw [hpBut_oth hn]
  exact hw b o e
theorem Own.but (ho : Own (hpBut w v) w T v xs) {w' : World} (hx : Ext w w') : Own (hpBut w' v) w' T v xs :=
  (ho.ext hx).up (hpBut_ext hx) fun b hb => hpBut_own hb
/-- What is owned apart from v is shared beside it. -/
theorem Own.beside {β : Type} [Rep β] {k : Hp} {T' : TypeId} {u : Value} {ys : List β} (hu : Own k w T' u ys) (hk : hle k (hpBut w v)) (hd : ∀ b, blk u b → ¬ blk v b) : R (hpBut w v) u ys :=
  hu.ro hk fun b hb => hpBut_oth (hd b hb)
theorem R.but {u : Value} {x : α} (hr : R h u x) (hw : hle h (hpOf w)) (hf : ∀ b, blk v b → h b = none) : R (hpBut w v) u x :=
  Rep.mono (fun b o e => by
    have hn : ¬ blk v b := fun hb => by rw [hf b hb] at e; cases e
    rw [hpBut_oth hn]; exact hw b o e) hr
end
/-- One row is written. -/
theorem Rows.write {α : Type} [Rep α] {h : Hp} {w w' : World} {T T' : TypeId} {v : Value} {us : List Raw} {xss : List (List α)} (hr : Rows h w T T' v us xss) {i : Nat} {u : Raw} (hi : us[i]? = some u) {xs : List α}
    (hm : Mod (blk u.v) w w') (ho : Own h w' T' u.v xs) : Rows h w' T T' v us (xss.set i xs) := by
  have hset : us.set i ⟨u.v⟩ = us := by
    obtain ⟨hl, e⟩ := List.getElem?_eq_some_iff.1 hi
    apply List.ext_getElem (by simp)
    intro j h1 h2
    rw [List.getElem_set]
    split
    · rename_i e2; subst e2; exact e.symm
    · rfl
  have := hr.set (u' := u.v) (xs := xs) hi hm ho (fun b hb => .inl hb) (Mod.refl _) (by
    rw [hset]; exact hr.outer.mod hm fun b hb hb2 => hr.off i u hi b hb2 hb)
  rw [hset] at this
  exact this
theorem Own.ge {α : Type} [Rep α] {w w0 : World} {T : TypeId} {v : Value} {xs : List α} (ho : Own (hpOf w0) w T v xs) {b : Nat} (hb : blk v b) : w0.heap.size ≤ b := by
  have := ho.free hb
  exact Nat.le_of_not_lt fun hlt => by simp [hpOf, hlt] at this
end Go.Proofs.Ytldmnnloakpjlaa
