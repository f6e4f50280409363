/- Plain facts for SolveMore. -/
import Derived.Test.YtldmnnloakpjlaaC14
import Derived.Test.YtldmnnloakpjlaaA13
set_option linter.unusedSimpArgs false
set_option linter.unusedVariables false
set_option linter.unnecessarySimpa false
namespace Go.Proofs.Ytldmnnloakpjlaa
open Go

theorem more_row {g : List (List Int)} {a : Int} (ha : okN g.length a = true) (F c : Int) : rowF (g.set a.toNat (rowF g a ++ [F])) c = if c = a then rowF g a ++ [F] else rowF g c :=
  rowF_set rfl ha
theorem comes_more {N : Nat} {s : List (Int × Int)} {g k : List (List Int)} {a b F : Int} (ha : okN g.length a = true) {c : Int} {f : Nat} (h : Comes (newF N s).1 g k c f) :
    Comes (newF N (s ++ [(a, b)])).1 (g.set a.toNat (rowF g a ++ [F])) k c f := by
  have hrow : ∀ x y, y ∈ rowF (newF N s).1 x → y ∈ rowF (newF N (s ++ [(a, b)])).1 x := fun x y h => by
    rw [newF_mem] at *
    exact ⟨List.mem_append_left _ h.1, h.2⟩
  induction h with
  | gen h1 h2 =>
    refine .gen (hrow _ _ h1) ?_
    rw [more_row ha]
    split
    · rename_i e; subst e; exact List.mem_append_left _ h2
    · exact h2
  | step h1 _ h3 ih => exact .step (hrow _ _ h1) ih h3
theorem comes_last {N : Nat} {s : List (Int × Int)} {g k : List (List Int)} {a b : Int} {F : Nat} (ha : okN g.length a = true) (haN : okN N a = true) (hb : okN N b = true) :
    Comes (newF N (s ++ [(a, b)])).1 (g.set a.toNat (rowF g a ++ [(F : Int)])) k b F := by
  refine .gen (a := a) ?_ ?_
  · rw [newF_mem]; exact ⟨by simp, haN, hb⟩
  · rw [more_row ha, if_pos rfl]; simp
theorem R.keep {α : Type} [Rep α] {w w' : World} {v : Value} {x : α} {m m0 : Nat} (hr : R (hpNo w (fun b => b < m)) v x) (hx : Ext w w') (h : m0 ≤ m) : R (hpNo w' (fun b => b < m0)) v x :=
  Rep.mono (hpNo_mod hx (fun b h => h.elim) (N' := fun b => b < m0) fun b hb => .inl (by omega)) hr
end Go.Proofs.Ytldmnnloakpjlaa
