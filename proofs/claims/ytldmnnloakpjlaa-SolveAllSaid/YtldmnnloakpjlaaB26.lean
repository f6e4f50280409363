/- Common steps of the solver's laws. -/
import Derived.Test.YtldmnnloakpjlaaB25
import Derived.Test.YtldmnnloakpjlaaC14
import Derived.Test.YtldmnnloakpjlaaA13
set_option linter.unusedSimpArgs false
set_option linter.unusedVariables false
set_option maxRecDepth 100000
namespace Go.Proofs.Ytldmnnloakpjlaa
open Go

/-- A guard's value. -/
def boolO : Value → Option Bool
  | .bool b => some b
  | _ => none
theorem boolO_b {b : Bool} : boolO (.bool b) = some b := rfl
theorem boolO_u : boolO undef = none := rfl
theorem gval_slotB {ops : Array Oper} {f : Fr} {j : Nat} : gval ops f j = match gslot ops j with | some d => boolO (f d) | none => none := by
  unfold gval gslot
  cases (ops[j]?).bind (·.dst) with
  | none => rfl
  | some d =>
    show (match f d with | .bool b => some b | _ => none) = boolO (f d)
    unfold boolO
    cases f d <;> rfl
theorem Rn_gp {P : Program} {ops : Array Oper} {l : List Oper} {K : Fr → World → Prop} {f : Fr} {w : World} {d : Option Nat} {op : Op} {ty : TypeId} {pos : String} {aft : Array Edge} {j : Nat} {b : Bool} :
    Rn P ops (⟨d, op, ty, pos, aft, some (j, b)⟩ :: l) K f w =
      if gval ops f j = some b then oneStep P none ⟨d, op, ty, pos, aft, none⟩ (Rn P ops l K) f w else Rn P ops l K (updo f d undef) w := propext Iff.rfl
theorem CW_regp {P : Program} {Q : Exit → Fr → World → Prop} {f : Fr} {w : World} {id : Nat} {ops : Array Oper} : CW P (.region id ops false) Q f w = Rn P ops ops.toList (Q .normal) f w := propext Iff.rfl
theorem Rn_nilp {P : Program} {ops : Array Oper} {K : Fr → World → Prop} {f : Fr} {w : World} : Rn P ops [] K f w = K f w := propext Iff.rfl
theorem Rn_ngp {P : Program} {ops : Array Oper} {l : List Oper} {K : Fr → World → Prop} {f : Fr} {w : World} {d : Option Nat} {op : Op} {ty : TypeId} {pos : String} {aft : Array Edge} :
    Rn P ops (⟨d, op, ty, pos, aft, none⟩ :: l) K f w = oneStep P none ⟨d, op, ty, pos, aft, none⟩ (Rn P ops l K) f w := propext Iff.rfl
theorem resP_p {K : Fr → World → Prop} {f : Fr} {d : Option Nat} {w : World} {v : Value} : resP (.ok v w) K f d = K (updo f d v) w := propext Iff.rfl
theorem resU_p {K : Fr → World → Prop} {f : Fr} {d : Option Nat} {w : World} {v : Unit} : resU (.ok v w) K f d = K (updo f d undef) w := propext Iff.rfl
/-- 'for _, e := range steps': the variable, its values told alone. -/
theorem pairO (w : World) (x y : Int) : ∃ (ptr p0 p1 : Value) (wz w' : World),
    (Instr.alloc 38 true (.tuple #[])).run Try.prog w = .ok ptr wz ∧ (Instr.storeAt 38 ptr (.agg #[.int .i64 x, .int .i64 y])).run Try.prog wz = .ok () w' ∧
    idxV Try.prog 38 ptr (.int .i64 0) = some p0 ∧ idxV Try.prog 38 ptr (.int .i64 1) = some p1 ∧ Ext w w' ∧
    ∀ w3, Ext w' w3 → (Instr.loadAt 3 p0).run Try.prog w3 = .ok (.int .i64 x) w3 ∧ (Instr.loadAt 3 p1).run Try.prog w3 = .ok (.int .i64 y) w3 := by
  obtain ⟨h1, h2⟩ := pairV w x y
  refine ⟨_, .pointer (some ⟨w.heap.size, 0, none⟩), .pointer (some ⟨w.heap.size, 1, none⟩), _, _, h1, h2, ?_, ?_, Ext.alloc _ _, fun w3 h => ⟨?_, ?_⟩⟩
  · simp only [Option.map_some, Option.map_none, Int.toNat_zero, Option.isNone_none, Option.isNone_some, add_zero', binV, binI, unV, fieldV, extV, idxV, indexV, sliceV, lenV, capV, convV, min2V, max2V, TY, Option.isSome_some, Bool.true_and, Bool.and_true, Nat.mul_one, Int.toNat_natCast, le0n, Flat.val, Int.reduceToNat, Int.reduceLE, Int.reduceLT, Int.cast_ofNat_Int, decide_true, add_lit, Nat.zero_add, Nat.zero_mul, Nat.one_mul, Bool.not_true, Bool.not_false, ↓reduceIte, if_true]
  · simp only [Option.map_some, Option.map_none, Int.toNat_zero, Option.isNone_none, Option.isNone_some, add_zero', binV, binI, unV, fieldV, extV, idxV, indexV, sliceV, lenV, capV, convV, min2V, max2V, TY, Option.isSome_some, Bool.true_and, Bool.and_true, Nat.mul_one, Int.toNat_natCast, le0n, Flat.val, Int.reduceToNat, Int.reduceLE, Int.reduceLT, Int.cast_ofNat_Int, decide_true, add_lit, Nat.zero_add, Nat.zero_mul, Nat.one_mul, Bool.not_true, Bool.not_false, ↓reduceIte, if_true]
  · exact blk_ld (i := 0) ((h.block _ (by simp) id).trans (heap_alloc_new w _)) rfl tyG3
  · exact blk_ld (i := 1) ((h.block _ (by simp) id).trans (heap_alloc_new w _)) rfl tyG3
theorem one_plus (a : Int) {m : Nat} (hm : 0 < m) (hm2 : m ≤ 1000000) : ∃ N : Nat, IntKind.i64.wrap (1 + modf a m) = N ∧ 1 ≤ N ∧ N ≤ m := by
  obtain ⟨K, h1, h2⟩ := modf_nat a m hm
  refine ⟨K + 1, ?_, by omega, by omega⟩
  rw [h1, i64w _ (by omega)]; omega
theorem nilR (h : Hp) {α : Type} [Rep α] : R h (.slice none 0 0) ([] : List α) := ⟨none, 0, 0, rfl, rfl, Nat.le_refl _, [], rfl, fun j u hj => by simp at hj⟩
end Go.Proofs.Ytldmnnloakpjlaa
