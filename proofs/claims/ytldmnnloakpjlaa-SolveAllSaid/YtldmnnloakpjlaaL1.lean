/-
  DERIVED: THE SHELF's CONTRACTS AT THIS DUMP, IN PLAIN WORDS (tools/lay-plain.mjs out of 'YtldmnnloakpjlaaL0.lean', which tools/lay-shelf.mjs wrote): THE SAME DECLARATIONS UNDER THE SAME NAMES: 'import', 'namespace', 'open', 'def', 'theorem' AND NOTHING ELSE: no command of the shelf's: FOR A HAND-IN. Each laying: the table of numbers ('.._ren') and one theorem, a field a fact of the dump's own or the kernel's comparison; each contract: ONE APPLICATION.
-/
import Derived.Ground.Names2Prog
import Derived.Shelf.Slices.Clone
import Derived.Shelf.Slices.SearchI
import Derived.Shelf.Slices.Empties
import Derived.Shelf.Spec.SlicesInsert
import Derived.Shelf.Spec.SlicesInsertGrow
import Derived.Test.YtldmnnloakpjlaaProg
namespace Go.Proofs
open Go.Shelf
def Try.layI_ren : Go.Shelf.Ren := ⟨fun | 21 => 53 | 27 => 59 | 28 => 60 | 35 => 62 | 39 => 63 | n => n, fun | 22 => 37 | 3 => 3 | 4 => 4 | 0 => 0 | n => n, fun | n => n⟩
theorem Try.layI : Go.Proofs.Lays2.n21 Try.prog Try.layI_ren := {
  mixed := by kernel_rfl
  f21 := Try.func53.trans (congrArg some (by kernel_rfl))
  f27 := Try.func59.trans (congrArg some (by kernel_rfl))
  f28 := Try.func60.trans (congrArg some (by kernel_rfl))
  f35 := Try.func62.trans (congrArg some (by kernel_rfl))
  f39 := Try.func63.trans (congrArg some (by kernel_rfl))
  t0 := Try.underlying0
  a0 := Try.isAgg0
  z0 := Try.sizeOf0
  v0 := Try.zeroValue0
  t3 := Try.underlying3
  a3 := Try.isAgg3
  z3 := Try.sizeOf3
  v3 := Try.zeroValue3
  t4 := Try.underlying4
  a4 := Try.isAgg4
  z4 := Try.sizeOf4
  v4 := Try.zeroValue4
  t22 := Try.underlying37
  a22 := Try.isAgg37
  z22 := Try.sizeOf37
  v22 := Try.zeroValue37
  i3 := by kernel_rfl }
def Try.layC_ren : Go.Shelf.Ren := ⟨fun | 15 => 51 | n => n, fun | 22 => 37 | 3 => 3 | 4 => 4 | n => n, fun | n => n⟩
theorem Try.layC : Go.Proofs.Lays2.n15 Try.prog Try.layC_ren := {
  mixed := by kernel_rfl
  f15 := Try.func51.trans (congrArg some (by kernel_rfl))
  t3 := Try.underlying3
  a3 := Try.isAgg3
  z3 := Try.sizeOf3
  v3 := Try.zeroValue3
  t4 := Try.underlying4
  a4 := Try.isAgg4
  z4 := Try.sizeOf4
  v4 := Try.zeroValue4
  t22 := Try.underlying37
  a22 := Try.isAgg37
  z22 := Try.sizeOf37
  v22 := Try.zeroValue37
  i3 := by kernel_rfl }
def Try.layB_ren : Go.Shelf.Ren := ⟨fun | 25 => 52 | 31 => 57 | 32 => 58 | 37 => 61 | n => n, fun | 22 => 37 | 3 => 3 | 4 => 4 | 40 => 82 | 0 => 0 | n => n, fun | n => n⟩
theorem Try.layB : Go.Proofs.Lays2.n25 Try.prog Try.layB_ren := {
  mixed := by kernel_rfl
  f25 := Try.func52.trans (congrArg some (by kernel_rfl))
  f31 := Try.func57.trans (congrArg some (by kernel_rfl))
  f32 := Try.func58.trans (congrArg some (by kernel_rfl))
  f37 := Try.func61.trans (congrArg some (by kernel_rfl))
  t0 := Try.underlying0
  a0 := Try.isAgg0
  z0 := Try.sizeOf0
  v0 := Try.zeroValue0
  t3 := Try.underlying3
  a3 := Try.isAgg3
  z3 := Try.sizeOf3
  v3 := Try.zeroValue3
  t4 := Try.underlying4
  a4 := Try.isAgg4
  z4 := Try.sizeOf4
  v4 := Try.zeroValue4
  t22 := Try.underlying37
  a22 := Try.isAgg37
  z22 := Try.sizeOf37
  v22 := Try.zeroValue37
  t40 := Try.underlying82
  a40 := Try.isAgg82
  z40 := Try.sizeOf82
  v40 := Try.zeroValue82 }
end Go.Proofs
