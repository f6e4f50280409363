/-
  NARROWER THAN 'FOR EVERY INPUT', by the rows' own cells (each row's printed sentence says how): SliceNone: loops · SliceJoin: loops · SliceWay: loops · SliceCrit: loops · SliceLevel: loops.
  DERIVED. THE GIVEN ROWS OF THIS SEAT. 6 by the template 'for every input the law returns true; each argument reads behind the call as it read before'; 0 by the template 'total and deterministic' (their statements: YtggahhenbbgffaaGreatTotals.lean).
  GIVEN WITH THE SEED: the statements are not yours to turn. If you find one false, say at which input.
  Laid BY PROGRAM, IN A SANDBOX (cutbox-rows.mjs): the forced cells as the released guide's own fill.sh prints them over the translation 8fdf1e7efb17bd59… (all of the seat's roots in one cut). By AI agents, Wed Nov 11 2026. No macro, syntax, notation, axiom, sorry.
-/
import Derived.Test.YtggahhenbbgffaaGreatChecked
import GoSem.Claim
import GoSem.ClaimJoined
import GoSem.ClaimMapViews
import Derived.JoinedTies
import Derived.KernelRfl
namespace Go.Proofs.YtggahhenbbgffaaGreat
/- THE CELL 'sum', in the pinned program and in every row, IS THE sha256 OF THE DUMP (.gsa) THAT YtggahhenbbgffaaGreatProg.lean LOADS. Nothing in Lean hashes anything: it is a label: what it is worth is what the hold of that sum in a sandbox is worth. -/
noncomputable def Tryz.pinned : Pinned := { name := "ytggahhenbbgffaagreat", sum := "8fdf1e7efb17bd59526cf3a0e5d29feded82594aa6f4c8ccad2071c3438ef5a3", checked := Tryz.checked }
namespace Rows
def none {H : Type} : Left H := { results := [], args := [] }

/-- 'whittlerlaw25.SliceIds': WHATEVER THE INPUT: true; the input reads as it did. -/
def sliceIdsSpec : ChangeSpec := { name := "sliceIds", fn := fun _ => fun
  | [d] => { results := [.lit (.bool true)], args := [d] }
  | _ => none }
def sliceIdsRow : OpenClaim := { program := "ytggahhenbbgffaagreat", sum := "8fdf1e7efb17bd59526cf3a0e5d29feded82594aa6f4c8ccad2071c3438ef5a3", func := "whittler/whittlerlaw25.SliceIds", spec := "sliceIds", inPlace := ["slices.overlaps[int]"], unfollowed := true, recurses := true, plainKeys := false, apart := false }
def SliceIdsSaid : Prop := sliceIdsRow.holds Tryz.pinned (OpenSpec.ofChange sliceIdsSpec)

/-- ITS FALSE NEIGHBOUR: 'it returns false'. Refute it at one input. -/
def sliceIdsWrong : ChangeSpec := { name := "sliceIds", fn := fun _ => fun
  | [d] => { results := [.lit (.bool false)], args := [d] }
  | _ => none }
def SliceIdsWrongFalsely : Prop := sliceIdsRow.holds Tryz.pinned (OpenSpec.ofChange sliceIdsWrong)

/-- 'whittlerlaw25.SliceNone': WHATEVER THE INPUT: true; the input reads as it did. -/
def sliceNoneSpec : ChangeSpec := { name := "sliceNone", fn := fun _ => fun
  | [d1, d2, d3] => { results := [.lit (.bool true)], args := [d1, d2, d3] }
  | _ => none }
def sliceNoneRow : OpenClaim := { program := "ytggahhenbbgffaagreat", sum := "8fdf1e7efb17bd59526cf3a0e5d29feded82594aa6f4c8ccad2071c3438ef5a3", func := "whittler/whittlerlaw25.SliceNone", spec := "sliceNone", inPlace := ["slices.overlaps[int]"], unfollowed := true, recurses := true, loops := true, plainKeys := false, apart := false }
def SliceNoneSaid : Prop := sliceNoneRow.holds Tryz.pinned (OpenSpec.ofChange sliceNoneSpec)

/-- ITS FALSE NEIGHBOUR: 'it returns false'. Refute it at one input. -/
def sliceNoneWrong : ChangeSpec := { name := "sliceNone", fn := fun _ => fun
  | [d1, d2, d3] => { results := [.lit (.bool false)], args := [d1, d2, d3] }
  | _ => none }
def SliceNoneWrongFalsely : Prop := sliceNoneRow.holds Tryz.pinned (OpenSpec.ofChange sliceNoneWrong)

/-- 'whittlerlaw25.SliceJoin': WHATEVER THE INPUT: true; the input reads as it did. -/
def sliceJoinSpec : ChangeSpec := { name := "sliceJoin", fn := fun _ => fun
  | [d1, d2, d3] => { results := [.lit (.bool true)], args := [d1, d2, d3] }
  | _ => none }
def sliceJoinRow : OpenClaim := { program := "ytggahhenbbgffaagreat", sum := "8fdf1e7efb17bd59526cf3a0e5d29feded82594aa6f4c8ccad2071c3438ef5a3", func := "whittler/whittlerlaw25.SliceJoin", spec := "sliceJoin", inPlace := ["slices.overlaps[int]"], unfollowed := true, recurses := true, loops := true, plainKeys := false, apart := false }
def SliceJoinSaid : Prop := sliceJoinRow.holds Tryz.pinned (OpenSpec.ofChange sliceJoinSpec)

/-- ITS FALSE NEIGHBOUR: 'it returns false'. Refute it at one input. -/
def sliceJoinWrong : ChangeSpec := { name := "sliceJoin", fn := fun _ => fun
  | [d1, d2, d3] => { results := [.lit (.bool false)], args := [d1, d2, d3] }
  | _ => none }
def SliceJoinWrongFalsely : Prop := sliceJoinRow.holds Tryz.pinned (OpenSpec.ofChange sliceJoinWrong)

/-- 'whittlerlaw25.SliceWay': WHATEVER THE INPUT: true; the input reads as it did. -/
def sliceWaySpec : ChangeSpec := { name := "sliceWay", fn := fun _ => fun
  | [d1, d2, d3] => { results := [.lit (.bool true)], args := [d1, d2, d3] }
  | _ => none }
def sliceWayRow : OpenClaim := { program := "ytggahhenbbgffaagreat", sum := "8fdf1e7efb17bd59526cf3a0e5d29feded82594aa6f4c8ccad2071c3438ef5a3", func := "whittler/whittlerlaw25.SliceWay", spec := "sliceWay", inPlace := ["slices.overlaps[int]"], unfollowed := true, recurses := true, loops := true, plainKeys := false, apart := false }
def SliceWaySaid : Prop := sliceWayRow.holds Tryz.pinned (OpenSpec.ofChange sliceWaySpec)

/-- ITS FALSE NEIGHBOUR: 'it returns false'. Refute it at one input. -/
def sliceWayWrong : ChangeSpec := { name := "sliceWay", fn := fun _ => fun
  | [d1, d2, d3] => { results := [.lit (.bool false)], args := [d1, d2, d3] }
  | _ => none }
def SliceWayWrongFalsely : Prop := sliceWayRow.holds Tryz.pinned (OpenSpec.ofChange sliceWayWrong)

/-- 'whittlerlaw25.SliceCrit': WHATEVER THE INPUT: true; the input reads as it did. -/
def sliceCritSpec : ChangeSpec := { name := "sliceCrit", fn := fun _ => fun
  | [d1, d2] => { results := [.lit (.bool true)], args := [d1, d2] }
  | _ => none }
def sliceCritRow : OpenClaim := { program := "ytggahhenbbgffaagreat", sum := "8fdf1e7efb17bd59526cf3a0e5d29feded82594aa6f4c8ccad2071c3438ef5a3", func := "whittler/whittlerlaw25.SliceCrit", spec := "sliceCrit", inPlace := ["slices.overlaps[int]"], unfollowed := true, recurses := true, loops := true, plainKeys := false, apart := false }
def SliceCritSaid : Prop := sliceCritRow.holds Tryz.pinned (OpenSpec.ofChange sliceCritSpec)

/-- ITS FALSE NEIGHBOUR: 'it returns false'. Refute it at one input. -/
def sliceCritWrong : ChangeSpec := { name := "sliceCrit", fn := fun _ => fun
  | [d1, d2] => { results := [.lit (.bool false)], args := [d1, d2] }
  | _ => none }
def SliceCritWrongFalsely : Prop := sliceCritRow.holds Tryz.pinned (OpenSpec.ofChange sliceCritWrong)

/-- 'whittlerlaw25.SliceLevel': WHATEVER THE INPUT: true; the input reads as it did. -/
def sliceLevelSpec : ChangeSpec := { name := "sliceLevel", fn := fun _ => fun
  | [d1, d2, d3] => { results := [.lit (.bool true)], args := [d1, d2, d3] }
  | _ => none }
def sliceLevelRow : OpenClaim := { program := "ytggahhenbbgffaagreat", sum := "8fdf1e7efb17bd59526cf3a0e5d29feded82594aa6f4c8ccad2071c3438ef5a3", func := "whittler/whittlerlaw25.SliceLevel", spec := "sliceLevel", inPlace := ["slices.overlaps[int]"], unfollowed := true, recurses := true, loops := true, plainKeys := false, apart := false }
def SliceLevelSaid : Prop := sliceLevelRow.holds Tryz.pinned (OpenSpec.ofChange sliceLevelSpec)

/-- ITS FALSE NEIGHBOUR: 'it returns false'. Refute it at one input. -/
def sliceLevelWrong : ChangeSpec := { name := "sliceLevel", fn := fun _ => fun
  | [d1, d2, d3] => { results := [.lit (.bool false)], args := [d1, d2, d3] }
  | _ => none }
def SliceLevelWrongFalsely : Prop := sliceLevelRow.holds Tryz.pinned (OpenSpec.ofChange sliceLevelWrong)

/- THE SECOND FORM. 'bulk': how many values and letters a reading holds, each counted each time it is reached (what is shared counts as often as it is met; a slice's spare places count too). A statement '..UptoSaid' is the law's where the arguments, and the package variables that the reading takes, are together of bulk at most 1048576: NARROWER than '..Said'. Prove '..Said' where nothing that the law and all that it calls make is longer than what came in: it says more and counts as full. Else prove '..UptoSaid'. A law counts once. -/
mutual
def uptoBulk {H : Type} : DataW H → Nat
  | .lit (.string bytes) => bytes.length + 1
  | .lit _ => 1
  | .nil => 1
  | .ptr d => uptoBulk d + 1
  | .slice elems spare => uptoBulkAll elems + uptoBulkAll spare + 1
  | .agg parts => uptoBulkAll parts + 1
  | .iface _ d => uptoBulk d + 1
  | .map entries => uptoBulkEntries entries + 1
  | .held _ => 1
def uptoBulkAll {H : Type} : List (DataW H) → Nat
  | [] => 0
  | d :: r => uptoBulk d + uptoBulkAll r
def uptoBulkEntries {H : Type} : List (Lit × DataW H) → Nat
  | [] => 0
  | x :: r => uptoBulkEntry x + uptoBulkEntries r
def uptoBulkEntry {H : Type} : Lit × DataW H → Nat
  | (.string bytes, d) => bytes.length + uptoBulk d + 1
  | (_, d) => uptoBulk d + 1
 end
def uptoSmall : (H : Type) → List (DataW H) → Bool := fun _ ds => decide (uptoBulkAll ds ≤ 1048576)
def OpenSpec.upto (s : _root_.Go.ChangeSpec) : _root_.Go.OpenSpec := { _root_.Go.OpenSpec.ofChange s with cond := some uptoSmall }

/-- 'whittlerlaw25.SliceIds', WHERE WHAT IT READS IS OF BULK AT MOST 1048576: true; the input reads as it did. -/
def sliceIdsUptoRow : OpenClaim := { program := "ytggahhenbbgffaagreat", sum := "8fdf1e7efb17bd59526cf3a0e5d29feded82594aa6f4c8ccad2071c3438ef5a3", func := "whittler/whittlerlaw25.SliceIds", spec := "sliceIds", inPlace := ["slices.overlaps[int]"], unfollowed := true, recurses := true, plainKeys := false, apart := false, narrowed := true }
def SliceIdsUptoSaid : Prop := sliceIdsUptoRow.holds Tryz.pinned (OpenSpec.upto sliceIdsSpec)

/-- 'whittlerlaw25.SliceNone', WHERE WHAT IT READS IS OF BULK AT MOST 1048576: true; the input reads as it did. -/
def sliceNoneUptoRow : OpenClaim := { program := "ytggahhenbbgffaagreat", sum := "8fdf1e7efb17bd59526cf3a0e5d29feded82594aa6f4c8ccad2071c3438ef5a3", func := "whittler/whittlerlaw25.SliceNone", spec := "sliceNone", inPlace := ["slices.overlaps[int]"], unfollowed := true, recurses := true, loops := true, plainKeys := false, apart := false, narrowed := true }
def SliceNoneUptoSaid : Prop := sliceNoneUptoRow.holds Tryz.pinned (OpenSpec.upto sliceNoneSpec)

/-- 'whittlerlaw25.SliceJoin', WHERE WHAT IT READS IS OF BULK AT MOST 1048576: true; the input reads as it did. -/
def sliceJoinUptoRow : OpenClaim := { program := "ytggahhenbbgffaagreat", sum := "8fdf1e7efb17bd59526cf3a0e5d29feded82594aa6f4c8ccad2071c3438ef5a3", func := "whittler/whittlerlaw25.SliceJoin", spec := "sliceJoin", inPlace := ["slices.overlaps[int]"], unfollowed := true, recurses := true, loops := true, plainKeys := false, apart := false, narrowed := true }
def SliceJoinUptoSaid : Prop := sliceJoinUptoRow.holds Tryz.pinned (OpenSpec.upto sliceJoinSpec)

/-- 'whittlerlaw25.SliceWay', WHERE WHAT IT READS IS OF BULK AT MOST 1048576: true; the input reads as it did. -/
def sliceWayUptoRow : OpenClaim := { program := "ytggahhenbbgffaagreat", sum := "8fdf1e7efb17bd59526cf3a0e5d29feded82594aa6f4c8ccad2071c3438ef5a3", func := "whittler/whittlerlaw25.SliceWay", spec := "sliceWay", inPlace := ["slices.overlaps[int]"], unfollowed := true, recurses := true, loops := true, plainKeys := false, apart := false, narrowed := true }
def SliceWayUptoSaid : Prop := sliceWayUptoRow.holds Tryz.pinned (OpenSpec.upto sliceWaySpec)

/-- 'whittlerlaw25.SliceCrit', WHERE WHAT IT READS IS OF BULK AT MOST 1048576: true; the input reads as it did. -/
def sliceCritUptoRow : OpenClaim := { program := "ytggahhenbbgffaagreat", sum := "8fdf1e7efb17bd59526cf3a0e5d29feded82594aa6f4c8ccad2071c3438ef5a3", func := "whittler/whittlerlaw25.SliceCrit", spec := "sliceCrit", inPlace := ["slices.overlaps[int]"], unfollowed := true, recurses := true, loops := true, plainKeys := false, apart := false, narrowed := true }
def SliceCritUptoSaid : Prop := sliceCritUptoRow.holds Tryz.pinned (OpenSpec.upto sliceCritSpec)

/-- 'whittlerlaw25.SliceLevel', WHERE WHAT IT READS IS OF BULK AT MOST 1048576: true; the input reads as it did. -/
def sliceLevelUptoRow : OpenClaim := { program := "ytggahhenbbgffaagreat", sum := "8fdf1e7efb17bd59526cf3a0e5d29feded82594aa6f4c8ccad2071c3438ef5a3", func := "whittler/whittlerlaw25.SliceLevel", spec := "sliceLevel", inPlace := ["slices.overlaps[int]"], unfollowed := true, recurses := true, loops := true, plainKeys := false, apart := false, narrowed := true }
def SliceLevelUptoSaid : Prop := sliceLevelUptoRow.holds Tryz.pinned (OpenSpec.upto sliceLevelSpec)

end Rows
end Go.Proofs.YtggahhenbbgffaaGreat
