/-
  NARROWER THAN 'FOR EVERY INPUT', by the rows' own cells (each row's printed sentence says how): ChopNone: loops · ChopJoin: loops · ChopWay: loops · ChopEdge: loops · ClosLess: loops · ChopBetween: loops · ClosNames: loops · ClosSlice: loops.
  DERIVED. THE GIVEN ROWS OF THIS SEAT. 8 by the template 'for every input the law returns true; each argument reads behind the call as it read before'; 0 by the template 'total and deterministic' (their statements: YtpebpfiglfmegaaGreatTotals.lean).
  GIVEN WITH THE SEED: the statements are not yours to turn. If you find one false, say at which input.
  Laid BY PROGRAM, IN A SANDBOX (cutbox-rows.mjs): the forced cells as the released guide's own fill.sh prints them over the translation 9e5083903b36dee4… (all of the seat's roots in one cut). By AI agents, Wed Nov 11 2026. No macro, syntax, notation, axiom, sorry.
-/
import Derived.Test.YtpebpfiglfmegaaGreatChecked
import GoSem.Claim
import GoSem.ClaimJoined
import GoSem.ClaimMapViews
import Derived.JoinedTies
import Derived.KernelRfl
namespace Go.Proofs.YtpebpfiglfmegaaGreat
/- THE CELL 'sum', in the pinned program and in every row, IS THE sha256 OF THE DUMP (.gsa) THAT YtpebpfiglfmegaaGreatProg.lean LOADS. Nothing in Lean hashes anything: it is a label: what it is worth is what the hold of that sum in a sandbox is worth. -/
noncomputable def Tryz.pinned : Pinned := { name := "ytpebpfiglfmegaagreat", sum := "9e5083903b36dee405ea853b3c22c5966901c9f130ab63d481095cb5e3e8911d", checked := Tryz.checked }
namespace Rows
def none {H : Type} : Left H := { results := [], args := [] }

/-- 'whittlerlaw26.ChopNone': WHATEVER THE INPUT: true; the input reads as it did. -/
def chopNoneSpec : ChangeSpec := { name := "chopNone", fn := fun _ => fun
  | [d1, d2, d3] => { results := [.lit (.bool true)], args := [d1, d2, d3] }
  | _ => none }
def chopNoneRow : OpenClaim := { program := "ytpebpfiglfmegaagreat", sum := "9e5083903b36dee405ea853b3c22c5966901c9f130ab63d481095cb5e3e8911d", func := "whittler/whittlerlaw26.ChopNone", spec := "chopNone", inPlace := ["slices.overlaps[int]"], unfollowed := true, recurses := true, loops := true, plainKeys := false, apart := false }
def ChopNoneSaid : Prop := chopNoneRow.holds Tryz.pinned (OpenSpec.ofChange chopNoneSpec)

/-- ITS FALSE NEIGHBOUR: 'it returns false'. Refute it at one input. -/
def chopNoneWrong : ChangeSpec := { name := "chopNone", fn := fun _ => fun
  | [d1, d2, d3] => { results := [.lit (.bool false)], args := [d1, d2, d3] }
  | _ => none }
def ChopNoneWrongFalsely : Prop := chopNoneRow.holds Tryz.pinned (OpenSpec.ofChange chopNoneWrong)

/-- 'whittlerlaw26.ChopJoin': WHATEVER THE INPUT: true; the input reads as it did. -/
def chopJoinSpec : ChangeSpec := { name := "chopJoin", fn := fun _ => fun
  | [d1, d2, d3, d4, d5] => { results := [.lit (.bool true)], args := [d1, d2, d3, d4, d5] }
  | _ => none }
def chopJoinRow : OpenClaim := { program := "ytpebpfiglfmegaagreat", sum := "9e5083903b36dee405ea853b3c22c5966901c9f130ab63d481095cb5e3e8911d", func := "whittler/whittlerlaw26.ChopJoin", spec := "chopJoin", inPlace := ["slices.overlaps[int]"], unfollowed := true, recurses := true, loops := true, plainKeys := false, apart := false }
def ChopJoinSaid : Prop := chopJoinRow.holds Tryz.pinned (OpenSpec.ofChange chopJoinSpec)

/-- ITS FALSE NEIGHBOUR: 'it returns false'. Refute it at one input. -/
def chopJoinWrong : ChangeSpec := { name := "chopJoin", fn := fun _ => fun
  | [d1, d2, d3, d4, d5] => { results := [.lit (.bool false)], args := [d1, d2, d3, d4, d5] }
  | _ => none }
def ChopJoinWrongFalsely : Prop := chopJoinRow.holds Tryz.pinned (OpenSpec.ofChange chopJoinWrong)

/-- 'whittlerlaw26.ChopWay': WHATEVER THE INPUT: true; the input reads as it did. -/
def chopWaySpec : ChangeSpec := { name := "chopWay", fn := fun _ => fun
  | [d1, d2, d3] => { results := [.lit (.bool true)], args := [d1, d2, d3] }
  | _ => none }
def chopWayRow : OpenClaim := { program := "ytpebpfiglfmegaagreat", sum := "9e5083903b36dee405ea853b3c22c5966901c9f130ab63d481095cb5e3e8911d", func := "whittler/whittlerlaw26.ChopWay", spec := "chopWay", inPlace := ["slices.overlaps[int]"], unfollowed := true, recurses := true, loops := true, plainKeys := false, apart := false }
def ChopWaySaid : Prop := chopWayRow.holds Tryz.pinned (OpenSpec.ofChange chopWaySpec)

/-- ITS FALSE NEIGHBOUR: 'it returns false'. Refute it at one input. -/
def chopWayWrong : ChangeSpec := { name := "chopWay", fn := fun _ => fun
  | [d1, d2, d3] => { results := [.lit (.bool false)], args := [d1, d2, d3] }
  | _ => none }
def ChopWayWrongFalsely : Prop := chopWayRow.holds Tryz.pinned (OpenSpec.ofChange chopWayWrong)

/-- 'whittlerlaw26.ChopEdge': WHATEVER THE INPUT: true; the input reads as it did. -/
def chopEdgeSpec : ChangeSpec := { name := "chopEdge", fn := fun _ => fun
  | [d1, d2] => { results := [.lit (.bool true)], args := [d1, d2] }
  | _ => none }
def chopEdgeRow : OpenClaim := { program := "ytpebpfiglfmegaagreat", sum := "9e5083903b36dee405ea853b3c22c5966901c9f130ab63d481095cb5e3e8911d", func := "whittler/whittlerlaw26.ChopEdge", spec := "chopEdge", inPlace := ["slices.overlaps[int]"], unfollowed := true, recurses := true, loops := true, plainKeys := false, apart := false }
def ChopEdgeSaid : Prop := chopEdgeRow.holds Tryz.pinned (OpenSpec.ofChange chopEdgeSpec)

/-- ITS FALSE NEIGHBOUR: 'it returns false'. Refute it at one input. -/
def chopEdgeWrong : ChangeSpec := { name := "chopEdge", fn := fun _ => fun
  | [d1, d2] => { results := [.lit (.bool false)], args := [d1, d2] }
  | _ => none }
def ChopEdgeWrongFalsely : Prop := chopEdgeRow.holds Tryz.pinned (OpenSpec.ofChange chopEdgeWrong)

/-- 'whittlerlaw27.ClosLess': WHATEVER THE INPUT: true; the input reads as it did. -/
def closLessSpec : ChangeSpec := { name := "closLess", fn := fun _ => fun
  | [d1, d2, d3] => { results := [.lit (.bool true)], args := [d1, d2, d3] }
  | _ => none }
def closLessRow : OpenClaim := { program := "ytpebpfiglfmegaagreat", sum := "9e5083903b36dee405ea853b3c22c5966901c9f130ab63d481095cb5e3e8911d", func := "whittler/whittlerlaw27.ClosLess", spec := "closLess", inPlace := ["slices.overlaps[int]"], unfollowed := true, recurses := true, loops := true, plainKeys := false, apart := false }
def ClosLessSaid : Prop := closLessRow.holds Tryz.pinned (OpenSpec.ofChange closLessSpec)

/-- ITS FALSE NEIGHBOUR: 'it returns false'. Refute it at one input. -/
def closLessWrong : ChangeSpec := { name := "closLess", fn := fun _ => fun
  | [d1, d2, d3] => { results := [.lit (.bool false)], args := [d1, d2, d3] }
  | _ => none }
def ClosLessWrongFalsely : Prop := closLessRow.holds Tryz.pinned (OpenSpec.ofChange closLessWrong)

/-- 'whittlerlaw26.ChopBetween': WHATEVER THE INPUT: true; the input reads as it did. -/
def chopBetweenSpec : ChangeSpec := { name := "chopBetween", fn := fun _ => fun
  | [d1, d2, d3] => { results := [.lit (.bool true)], args := [d1, d2, d3] }
  | _ => none }
def chopBetweenRow : OpenClaim := { program := "ytpebpfiglfmegaagreat", sum := "9e5083903b36dee405ea853b3c22c5966901c9f130ab63d481095cb5e3e8911d", func := "whittler/whittlerlaw26.ChopBetween", spec := "chopBetween", inPlace := ["slices.overlaps[int]"], unfollowed := true, recurses := true, loops := true, plainKeys := false, apart := false }
def ChopBetweenSaid : Prop := chopBetweenRow.holds Tryz.pinned (OpenSpec.ofChange chopBetweenSpec)

/-- ITS FALSE NEIGHBOUR: 'it returns false'. Refute it at one input. -/
def chopBetweenWrong : ChangeSpec := { name := "chopBetween", fn := fun _ => fun
  | [d1, d2, d3] => { results := [.lit (.bool false)], args := [d1, d2, d3] }
  | _ => none }
def ChopBetweenWrongFalsely : Prop := chopBetweenRow.holds Tryz.pinned (OpenSpec.ofChange chopBetweenWrong)

/-- 'whittlerlaw27.ClosNames': WHATEVER THE INPUT: true; the input reads as it did. -/
def closNamesSpec : ChangeSpec := { name := "closNames", fn := fun _ => fun
  | [d1, d2] => { results := [.lit (.bool true)], args := [d1, d2] }
  | _ => none }
def closNamesRow : OpenClaim := { program := "ytpebpfiglfmegaagreat", sum := "9e5083903b36dee405ea853b3c22c5966901c9f130ab63d481095cb5e3e8911d", func := "whittler/whittlerlaw27.ClosNames", spec := "closNames", inPlace := ["slices.overlaps[int]"], unfollowed := true, recurses := true, loops := true, plainKeys := false, apart := false }
def ClosNamesSaid : Prop := closNamesRow.holds Tryz.pinned (OpenSpec.ofChange closNamesSpec)

/-- ITS FALSE NEIGHBOUR: 'it returns false'. Refute it at one input. -/
def closNamesWrong : ChangeSpec := { name := "closNames", fn := fun _ => fun
  | [d1, d2] => { results := [.lit (.bool false)], args := [d1, d2] }
  | _ => none }
def ClosNamesWrongFalsely : Prop := closNamesRow.holds Tryz.pinned (OpenSpec.ofChange closNamesWrong)

/-- 'whittlerlaw27.ClosSlice': WHATEVER THE INPUT: true; the input reads as it did. -/
def closSliceSpec : ChangeSpec := { name := "closSlice", fn := fun _ => fun
  | [d1, d2] => { results := [.lit (.bool true)], args := [d1, d2] }
  | _ => none }
def closSliceRow : OpenClaim := { program := "ytpebpfiglfmegaagreat", sum := "9e5083903b36dee405ea853b3c22c5966901c9f130ab63d481095cb5e3e8911d", func := "whittler/whittlerlaw27.ClosSlice", spec := "closSlice", inPlace := ["slices.overlaps[int]"], unfollowed := true, recurses := true, loops := true, plainKeys := false, apart := false }
def ClosSliceSaid : Prop := closSliceRow.holds Tryz.pinned (OpenSpec.ofChange closSliceSpec)

/-- ITS FALSE NEIGHBOUR: 'it returns false'. Refute it at one input. -/
def closSliceWrong : ChangeSpec := { name := "closSlice", fn := fun _ => fun
  | [d1, d2] => { results := [.lit (.bool false)], args := [d1, d2] }
  | _ => none }
def ClosSliceWrongFalsely : Prop := closSliceRow.holds Tryz.pinned (OpenSpec.ofChange closSliceWrong)

/- THE SECOND FORM. 'bulk': how many values and letters a reading holds, each counted each time it is reached (what is shared counts as often as it is met; a slice's spare places count too). A statement '..UptoSaid' is the law's where the arguments, and the package variables that the reading takes, are together of bulk at most 1048576: NARROWER than '..Said'. Prove '..Said' where nothing that the law and all that it calls make is longer than what came in: it says more and counts as full. Else prove '..UptoSaid'. A law counts once. -/
mutual
def uptoBulk {H : Type} : DataW H → Nat
  | .lit (.string bytes) => bytes.length + 1
  | .lit _ => 1
  | .nil => 1
  | .ptr d => uptoBulk d + 1
  | .slice elems spare => uptoBulkAll elems + uptoBulkAll spare + 1
  | .agg parts => uptoBulkAll parts + 1
  | .iface _ d => uptoBulk d + 1
  | .map entries => uptoBulkEntries entries + 1
  | .held _ => 1
def uptoBulkAll {H : Type} : List (DataW H) → Nat
  | [] => 0
  | d :: r => uptoBulk d + uptoBulkAll r
def uptoBulkEntries {H : Type} : List (Lit × DataW H) → Nat
  | [] => 0
  | x :: r => uptoBulkEntry x + uptoBulkEntries r
def uptoBulkEntry {H : Type} : Lit × DataW H → Nat
  | (.string bytes, d) => bytes.length + uptoBulk d + 1
  | (_, d) => uptoBulk d + 1
 end
def uptoSmall : (H : Type) → List (DataW H) → Bool := fun _ ds => decide (uptoBulkAll ds ≤ 1048576)
def OpenSpec.upto (s : _root_.Go.ChangeSpec) : _root_.Go.OpenSpec := { _root_.Go.OpenSpec.ofChange s with cond := some uptoSmall }

/-- 'whittlerlaw26.ChopNone', WHERE WHAT IT READS IS OF BULK AT MOST 1048576: true; the input reads as it did. -/
def chopNoneUptoRow : OpenClaim := { program := "ytpebpfiglfmegaagreat", sum := "9e5083903b36dee405ea853b3c22c5966901c9f130ab63d481095cb5e3e8911d", func := "whittler/whittlerlaw26.ChopNone", spec := "chopNone", inPlace := ["slices.overlaps[int]"], unfollowed := true, recurses := true, loops := true, plainKeys := false, apart := false, narrowed := true }
def ChopNoneUptoSaid : Prop := chopNoneUptoRow.holds Tryz.pinned (OpenSpec.upto chopNoneSpec)

/-- 'whittlerlaw26.ChopJoin', WHERE WHAT IT READS IS OF BULK AT MOST 1048576: true; the input reads as it did. -/
def chopJoinUptoRow : OpenClaim := { program := "ytpebpfiglfmegaagreat", sum := "9e5083903b36dee405ea853b3c22c5966901c9f130ab63d481095cb5e3e8911d", func := "whittler/whittlerlaw26.ChopJoin", spec := "chopJoin", inPlace := ["slices.overlaps[int]"], unfollowed := true, recurses := true, loops := true, plainKeys := false, apart := false, narrowed := true }
def ChopJoinUptoSaid : Prop := chopJoinUptoRow.holds Tryz.pinned (OpenSpec.upto chopJoinSpec)

/-- 'whittlerlaw26.ChopWay', WHERE WHAT IT READS IS OF BULK AT MOST 1048576: true; the input reads as it did. -/
def chopWayUptoRow : OpenClaim := { program := "ytpebpfiglfmegaagreat", sum := "9e5083903b36dee405ea853b3c22c5966901c9f130ab63d481095cb5e3e8911d", func := "whittler/whittlerlaw26.ChopWay", spec := "chopWay", inPlace := ["slices.overlaps[int]"], unfollowed := true, recurses := true, loops := true, plainKeys := false, apart := false, narrowed := true }
def ChopWayUptoSaid : Prop := chopWayUptoRow.holds Tryz.pinned (OpenSpec.upto chopWaySpec)

/-- 'whittlerlaw26.ChopEdge', WHERE WHAT IT READS IS OF BULK AT MOST 1048576: true; the input reads as it did. -/
def chopEdgeUptoRow : OpenClaim := { program := "ytpebpfiglfmegaagreat", sum := "9e5083903b36dee405ea853b3c22c5966901c9f130ab63d481095cb5e3e8911d", func := "whittler/whittlerlaw26.ChopEdge", spec := "chopEdge", inPlace := ["slices.overlaps[int]"], unfollowed := true, recurses := true, loops := true, plainKeys := false, apart := false, narrowed := true }
def ChopEdgeUptoSaid : Prop := chopEdgeUptoRow.holds Tryz.pinned (OpenSpec.upto chopEdgeSpec)

/-- 'whittlerlaw27.ClosLess', WHERE WHAT IT READS IS OF BULK AT MOST 1048576: true; the input reads as it did. -/
def closLessUptoRow : OpenClaim := { program := "ytpebpfiglfmegaagreat", sum := "9e5083903b36dee405ea853b3c22c5966901c9f130ab63d481095cb5e3e8911d", func := "whittler/whittlerlaw27.ClosLess", spec := "closLess", inPlace := ["slices.overlaps[int]"], unfollowed := true, recurses := true, loops := true, plainKeys := false, apart := false, narrowed := true }
def ClosLessUptoSaid : Prop := closLessUptoRow.holds Tryz.pinned (OpenSpec.upto closLessSpec)

/-- 'whittlerlaw26.ChopBetween', WHERE WHAT IT READS IS OF BULK AT MOST 1048576: true; the input reads as it did. -/
def chopBetweenUptoRow : OpenClaim := { program := "ytpebpfiglfmegaagreat", sum := "9e5083903b36dee405ea853b3c22c5966901c9f130ab63d481095cb5e3e8911d", func := "whittler/whittlerlaw26.ChopBetween", spec := "chopBetween", inPlace := ["slices.overlaps[int]"], unfollowed := true, recurses := true, loops := true, plainKeys := false, apart := false, narrowed := true }
def ChopBetweenUptoSaid : Prop := chopBetweenUptoRow.holds Tryz.pinned (OpenSpec.upto chopBetweenSpec)

/-- 'whittlerlaw27.ClosNames', WHERE WHAT IT READS IS OF BULK AT MOST 1048576: true; the input reads as it did. -/
def closNamesUptoRow : OpenClaim := { program := "ytpebpfiglfmegaagreat", sum := "9e5083903b36dee405ea853b3c22c5966901c9f130ab63d481095cb5e3e8911d", func := "whittler/whittlerlaw27.ClosNames", spec := "closNames", inPlace := ["slices.overlaps[int]"], unfollowed := true, recurses := true, loops := true, plainKeys := false, apart := false, narrowed := true }
def ClosNamesUptoSaid : Prop := closNamesUptoRow.holds Tryz.pinned (OpenSpec.upto closNamesSpec)

/-- 'whittlerlaw27.ClosSlice', WHERE WHAT IT READS IS OF BULK AT MOST 1048576: true; the input reads as it did. -/
def closSliceUptoRow : OpenClaim := { program := "ytpebpfiglfmegaagreat", sum := "9e5083903b36dee405ea853b3c22c5966901c9f130ab63d481095cb5e3e8911d", func := "whittler/whittlerlaw27.ClosSlice", spec := "closSlice", inPlace := ["slices.overlaps[int]"], unfollowed := true, recurses := true, loops := true, plainKeys := false, apart := false, narrowed := true }
def ClosSliceUptoSaid : Prop := closSliceUptoRow.holds Tryz.pinned (OpenSpec.upto closSliceSpec)

end Rows
end Go.Proofs.YtpebpfiglfmegaaGreat
