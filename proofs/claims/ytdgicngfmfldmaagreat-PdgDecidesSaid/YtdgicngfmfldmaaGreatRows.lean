/-
  NARROWER THAN 'FOR EVERY INPUT', by the rows' own cells (each row's printed sentence says how): PdgEnds: loops · PdgCalls: loops · PdgFlows: loops · PdgSlots: loops · PdgDecides: loops.
  DERIVED. THE GIVEN ROWS OF THIS SEAT. 5 by the template 'for every input the law returns true; each argument reads behind the call as it read before'; 0 by the template 'total and deterministic' (their statements: YtdgicngfmfldmaaGreatTotals.lean).
  GIVEN WITH THE SEED: the statements are not yours to turn. If you find one false, say at which input.
  Laid BY PROGRAM, IN A SANDBOX (cutbox-rows.mjs): the forced cells as the released guide's own fill.sh prints them over the translation 926d52c743d03c2a… (all of the seat's roots in one cut). By AI agents, Wed Nov 11 2026. No macro, syntax, notation, axiom, sorry.
-/
import Derived.Test.YtdgicngfmfldmaaGreatChecked
import GoSem.Claim
import GoSem.ClaimJoined
import GoSem.ClaimMapViews
import Derived.JoinedTies
import Derived.KernelRfl
namespace Go.Proofs.YtdgicngfmfldmaaGreat
/- THE CELL 'sum', in the pinned program and in every row, IS THE sha256 OF THE DUMP (.gsa) THAT YtdgicngfmfldmaaGreatProg.lean LOADS. Nothing in Lean hashes anything: it is a label: what it is worth is what the hold of that sum in a sandbox is worth. -/
noncomputable def Tryz.pinned : Pinned := { name := "ytdgicngfmfldmaagreat", sum := "926d52c743d03c2a04a33e20384c39559313c4be2ff9b6047efe131c54cac51d", checked := Tryz.checked }
namespace Rows
def none {H : Type} : Left H := { results := [], args := [] }

/-- 'whittlerlaw22.PdgEnds': WHATEVER THE INPUT: true; the input reads as it did. -/
def pdgEndsSpec : ChangeSpec := { name := "pdgEnds", fn := fun _ => fun
  | [d1, d2] => { results := [.lit (.bool true)], args := [d1, d2] }
  | _ => none }
def pdgEndsRow : OpenClaim := { program := "ytdgicngfmfldmaagreat", sum := "926d52c743d03c2a04a33e20384c39559313c4be2ff9b6047efe131c54cac51d", func := "whittler/whittlerlaw22.PdgEnds", spec := "pdgEnds", inPlace := ["slices.overlaps[int]"], unfollowed := true, recurses := true, loops := true, apart := false }
def PdgEndsSaid : Prop := pdgEndsRow.holds Tryz.pinned (OpenSpec.ofChange pdgEndsSpec)

/-- ITS FALSE NEIGHBOUR: 'it returns false'. Refute it at one input. -/
def pdgEndsWrong : ChangeSpec := { name := "pdgEnds", fn := fun _ => fun
  | [d1, d2] => { results := [.lit (.bool false)], args := [d1, d2] }
  | _ => none }
def PdgEndsWrongFalsely : Prop := pdgEndsRow.holds Tryz.pinned (OpenSpec.ofChange pdgEndsWrong)

/-- 'whittlerlaw22.PdgCalls': WHATEVER THE INPUT: true; the input reads as it did. -/
def pdgCallsSpec : ChangeSpec := { name := "pdgCalls", fn := fun _ => fun
  | [d1, d2] => { results := [.lit (.bool true)], args := [d1, d2] }
  | _ => none }
def pdgCallsRow : OpenClaim := { program := "ytdgicngfmfldmaagreat", sum := "926d52c743d03c2a04a33e20384c39559313c4be2ff9b6047efe131c54cac51d", func := "whittler/whittlerlaw22.PdgCalls", spec := "pdgCalls", inPlace := ["slices.overlaps[int]"], unfollowed := true, recurses := true, loops := true, apart := false }
def PdgCallsSaid : Prop := pdgCallsRow.holds Tryz.pinned (OpenSpec.ofChange pdgCallsSpec)

/-- ITS FALSE NEIGHBOUR: 'it returns false'. Refute it at one input. -/
def pdgCallsWrong : ChangeSpec := { name := "pdgCalls", fn := fun _ => fun
  | [d1, d2] => { results := [.lit (.bool false)], args := [d1, d2] }
  | _ => none }
def PdgCallsWrongFalsely : Prop := pdgCallsRow.holds Tryz.pinned (OpenSpec.ofChange pdgCallsWrong)

/-- 'whittlerlaw22.PdgFlows': WHATEVER THE INPUT: true; the input reads as it did. -/
def pdgFlowsSpec : ChangeSpec := { name := "pdgFlows", fn := fun _ => fun
  | [d1, d2] => { results := [.lit (.bool true)], args := [d1, d2] }
  | _ => none }
def pdgFlowsRow : OpenClaim := { program := "ytdgicngfmfldmaagreat", sum := "926d52c743d03c2a04a33e20384c39559313c4be2ff9b6047efe131c54cac51d", func := "whittler/whittlerlaw22.PdgFlows", spec := "pdgFlows", inPlace := ["slices.overlaps[int]"], unfollowed := true, recurses := true, loops := true, apart := false }
def PdgFlowsSaid : Prop := pdgFlowsRow.holds Tryz.pinned (OpenSpec.ofChange pdgFlowsSpec)

/-- ITS FALSE NEIGHBOUR: 'it returns false'. Refute it at one input. -/
def pdgFlowsWrong : ChangeSpec := { name := "pdgFlows", fn := fun _ => fun
  | [d1, d2] => { results := [.lit (.bool false)], args := [d1, d2] }
  | _ => none }
def PdgFlowsWrongFalsely : Prop := pdgFlowsRow.holds Tryz.pinned (OpenSpec.ofChange pdgFlowsWrong)

/-- 'whittlerlaw22.PdgSlots': WHATEVER THE INPUT: true; the input reads as it did. -/
def pdgSlotsSpec : ChangeSpec := { name := "pdgSlots", fn := fun _ => fun
  | [d1, d2] => { results := [.lit (.bool true)], args := [d1, d2] }
  | _ => none }
def pdgSlotsRow : OpenClaim := { program := "ytdgicngfmfldmaagreat", sum := "926d52c743d03c2a04a33e20384c39559313c4be2ff9b6047efe131c54cac51d", func := "whittler/whittlerlaw22.PdgSlots", spec := "pdgSlots", inPlace := ["slices.overlaps[int]"], unfollowed := true, recurses := true, loops := true, apart := false }
def PdgSlotsSaid : Prop := pdgSlotsRow.holds Tryz.pinned (OpenSpec.ofChange pdgSlotsSpec)

/-- ITS FALSE NEIGHBOUR: 'it returns false'. Refute it at one input. -/
def pdgSlotsWrong : ChangeSpec := { name := "pdgSlots", fn := fun _ => fun
  | [d1, d2] => { results := [.lit (.bool false)], args := [d1, d2] }
  | _ => none }
def PdgSlotsWrongFalsely : Prop := pdgSlotsRow.holds Tryz.pinned (OpenSpec.ofChange pdgSlotsWrong)

/-- 'whittlerlaw22.PdgDecides': WHATEVER THE INPUT: true; the input reads as it did. -/
def pdgDecidesSpec : ChangeSpec := { name := "pdgDecides", fn := fun _ => fun
  | [d1, d2] => { results := [.lit (.bool true)], args := [d1, d2] }
  | _ => none }
def pdgDecidesRow : OpenClaim := { program := "ytdgicngfmfldmaagreat", sum := "926d52c743d03c2a04a33e20384c39559313c4be2ff9b6047efe131c54cac51d", func := "whittler/whittlerlaw22.PdgDecides", spec := "pdgDecides", inPlace := ["slices.overlaps[int]"], unfollowed := true, recurses := true, loops := true, apart := false }
def PdgDecidesSaid : Prop := pdgDecidesRow.holds Tryz.pinned (OpenSpec.ofChange pdgDecidesSpec)

/-- ITS FALSE NEIGHBOUR: 'it returns false'. Refute it at one input. -/
def pdgDecidesWrong : ChangeSpec := { name := "pdgDecides", fn := fun _ => fun
  | [d1, d2] => { results := [.lit (.bool false)], args := [d1, d2] }
  | _ => none }
def PdgDecidesWrongFalsely : Prop := pdgDecidesRow.holds Tryz.pinned (OpenSpec.ofChange pdgDecidesWrong)

/- THE SECOND FORM. 'bulk': how many values and letters a reading holds, each counted each time it is reached (what is shared counts as often as it is met; a slice's spare places count too). A statement '..UptoSaid' is the law's where the arguments, and the package variables that the reading takes, are together of bulk at most 1048576: NARROWER than '..Said'. Prove '..Said' where nothing that the law and all that it calls make is longer than what came in: it says more and counts as full. Else prove '..UptoSaid'. A law counts once. -/
mutual
def uptoBulk {H : Type} : DataW H → Nat
  | .lit (.string bytes) => bytes.length + 1
  | .lit _ => 1
  | .nil => 1
  | .ptr d => uptoBulk d + 1
  | .slice elems spare => uptoBulkAll elems + uptoBulkAll spare + 1
  | .agg parts => uptoBulkAll parts + 1
  | .iface _ d => uptoBulk d + 1
  | .map entries => uptoBulkEntries entries + 1
  | .held _ => 1
def uptoBulkAll {H : Type} : List (DataW H) → Nat
  | [] => 0
  | d :: r => uptoBulk d + uptoBulkAll r
def uptoBulkEntries {H : Type} : List (Lit × DataW H) → Nat
  | [] => 0
  | x :: r => uptoBulkEntry x + uptoBulkEntries r
def uptoBulkEntry {H : Type} : Lit × DataW H → Nat
  | (.string bytes, d) => bytes.length + uptoBulk d + 1
  | (_, d) => uptoBulk d + 1
 end
def uptoSmall : (H : Type) → List (DataW H) → Bool := fun _ ds => decide (uptoBulkAll ds ≤ 1048576)
def OpenSpec.upto (s : _root_.Go.ChangeSpec) : _root_.Go.OpenSpec := { _root_.Go.OpenSpec.ofChange s with cond := some uptoSmall }

/-- 'whittlerlaw22.PdgEnds', WHERE WHAT IT READS IS OF BULK AT MOST 1048576: true; the input reads as it did. -/
def pdgEndsUptoRow : OpenClaim := { program := "ytdgicngfmfldmaagreat", sum := "926d52c743d03c2a04a33e20384c39559313c4be2ff9b6047efe131c54cac51d", func := "whittler/whittlerlaw22.PdgEnds", spec := "pdgEnds", inPlace := ["slices.overlaps[int]"], unfollowed := true, recurses := true, loops := true, apart := false, narrowed := true }
def PdgEndsUptoSaid : Prop := pdgEndsUptoRow.holds Tryz.pinned (OpenSpec.upto pdgEndsSpec)

/-- 'whittlerlaw22.PdgCalls', WHERE WHAT IT READS IS OF BULK AT MOST 1048576: true; the input reads as it did. -/
def pdgCallsUptoRow : OpenClaim := { program := "ytdgicngfmfldmaagreat", sum := "926d52c743d03c2a04a33e20384c39559313c4be2ff9b6047efe131c54cac51d", func := "whittler/whittlerlaw22.PdgCalls", spec := "pdgCalls", inPlace := ["slices.overlaps[int]"], unfollowed := true, recurses := true, loops := true, apart := false, narrowed := true }
def PdgCallsUptoSaid : Prop := pdgCallsUptoRow.holds Tryz.pinned (OpenSpec.upto pdgCallsSpec)

/-- 'whittlerlaw22.PdgFlows', WHERE WHAT IT READS IS OF BULK AT MOST 1048576: true; the input reads as it did. -/
def pdgFlowsUptoRow : OpenClaim := { program := "ytdgicngfmfldmaagreat", sum := "926d52c743d03c2a04a33e20384c39559313c4be2ff9b6047efe131c54cac51d", func := "whittler/whittlerlaw22.PdgFlows", spec := "pdgFlows", inPlace := ["slices.overlaps[int]"], unfollowed := true, recurses := true, loops := true, apart := false, narrowed := true }
def PdgFlowsUptoSaid : Prop := pdgFlowsUptoRow.holds Tryz.pinned (OpenSpec.upto pdgFlowsSpec)

/-- 'whittlerlaw22.PdgSlots', WHERE WHAT IT READS IS OF BULK AT MOST 1048576: true; the input reads as it did. -/
def pdgSlotsUptoRow : OpenClaim := { program := "ytdgicngfmfldmaagreat", sum := "926d52c743d03c2a04a33e20384c39559313c4be2ff9b6047efe131c54cac51d", func := "whittler/whittlerlaw22.PdgSlots", spec := "pdgSlots", inPlace := ["slices.overlaps[int]"], unfollowed := true, recurses := true, loops := true, apart := false, narrowed := true }
def PdgSlotsUptoSaid : Prop := pdgSlotsUptoRow.holds Tryz.pinned (OpenSpec.upto pdgSlotsSpec)

/-- 'whittlerlaw22.PdgDecides', WHERE WHAT IT READS IS OF BULK AT MOST 1048576: true; the input reads as it did. -/
def pdgDecidesUptoRow : OpenClaim := { program := "ytdgicngfmfldmaagreat", sum := "926d52c743d03c2a04a33e20384c39559313c4be2ff9b6047efe131c54cac51d", func := "whittler/whittlerlaw22.PdgDecides", spec := "pdgDecides", inPlace := ["slices.overlaps[int]"], unfollowed := true, recurses := true, loops := true, apart := false, narrowed := true }
def PdgDecidesUptoSaid : Prop := pdgDecidesUptoRow.holds Tryz.pinned (OpenSpec.upto pdgDecidesSpec)

end Rows
end Go.Proofs.YtdgicngfmfldmaaGreat
