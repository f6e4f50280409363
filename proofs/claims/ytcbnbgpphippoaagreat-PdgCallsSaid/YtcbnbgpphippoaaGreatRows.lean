/-
  NARROWER THAN 'FOR EVERY INPUT', by the rows' own cells (each row's printed sentence says how): PdgControl: loops · PdgCalls: loops · PdgFlows: loops · PdgSlots: loops.
  DERIVED. THE GIVEN ROWS OF THIS SEAT. 4 by the template 'for every input the law returns true; each argument reads behind the call as it read before'; 0 by the template 'total and deterministic' (their statements: YtcbnbgpphippoaaGreatTotals.lean).
  GIVEN WITH THE SEED: the statements are not yours to turn. If you find one false, say at which input.
  Laid BY PROGRAM, IN A SANDBOX (cutbox-rows.mjs): the forced cells as the released guide's own fill.sh prints them over the translation ac06c1b25b6e64e7… (all of the seat's roots in one cut). By AI agents, Wed Nov 11 2026. No macro, syntax, notation, axiom, sorry.
-/
import Derived.Test.YtcbnbgpphippoaaGreatChecked
import GoSem.Claim
import GoSem.ClaimJoined
import GoSem.ClaimMapViews
import Derived.JoinedTies
import Derived.KernelRfl
namespace Go.Proofs.YtcbnbgpphippoaaGreat
/- THE CELL 'sum', in the pinned program and in every row, IS THE sha256 OF THE DUMP (.gsa) THAT YtcbnbgpphippoaaGreatProg.lean LOADS. Nothing in Lean hashes anything: it is a label: what it is worth is what the hold of that sum in a sandbox is worth. -/
noncomputable def Tryz.pinned : Pinned := { name := "ytcbnbgpphippoaagreat", sum := "ac06c1b25b6e64e76c68af2c2edc77e28fba03b434694eb1814c7179eb302639", checked := Tryz.checked }
namespace Rows
def none {H : Type} : Left H := { results := [], args := [] }

/-- 'whittlerlaw22.PdgControl': WHATEVER THE INPUT: true; the input reads as it did. -/
def pdgControlSpec : ChangeSpec := { name := "pdgControl", fn := fun _ => fun
  | [d1, d2] => { results := [.lit (.bool true)], args := [d1, d2] }
  | _ => none }
def pdgControlRow : OpenClaim := { program := "ytcbnbgpphippoaagreat", sum := "ac06c1b25b6e64e76c68af2c2edc77e28fba03b434694eb1814c7179eb302639", func := "whittler/whittlerlaw22.PdgControl", spec := "pdgControl", inPlace := ["slices.overlaps[int]"], unfollowed := true, recurses := true, loops := true, apart := false }
def PdgControlSaid : Prop := pdgControlRow.holds Tryz.pinned (OpenSpec.ofChange pdgControlSpec)

/-- ITS FALSE NEIGHBOUR: 'it returns false'. Refute it at one input. -/
def pdgControlWrong : ChangeSpec := { name := "pdgControl", fn := fun _ => fun
  | [d1, d2] => { results := [.lit (.bool false)], args := [d1, d2] }
  | _ => none }
def PdgControlWrongFalsely : Prop := pdgControlRow.holds Tryz.pinned (OpenSpec.ofChange pdgControlWrong)

/-- 'whittlerlaw22.PdgCalls': WHATEVER THE INPUT: true; the input reads as it did. -/
def pdgCallsSpec : ChangeSpec := { name := "pdgCalls", fn := fun _ => fun
  | [d1, d2] => { results := [.lit (.bool true)], args := [d1, d2] }
  | _ => none }
def pdgCallsRow : OpenClaim := { program := "ytcbnbgpphippoaagreat", sum := "ac06c1b25b6e64e76c68af2c2edc77e28fba03b434694eb1814c7179eb302639", func := "whittler/whittlerlaw22.PdgCalls", spec := "pdgCalls", inPlace := ["slices.overlaps[int]"], unfollowed := true, recurses := true, loops := true, apart := false }
def PdgCallsSaid : Prop := pdgCallsRow.holds Tryz.pinned (OpenSpec.ofChange pdgCallsSpec)

/-- ITS FALSE NEIGHBOUR: 'it returns false'. Refute it at one input. -/
def pdgCallsWrong : ChangeSpec := { name := "pdgCalls", fn := fun _ => fun
  | [d1, d2] => { results := [.lit (.bool false)], args := [d1, d2] }
  | _ => none }
def PdgCallsWrongFalsely : Prop := pdgCallsRow.holds Tryz.pinned (OpenSpec.ofChange pdgCallsWrong)

/-- 'whittlerlaw22.PdgFlows': WHATEVER THE INPUT: true; the input reads as it did. -/
def pdgFlowsSpec : ChangeSpec := { name := "pdgFlows", fn := fun _ => fun
  | [d1, d2] => { results := [.lit (.bool true)], args := [d1, d2] }
  | _ => none }
def pdgFlowsRow : OpenClaim := { program := "ytcbnbgpphippoaagreat", sum := "ac06c1b25b6e64e76c68af2c2edc77e28fba03b434694eb1814c7179eb302639", func := "whittler/whittlerlaw22.PdgFlows", spec := "pdgFlows", inPlace := ["slices.overlaps[int]"], unfollowed := true, recurses := true, loops := true, apart := false }
def PdgFlowsSaid : Prop := pdgFlowsRow.holds Tryz.pinned (OpenSpec.ofChange pdgFlowsSpec)

/-- ITS FALSE NEIGHBOUR: 'it returns false'. Refute it at one input. -/
def pdgFlowsWrong : ChangeSpec := { name := "pdgFlows", fn := fun _ => fun
  | [d1, d2] => { results := [.lit (.bool false)], args := [d1, d2] }
  | _ => none }
def PdgFlowsWrongFalsely : Prop := pdgFlowsRow.holds Tryz.pinned (OpenSpec.ofChange pdgFlowsWrong)

/-- 'whittlerlaw22.PdgSlots': WHATEVER THE INPUT: true; the input reads as it did. -/
def pdgSlotsSpec : ChangeSpec := { name := "pdgSlots", fn := fun _ => fun
  | [d1, d2] => { results := [.lit (.bool true)], args := [d1, d2] }
  | _ => none }
def pdgSlotsRow : OpenClaim := { program := "ytcbnbgpphippoaagreat", sum := "ac06c1b25b6e64e76c68af2c2edc77e28fba03b434694eb1814c7179eb302639", func := "whittler/whittlerlaw22.PdgSlots", spec := "pdgSlots", inPlace := ["slices.overlaps[int]"], unfollowed := true, recurses := true, loops := true, apart := false }
def PdgSlotsSaid : Prop := pdgSlotsRow.holds Tryz.pinned (OpenSpec.ofChange pdgSlotsSpec)

/-- ITS FALSE NEIGHBOUR: 'it returns false'. Refute it at one input. -/
def pdgSlotsWrong : ChangeSpec := { name := "pdgSlots", fn := fun _ => fun
  | [d1, d2] => { results := [.lit (.bool false)], args := [d1, d2] }
  | _ => none }
def PdgSlotsWrongFalsely : Prop := pdgSlotsRow.holds Tryz.pinned (OpenSpec.ofChange pdgSlotsWrong)

/- THE SECOND FORM. 'bulk': how many values and letters a reading holds, each counted each time it is reached (what is shared counts as often as it is met; a slice's spare places count too). A statement '..UptoSaid' is the law's where the arguments, and the package variables that the reading takes, are together of bulk at most 1048576: NARROWER than '..Said'. Prove '..Said' where nothing that the law and all that it calls make is longer than what came in: it says more and counts as full. Else prove '..UptoSaid'. A law counts once. -/
mutual
def uptoBulk {H : Type} : DataW H → Nat
  | .lit (.string bytes) => bytes.length + 1
  | .lit _ => 1
  | .nil => 1
  | .ptr d => uptoBulk d + 1
  | .slice elems spare => uptoBulkAll elems + uptoBulkAll spare + 1
  | .agg parts => uptoBulkAll parts + 1
  | .iface _ d => uptoBulk d + 1
  | .map entries => uptoBulkEntries entries + 1
  | .held _ => 1
def uptoBulkAll {H : Type} : List (DataW H) → Nat
  | [] => 0
  | d :: r => uptoBulk d + uptoBulkAll r
def uptoBulkEntries {H : Type} : List (Lit × DataW H) → Nat
  | [] => 0
  | x :: r => uptoBulkEntry x + uptoBulkEntries r
def uptoBulkEntry {H : Type} : Lit × DataW H → Nat
  | (.string bytes, d) => bytes.length + uptoBulk d + 1
  | (_, d) => uptoBulk d + 1
 end
def uptoSmall : (H : Type) → List (DataW H) → Bool := fun _ ds => decide (uptoBulkAll ds ≤ 1048576)
def OpenSpec.upto (s : _root_.Go.ChangeSpec) : _root_.Go.OpenSpec := { _root_.Go.OpenSpec.ofChange s with cond := some uptoSmall }

/-- 'whittlerlaw22.PdgControl', WHERE WHAT IT READS IS OF BULK AT MOST 1048576: true; the input reads as it did. -/
def pdgControlUptoRow : OpenClaim := { program := "ytcbnbgpphippoaagreat", sum := "ac06c1b25b6e64e76c68af2c2edc77e28fba03b434694eb1814c7179eb302639", func := "whittler/whittlerlaw22.PdgControl", spec := "pdgControl", inPlace := ["slices.overlaps[int]"], unfollowed := true, recurses := true, loops := true, apart := false, narrowed := true }
def PdgControlUptoSaid : Prop := pdgControlUptoRow.holds Tryz.pinned (OpenSpec.upto pdgControlSpec)

/-- 'whittlerlaw22.PdgCalls', WHERE WHAT IT READS IS OF BULK AT MOST 1048576: true; the input reads as it did. -/
def pdgCallsUptoRow : OpenClaim := { program := "ytcbnbgpphippoaagreat", sum := "ac06c1b25b6e64e76c68af2c2edc77e28fba03b434694eb1814c7179eb302639", func := "whittler/whittlerlaw22.PdgCalls", spec := "pdgCalls", inPlace := ["slices.overlaps[int]"], unfollowed := true, recurses := true, loops := true, apart := false, narrowed := true }
def PdgCallsUptoSaid : Prop := pdgCallsUptoRow.holds Tryz.pinned (OpenSpec.upto pdgCallsSpec)

/-- 'whittlerlaw22.PdgFlows', WHERE WHAT IT READS IS OF BULK AT MOST 1048576: true; the input reads as it did. -/
def pdgFlowsUptoRow : OpenClaim := { program := "ytcbnbgpphippoaagreat", sum := "ac06c1b25b6e64e76c68af2c2edc77e28fba03b434694eb1814c7179eb302639", func := "whittler/whittlerlaw22.PdgFlows", spec := "pdgFlows", inPlace := ["slices.overlaps[int]"], unfollowed := true, recurses := true, loops := true, apart := false, narrowed := true }
def PdgFlowsUptoSaid : Prop := pdgFlowsUptoRow.holds Tryz.pinned (OpenSpec.upto pdgFlowsSpec)

/-- 'whittlerlaw22.PdgSlots', WHERE WHAT IT READS IS OF BULK AT MOST 1048576: true; the input reads as it did. -/
def pdgSlotsUptoRow : OpenClaim := { program := "ytcbnbgpphippoaagreat", sum := "ac06c1b25b6e64e76c68af2c2edc77e28fba03b434694eb1814c7179eb302639", func := "whittler/whittlerlaw22.PdgSlots", spec := "pdgSlots", inPlace := ["slices.overlaps[int]"], unfollowed := true, recurses := true, loops := true, apart := false, narrowed := true }
def PdgSlotsUptoSaid : Prop := pdgSlotsUptoRow.holds Tryz.pinned (OpenSpec.upto pdgSlotsSpec)

end Rows
end Go.Proofs.YtcbnbgpphippoaaGreat
