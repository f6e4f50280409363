/-
  No cell of these rows narrows 'for every input' (looked for: loops, veiled, ifaces, maps, wideKeys, modest, calm, conditions, laid).
  DERIVED. THE GIVEN ROWS OF THIS SEAT. 11 by the template 'for every input the law returns true; each argument reads behind the call as it read before'; 0 by the template 'total and deterministic' (their statements: YtldmnnloakpjlaaTotals.lean).
  GIVEN WITH THE SEED: the statements are not yours to turn. If you find one false, say at which input.
  Laid BY PROGRAM, IN A SANDBOX (cutbox-rows.mjs): the forced cells as the released guide's own fill.sh prints them over the translation 2bc054bb8e746a92… (all of the seat's roots in one cut). By AI agents, Wed Nov 11 2026. No macro, syntax, notation, axiom, sorry.
-/
import Derived.Test.YtldmnnloakpjlaaChecked
import GoSem.Claim
import GoSem.ClaimJoined
import GoSem.ClaimMapViews
import Derived.JoinedTies
import Derived.KernelRfl
namespace Go.Proofs.Ytldmnnloakpjlaa
/- THE CELL 'sum', in the pinned program and in every row, IS THE sha256 OF THE DUMP (.gsa) THAT YtldmnnloakpjlaaProg.lean LOADS. Nothing in Lean hashes anything: it is a label: what it is worth is what the hold of that sum in a sandbox is worth. -/
noncomputable def Try.pinned : Pinned := { name := "ytldmnnloakpjlaa", sum := "2bc054bb8e746a92df6cc92f9a8072d6777543fb45cfb7519445f3c4e291ffdf", checked := Try.checked }
namespace Rows
def none {H : Type} : Left H := { results := [], args := [] }

/-- 'whittlerlaw19.SolveAll': WHATEVER THE INPUT: true; the input reads as it did. -/
def solveAllSpec : ChangeSpec := { name := "solveAll", fn := fun _ => fun
  | [d1, d2, d3, d4, d5] => { results := [.lit (.bool true)], args := [d1, d2, d3, d4, d5] }
  | _ => none }
def solveAllRow : OpenClaim := { program := "ytldmnnloakpjlaa", sum := "2bc054bb8e746a92df6cc92f9a8072d6777543fb45cfb7519445f3c4e291ffdf", func := "whittler/whittlerlaw19.SolveAll", spec := "solveAll", inPlace := ["slices.overlaps[int]"], apart := false }
def SolveAllSaid : Prop := solveAllRow.holds Try.pinned (OpenSpec.ofChange solveAllSpec)

/-- ITS FALSE NEIGHBOUR: 'it returns false'. Refute it at one input. -/
def solveAllWrong : ChangeSpec := { name := "solveAll", fn := fun _ => fun
  | [d1, d2, d3, d4, d5] => { results := [.lit (.bool false)], args := [d1, d2, d3, d4, d5] }
  | _ => none }
def SolveAllWrongFalsely : Prop := solveAllRow.holds Try.pinned (OpenSpec.ofChange solveAllWrong)

/-- 'whittlerlaw19.SolveMore': WHATEVER THE INPUT: true; the input reads as it did. -/
def solveMoreSpec : ChangeSpec := { name := "solveMore", fn := fun _ => fun
  | [d1, d2, d3, d4, d5, d6, d7, d8] => { results := [.lit (.bool true)], args := [d1, d2, d3, d4, d5, d6, d7, d8] }
  | _ => none }
def solveMoreRow : OpenClaim := { program := "ytldmnnloakpjlaa", sum := "2bc054bb8e746a92df6cc92f9a8072d6777543fb45cfb7519445f3c4e291ffdf", func := "whittler/whittlerlaw19.SolveMore", spec := "solveMore", inPlace := ["slices.overlaps[int]"], apart := false }
def SolveMoreSaid : Prop := solveMoreRow.holds Try.pinned (OpenSpec.ofChange solveMoreSpec)

/-- ITS FALSE NEIGHBOUR: 'it returns false'. Refute it at one input. -/
def solveMoreWrong : ChangeSpec := { name := "solveMore", fn := fun _ => fun
  | [d1, d2, d3, d4, d5, d6, d7, d8] => { results := [.lit (.bool false)], args := [d1, d2, d3, d4, d5, d6, d7, d8] }
  | _ => none }
def SolveMoreWrongFalsely : Prop := solveMoreRow.holds Try.pinned (OpenSpec.ofChange solveMoreWrong)

/-- 'whittlerlaw19.SolveApart': WHATEVER THE INPUT: true; the input reads as it did. -/
def solveApartSpec : ChangeSpec := { name := "solveApart", fn := fun _ => fun
  | [d1, d2, d3, d4, d5, d6] => { results := [.lit (.bool true)], args := [d1, d2, d3, d4, d5, d6] }
  | _ => none }
def solveApartRow : OpenClaim := { program := "ytldmnnloakpjlaa", sum := "2bc054bb8e746a92df6cc92f9a8072d6777543fb45cfb7519445f3c4e291ffdf", func := "whittler/whittlerlaw19.SolveApart", spec := "solveApart", inPlace := ["slices.overlaps[int]"], apart := false }
def SolveApartSaid : Prop := solveApartRow.holds Try.pinned (OpenSpec.ofChange solveApartSpec)

/-- ITS FALSE NEIGHBOUR: 'it returns false'. Refute it at one input. -/
def solveApartWrong : ChangeSpec := { name := "solveApart", fn := fun _ => fun
  | [d1, d2, d3, d4, d5, d6] => { results := [.lit (.bool false)], args := [d1, d2, d3, d4, d5, d6] }
  | _ => none }
def SolveApartWrongFalsely : Prop := solveApartRow.holds Try.pinned (OpenSpec.ofChange solveApartWrong)

/-- 'whittlerlaw14.GraphReach': WHATEVER THE INPUT: true; the input reads as it did. -/
def graphReachSpec : ChangeSpec := { name := "graphReach", fn := fun _ => fun
  | [d1, d2, d3, d4] => { results := [.lit (.bool true)], args := [d1, d2, d3, d4] }
  | _ => none }
def graphReachRow : OpenClaim := { program := "ytldmnnloakpjlaa", sum := "2bc054bb8e746a92df6cc92f9a8072d6777543fb45cfb7519445f3c4e291ffdf", func := "whittler/whittlerlaw14.GraphReach", spec := "graphReach", inPlace := ["slices.overlaps[int]"], apart := false }
def GraphReachSaid : Prop := graphReachRow.holds Try.pinned (OpenSpec.ofChange graphReachSpec)

/-- ITS FALSE NEIGHBOUR: 'it returns false'. Refute it at one input. -/
def graphReachWrong : ChangeSpec := { name := "graphReach", fn := fun _ => fun
  | [d1, d2, d3, d4] => { results := [.lit (.bool false)], args := [d1, d2, d3, d4] }
  | _ => none }
def GraphReachWrongFalsely : Prop := graphReachRow.holds Try.pinned (OpenSpec.ofChange graphReachWrong)

/-- 'whittlerlaw14.GraphParts': WHATEVER THE INPUT: true; the input reads as it did. -/
def graphPartsSpec : ChangeSpec := { name := "graphParts", fn := fun _ => fun
  | [d1, d2] => { results := [.lit (.bool true)], args := [d1, d2] }
  | _ => none }
def graphPartsRow : OpenClaim := { program := "ytldmnnloakpjlaa", sum := "2bc054bb8e746a92df6cc92f9a8072d6777543fb45cfb7519445f3c4e291ffdf", func := "whittler/whittlerlaw14.GraphParts", spec := "graphParts", inPlace := ["slices.overlaps[int]"], apart := false }
def GraphPartsSaid : Prop := graphPartsRow.holds Try.pinned (OpenSpec.ofChange graphPartsSpec)

/-- ITS FALSE NEIGHBOUR: 'it returns false'. Refute it at one input. -/
def graphPartsWrong : ChangeSpec := { name := "graphParts", fn := fun _ => fun
  | [d1, d2] => { results := [.lit (.bool false)], args := [d1, d2] }
  | _ => none }
def GraphPartsWrongFalsely : Prop := graphPartsRow.holds Try.pinned (OpenSpec.ofChange graphPartsWrong)

/-- 'whittlerlaw14.GraphAll': WHATEVER THE INPUT: true; the input reads as it did. -/
def graphAllSpec : ChangeSpec := { name := "graphAll", fn := fun _ => fun
  | [d1, d2, d3, d4] => { results := [.lit (.bool true)], args := [d1, d2, d3, d4] }
  | _ => none }
def graphAllRow : OpenClaim := { program := "ytldmnnloakpjlaa", sum := "2bc054bb8e746a92df6cc92f9a8072d6777543fb45cfb7519445f3c4e291ffdf", func := "whittler/whittlerlaw14.GraphAll", spec := "graphAll", inPlace := ["slices.overlaps[int]"], apart := false }
def GraphAllSaid : Prop := graphAllRow.holds Try.pinned (OpenSpec.ofChange graphAllSpec)

/-- ITS FALSE NEIGHBOUR: 'it returns false'. Refute it at one input. -/
def graphAllWrong : ChangeSpec := { name := "graphAll", fn := fun _ => fun
  | [d1, d2, d3, d4] => { results := [.lit (.bool false)], args := [d1, d2, d3, d4] }
  | _ => none }
def GraphAllWrongFalsely : Prop := graphAllRow.holds Try.pinned (OpenSpec.ofChange graphAllWrong)

/-- 'whittlerlaw14.GraphAdd': WHATEVER THE INPUT: true; the input reads as it did. -/
def graphAddSpec : ChangeSpec := { name := "graphAdd", fn := fun _ => fun
  | [d1, d2, d3] => { results := [.lit (.bool true)], args := [d1, d2, d3] }
  | _ => none }
def graphAddRow : OpenClaim := { program := "ytldmnnloakpjlaa", sum := "2bc054bb8e746a92df6cc92f9a8072d6777543fb45cfb7519445f3c4e291ffdf", func := "whittler/whittlerlaw14.GraphAdd", spec := "graphAdd", inPlace := ["slices.overlaps[int]"], apart := false }
def GraphAddSaid : Prop := graphAddRow.holds Try.pinned (OpenSpec.ofChange graphAddSpec)

/-- ITS FALSE NEIGHBOUR: 'it returns false'. Refute it at one input. -/
def graphAddWrong : ChangeSpec := { name := "graphAdd", fn := fun _ => fun
  | [d1, d2, d3] => { results := [.lit (.bool false)], args := [d1, d2, d3] }
  | _ => none }
def GraphAddWrongFalsely : Prop := graphAddRow.holds Try.pinned (OpenSpec.ofChange graphAddWrong)

/-- 'whittlerlaw14.GraphTurn': WHATEVER THE INPUT: true; the input reads as it did. -/
def graphTurnSpec : ChangeSpec := { name := "graphTurn", fn := fun _ => fun
  | [d1, d2, d3] => { results := [.lit (.bool true)], args := [d1, d2, d3] }
  | _ => none }
def graphTurnRow : OpenClaim := { program := "ytldmnnloakpjlaa", sum := "2bc054bb8e746a92df6cc92f9a8072d6777543fb45cfb7519445f3c4e291ffdf", func := "whittler/whittlerlaw14.GraphTurn", spec := "graphTurn", inPlace := ["slices.overlaps[int]"], apart := false }
def GraphTurnSaid : Prop := graphTurnRow.holds Try.pinned (OpenSpec.ofChange graphTurnSpec)

/-- ITS FALSE NEIGHBOUR: 'it returns false'. Refute it at one input. -/
def graphTurnWrong : ChangeSpec := { name := "graphTurn", fn := fun _ => fun
  | [d1, d2, d3] => { results := [.lit (.bool false)], args := [d1, d2, d3] }
  | _ => none }
def GraphTurnWrongFalsely : Prop := graphTurnRow.holds Try.pinned (OpenSpec.ofChange graphTurnWrong)

/-- 'whittlerlaw14.GraphNone': WHATEVER THE INPUT: true; the input reads as it did. -/
def graphNoneSpec : ChangeSpec := { name := "graphNone", fn := fun _ => fun
  | [d1, d2, d3] => { results := [.lit (.bool true)], args := [d1, d2, d3] }
  | _ => none }
def graphNoneRow : OpenClaim := { program := "ytldmnnloakpjlaa", sum := "2bc054bb8e746a92df6cc92f9a8072d6777543fb45cfb7519445f3c4e291ffdf", func := "whittler/whittlerlaw14.GraphNone", spec := "graphNone", inPlace := ["slices.overlaps[int]"], apart := false }
def GraphNoneSaid : Prop := graphNoneRow.holds Try.pinned (OpenSpec.ofChange graphNoneSpec)

/-- ITS FALSE NEIGHBOUR: 'it returns false'. Refute it at one input. -/
def graphNoneWrong : ChangeSpec := { name := "graphNone", fn := fun _ => fun
  | [d1, d2, d3] => { results := [.lit (.bool false)], args := [d1, d2, d3] }
  | _ => none }
def GraphNoneWrongFalsely : Prop := graphNoneRow.holds Try.pinned (OpenSpec.ofChange graphNoneWrong)

/-- 'whittlerlaw14.GraphOwn': WHATEVER THE INPUT: true; the input reads as it did. -/
def graphOwnSpec : ChangeSpec := { name := "graphOwn", fn := fun _ => fun
  | [d1, d2, d3] => { results := [.lit (.bool true)], args := [d1, d2, d3] }
  | _ => none }
def graphOwnRow : OpenClaim := { program := "ytldmnnloakpjlaa", sum := "2bc054bb8e746a92df6cc92f9a8072d6777543fb45cfb7519445f3c4e291ffdf", func := "whittler/whittlerlaw14.GraphOwn", spec := "graphOwn", inPlace := ["slices.overlaps[int]"], apart := false }
def GraphOwnSaid : Prop := graphOwnRow.holds Try.pinned (OpenSpec.ofChange graphOwnSpec)

/-- ITS FALSE NEIGHBOUR: 'it returns false'. Refute it at one input. -/
def graphOwnWrong : ChangeSpec := { name := "graphOwn", fn := fun _ => fun
  | [d1, d2, d3] => { results := [.lit (.bool false)], args := [d1, d2, d3] }
  | _ => none }
def GraphOwnWrongFalsely : Prop := graphOwnRow.holds Try.pinned (OpenSpec.ofChange graphOwnWrong)

/-- 'whittlerlaw19.SolveWays': WHATEVER THE INPUT: true; the input reads as it did. -/
def solveWaysSpec : ChangeSpec := { name := "solveWays", fn := fun _ => fun
  | [d1, d2, d3, d4, d5, d6, d7] => { results := [.lit (.bool true)], args := [d1, d2, d3, d4, d5, d6, d7] }
  | _ => none }
def solveWaysRow : OpenClaim := { program := "ytldmnnloakpjlaa", sum := "2bc054bb8e746a92df6cc92f9a8072d6777543fb45cfb7519445f3c4e291ffdf", func := "whittler/whittlerlaw19.SolveWays", spec := "solveWays", inPlace := ["slices.overlaps[int]"], apart := false }
def SolveWaysSaid : Prop := solveWaysRow.holds Try.pinned (OpenSpec.ofChange solveWaysSpec)

/-- ITS FALSE NEIGHBOUR: 'it returns false'. Refute it at one input. -/
def solveWaysWrong : ChangeSpec := { name := "solveWays", fn := fun _ => fun
  | [d1, d2, d3, d4, d5, d6, d7] => { results := [.lit (.bool false)], args := [d1, d2, d3, d4, d5, d6, d7] }
  | _ => none }
def SolveWaysWrongFalsely : Prop := solveWaysRow.holds Try.pinned (OpenSpec.ofChange solveWaysWrong)

/- THE SECOND FORM. 'bulk': how many values and letters a reading holds, each counted each time it is reached (what is shared counts as often as it is met; a slice's spare places count too). A statement '..UptoSaid' is the law's where the arguments, and the package variables that the reading takes, are together of bulk at most 1048576: NARROWER than '..Said'. Prove '..Said' where nothing that the law and all that it calls make is longer than what came in: it says more and counts as full. Else prove '..UptoSaid'. A law counts once. -/
mutual
def uptoBulk {H : Type} : DataW H → Nat
  | .lit (.string bytes) => bytes.length + 1
  | .lit _ => 1
  | .nil => 1
  | .ptr d => uptoBulk d + 1
  | .slice elems spare => uptoBulkAll elems + uptoBulkAll spare + 1
  | .agg parts => uptoBulkAll parts + 1
  | .iface _ d => uptoBulk d + 1
  | .map entries => uptoBulkEntries entries + 1
  | .held _ => 1
def uptoBulkAll {H : Type} : List (DataW H) → Nat
  | [] => 0
  | d :: r => uptoBulk d + uptoBulkAll r
def uptoBulkEntries {H : Type} : List (Lit × DataW H) → Nat
  | [] => 0
  | x :: r => uptoBulkEntry x + uptoBulkEntries r
def uptoBulkEntry {H : Type} : Lit × DataW H → Nat
  | (.string bytes, d) => bytes.length + uptoBulk d + 1
  | (_, d) => uptoBulk d + 1
 end
def uptoSmall : (H : Type) → List (DataW H) → Bool := fun _ ds => decide (uptoBulkAll ds ≤ 1048576)
def OpenSpec.upto (s : _root_.Go.ChangeSpec) : _root_.Go.OpenSpec := { _root_.Go.OpenSpec.ofChange s with cond := some uptoSmall }

/-- 'whittlerlaw19.SolveAll', WHERE WHAT IT READS IS OF BULK AT MOST 1048576: true; the input reads as it did. -/
def solveAllUptoRow : OpenClaim := { program := "ytldmnnloakpjlaa", sum := "2bc054bb8e746a92df6cc92f9a8072d6777543fb45cfb7519445f3c4e291ffdf", func := "whittler/whittlerlaw19.SolveAll", spec := "solveAll", inPlace := ["slices.overlaps[int]"], apart := false, narrowed := true }
def SolveAllUptoSaid : Prop := solveAllUptoRow.holds Try.pinned (OpenSpec.upto solveAllSpec)

/-- 'whittlerlaw19.SolveMore', WHERE WHAT IT READS IS OF BULK AT MOST 1048576: true; the input reads as it did. -/
def solveMoreUptoRow : OpenClaim := { program := "ytldmnnloakpjlaa", sum := "2bc054bb8e746a92df6cc92f9a8072d6777543fb45cfb7519445f3c4e291ffdf", func := "whittler/whittlerlaw19.SolveMore", spec := "solveMore", inPlace := ["slices.overlaps[int]"], apart := false, narrowed := true }
def SolveMoreUptoSaid : Prop := solveMoreUptoRow.holds Try.pinned (OpenSpec.upto solveMoreSpec)

/-- 'whittlerlaw19.SolveApart', WHERE WHAT IT READS IS OF BULK AT MOST 1048576: true; the input reads as it did. -/
def solveApartUptoRow : OpenClaim := { program := "ytldmnnloakpjlaa", sum := "2bc054bb8e746a92df6cc92f9a8072d6777543fb45cfb7519445f3c4e291ffdf", func := "whittler/whittlerlaw19.SolveApart", spec := "solveApart", inPlace := ["slices.overlaps[int]"], apart := false, narrowed := true }
def SolveApartUptoSaid : Prop := solveApartUptoRow.holds Try.pinned (OpenSpec.upto solveApartSpec)

/-- 'whittlerlaw14.GraphReach', WHERE WHAT IT READS IS OF BULK AT MOST 1048576: true; the input reads as it did. -/
def graphReachUptoRow : OpenClaim := { program := "ytldmnnloakpjlaa", sum := "2bc054bb8e746a92df6cc92f9a8072d6777543fb45cfb7519445f3c4e291ffdf", func := "whittler/whittlerlaw14.GraphReach", spec := "graphReach", inPlace := ["slices.overlaps[int]"], apart := false, narrowed := true }
def GraphReachUptoSaid : Prop := graphReachUptoRow.holds Try.pinned (OpenSpec.upto graphReachSpec)

/-- 'whittlerlaw14.GraphParts', WHERE WHAT IT READS IS OF BULK AT MOST 1048576: true; the input reads as it did. -/
def graphPartsUptoRow : OpenClaim := { program := "ytldmnnloakpjlaa", sum := "2bc054bb8e746a92df6cc92f9a8072d6777543fb45cfb7519445f3c4e291ffdf", func := "whittler/whittlerlaw14.GraphParts", spec := "graphParts", inPlace := ["slices.overlaps[int]"], apart := false, narrowed := true }
def GraphPartsUptoSaid : Prop := graphPartsUptoRow.holds Try.pinned (OpenSpec.upto graphPartsSpec)

/-- 'whittlerlaw14.GraphAll', WHERE WHAT IT READS IS OF BULK AT MOST 1048576: true; the input reads as it did. -/
def graphAllUptoRow : OpenClaim := { program := "ytldmnnloakpjlaa", sum := "2bc054bb8e746a92df6cc92f9a8072d6777543fb45cfb7519445f3c4e291ffdf", func := "whittler/whittlerlaw14.GraphAll", spec := "graphAll", inPlace := ["slices.overlaps[int]"], apart := false, narrowed := true }
def GraphAllUptoSaid : Prop := graphAllUptoRow.holds Try.pinned (OpenSpec.upto graphAllSpec)

/-- 'whittlerlaw14.GraphAdd', WHERE WHAT IT READS IS OF BULK AT MOST 1048576: true; the input reads as it did. -/
def graphAddUptoRow : OpenClaim := { program := "ytldmnnloakpjlaa", sum := "2bc054bb8e746a92df6cc92f9a8072d6777543fb45cfb7519445f3c4e291ffdf", func := "whittler/whittlerlaw14.GraphAdd", spec := "graphAdd", inPlace := ["slices.overlaps[int]"], apart := false, narrowed := true }
def GraphAddUptoSaid : Prop := graphAddUptoRow.holds Try.pinned (OpenSpec.upto graphAddSpec)

/-- 'whittlerlaw14.GraphTurn', WHERE WHAT IT READS IS OF BULK AT MOST 1048576: true; the input reads as it did. -/
def graphTurnUptoRow : OpenClaim := { program := "ytldmnnloakpjlaa", sum := "2bc054bb8e746a92df6cc92f9a8072d6777543fb45cfb7519445f3c4e291ffdf", func := "whittler/whittlerlaw14.GraphTurn", spec := "graphTurn", inPlace := ["slices.overlaps[int]"], apart := false, narrowed := true }
def GraphTurnUptoSaid : Prop := graphTurnUptoRow.holds Try.pinned (OpenSpec.upto graphTurnSpec)

/-- 'whittlerlaw14.GraphNone', WHERE WHAT IT READS IS OF BULK AT MOST 1048576: true; the input reads as it did. -/
def graphNoneUptoRow : OpenClaim := { program := "ytldmnnloakpjlaa", sum := "2bc054bb8e746a92df6cc92f9a8072d6777543fb45cfb7519445f3c4e291ffdf", func := "whittler/whittlerlaw14.GraphNone", spec := "graphNone", inPlace := ["slices.overlaps[int]"], apart := false, narrowed := true }
def GraphNoneUptoSaid : Prop := graphNoneUptoRow.holds Try.pinned (OpenSpec.upto graphNoneSpec)

/-- 'whittlerlaw14.GraphOwn', WHERE WHAT IT READS IS OF BULK AT MOST 1048576: true; the input reads as it did. -/
def graphOwnUptoRow : OpenClaim := { program := "ytldmnnloakpjlaa", sum := "2bc054bb8e746a92df6cc92f9a8072d6777543fb45cfb7519445f3c4e291ffdf", func := "whittler/whittlerlaw14.GraphOwn", spec := "graphOwn", inPlace := ["slices.overlaps[int]"], apart := false, narrowed := true }
def GraphOwnUptoSaid : Prop := graphOwnUptoRow.holds Try.pinned (OpenSpec.upto graphOwnSpec)

/-- 'whittlerlaw19.SolveWays', WHERE WHAT IT READS IS OF BULK AT MOST 1048576: true; the input reads as it did. -/
def solveWaysUptoRow : OpenClaim := { program := "ytldmnnloakpjlaa", sum := "2bc054bb8e746a92df6cc92f9a8072d6777543fb45cfb7519445f3c4e291ffdf", func := "whittler/whittlerlaw19.SolveWays", spec := "solveWays", inPlace := ["slices.overlaps[int]"], apart := false, narrowed := true }
def SolveWaysUptoSaid : Prop := solveWaysUptoRow.holds Try.pinned (OpenSpec.upto solveWaysSpec)

end Rows
end Go.Proofs.Ytldmnnloakpjlaa
