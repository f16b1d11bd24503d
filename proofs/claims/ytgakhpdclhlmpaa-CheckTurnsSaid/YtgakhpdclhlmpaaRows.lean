/-
  No cell of these rows narrows 'for every input' (looked for: loops, veiled, ifaces, maps, wideKeys, modest, calm, conditions, laid).
  DERIVED. THE GIVEN ROWS OF THIS SEAT. 11 by the template 'for every input the law returns true; each argument reads behind the call as it read before'; 0 by the template 'total and deterministic' (their statements: YtgakhpdclhlmpaaTotals.lean).
  GIVEN WITH THE SEED: the statements are not yours to turn. If you find one false, say at which input.
  Laid BY PROGRAM, IN A SANDBOX (cutbox-rows.mjs): the forced cells as the released guide's own fill.sh prints them over the translation c8b6653c1c63a2bb… (all of the seat's roots in one cut). By AI agents, Wed Nov 11 2026. No macro, syntax, notation, axiom, sorry.
-/
import Derived.Test.YtgakhpdclhlmpaaChecked
import GoSem.Claim
import GoSem.ClaimJoined
import GoSem.ClaimMapViews
import Derived.JoinedTies
import Derived.KernelRfl
namespace Go.Proofs.Ytgakhpdclhlmpaa
/- THE CELL 'sum', in the pinned program and in every row, IS THE sha256 OF THE DUMP (.gsa) THAT YtgakhpdclhlmpaaProg.lean LOADS. Nothing in Lean hashes anything: it is a label: what it is worth is what the hold of that sum in a sandbox is worth. -/
noncomputable def Try.pinned : Pinned := { name := "ytgakhpdclhlmpaa", sum := "c8b6653c1c63a2bbe7d09da4c55bea52f13751215af821c8b35d40244dcf7dbf", checked := Try.checked }
namespace Rows
def none {H : Type} : Left H := { results := [], args := [] }

/-- 'tenterlaw28.WalkTells': WHATEVER THE INPUT: true; the input reads as it did. -/
def walkTellsSpec : ChangeSpec := { name := "walkTells", fn := fun _ => fun
  | [d1, d2] => { results := [.lit (.bool true)], args := [d1, d2] }
  | _ => none }
def walkTellsRow : OpenClaim := { program := "ytgakhpdclhlmpaa", sum := "c8b6653c1c63a2bbe7d09da4c55bea52f13751215af821c8b35d40244dcf7dbf", func := "tenter/tenterlaw28.WalkTells", spec := "walkTells", inPlace := ["internal/abi.NoEscape"], plainKeys := false, apart := false }
def WalkTellsSaid : Prop := walkTellsRow.holds Try.pinned (OpenSpec.ofChange walkTellsSpec)

/-- ITS FALSE NEIGHBOUR: 'it returns false'. Refute it at one input. -/
def walkTellsWrong : ChangeSpec := { name := "walkTells", fn := fun _ => fun
  | [d1, d2] => { results := [.lit (.bool false)], args := [d1, d2] }
  | _ => none }
def WalkTellsWrongFalsely : Prop := walkTellsRow.holds Try.pinned (OpenSpec.ofChange walkTellsWrong)

/-- 'tenterlaw41.RenderTells': WHATEVER THE INPUT: true; the input reads as it did. -/
def renderTellsSpec : ChangeSpec := { name := "renderTells", fn := fun _ => fun
  | [d1, d2, d3, d4, d5, d6, d7, d8, d9] => { results := [.lit (.bool true)], args := [d1, d2, d3, d4, d5, d6, d7, d8, d9] }
  | _ => none }
def renderTellsRow : OpenClaim := { program := "ytgakhpdclhlmpaa", sum := "c8b6653c1c63a2bbe7d09da4c55bea52f13751215af821c8b35d40244dcf7dbf", func := "tenter/tenterlaw41.RenderTells", spec := "renderTells", inPlace := ["internal/abi.NoEscape", "internal/bytealg.MakeNoZero"], plainKeys := false, apart := false }
def RenderTellsSaid : Prop := renderTellsRow.holds Try.pinned (OpenSpec.ofChange renderTellsSpec)

/-- ITS FALSE NEIGHBOUR: 'it returns false'. Refute it at one input. -/
def renderTellsWrong : ChangeSpec := { name := "renderTells", fn := fun _ => fun
  | [d1, d2, d3, d4, d5, d6, d7, d8, d9] => { results := [.lit (.bool false)], args := [d1, d2, d3, d4, d5, d6, d7, d8, d9] }
  | _ => none }
def RenderTellsWrongFalsely : Prop := renderTellsRow.holds Try.pinned (OpenSpec.ofChange renderTellsWrong)

/-- 'tenterlaw29.TopoTells': WHATEVER THE INPUT: true; the input reads as it did. -/
def topoTellsSpec : ChangeSpec := { name := "topoTells", fn := fun _ => fun
  | [d1, d2, d3] => { results := [.lit (.bool true)], args := [d1, d2, d3] }
  | _ => none }
def topoTellsRow : OpenClaim := { program := "ytgakhpdclhlmpaa", sum := "c8b6653c1c63a2bbe7d09da4c55bea52f13751215af821c8b35d40244dcf7dbf", func := "tenter/tenterlaw29.TopoTells", spec := "topoTells", unfollowed := true, recurses := true, plainKeys := false, apart := false }
def TopoTellsSaid : Prop := topoTellsRow.holds Try.pinned (OpenSpec.ofChange topoTellsSpec)

/-- ITS FALSE NEIGHBOUR: 'it returns false'. Refute it at one input. -/
def topoTellsWrong : ChangeSpec := { name := "topoTells", fn := fun _ => fun
  | [d1, d2, d3] => { results := [.lit (.bool false)], args := [d1, d2, d3] }
  | _ => none }
def TopoTellsWrongFalsely : Prop := topoTellsRow.holds Try.pinned (OpenSpec.ofChange topoTellsWrong)

/-- 'tenterlaw29.TopoFirst': WHATEVER THE INPUT: true; the input reads as it did. -/
def topoFirstSpec : ChangeSpec := { name := "topoFirst", fn := fun _ => fun
  | [d1, d2] => { results := [.lit (.bool true)], args := [d1, d2] }
  | _ => none }
def topoFirstRow : OpenClaim := { program := "ytgakhpdclhlmpaa", sum := "c8b6653c1c63a2bbe7d09da4c55bea52f13751215af821c8b35d40244dcf7dbf", func := "tenter/tenterlaw29.TopoFirst", spec := "topoFirst", unfollowed := true, recurses := true, plainKeys := false, apart := false }
def TopoFirstSaid : Prop := topoFirstRow.holds Try.pinned (OpenSpec.ofChange topoFirstSpec)

/-- ITS FALSE NEIGHBOUR: 'it returns false'. Refute it at one input. -/
def topoFirstWrong : ChangeSpec := { name := "topoFirst", fn := fun _ => fun
  | [d1, d2] => { results := [.lit (.bool false)], args := [d1, d2] }
  | _ => none }
def TopoFirstWrongFalsely : Prop := topoFirstRow.holds Try.pinned (OpenSpec.ofChange topoFirstWrong)

/-- 'tenterlaw28.WalkTurns': WHATEVER THE INPUT: true; the input reads as it did. -/
def walkTurnsSpec : ChangeSpec := { name := "walkTurns", fn := fun _ => fun
  | [d1, d2] => { results := [.lit (.bool true)], args := [d1, d2] }
  | _ => none }
def walkTurnsRow : OpenClaim := { program := "ytgakhpdclhlmpaa", sum := "c8b6653c1c63a2bbe7d09da4c55bea52f13751215af821c8b35d40244dcf7dbf", func := "tenter/tenterlaw28.WalkTurns", spec := "walkTurns", inPlace := ["internal/abi.NoEscape"], unfollowed := true, recurses := true, plainKeys := false, apart := false }
def WalkTurnsSaid : Prop := walkTurnsRow.holds Try.pinned (OpenSpec.ofChange walkTurnsSpec)

/-- ITS FALSE NEIGHBOUR: 'it returns false'. Refute it at one input. -/
def walkTurnsWrong : ChangeSpec := { name := "walkTurns", fn := fun _ => fun
  | [d1, d2] => { results := [.lit (.bool false)], args := [d1, d2] }
  | _ => none }
def WalkTurnsWrongFalsely : Prop := walkTurnsRow.holds Try.pinned (OpenSpec.ofChange walkTurnsWrong)

/-- 'tenterlaw22.DigraphPlays': WHATEVER THE INPUT: true; the input reads as it did. -/
def digraphPlaysSpec : ChangeSpec := { name := "digraphPlays", fn := fun _ => fun
  | [d1, d2, d3] => { results := [.lit (.bool true)], args := [d1, d2, d3] }
  | _ => none }
def digraphPlaysRow : OpenClaim := { program := "ytgakhpdclhlmpaa", sum := "c8b6653c1c63a2bbe7d09da4c55bea52f13751215af821c8b35d40244dcf7dbf", func := "tenter/tenterlaw22.DigraphPlays", spec := "digraphPlays", inPlace := ["slices.overlaps[tenter/digraph.end]"], unfollowed := true, recurses := true, plainKeys := false, apart := false }
def DigraphPlaysSaid : Prop := digraphPlaysRow.holds Try.pinned (OpenSpec.ofChange digraphPlaysSpec)

/-- ITS FALSE NEIGHBOUR: 'it returns false'. Refute it at one input. -/
def digraphPlaysWrong : ChangeSpec := { name := "digraphPlays", fn := fun _ => fun
  | [d1, d2, d3] => { results := [.lit (.bool false)], args := [d1, d2, d3] }
  | _ => none }
def DigraphPlaysWrongFalsely : Prop := digraphPlaysRow.holds Try.pinned (OpenSpec.ofChange digraphPlaysWrong)

/-- 'tenterlaw22.DigraphSides': WHATEVER THE INPUT: true; the input reads as it did. -/
def digraphSidesSpec : ChangeSpec := { name := "digraphSides", fn := fun _ => fun
  | [d1, d2, d3] => { results := [.lit (.bool true)], args := [d1, d2, d3] }
  | _ => none }
def digraphSidesRow : OpenClaim := { program := "ytgakhpdclhlmpaa", sum := "c8b6653c1c63a2bbe7d09da4c55bea52f13751215af821c8b35d40244dcf7dbf", func := "tenter/tenterlaw22.DigraphSides", spec := "digraphSides", inPlace := ["slices.overlaps[tenter/digraph.end]"], unfollowed := true, recurses := true, plainKeys := false, apart := false }
def DigraphSidesSaid : Prop := digraphSidesRow.holds Try.pinned (OpenSpec.ofChange digraphSidesSpec)

/-- ITS FALSE NEIGHBOUR: 'it returns false'. Refute it at one input. -/
def digraphSidesWrong : ChangeSpec := { name := "digraphSides", fn := fun _ => fun
  | [d1, d2, d3] => { results := [.lit (.bool false)], args := [d1, d2, d3] }
  | _ => none }
def DigraphSidesWrongFalsely : Prop := digraphSidesRow.holds Try.pinned (OpenSpec.ofChange digraphSidesWrong)

/-- 'tenterlaw32.CheckTurns': WHATEVER THE INPUT: true; the input reads as it did. -/
def checkTurnsSpec : ChangeSpec := { name := "checkTurns", fn := fun _ => fun
  | [d1, d2, d3] => { results := [.lit (.bool true)], args := [d1, d2, d3] }
  | _ => none }
def checkTurnsRow : OpenClaim := { program := "ytgakhpdclhlmpaa", sum := "c8b6653c1c63a2bbe7d09da4c55bea52f13751215af821c8b35d40244dcf7dbf", func := "tenter/tenterlaw32.CheckTurns", spec := "checkTurns", unfollowed := true, recurses := true, plainKeys := false, apart := false }
def CheckTurnsSaid : Prop := checkTurnsRow.holds Try.pinned (OpenSpec.ofChange checkTurnsSpec)

/-- ITS FALSE NEIGHBOUR: 'it returns false'. Refute it at one input. -/
def checkTurnsWrong : ChangeSpec := { name := "checkTurns", fn := fun _ => fun
  | [d1, d2, d3] => { results := [.lit (.bool false)], args := [d1, d2, d3] }
  | _ => none }
def CheckTurnsWrongFalsely : Prop := checkTurnsRow.holds Try.pinned (OpenSpec.ofChange checkTurnsWrong)

/-- 'tenterlaw23.SccTells': WHATEVER THE INPUT: true; the input reads as it did. -/
def sccTellsSpec : ChangeSpec := { name := "sccTells", fn := fun _ => fun
  | [d1, d2, d3] => { results := [.lit (.bool true)], args := [d1, d2, d3] }
  | _ => none }
def sccTellsRow : OpenClaim := { program := "ytgakhpdclhlmpaa", sum := "c8b6653c1c63a2bbe7d09da4c55bea52f13751215af821c8b35d40244dcf7dbf", func := "tenter/tenterlaw23.SccTells", spec := "sccTells", inPlace := ["slices.overlaps[tenter/digraph.end]"], unfollowed := true, recurses := true, plainKeys := false, apart := false }
def SccTellsSaid : Prop := sccTellsRow.holds Try.pinned (OpenSpec.ofChange sccTellsSpec)

/-- ITS FALSE NEIGHBOUR: 'it returns false'. Refute it at one input. -/
def sccTellsWrong : ChangeSpec := { name := "sccTells", fn := fun _ => fun
  | [d1, d2, d3] => { results := [.lit (.bool false)], args := [d1, d2, d3] }
  | _ => none }
def SccTellsWrongFalsely : Prop := sccTellsRow.holds Try.pinned (OpenSpec.ofChange sccTellsWrong)

/-- 'tenterlaw26.DistSteps': WHATEVER THE INPUT: true; the input reads as it did. -/
def distStepsSpec : ChangeSpec := { name := "distSteps", fn := fun _ => fun
  | [d1, d2, d3, d4, d5] => { results := [.lit (.bool true)], args := [d1, d2, d3, d4, d5] }
  | _ => none }
def distStepsRow : OpenClaim := { program := "ytgakhpdclhlmpaa", sum := "c8b6653c1c63a2bbe7d09da4c55bea52f13751215af821c8b35d40244dcf7dbf", func := "tenter/tenterlaw26.DistSteps", spec := "distSteps", inPlace := ["slices.overlaps[tenter/digraph.end]"], unfollowed := true, recurses := true, plainKeys := false, apart := false }
def DistStepsSaid : Prop := distStepsRow.holds Try.pinned (OpenSpec.ofChange distStepsSpec)

/-- ITS FALSE NEIGHBOUR: 'it returns false'. Refute it at one input. -/
def distStepsWrong : ChangeSpec := { name := "distSteps", fn := fun _ => fun
  | [d1, d2, d3, d4, d5] => { results := [.lit (.bool false)], args := [d1, d2, d3, d4, d5] }
  | _ => none }
def DistStepsWrongFalsely : Prop := distStepsRow.holds Try.pinned (OpenSpec.ofChange distStepsWrong)

/-- 'tenterlaw23.SccOneWay': WHATEVER THE INPUT: true; the input reads as it did. -/
def sccOneWaySpec : ChangeSpec := { name := "sccOneWay", fn := fun _ => fun
  | [d1, d2, d3, d4] => { results := [.lit (.bool true)], args := [d1, d2, d3, d4] }
  | _ => none }
def sccOneWayRow : OpenClaim := { program := "ytgakhpdclhlmpaa", sum := "c8b6653c1c63a2bbe7d09da4c55bea52f13751215af821c8b35d40244dcf7dbf", func := "tenter/tenterlaw23.SccOneWay", spec := "sccOneWay", inPlace := ["slices.overlaps[tenter/digraph.end]"], unfollowed := true, recurses := true, plainKeys := false, apart := false }
def SccOneWaySaid : Prop := sccOneWayRow.holds Try.pinned (OpenSpec.ofChange sccOneWaySpec)

/-- ITS FALSE NEIGHBOUR: 'it returns false'. Refute it at one input. -/
def sccOneWayWrong : ChangeSpec := { name := "sccOneWay", fn := fun _ => fun
  | [d1, d2, d3, d4] => { results := [.lit (.bool false)], args := [d1, d2, d3, d4] }
  | _ => none }
def SccOneWayWrongFalsely : Prop := sccOneWayRow.holds Try.pinned (OpenSpec.ofChange sccOneWayWrong)

/- THE SECOND FORM. 'bulk': how many values and letters a reading holds, each counted each time it is reached (what is shared counts as often as it is met; a slice's spare places count too). A statement '..UptoSaid' is the law's where the arguments, and the package variables that the reading takes, are together of bulk at most 1048576: NARROWER than '..Said'. Prove '..Said' where nothing that the law and all that it calls make is longer than what came in: it says more and counts as full. Else prove '..UptoSaid'. A law counts once. -/
mutual
def uptoBulk {H : Type} : DataW H → Nat
  | .lit (.string bytes) => bytes.length + 1
  | .lit _ => 1
  | .nil => 1
  | .ptr d => uptoBulk d + 1
  | .slice elems spare => uptoBulkAll elems + uptoBulkAll spare + 1
  | .agg parts => uptoBulkAll parts + 1
  | .iface _ d => uptoBulk d + 1
  | .map entries => uptoBulkEntries entries + 1
  | .held _ => 1
def uptoBulkAll {H : Type} : List (DataW H) → Nat
  | [] => 0
  | d :: r => uptoBulk d + uptoBulkAll r
def uptoBulkEntries {H : Type} : List (Lit × DataW H) → Nat
  | [] => 0
  | x :: r => uptoBulkEntry x + uptoBulkEntries r
def uptoBulkEntry {H : Type} : Lit × DataW H → Nat
  | (.string bytes, d) => bytes.length + uptoBulk d + 1
  | (_, d) => uptoBulk d + 1
 end
def uptoSmall : (H : Type) → List (DataW H) → Bool := fun _ ds => decide (uptoBulkAll ds ≤ 1048576)
def OpenSpec.upto (s : _root_.Go.ChangeSpec) : _root_.Go.OpenSpec := { _root_.Go.OpenSpec.ofChange s with cond := some uptoSmall }

/-- 'tenterlaw28.WalkTells', WHERE WHAT IT READS IS OF BULK AT MOST 1048576: true; the input reads as it did. -/
def walkTellsUptoRow : OpenClaim := { program := "ytgakhpdclhlmpaa", sum := "c8b6653c1c63a2bbe7d09da4c55bea52f13751215af821c8b35d40244dcf7dbf", func := "tenter/tenterlaw28.WalkTells", spec := "walkTells", inPlace := ["internal/abi.NoEscape"], plainKeys := false, apart := false, narrowed := true }
def WalkTellsUptoSaid : Prop := walkTellsUptoRow.holds Try.pinned (OpenSpec.upto walkTellsSpec)

/-- 'tenterlaw41.RenderTells', WHERE WHAT IT READS IS OF BULK AT MOST 1048576: true; the input reads as it did. -/
def renderTellsUptoRow : OpenClaim := { program := "ytgakhpdclhlmpaa", sum := "c8b6653c1c63a2bbe7d09da4c55bea52f13751215af821c8b35d40244dcf7dbf", func := "tenter/tenterlaw41.RenderTells", spec := "renderTells", inPlace := ["internal/abi.NoEscape", "internal/bytealg.MakeNoZero"], plainKeys := false, apart := false, narrowed := true }
def RenderTellsUptoSaid : Prop := renderTellsUptoRow.holds Try.pinned (OpenSpec.upto renderTellsSpec)

/-- 'tenterlaw29.TopoTells', WHERE WHAT IT READS IS OF BULK AT MOST 1048576: true; the input reads as it did. -/
def topoTellsUptoRow : OpenClaim := { program := "ytgakhpdclhlmpaa", sum := "c8b6653c1c63a2bbe7d09da4c55bea52f13751215af821c8b35d40244dcf7dbf", func := "tenter/tenterlaw29.TopoTells", spec := "topoTells", unfollowed := true, recurses := true, plainKeys := false, apart := false, narrowed := true }
def TopoTellsUptoSaid : Prop := topoTellsUptoRow.holds Try.pinned (OpenSpec.upto topoTellsSpec)

/-- 'tenterlaw29.TopoFirst', WHERE WHAT IT READS IS OF BULK AT MOST 1048576: true; the input reads as it did. -/
def topoFirstUptoRow : OpenClaim := { program := "ytgakhpdclhlmpaa", sum := "c8b6653c1c63a2bbe7d09da4c55bea52f13751215af821c8b35d40244dcf7dbf", func := "tenter/tenterlaw29.TopoFirst", spec := "topoFirst", unfollowed := true, recurses := true, plainKeys := false, apart := false, narrowed := true }
def TopoFirstUptoSaid : Prop := topoFirstUptoRow.holds Try.pinned (OpenSpec.upto topoFirstSpec)

/-- 'tenterlaw28.WalkTurns', WHERE WHAT IT READS IS OF BULK AT MOST 1048576: true; the input reads as it did. -/
def walkTurnsUptoRow : OpenClaim := { program := "ytgakhpdclhlmpaa", sum := "c8b6653c1c63a2bbe7d09da4c55bea52f13751215af821c8b35d40244dcf7dbf", func := "tenter/tenterlaw28.WalkTurns", spec := "walkTurns", inPlace := ["internal/abi.NoEscape"], unfollowed := true, recurses := true, plainKeys := false, apart := false, narrowed := true }
def WalkTurnsUptoSaid : Prop := walkTurnsUptoRow.holds Try.pinned (OpenSpec.upto walkTurnsSpec)

/-- 'tenterlaw22.DigraphPlays', WHERE WHAT IT READS IS OF BULK AT MOST 1048576: true; the input reads as it did. -/
def digraphPlaysUptoRow : OpenClaim := { program := "ytgakhpdclhlmpaa", sum := "c8b6653c1c63a2bbe7d09da4c55bea52f13751215af821c8b35d40244dcf7dbf", func := "tenter/tenterlaw22.DigraphPlays", spec := "digraphPlays", inPlace := ["slices.overlaps[tenter/digraph.end]"], unfollowed := true, recurses := true, plainKeys := false, apart := false, narrowed := true }
def DigraphPlaysUptoSaid : Prop := digraphPlaysUptoRow.holds Try.pinned (OpenSpec.upto digraphPlaysSpec)

/-- 'tenterlaw22.DigraphSides', WHERE WHAT IT READS IS OF BULK AT MOST 1048576: true; the input reads as it did. -/
def digraphSidesUptoRow : OpenClaim := { program := "ytgakhpdclhlmpaa", sum := "c8b6653c1c63a2bbe7d09da4c55bea52f13751215af821c8b35d40244dcf7dbf", func := "tenter/tenterlaw22.DigraphSides", spec := "digraphSides", inPlace := ["slices.overlaps[tenter/digraph.end]"], unfollowed := true, recurses := true, plainKeys := false, apart := false, narrowed := true }
def DigraphSidesUptoSaid : Prop := digraphSidesUptoRow.holds Try.pinned (OpenSpec.upto digraphSidesSpec)

/-- 'tenterlaw32.CheckTurns', WHERE WHAT IT READS IS OF BULK AT MOST 1048576: true; the input reads as it did. -/
def checkTurnsUptoRow : OpenClaim := { program := "ytgakhpdclhlmpaa", sum := "c8b6653c1c63a2bbe7d09da4c55bea52f13751215af821c8b35d40244dcf7dbf", func := "tenter/tenterlaw32.CheckTurns", spec := "checkTurns", unfollowed := true, recurses := true, plainKeys := false, apart := false, narrowed := true }
def CheckTurnsUptoSaid : Prop := checkTurnsUptoRow.holds Try.pinned (OpenSpec.upto checkTurnsSpec)

/-- 'tenterlaw23.SccTells', WHERE WHAT IT READS IS OF BULK AT MOST 1048576: true; the input reads as it did. -/
def sccTellsUptoRow : OpenClaim := { program := "ytgakhpdclhlmpaa", sum := "c8b6653c1c63a2bbe7d09da4c55bea52f13751215af821c8b35d40244dcf7dbf", func := "tenter/tenterlaw23.SccTells", spec := "sccTells", inPlace := ["slices.overlaps[tenter/digraph.end]"], unfollowed := true, recurses := true, plainKeys := false, apart := false, narrowed := true }
def SccTellsUptoSaid : Prop := sccTellsUptoRow.holds Try.pinned (OpenSpec.upto sccTellsSpec)

/-- 'tenterlaw26.DistSteps', WHERE WHAT IT READS IS OF BULK AT MOST 1048576: true; the input reads as it did. -/
def distStepsUptoRow : OpenClaim := { program := "ytgakhpdclhlmpaa", sum := "c8b6653c1c63a2bbe7d09da4c55bea52f13751215af821c8b35d40244dcf7dbf", func := "tenter/tenterlaw26.DistSteps", spec := "distSteps", inPlace := ["slices.overlaps[tenter/digraph.end]"], unfollowed := true, recurses := true, plainKeys := false, apart := false, narrowed := true }
def DistStepsUptoSaid : Prop := distStepsUptoRow.holds Try.pinned (OpenSpec.upto distStepsSpec)

/-- 'tenterlaw23.SccOneWay', WHERE WHAT IT READS IS OF BULK AT MOST 1048576: true; the input reads as it did. -/
def sccOneWayUptoRow : OpenClaim := { program := "ytgakhpdclhlmpaa", sum := "c8b6653c1c63a2bbe7d09da4c55bea52f13751215af821c8b35d40244dcf7dbf", func := "tenter/tenterlaw23.SccOneWay", spec := "sccOneWay", inPlace := ["slices.overlaps[tenter/digraph.end]"], unfollowed := true, recurses := true, plainKeys := false, apart := false, narrowed := true }
def SccOneWayUptoSaid : Prop := sccOneWayUptoRow.holds Try.pinned (OpenSpec.upto sccOneWaySpec)

end Rows
end Go.Proofs.Ytgakhpdclhlmpaa
