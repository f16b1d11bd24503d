/-
  No cell of these rows narrows 'for every input' (looked for: loops, veiled, ifaces, maps, wideKeys, modest, calm, conditions, laid).
  DERIVED. THE GIVEN ROWS OF THIS SEAT. 11 by the template 'for every input the law returns true; each argument reads behind the call as it read before'; 0 by the template 'total and deterministic' (their statements: YtmnhgdedkniafaaTotals.lean).
  GIVEN WITH THE SEED: the statements are not yours to turn. If you find one false, say at which input.
  Laid BY PROGRAM, IN A SANDBOX (cutbox-rows.mjs): the forced cells as the released guide's own fill.sh prints them over the translation 700d812b378de427… (all of the seat's roots in one cut). By AI agents, Wed Nov 11 2026. No macro, syntax, notation, axiom, sorry.
-/
import Derived.Test.YtmnhgdedkniafaaChecked
import GoSem.Claim
import GoSem.ClaimJoined
import GoSem.ClaimMapViews
import Derived.JoinedTies
import Derived.KernelRfl
namespace Go.Proofs.Ytmnhgdedkniafaa
/- THE CELL 'sum', in the pinned program and in every row, IS THE sha256 OF THE DUMP (.gsa) THAT YtmnhgdedkniafaaProg.lean LOADS. Nothing in Lean hashes anything: it is a label: what it is worth is what the hold of that sum in a sandbox is worth. -/
noncomputable def Try.pinned : Pinned := { name := "ytmnhgdedkniafaa", sum := "700d812b378de427f132fe40011c39bfb7e3343724d37575cace0badf77dd559", checked := Try.checked }
namespace Rows
def none {H : Type} : Left H := { results := [], args := [] }

/-- 'tenterlaw41.RenderTells': WHATEVER THE INPUT: true; the input reads as it did. -/
def renderTellsSpec : ChangeSpec := { name := "renderTells", fn := fun _ => fun
  | [d1, d2, d3, d4, d5, d6, d7, d8, d9] => { results := [.lit (.bool true)], args := [d1, d2, d3, d4, d5, d6, d7, d8, d9] }
  | _ => none }
def renderTellsRow : OpenClaim := { program := "ytmnhgdedkniafaa", sum := "700d812b378de427f132fe40011c39bfb7e3343724d37575cace0badf77dd559", func := "tenter/tenterlaw41.RenderTells", spec := "renderTells", inPlace := ["internal/abi.NoEscape", "internal/bytealg.MakeNoZero"], apart := false }
def RenderTellsSaid : Prop := renderTellsRow.holds Try.pinned (OpenSpec.ofChange renderTellsSpec)

/-- ITS FALSE NEIGHBOUR: 'it returns false'. Refute it at one input. -/
def renderTellsWrong : ChangeSpec := { name := "renderTells", fn := fun _ => fun
  | [d1, d2, d3, d4, d5, d6, d7, d8, d9] => { results := [.lit (.bool false)], args := [d1, d2, d3, d4, d5, d6, d7, d8, d9] }
  | _ => none }
def RenderTellsWrongFalsely : Prop := renderTellsRow.holds Try.pinned (OpenSpec.ofChange renderTellsWrong)

/-- 'tenterlaw29.TopoTells': WHATEVER THE INPUT: true; the input reads as it did. -/
def topoTellsSpec : ChangeSpec := { name := "topoTells", fn := fun _ => fun
  | [d1, d2, d3] => { results := [.lit (.bool true)], args := [d1, d2, d3] }
  | _ => none }
def topoTellsRow : OpenClaim := { program := "ytmnhgdedkniafaa", sum := "700d812b378de427f132fe40011c39bfb7e3343724d37575cace0badf77dd559", func := "tenter/tenterlaw29.TopoTells", spec := "topoTells", unfollowed := true, recurses := true, apart := false }
def TopoTellsSaid : Prop := topoTellsRow.holds Try.pinned (OpenSpec.ofChange topoTellsSpec)

/-- ITS FALSE NEIGHBOUR: 'it returns false'. Refute it at one input. -/
def topoTellsWrong : ChangeSpec := { name := "topoTells", fn := fun _ => fun
  | [d1, d2, d3] => { results := [.lit (.bool false)], args := [d1, d2, d3] }
  | _ => none }
def TopoTellsWrongFalsely : Prop := topoTellsRow.holds Try.pinned (OpenSpec.ofChange topoTellsWrong)

/-- 'tenterlaw29.TopoFirst': WHATEVER THE INPUT: true; the input reads as it did. -/
def topoFirstSpec : ChangeSpec := { name := "topoFirst", fn := fun _ => fun
  | [d1, d2] => { results := [.lit (.bool true)], args := [d1, d2] }
  | _ => none }
def topoFirstRow : OpenClaim := { program := "ytmnhgdedkniafaa", sum := "700d812b378de427f132fe40011c39bfb7e3343724d37575cace0badf77dd559", func := "tenter/tenterlaw29.TopoFirst", spec := "topoFirst", unfollowed := true, recurses := true, apart := false }
def TopoFirstSaid : Prop := topoFirstRow.holds Try.pinned (OpenSpec.ofChange topoFirstSpec)

/-- ITS FALSE NEIGHBOUR: 'it returns false'. Refute it at one input. -/
def topoFirstWrong : ChangeSpec := { name := "topoFirst", fn := fun _ => fun
  | [d1, d2] => { results := [.lit (.bool false)], args := [d1, d2] }
  | _ => none }
def TopoFirstWrongFalsely : Prop := topoFirstRow.holds Try.pinned (OpenSpec.ofChange topoFirstWrong)

/-- 'tenterlaw22.DigraphPlays': WHATEVER THE INPUT: true; the input reads as it did. -/
def digraphPlaysSpec : ChangeSpec := { name := "digraphPlays", fn := fun _ => fun
  | [d1, d2, d3] => { results := [.lit (.bool true)], args := [d1, d2, d3] }
  | _ => none }
def digraphPlaysRow : OpenClaim := { program := "ytmnhgdedkniafaa", sum := "700d812b378de427f132fe40011c39bfb7e3343724d37575cace0badf77dd559", func := "tenter/tenterlaw22.DigraphPlays", spec := "digraphPlays", inPlace := ["slices.overlaps[tenter/digraph.end]"], unfollowed := true, recurses := true, apart := false }
def DigraphPlaysSaid : Prop := digraphPlaysRow.holds Try.pinned (OpenSpec.ofChange digraphPlaysSpec)

/-- ITS FALSE NEIGHBOUR: 'it returns false'. Refute it at one input. -/
def digraphPlaysWrong : ChangeSpec := { name := "digraphPlays", fn := fun _ => fun
  | [d1, d2, d3] => { results := [.lit (.bool false)], args := [d1, d2, d3] }
  | _ => none }
def DigraphPlaysWrongFalsely : Prop := digraphPlaysRow.holds Try.pinned (OpenSpec.ofChange digraphPlaysWrong)

/-- 'tenterlaw22.DigraphSides': WHATEVER THE INPUT: true; the input reads as it did. -/
def digraphSidesSpec : ChangeSpec := { name := "digraphSides", fn := fun _ => fun
  | [d1, d2, d3] => { results := [.lit (.bool true)], args := [d1, d2, d3] }
  | _ => none }
def digraphSidesRow : OpenClaim := { program := "ytmnhgdedkniafaa", sum := "700d812b378de427f132fe40011c39bfb7e3343724d37575cace0badf77dd559", func := "tenter/tenterlaw22.DigraphSides", spec := "digraphSides", inPlace := ["slices.overlaps[tenter/digraph.end]"], unfollowed := true, recurses := true, apart := false }
def DigraphSidesSaid : Prop := digraphSidesRow.holds Try.pinned (OpenSpec.ofChange digraphSidesSpec)

/-- ITS FALSE NEIGHBOUR: 'it returns false'. Refute it at one input. -/
def digraphSidesWrong : ChangeSpec := { name := "digraphSides", fn := fun _ => fun
  | [d1, d2, d3] => { results := [.lit (.bool false)], args := [d1, d2, d3] }
  | _ => none }
def DigraphSidesWrongFalsely : Prop := digraphSidesRow.holds Try.pinned (OpenSpec.ofChange digraphSidesWrong)

/-- 'tenterlaw23.SccTells': WHATEVER THE INPUT: true; the input reads as it did. -/
def sccTellsSpec : ChangeSpec := { name := "sccTells", fn := fun _ => fun
  | [d1, d2, d3] => { results := [.lit (.bool true)], args := [d1, d2, d3] }
  | _ => none }
def sccTellsRow : OpenClaim := { program := "ytmnhgdedkniafaa", sum := "700d812b378de427f132fe40011c39bfb7e3343724d37575cace0badf77dd559", func := "tenter/tenterlaw23.SccTells", spec := "sccTells", inPlace := ["slices.overlaps[tenter/digraph.end]"], unfollowed := true, recurses := true, apart := false }
def SccTellsSaid : Prop := sccTellsRow.holds Try.pinned (OpenSpec.ofChange sccTellsSpec)

/-- ITS FALSE NEIGHBOUR: 'it returns false'. Refute it at one input. -/
def sccTellsWrong : ChangeSpec := { name := "sccTells", fn := fun _ => fun
  | [d1, d2, d3] => { results := [.lit (.bool false)], args := [d1, d2, d3] }
  | _ => none }
def SccTellsWrongFalsely : Prop := sccTellsRow.holds Try.pinned (OpenSpec.ofChange sccTellsWrong)

/-- 'tenterlaw26.DistSteps': WHATEVER THE INPUT: true; the input reads as it did. -/
def distStepsSpec : ChangeSpec := { name := "distSteps", fn := fun _ => fun
  | [d1, d2, d3, d4, d5] => { results := [.lit (.bool true)], args := [d1, d2, d3, d4, d5] }
  | _ => none }
def distStepsRow : OpenClaim := { program := "ytmnhgdedkniafaa", sum := "700d812b378de427f132fe40011c39bfb7e3343724d37575cace0badf77dd559", func := "tenter/tenterlaw26.DistSteps", spec := "distSteps", inPlace := ["slices.overlaps[tenter/digraph.end]"], unfollowed := true, recurses := true, apart := false }
def DistStepsSaid : Prop := distStepsRow.holds Try.pinned (OpenSpec.ofChange distStepsSpec)

/-- ITS FALSE NEIGHBOUR: 'it returns false'. Refute it at one input. -/
def distStepsWrong : ChangeSpec := { name := "distSteps", fn := fun _ => fun
  | [d1, d2, d3, d4, d5] => { results := [.lit (.bool false)], args := [d1, d2, d3, d4, d5] }
  | _ => none }
def DistStepsWrongFalsely : Prop := distStepsRow.holds Try.pinned (OpenSpec.ofChange distStepsWrong)

/-- 'tenterlaw23.SccOneWay': WHATEVER THE INPUT: true; the input reads as it did. -/
def sccOneWaySpec : ChangeSpec := { name := "sccOneWay", fn := fun _ => fun
  | [d1, d2, d3, d4] => { results := [.lit (.bool true)], args := [d1, d2, d3, d4] }
  | _ => none }
def sccOneWayRow : OpenClaim := { program := "ytmnhgdedkniafaa", sum := "700d812b378de427f132fe40011c39bfb7e3343724d37575cace0badf77dd559", func := "tenter/tenterlaw23.SccOneWay", spec := "sccOneWay", inPlace := ["slices.overlaps[tenter/digraph.end]"], unfollowed := true, recurses := true, apart := false }
def SccOneWaySaid : Prop := sccOneWayRow.holds Try.pinned (OpenSpec.ofChange sccOneWaySpec)

/-- ITS FALSE NEIGHBOUR: 'it returns false'. Refute it at one input. -/
def sccOneWayWrong : ChangeSpec := { name := "sccOneWay", fn := fun _ => fun
  | [d1, d2, d3, d4] => { results := [.lit (.bool false)], args := [d1, d2, d3, d4] }
  | _ => none }
def SccOneWayWrongFalsely : Prop := sccOneWayRow.holds Try.pinned (OpenSpec.ofChange sccOneWayWrong)

/-- 'tenterlaw27.CycleTells': WHATEVER THE INPUT: true; the input reads as it did. -/
def cycleTellsSpec : ChangeSpec := { name := "cycleTells", fn := fun _ => fun
  | [d1, d2, d3] => { results := [.lit (.bool true)], args := [d1, d2, d3] }
  | _ => none }
def cycleTellsRow : OpenClaim := { program := "ytmnhgdedkniafaa", sum := "700d812b378de427f132fe40011c39bfb7e3343724d37575cace0badf77dd559", func := "tenter/tenterlaw27.CycleTells", spec := "cycleTells", inPlace := ["slices.overlaps[tenter/digraph.end]"], unfollowed := true, recurses := true, apart := false }
def CycleTellsSaid : Prop := cycleTellsRow.holds Try.pinned (OpenSpec.ofChange cycleTellsSpec)

/-- ITS FALSE NEIGHBOUR: 'it returns false'. Refute it at one input. -/
def cycleTellsWrong : ChangeSpec := { name := "cycleTells", fn := fun _ => fun
  | [d1, d2, d3] => { results := [.lit (.bool false)], args := [d1, d2, d3] }
  | _ => none }
def CycleTellsWrongFalsely : Prop := cycleTellsRow.holds Try.pinned (OpenSpec.ofChange cycleTellsWrong)

/-- 'tenterlaw27.CycleSimple': WHATEVER THE INPUT: true; the input reads as it did. -/
def cycleSimpleSpec : ChangeSpec := { name := "cycleSimple", fn := fun _ => fun
  | [d1, d2, d3] => { results := [.lit (.bool true)], args := [d1, d2, d3] }
  | _ => none }
def cycleSimpleRow : OpenClaim := { program := "ytmnhgdedkniafaa", sum := "700d812b378de427f132fe40011c39bfb7e3343724d37575cace0badf77dd559", func := "tenter/tenterlaw27.CycleSimple", spec := "cycleSimple", inPlace := ["slices.overlaps[tenter/digraph.end]"], unfollowed := true, recurses := true, apart := false }
def CycleSimpleSaid : Prop := cycleSimpleRow.holds Try.pinned (OpenSpec.ofChange cycleSimpleSpec)

/-- ITS FALSE NEIGHBOUR: 'it returns false'. Refute it at one input. -/
def cycleSimpleWrong : ChangeSpec := { name := "cycleSimple", fn := fun _ => fun
  | [d1, d2, d3] => { results := [.lit (.bool false)], args := [d1, d2, d3] }
  | _ => none }
def CycleSimpleWrongFalsely : Prop := cycleSimpleRow.holds Try.pinned (OpenSpec.ofChange cycleSimpleWrong)

/-- 'tenterlaw27.CycleStays': WHATEVER THE INPUT: true; the input reads as it did. -/
def cycleStaysSpec : ChangeSpec := { name := "cycleStays", fn := fun _ => fun
  | [d1, d2, d3, d4, d5] => { results := [.lit (.bool true)], args := [d1, d2, d3, d4, d5] }
  | _ => none }
def cycleStaysRow : OpenClaim := { program := "ytmnhgdedkniafaa", sum := "700d812b378de427f132fe40011c39bfb7e3343724d37575cace0badf77dd559", func := "tenter/tenterlaw27.CycleStays", spec := "cycleStays", inPlace := ["slices.overlaps[tenter/digraph.end]"], unfollowed := true, recurses := true, apart := false }
def CycleStaysSaid : Prop := cycleStaysRow.holds Try.pinned (OpenSpec.ofChange cycleStaysSpec)

/-- ITS FALSE NEIGHBOUR: 'it returns false'. Refute it at one input. -/
def cycleStaysWrong : ChangeSpec := { name := "cycleStays", fn := fun _ => fun
  | [d1, d2, d3, d4, d5] => { results := [.lit (.bool false)], args := [d1, d2, d3, d4, d5] }
  | _ => none }
def CycleStaysWrongFalsely : Prop := cycleStaysRow.holds Try.pinned (OpenSpec.ofChange cycleStaysWrong)

/- THE SECOND FORM. 'bulk': how many values and letters a reading holds, each counted each time it is reached (what is shared counts as often as it is met; a slice's spare places count too). A statement '..UptoSaid' is the law's where the arguments, and the package variables that the reading takes, are together of bulk at most 1048576: NARROWER than '..Said'. Prove '..Said' where nothing that the law and all that it calls make is longer than what came in: it says more and counts as full. Else prove '..UptoSaid'. A law counts once. -/
mutual
def uptoBulk {H : Type} : DataW H → Nat
  | .lit (.string bytes) => bytes.length + 1
  | .lit _ => 1
  | .nil => 1
  | .ptr d => uptoBulk d + 1
  | .slice elems spare => uptoBulkAll elems + uptoBulkAll spare + 1
  | .agg parts => uptoBulkAll parts + 1
  | .iface _ d => uptoBulk d + 1
  | .map entries => uptoBulkEntries entries + 1
  | .held _ => 1
def uptoBulkAll {H : Type} : List (DataW H) → Nat
  | [] => 0
  | d :: r => uptoBulk d + uptoBulkAll r
def uptoBulkEntries {H : Type} : List (Lit × DataW H) → Nat
  | [] => 0
  | x :: r => uptoBulkEntry x + uptoBulkEntries r
def uptoBulkEntry {H : Type} : Lit × DataW H → Nat
  | (.string bytes, d) => bytes.length + uptoBulk d + 1
  | (_, d) => uptoBulk d + 1
 end
def uptoSmall : (H : Type) → List (DataW H) → Bool := fun _ ds => decide (uptoBulkAll ds ≤ 1048576)
def OpenSpec.upto (s : _root_.Go.ChangeSpec) : _root_.Go.OpenSpec := { _root_.Go.OpenSpec.ofChange s with cond := some uptoSmall }

/-- 'tenterlaw41.RenderTells', WHERE WHAT IT READS IS OF BULK AT MOST 1048576: true; the input reads as it did. -/
def renderTellsUptoRow : OpenClaim := { program := "ytmnhgdedkniafaa", sum := "700d812b378de427f132fe40011c39bfb7e3343724d37575cace0badf77dd559", func := "tenter/tenterlaw41.RenderTells", spec := "renderTells", inPlace := ["internal/abi.NoEscape", "internal/bytealg.MakeNoZero"], apart := false, narrowed := true }
def RenderTellsUptoSaid : Prop := renderTellsUptoRow.holds Try.pinned (OpenSpec.upto renderTellsSpec)

/-- 'tenterlaw29.TopoTells', WHERE WHAT IT READS IS OF BULK AT MOST 1048576: true; the input reads as it did. -/
def topoTellsUptoRow : OpenClaim := { program := "ytmnhgdedkniafaa", sum := "700d812b378de427f132fe40011c39bfb7e3343724d37575cace0badf77dd559", func := "tenter/tenterlaw29.TopoTells", spec := "topoTells", unfollowed := true, recurses := true, apart := false, narrowed := true }
def TopoTellsUptoSaid : Prop := topoTellsUptoRow.holds Try.pinned (OpenSpec.upto topoTellsSpec)

/-- 'tenterlaw29.TopoFirst', WHERE WHAT IT READS IS OF BULK AT MOST 1048576: true; the input reads as it did. -/
def topoFirstUptoRow : OpenClaim := { program := "ytmnhgdedkniafaa", sum := "700d812b378de427f132fe40011c39bfb7e3343724d37575cace0badf77dd559", func := "tenter/tenterlaw29.TopoFirst", spec := "topoFirst", unfollowed := true, recurses := true, apart := false, narrowed := true }
def TopoFirstUptoSaid : Prop := topoFirstUptoRow.holds Try.pinned (OpenSpec.upto topoFirstSpec)

/-- 'tenterlaw22.DigraphPlays', WHERE WHAT IT READS IS OF BULK AT MOST 1048576: true; the input reads as it did. -/
def digraphPlaysUptoRow : OpenClaim := { program := "ytmnhgdedkniafaa", sum := "700d812b378de427f132fe40011c39bfb7e3343724d37575cace0badf77dd559", func := "tenter/tenterlaw22.DigraphPlays", spec := "digraphPlays", inPlace := ["slices.overlaps[tenter/digraph.end]"], unfollowed := true, recurses := true, apart := false, narrowed := true }
def DigraphPlaysUptoSaid : Prop := digraphPlaysUptoRow.holds Try.pinned (OpenSpec.upto digraphPlaysSpec)

/-- 'tenterlaw22.DigraphSides', WHERE WHAT IT READS IS OF BULK AT MOST 1048576: true; the input reads as it did. -/
def digraphSidesUptoRow : OpenClaim := { program := "ytmnhgdedkniafaa", sum := "700d812b378de427f132fe40011c39bfb7e3343724d37575cace0badf77dd559", func := "tenter/tenterlaw22.DigraphSides", spec := "digraphSides", inPlace := ["slices.overlaps[tenter/digraph.end]"], unfollowed := true, recurses := true, apart := false, narrowed := true }
def DigraphSidesUptoSaid : Prop := digraphSidesUptoRow.holds Try.pinned (OpenSpec.upto digraphSidesSpec)

/-- 'tenterlaw23.SccTells', WHERE WHAT IT READS IS OF BULK AT MOST 1048576: true; the input reads as it did. -/
def sccTellsUptoRow : OpenClaim := { program := "ytmnhgdedkniafaa", sum := "700d812b378de427f132fe40011c39bfb7e3343724d37575cace0badf77dd559", func := "tenter/tenterlaw23.SccTells", spec := "sccTells", inPlace := ["slices.overlaps[tenter/digraph.end]"], unfollowed := true, recurses := true, apart := false, narrowed := true }
def SccTellsUptoSaid : Prop := sccTellsUptoRow.holds Try.pinned (OpenSpec.upto sccTellsSpec)

/-- 'tenterlaw26.DistSteps', WHERE WHAT IT READS IS OF BULK AT MOST 1048576: true; the input reads as it did. -/
def distStepsUptoRow : OpenClaim := { program := "ytmnhgdedkniafaa", sum := "700d812b378de427f132fe40011c39bfb7e3343724d37575cace0badf77dd559", func := "tenter/tenterlaw26.DistSteps", spec := "distSteps", inPlace := ["slices.overlaps[tenter/digraph.end]"], unfollowed := true, recurses := true, apart := false, narrowed := true }
def DistStepsUptoSaid : Prop := distStepsUptoRow.holds Try.pinned (OpenSpec.upto distStepsSpec)

/-- 'tenterlaw23.SccOneWay', WHERE WHAT IT READS IS OF BULK AT MOST 1048576: true; the input reads as it did. -/
def sccOneWayUptoRow : OpenClaim := { program := "ytmnhgdedkniafaa", sum := "700d812b378de427f132fe40011c39bfb7e3343724d37575cace0badf77dd559", func := "tenter/tenterlaw23.SccOneWay", spec := "sccOneWay", inPlace := ["slices.overlaps[tenter/digraph.end]"], unfollowed := true, recurses := true, apart := false, narrowed := true }
def SccOneWayUptoSaid : Prop := sccOneWayUptoRow.holds Try.pinned (OpenSpec.upto sccOneWaySpec)

/-- 'tenterlaw27.CycleTells', WHERE WHAT IT READS IS OF BULK AT MOST 1048576: true; the input reads as it did. -/
def cycleTellsUptoRow : OpenClaim := { program := "ytmnhgdedkniafaa", sum := "700d812b378de427f132fe40011c39bfb7e3343724d37575cace0badf77dd559", func := "tenter/tenterlaw27.CycleTells", spec := "cycleTells", inPlace := ["slices.overlaps[tenter/digraph.end]"], unfollowed := true, recurses := true, apart := false, narrowed := true }
def CycleTellsUptoSaid : Prop := cycleTellsUptoRow.holds Try.pinned (OpenSpec.upto cycleTellsSpec)

/-- 'tenterlaw27.CycleSimple', WHERE WHAT IT READS IS OF BULK AT MOST 1048576: true; the input reads as it did. -/
def cycleSimpleUptoRow : OpenClaim := { program := "ytmnhgdedkniafaa", sum := "700d812b378de427f132fe40011c39bfb7e3343724d37575cace0badf77dd559", func := "tenter/tenterlaw27.CycleSimple", spec := "cycleSimple", inPlace := ["slices.overlaps[tenter/digraph.end]"], unfollowed := true, recurses := true, apart := false, narrowed := true }
def CycleSimpleUptoSaid : Prop := cycleSimpleUptoRow.holds Try.pinned (OpenSpec.upto cycleSimpleSpec)

/-- 'tenterlaw27.CycleStays', WHERE WHAT IT READS IS OF BULK AT MOST 1048576: true; the input reads as it did. -/
def cycleStaysUptoRow : OpenClaim := { program := "ytmnhgdedkniafaa", sum := "700d812b378de427f132fe40011c39bfb7e3343724d37575cace0badf77dd559", func := "tenter/tenterlaw27.CycleStays", spec := "cycleStays", inPlace := ["slices.overlaps[tenter/digraph.end]"], unfollowed := true, recurses := true, apart := false, narrowed := true }
def CycleStaysUptoSaid : Prop := cycleStaysUptoRow.holds Try.pinned (OpenSpec.upto cycleStaysSpec)

end Rows
end Go.Proofs.Ytmnhgdedkniafaa
