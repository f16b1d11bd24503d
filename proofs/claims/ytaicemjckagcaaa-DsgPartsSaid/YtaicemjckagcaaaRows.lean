/-
  No cell of these rows narrows 'for every input' (looked for: loops, veiled, ifaces, maps, wideKeys, modest, calm, conditions, laid).
  DERIVED. THE GIVEN ROWS OF THIS SEAT. 8 by the template 'for every input the law returns true; each argument reads behind the call as it read before'; 0 by the template 'total and deterministic' (their statements: YtaicemjckagcaaaTotals.lean).
  GIVEN WITH THE SEED: the statements are not yours to turn. If you find one false, say at which input.
  Laid BY PROGRAM, IN A SANDBOX (cutbox-rows.mjs): the forced cells as the released guide's own fill.sh prints them over the translation a43c7faa907f8d12… (all of the seat's roots in one cut). By AI agents, Wed Nov 11 2026. No macro, syntax, notation, axiom, sorry.
-/
import Derived.Test.YtaicemjckagcaaaChecked
import GoSem.Claim
import GoSem.ClaimJoined
import GoSem.ClaimMapViews
import Derived.JoinedTies
import Derived.KernelRfl
namespace Go.Proofs.Ytaicemjckagcaaa
/- THE CELL 'sum', in the pinned program and in every row, IS THE sha256 OF THE DUMP (.gsa) THAT YtaicemjckagcaaaProg.lean LOADS. Nothing in Lean hashes anything: it is a label: what it is worth is what the hold of that sum in a sandbox is worth. -/
noncomputable def Try.pinned : Pinned := { name := "ytaicemjckagcaaa", sum := "a43c7faa907f8d12b5ded2dcd5d8eaf13260bf6a2f4b1c1fcc6f6fe9678aec25", checked := Try.checked }
namespace Rows
def none {H : Type} : Left H := { results := [], args := [] }

/-- 'tenterlaw29.TopoTells': WHATEVER THE INPUT: true; the input reads as it did. -/
def topoTellsSpec : ChangeSpec := { name := "topoTells", fn := fun _ => fun
  | [d1, d2, d3] => { results := [.lit (.bool true)], args := [d1, d2, d3] }
  | _ => none }
def topoTellsRow : OpenClaim := { program := "ytaicemjckagcaaa", sum := "a43c7faa907f8d12b5ded2dcd5d8eaf13260bf6a2f4b1c1fcc6f6fe9678aec25", func := "tenter/tenterlaw29.TopoTells", spec := "topoTells", unfollowed := true, recurses := true, plainKeys := false, apart := false }
def TopoTellsSaid : Prop := topoTellsRow.holds Try.pinned (OpenSpec.ofChange topoTellsSpec)

/-- ITS FALSE NEIGHBOUR: 'it returns false'. Refute it at one input. -/
def topoTellsWrong : ChangeSpec := { name := "topoTells", fn := fun _ => fun
  | [d1, d2, d3] => { results := [.lit (.bool false)], args := [d1, d2, d3] }
  | _ => none }
def TopoTellsWrongFalsely : Prop := topoTellsRow.holds Try.pinned (OpenSpec.ofChange topoTellsWrong)

/-- 'tenterlaw29.TopoFirst': WHATEVER THE INPUT: true; the input reads as it did. -/
def topoFirstSpec : ChangeSpec := { name := "topoFirst", fn := fun _ => fun
  | [d1, d2] => { results := [.lit (.bool true)], args := [d1, d2] }
  | _ => none }
def topoFirstRow : OpenClaim := { program := "ytaicemjckagcaaa", sum := "a43c7faa907f8d12b5ded2dcd5d8eaf13260bf6a2f4b1c1fcc6f6fe9678aec25", func := "tenter/tenterlaw29.TopoFirst", spec := "topoFirst", unfollowed := true, recurses := true, plainKeys := false, apart := false }
def TopoFirstSaid : Prop := topoFirstRow.holds Try.pinned (OpenSpec.ofChange topoFirstSpec)

/-- ITS FALSE NEIGHBOUR: 'it returns false'. Refute it at one input. -/
def topoFirstWrong : ChangeSpec := { name := "topoFirst", fn := fun _ => fun
  | [d1, d2] => { results := [.lit (.bool false)], args := [d1, d2] }
  | _ => none }
def TopoFirstWrongFalsely : Prop := topoFirstRow.holds Try.pinned (OpenSpec.ofChange topoFirstWrong)

/-- 'tenterlaw29.TopoRound': WHATEVER THE INPUT: true; the input reads as it did. -/
def topoRoundSpec : ChangeSpec := { name := "topoRound", fn := fun _ => fun
  | [d1, d2] => { results := [.lit (.bool true)], args := [d1, d2] }
  | _ => none }
def topoRoundRow : OpenClaim := { program := "ytaicemjckagcaaa", sum := "a43c7faa907f8d12b5ded2dcd5d8eaf13260bf6a2f4b1c1fcc6f6fe9678aec25", func := "tenter/tenterlaw29.TopoRound", spec := "topoRound", inPlace := ["slices.overlaps[tenter/digraph.end]"], unfollowed := true, recurses := true, plainKeys := false, apart := false }
def TopoRoundSaid : Prop := topoRoundRow.holds Try.pinned (OpenSpec.ofChange topoRoundSpec)

/-- ITS FALSE NEIGHBOUR: 'it returns false'. Refute it at one input. -/
def topoRoundWrong : ChangeSpec := { name := "topoRound", fn := fun _ => fun
  | [d1, d2] => { results := [.lit (.bool false)], args := [d1, d2] }
  | _ => none }
def TopoRoundWrongFalsely : Prop := topoRoundRow.holds Try.pinned (OpenSpec.ofChange topoRoundWrong)

/-- 'tenterlaw23.SccTells': WHATEVER THE INPUT: true; the input reads as it did. -/
def sccTellsSpec : ChangeSpec := { name := "sccTells", fn := fun _ => fun
  | [d1, d2, d3] => { results := [.lit (.bool true)], args := [d1, d2, d3] }
  | _ => none }
def sccTellsRow : OpenClaim := { program := "ytaicemjckagcaaa", sum := "a43c7faa907f8d12b5ded2dcd5d8eaf13260bf6a2f4b1c1fcc6f6fe9678aec25", func := "tenter/tenterlaw23.SccTells", spec := "sccTells", inPlace := ["slices.overlaps[tenter/digraph.end]"], unfollowed := true, recurses := true, plainKeys := false, apart := false }
def SccTellsSaid : Prop := sccTellsRow.holds Try.pinned (OpenSpec.ofChange sccTellsSpec)

/-- ITS FALSE NEIGHBOUR: 'it returns false'. Refute it at one input. -/
def sccTellsWrong : ChangeSpec := { name := "sccTells", fn := fun _ => fun
  | [d1, d2, d3] => { results := [.lit (.bool false)], args := [d1, d2, d3] }
  | _ => none }
def SccTellsWrongFalsely : Prop := sccTellsRow.holds Try.pinned (OpenSpec.ofChange sccTellsWrong)

/-- 'tenterlaw23.SccOneWay': WHATEVER THE INPUT: true; the input reads as it did. -/
def sccOneWaySpec : ChangeSpec := { name := "sccOneWay", fn := fun _ => fun
  | [d1, d2, d3, d4] => { results := [.lit (.bool true)], args := [d1, d2, d3, d4] }
  | _ => none }
def sccOneWayRow : OpenClaim := { program := "ytaicemjckagcaaa", sum := "a43c7faa907f8d12b5ded2dcd5d8eaf13260bf6a2f4b1c1fcc6f6fe9678aec25", func := "tenter/tenterlaw23.SccOneWay", spec := "sccOneWay", inPlace := ["slices.overlaps[tenter/digraph.end]"], unfollowed := true, recurses := true, plainKeys := false, apart := false }
def SccOneWaySaid : Prop := sccOneWayRow.holds Try.pinned (OpenSpec.ofChange sccOneWaySpec)

/-- ITS FALSE NEIGHBOUR: 'it returns false'. Refute it at one input. -/
def sccOneWayWrong : ChangeSpec := { name := "sccOneWay", fn := fun _ => fun
  | [d1, d2, d3, d4] => { results := [.lit (.bool false)], args := [d1, d2, d3, d4] }
  | _ => none }
def SccOneWayWrongFalsely : Prop := sccOneWayRow.holds Try.pinned (OpenSpec.ofChange sccOneWayWrong)

/-- 'tenterlaw16.DsgParts': WHATEVER THE INPUT: true; the input reads as it did. -/
def dsgPartsSpec : ChangeSpec := { name := "dsgParts", fn := fun _ => fun
  | [d] => { results := [.lit (.bool true)], args := [d] }
  | _ => none }
def dsgPartsRow : OpenClaim := { program := "ytaicemjckagcaaa", sum := "a43c7faa907f8d12b5ded2dcd5d8eaf13260bf6a2f4b1c1fcc6f6fe9678aec25", func := "tenter/tenterlaw16.DsgParts", spec := "dsgParts", unfollowed := true, recurses := true, plainKeys := false, apart := false }
def DsgPartsSaid : Prop := dsgPartsRow.holds Try.pinned (OpenSpec.ofChange dsgPartsSpec)

/-- ITS FALSE NEIGHBOUR: 'it returns false'. Refute it at one input. -/
def dsgPartsWrong : ChangeSpec := { name := "dsgParts", fn := fun _ => fun
  | [d] => { results := [.lit (.bool false)], args := [d] }
  | _ => none }
def DsgPartsWrongFalsely : Prop := dsgPartsRow.holds Try.pinned (OpenSpec.ofChange dsgPartsWrong)

/-- 'tenterlaw16.DsgReasons': WHATEVER THE INPUT: true; the input reads as it did. -/
def dsgReasonsSpec : ChangeSpec := { name := "dsgReasons", fn := fun _ => fun
  | [d] => { results := [.lit (.bool true)], args := [d] }
  | _ => none }
def dsgReasonsRow : OpenClaim := { program := "ytaicemjckagcaaa", sum := "a43c7faa907f8d12b5ded2dcd5d8eaf13260bf6a2f4b1c1fcc6f6fe9678aec25", func := "tenter/tenterlaw16.DsgReasons", spec := "dsgReasons", unfollowed := true, recurses := true, plainKeys := false, apart := false }
def DsgReasonsSaid : Prop := dsgReasonsRow.holds Try.pinned (OpenSpec.ofChange dsgReasonsSpec)

/-- ITS FALSE NEIGHBOUR: 'it returns false'. Refute it at one input. -/
def dsgReasonsWrong : ChangeSpec := { name := "dsgReasons", fn := fun _ => fun
  | [d] => { results := [.lit (.bool false)], args := [d] }
  | _ => none }
def DsgReasonsWrongFalsely : Prop := dsgReasonsRow.holds Try.pinned (OpenSpec.ofChange dsgReasonsWrong)

/-- 'tenterlaw13.IndexWay': WHATEVER THE INPUT: true; the input reads as it did. -/
def indexWaySpec : ChangeSpec := { name := "indexWay", fn := fun _ => fun
  | [d1, d2, d3, d4] => { results := [.lit (.bool true)], args := [d1, d2, d3, d4] }
  | _ => none }
def indexWayRow : OpenClaim := { program := "ytaicemjckagcaaa", sum := "a43c7faa907f8d12b5ded2dcd5d8eaf13260bf6a2f4b1c1fcc6f6fe9678aec25", func := "tenter/tenterlaw13.IndexWay", spec := "indexWay", inPlace := ["slices.overlaps[int]"], unfollowed := true, recurses := true, plainKeys := false, apart := false }
def IndexWaySaid : Prop := indexWayRow.holds Try.pinned (OpenSpec.ofChange indexWaySpec)

/-- ITS FALSE NEIGHBOUR: 'it returns false'. Refute it at one input. -/
def indexWayWrong : ChangeSpec := { name := "indexWay", fn := fun _ => fun
  | [d1, d2, d3, d4] => { results := [.lit (.bool false)], args := [d1, d2, d3, d4] }
  | _ => none }
def IndexWayWrongFalsely : Prop := indexWayRow.holds Try.pinned (OpenSpec.ofChange indexWayWrong)

/- THE SECOND FORM. 'bulk': how many values and letters a reading holds, each counted each time it is reached (what is shared counts as often as it is met; a slice's spare places count too). A statement '..UptoSaid' is the law's where the arguments, and the package variables that the reading takes, are together of bulk at most 1048576: NARROWER than '..Said'. Prove '..Said' where nothing that the law and all that it calls make is longer than what came in: it says more and counts as full. Else prove '..UptoSaid'. A law counts once. -/
mutual
def uptoBulk {H : Type} : DataW H → Nat
  | .lit (.string bytes) => bytes.length + 1
  | .lit _ => 1
  | .nil => 1
  | .ptr d => uptoBulk d + 1
  | .slice elems spare => uptoBulkAll elems + uptoBulkAll spare + 1
  | .agg parts => uptoBulkAll parts + 1
  | .iface _ d => uptoBulk d + 1
  | .map entries => uptoBulkEntries entries + 1
  | .held _ => 1
def uptoBulkAll {H : Type} : List (DataW H) → Nat
  | [] => 0
  | d :: r => uptoBulk d + uptoBulkAll r
def uptoBulkEntries {H : Type} : List (Lit × DataW H) → Nat
  | [] => 0
  | x :: r => uptoBulkEntry x + uptoBulkEntries r
def uptoBulkEntry {H : Type} : Lit × DataW H → Nat
  | (.string bytes, d) => bytes.length + uptoBulk d + 1
  | (_, d) => uptoBulk d + 1
 end
def uptoSmall : (H : Type) → List (DataW H) → Bool := fun _ ds => decide (uptoBulkAll ds ≤ 1048576)
def OpenSpec.upto (s : _root_.Go.ChangeSpec) : _root_.Go.OpenSpec := { _root_.Go.OpenSpec.ofChange s with cond := some uptoSmall }

/-- 'tenterlaw29.TopoTells', WHERE WHAT IT READS IS OF BULK AT MOST 1048576: true; the input reads as it did. -/
def topoTellsUptoRow : OpenClaim := { program := "ytaicemjckagcaaa", sum := "a43c7faa907f8d12b5ded2dcd5d8eaf13260bf6a2f4b1c1fcc6f6fe9678aec25", func := "tenter/tenterlaw29.TopoTells", spec := "topoTells", unfollowed := true, recurses := true, plainKeys := false, apart := false, narrowed := true }
def TopoTellsUptoSaid : Prop := topoTellsUptoRow.holds Try.pinned (OpenSpec.upto topoTellsSpec)

/-- 'tenterlaw29.TopoFirst', WHERE WHAT IT READS IS OF BULK AT MOST 1048576: true; the input reads as it did. -/
def topoFirstUptoRow : OpenClaim := { program := "ytaicemjckagcaaa", sum := "a43c7faa907f8d12b5ded2dcd5d8eaf13260bf6a2f4b1c1fcc6f6fe9678aec25", func := "tenter/tenterlaw29.TopoFirst", spec := "topoFirst", unfollowed := true, recurses := true, plainKeys := false, apart := false, narrowed := true }
def TopoFirstUptoSaid : Prop := topoFirstUptoRow.holds Try.pinned (OpenSpec.upto topoFirstSpec)

/-- 'tenterlaw29.TopoRound', WHERE WHAT IT READS IS OF BULK AT MOST 1048576: true; the input reads as it did. -/
def topoRoundUptoRow : OpenClaim := { program := "ytaicemjckagcaaa", sum := "a43c7faa907f8d12b5ded2dcd5d8eaf13260bf6a2f4b1c1fcc6f6fe9678aec25", func := "tenter/tenterlaw29.TopoRound", spec := "topoRound", inPlace := ["slices.overlaps[tenter/digraph.end]"], unfollowed := true, recurses := true, plainKeys := false, apart := false, narrowed := true }
def TopoRoundUptoSaid : Prop := topoRoundUptoRow.holds Try.pinned (OpenSpec.upto topoRoundSpec)

/-- 'tenterlaw23.SccTells', WHERE WHAT IT READS IS OF BULK AT MOST 1048576: true; the input reads as it did. -/
def sccTellsUptoRow : OpenClaim := { program := "ytaicemjckagcaaa", sum := "a43c7faa907f8d12b5ded2dcd5d8eaf13260bf6a2f4b1c1fcc6f6fe9678aec25", func := "tenter/tenterlaw23.SccTells", spec := "sccTells", inPlace := ["slices.overlaps[tenter/digraph.end]"], unfollowed := true, recurses := true, plainKeys := false, apart := false, narrowed := true }
def SccTellsUptoSaid : Prop := sccTellsUptoRow.holds Try.pinned (OpenSpec.upto sccTellsSpec)

/-- 'tenterlaw23.SccOneWay', WHERE WHAT IT READS IS OF BULK AT MOST 1048576: true; the input reads as it did. -/
def sccOneWayUptoRow : OpenClaim := { program := "ytaicemjckagcaaa", sum := "a43c7faa907f8d12b5ded2dcd5d8eaf13260bf6a2f4b1c1fcc6f6fe9678aec25", func := "tenter/tenterlaw23.SccOneWay", spec := "sccOneWay", inPlace := ["slices.overlaps[tenter/digraph.end]"], unfollowed := true, recurses := true, plainKeys := false, apart := false, narrowed := true }
def SccOneWayUptoSaid : Prop := sccOneWayUptoRow.holds Try.pinned (OpenSpec.upto sccOneWaySpec)

/-- 'tenterlaw16.DsgParts', WHERE WHAT IT READS IS OF BULK AT MOST 1048576: true; the input reads as it did. -/
def dsgPartsUptoRow : OpenClaim := { program := "ytaicemjckagcaaa", sum := "a43c7faa907f8d12b5ded2dcd5d8eaf13260bf6a2f4b1c1fcc6f6fe9678aec25", func := "tenter/tenterlaw16.DsgParts", spec := "dsgParts", unfollowed := true, recurses := true, plainKeys := false, apart := false, narrowed := true }
def DsgPartsUptoSaid : Prop := dsgPartsUptoRow.holds Try.pinned (OpenSpec.upto dsgPartsSpec)

/-- 'tenterlaw16.DsgReasons', WHERE WHAT IT READS IS OF BULK AT MOST 1048576: true; the input reads as it did. -/
def dsgReasonsUptoRow : OpenClaim := { program := "ytaicemjckagcaaa", sum := "a43c7faa907f8d12b5ded2dcd5d8eaf13260bf6a2f4b1c1fcc6f6fe9678aec25", func := "tenter/tenterlaw16.DsgReasons", spec := "dsgReasons", unfollowed := true, recurses := true, plainKeys := false, apart := false, narrowed := true }
def DsgReasonsUptoSaid : Prop := dsgReasonsUptoRow.holds Try.pinned (OpenSpec.upto dsgReasonsSpec)

/-- 'tenterlaw13.IndexWay', WHERE WHAT IT READS IS OF BULK AT MOST 1048576: true; the input reads as it did. -/
def indexWayUptoRow : OpenClaim := { program := "ytaicemjckagcaaa", sum := "a43c7faa907f8d12b5ded2dcd5d8eaf13260bf6a2f4b1c1fcc6f6fe9678aec25", func := "tenter/tenterlaw13.IndexWay", spec := "indexWay", inPlace := ["slices.overlaps[int]"], unfollowed := true, recurses := true, plainKeys := false, apart := false, narrowed := true }
def IndexWayUptoSaid : Prop := indexWayUptoRow.holds Try.pinned (OpenSpec.upto indexWaySpec)

end Rows
end Go.Proofs.Ytaicemjckagcaaa
