/-
  No cell of these rows narrows 'for every input' (looked for: loops, veiled, ifaces, maps, wideKeys, modest, calm, conditions, laid).
  DERIVED. THE GIVEN ROWS OF THIS SEAT. 3 by the template 'for every input the law returns true; each argument reads behind the call as it read before'; 0 by the template 'total and deterministic' (their statements: YtadmgiljchgccaaGreatTotals.lean).
  GIVEN WITH THE SEED: the statements are not yours to turn. If you find one false, say at which input.
  Laid BY PROGRAM, IN A SANDBOX (cutbox-rows.mjs): the forced cells as the released guide's own fill.sh prints them over the translation d0ea1015d159bd4f… (all of the seat's roots in one cut). By AI agents, Wed Nov 11 2026. No macro, syntax, notation, axiom, sorry.
-/
import Derived.Test.YtadmgiljchgccaaGreatChecked
import GoSem.Claim
import GoSem.ClaimJoined
import GoSem.ClaimMapViews
import Derived.JoinedTies
import Derived.KernelRfl
namespace Go.Proofs.YtadmgiljchgccaaGreat
/- THE CELL 'sum', in the pinned program and in every row, IS THE sha256 OF THE DUMP (.gsa) THAT YtadmgiljchgccaaGreatProg.lean LOADS. Nothing in Lean hashes anything: it is a label: what it is worth is what the hold of that sum in a sandbox is worth. -/
noncomputable def Tryz.pinned : Pinned := { name := "ytadmgiljchgccaagreat", sum := "d0ea1015d159bd4f942d33192fa175ee2bfbbbc5d04a686a7e50263a71a2254e", checked := Tryz.checked }
namespace Rows
def none {H : Type} : Left H := { results := [], args := [] }

/-- 'tenterlaw47.TrimNoLess': WHATEVER THE INPUT: true; the input reads as it did. -/
def trimNoLessSpec : ChangeSpec := { name := "trimNoLess", fn := fun _ => fun
  | [d1, d2] => { results := [.lit (.bool true)], args := [d1, d2] }
  | _ => none }
def trimNoLessRow : OpenClaim := { program := "ytadmgiljchgccaagreat", sum := "d0ea1015d159bd4f942d33192fa175ee2bfbbbc5d04a686a7e50263a71a2254e", func := "tenter/tenterlaw47.TrimNoLess", spec := "trimNoLess", inPlace := ["slices.overlaps[tenter/digraph.end]", "slices.overlaps[tenter/api.Order]"], unfollowed := true, recurses := true, plainKeys := false, apart := false }
def TrimNoLessSaid : Prop := trimNoLessRow.holds Tryz.pinned (OpenSpec.ofChange trimNoLessSpec)

/-- ITS FALSE NEIGHBOUR: 'it returns false'. Refute it at one input. -/
def trimNoLessWrong : ChangeSpec := { name := "trimNoLess", fn := fun _ => fun
  | [d1, d2] => { results := [.lit (.bool false)], args := [d1, d2] }
  | _ => none }
def TrimNoLessWrongFalsely : Prop := trimNoLessRow.holds Tryz.pinned (OpenSpec.ofChange trimNoLessWrong)

/-- 'tenterlaw47.TrimTells': WHATEVER THE INPUT: true; the input reads as it did. -/
def trimTellsSpec : ChangeSpec := { name := "trimTells", fn := fun _ => fun
  | [d1, d2, d3] => { results := [.lit (.bool true)], args := [d1, d2, d3] }
  | _ => none }
def trimTellsRow : OpenClaim := { program := "ytadmgiljchgccaagreat", sum := "d0ea1015d159bd4f942d33192fa175ee2bfbbbc5d04a686a7e50263a71a2254e", func := "tenter/tenterlaw47.TrimTells", spec := "trimTells", inPlace := ["slices.overlaps[tenter/digraph.end]", "slices.overlaps[tenter/api.Order]"], unfollowed := true, recurses := true, plainKeys := false, apart := false }
def TrimTellsSaid : Prop := trimTellsRow.holds Tryz.pinned (OpenSpec.ofChange trimTellsSpec)

/-- ITS FALSE NEIGHBOUR: 'it returns false'. Refute it at one input. -/
def trimTellsWrong : ChangeSpec := { name := "trimTells", fn := fun _ => fun
  | [d1, d2, d3] => { results := [.lit (.bool false)], args := [d1, d2, d3] }
  | _ => none }
def TrimTellsWrongFalsely : Prop := trimTellsRow.holds Tryz.pinned (OpenSpec.ofChange trimTellsWrong)

/-- 'tenterlaw47.TrimCore': WHATEVER THE INPUT: true; the input reads as it did. -/
def trimCoreSpec : ChangeSpec := { name := "trimCore", fn := fun _ => fun
  | [d1, d2] => { results := [.lit (.bool true)], args := [d1, d2] }
  | _ => none }
def trimCoreRow : OpenClaim := { program := "ytadmgiljchgccaagreat", sum := "d0ea1015d159bd4f942d33192fa175ee2bfbbbc5d04a686a7e50263a71a2254e", func := "tenter/tenterlaw47.TrimCore", spec := "trimCore", inPlace := ["slices.overlaps[tenter/digraph.end]", "slices.overlaps[tenter/api.Order]"], unfollowed := true, recurses := true, plainKeys := false, apart := false }
def TrimCoreSaid : Prop := trimCoreRow.holds Tryz.pinned (OpenSpec.ofChange trimCoreSpec)

/-- ITS FALSE NEIGHBOUR: 'it returns false'. Refute it at one input. -/
def trimCoreWrong : ChangeSpec := { name := "trimCore", fn := fun _ => fun
  | [d1, d2] => { results := [.lit (.bool false)], args := [d1, d2] }
  | _ => none }
def TrimCoreWrongFalsely : Prop := trimCoreRow.holds Tryz.pinned (OpenSpec.ofChange trimCoreWrong)

/- THE SECOND FORM. 'bulk': how many values and letters a reading holds, each counted each time it is reached (what is shared counts as often as it is met; a slice's spare places count too). A statement '..UptoSaid' is the law's where the arguments, and the package variables that the reading takes, are together of bulk at most 1048576: NARROWER than '..Said'. Prove '..Said' where nothing that the law and all that it calls make is longer than what came in: it says more and counts as full. Else prove '..UptoSaid'. A law counts once. -/
mutual
def uptoBulk {H : Type} : DataW H → Nat
  | .lit (.string bytes) => bytes.length + 1
  | .lit _ => 1
  | .nil => 1
  | .ptr d => uptoBulk d + 1
  | .slice elems spare => uptoBulkAll elems + uptoBulkAll spare + 1
  | .agg parts => uptoBulkAll parts + 1
  | .iface _ d => uptoBulk d + 1
  | .map entries => uptoBulkEntries entries + 1
  | .held _ => 1
def uptoBulkAll {H : Type} : List (DataW H) → Nat
  | [] => 0
  | d :: r => uptoBulk d + uptoBulkAll r
def uptoBulkEntries {H : Type} : List (Lit × DataW H) → Nat
  | [] => 0
  | x :: r => uptoBulkEntry x + uptoBulkEntries r
def uptoBulkEntry {H : Type} : Lit × DataW H → Nat
  | (.string bytes, d) => bytes.length + uptoBulk d + 1
  | (_, d) => uptoBulk d + 1
 end
def uptoSmall : (H : Type) → List (DataW H) → Bool := fun _ ds => decide (uptoBulkAll ds ≤ 1048576)
def OpenSpec.upto (s : _root_.Go.ChangeSpec) : _root_.Go.OpenSpec := { _root_.Go.OpenSpec.ofChange s with cond := some uptoSmall }

/-- 'tenterlaw47.TrimNoLess', WHERE WHAT IT READS IS OF BULK AT MOST 1048576: true; the input reads as it did. -/
def trimNoLessUptoRow : OpenClaim := { program := "ytadmgiljchgccaagreat", sum := "d0ea1015d159bd4f942d33192fa175ee2bfbbbc5d04a686a7e50263a71a2254e", func := "tenter/tenterlaw47.TrimNoLess", spec := "trimNoLess", inPlace := ["slices.overlaps[tenter/digraph.end]", "slices.overlaps[tenter/api.Order]"], unfollowed := true, recurses := true, plainKeys := false, apart := false, narrowed := true }
def TrimNoLessUptoSaid : Prop := trimNoLessUptoRow.holds Tryz.pinned (OpenSpec.upto trimNoLessSpec)

/-- 'tenterlaw47.TrimTells', WHERE WHAT IT READS IS OF BULK AT MOST 1048576: true; the input reads as it did. -/
def trimTellsUptoRow : OpenClaim := { program := "ytadmgiljchgccaagreat", sum := "d0ea1015d159bd4f942d33192fa175ee2bfbbbc5d04a686a7e50263a71a2254e", func := "tenter/tenterlaw47.TrimTells", spec := "trimTells", inPlace := ["slices.overlaps[tenter/digraph.end]", "slices.overlaps[tenter/api.Order]"], unfollowed := true, recurses := true, plainKeys := false, apart := false, narrowed := true }
def TrimTellsUptoSaid : Prop := trimTellsUptoRow.holds Tryz.pinned (OpenSpec.upto trimTellsSpec)

/-- 'tenterlaw47.TrimCore', WHERE WHAT IT READS IS OF BULK AT MOST 1048576: true; the input reads as it did. -/
def trimCoreUptoRow : OpenClaim := { program := "ytadmgiljchgccaagreat", sum := "d0ea1015d159bd4f942d33192fa175ee2bfbbbc5d04a686a7e50263a71a2254e", func := "tenter/tenterlaw47.TrimCore", spec := "trimCore", inPlace := ["slices.overlaps[tenter/digraph.end]", "slices.overlaps[tenter/api.Order]"], unfollowed := true, recurses := true, plainKeys := false, apart := false, narrowed := true }
def TrimCoreUptoSaid : Prop := trimCoreUptoRow.holds Tryz.pinned (OpenSpec.upto trimCoreSpec)

end Rows
end Go.Proofs.YtadmgiljchgccaaGreat
