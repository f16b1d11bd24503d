/-
  No cell of these rows narrows 'for every input' (looked for: loops, veiled, ifaces, maps, wideKeys, modest, calm, conditions, laid).
  DERIVED. THE GIVEN ROWS OF THIS SEAT. 6 by the template 'for every input the law returns true; each argument reads behind the call as it read before'; 0 by the template 'total and deterministic' (their statements: YtonblekdfinpkaaGreatTotals.lean).
  GIVEN WITH THE SEED: the statements are not yours to turn. If you find one false, say at which input.
  Laid BY PROGRAM, IN A SANDBOX (cutbox-rows.mjs): the forced cells as the released guide's own fill.sh prints them over the translation bef6475534ea6446… (all of the seat's roots in one cut). By AI agents, Wed Nov 11 2026. No macro, syntax, notation, axiom, sorry.
-/
import Derived.Test.YtonblekdfinpkaaGreatChecked
import GoSem.Claim
import GoSem.ClaimJoined
import GoSem.ClaimMapViews
import Derived.JoinedTies
import Derived.KernelRfl
namespace Go.Proofs.YtonblekdfinpkaaGreat
/- THE CELL 'sum', in the pinned program and in every row, IS THE sha256 OF THE DUMP (.gsa) THAT YtonblekdfinpkaaGreatProg.lean LOADS. Nothing in Lean hashes anything: it is a label: what it is worth is what the hold of that sum in a sandbox is worth. -/
noncomputable def Tryz.pinned : Pinned := { name := "ytonblekdfinpkaagreat", sum := "bef6475534ea64461a9b8fe6f04fdfea5636d93f3efea8fd7bb587bed8882bbf", checked := Tryz.checked }
namespace Rows
def none {H : Type} : Left H := { results := [], args := [] }

/-- 'tenterlaw31.WitnessParts': WHATEVER THE INPUT: true; the input reads as it did. -/
def witnessPartsSpec : ChangeSpec := { name := "witnessParts", fn := fun _ => fun
  | [d1, d2] => { results := [.lit (.bool true)], args := [d1, d2] }
  | _ => none }
def witnessPartsRow : OpenClaim := { program := "ytonblekdfinpkaagreat", sum := "bef6475534ea64461a9b8fe6f04fdfea5636d93f3efea8fd7bb587bed8882bbf", func := "tenter/tenterlaw31.WitnessParts", spec := "witnessParts", inPlace := ["slices.overlaps[tenter/digraph.end]", "internal/abi.NoEscape"], unfollowed := true, recurses := true, plainKeys := false, apart := false }
def WitnessPartsSaid : Prop := witnessPartsRow.holds Tryz.pinned (OpenSpec.ofChange witnessPartsSpec)

/-- ITS FALSE NEIGHBOUR: 'it returns false'. Refute it at one input. -/
def witnessPartsWrong : ChangeSpec := { name := "witnessParts", fn := fun _ => fun
  | [d1, d2] => { results := [.lit (.bool false)], args := [d1, d2] }
  | _ => none }
def WitnessPartsWrongFalsely : Prop := witnessPartsRow.holds Tryz.pinned (OpenSpec.ofChange witnessPartsWrong)

/-- 'tenterlaw31.WitnessThere': WHATEVER THE INPUT: true; the input reads as it did. -/
def witnessThereSpec : ChangeSpec := { name := "witnessThere", fn := fun _ => fun
  | [d1, d2, d3, d4] => { results := [.lit (.bool true)], args := [d1, d2, d3, d4] }
  | _ => none }
def witnessThereRow : OpenClaim := { program := "ytonblekdfinpkaagreat", sum := "bef6475534ea64461a9b8fe6f04fdfea5636d93f3efea8fd7bb587bed8882bbf", func := "tenter/tenterlaw31.WitnessThere", spec := "witnessThere", inPlace := ["slices.overlaps[tenter/digraph.end]", "internal/abi.NoEscape"], unfollowed := true, recurses := true, plainKeys := false, apart := false }
def WitnessThereSaid : Prop := witnessThereRow.holds Tryz.pinned (OpenSpec.ofChange witnessThereSpec)

/-- ITS FALSE NEIGHBOUR: 'it returns false'. Refute it at one input. -/
def witnessThereWrong : ChangeSpec := { name := "witnessThere", fn := fun _ => fun
  | [d1, d2, d3, d4] => { results := [.lit (.bool false)], args := [d1, d2, d3, d4] }
  | _ => none }
def WitnessThereWrongFalsely : Prop := witnessThereRow.holds Tryz.pinned (OpenSpec.ofChange witnessThereWrong)

/-- 'tenterlaw32.CheckProves': WHATEVER THE INPUT: true; the input reads as it did. -/
def checkProvesSpec : ChangeSpec := { name := "checkProves", fn := fun _ => fun
  | [d1, d2] => { results := [.lit (.bool true)], args := [d1, d2] }
  | _ => none }
def checkProvesRow : OpenClaim := { program := "ytonblekdfinpkaagreat", sum := "bef6475534ea64461a9b8fe6f04fdfea5636d93f3efea8fd7bb587bed8882bbf", func := "tenter/tenterlaw32.CheckProves", spec := "checkProves", inPlace := ["slices.overlaps[tenter/digraph.end]"], unfollowed := true, recurses := true, plainKeys := false, apart := false }
def CheckProvesSaid : Prop := checkProvesRow.holds Tryz.pinned (OpenSpec.ofChange checkProvesSpec)

/-- ITS FALSE NEIGHBOUR: 'it returns false'. Refute it at one input. -/
def checkProvesWrong : ChangeSpec := { name := "checkProves", fn := fun _ => fun
  | [d1, d2] => { results := [.lit (.bool false)], args := [d1, d2] }
  | _ => none }
def CheckProvesWrongFalsely : Prop := checkProvesRow.holds Tryz.pinned (OpenSpec.ofChange checkProvesWrong)

/-- 'tenterlaw45.SerialTells': WHATEVER THE INPUT: true; the input reads as it did. -/
def serialTellsSpec : ChangeSpec := { name := "serialTells", fn := fun _ => fun
  | [d1, d2] => { results := [.lit (.bool true)], args := [d1, d2] }
  | _ => none }
def serialTellsRow : OpenClaim := { program := "ytonblekdfinpkaagreat", sum := "bef6475534ea64461a9b8fe6f04fdfea5636d93f3efea8fd7bb587bed8882bbf", func := "tenter/tenterlaw45.SerialTells", spec := "serialTells", unfollowed := true, recurses := true, plainKeys := false, apart := false }
def SerialTellsSaid : Prop := serialTellsRow.holds Tryz.pinned (OpenSpec.ofChange serialTellsSpec)

/-- ITS FALSE NEIGHBOUR: 'it returns false'. Refute it at one input. -/
def serialTellsWrong : ChangeSpec := { name := "serialTells", fn := fun _ => fun
  | [d1, d2] => { results := [.lit (.bool false)], args := [d1, d2] }
  | _ => none }
def SerialTellsWrongFalsely : Prop := serialTellsRow.holds Tryz.pinned (OpenSpec.ofChange serialTellsWrong)

/-- 'tenterlaw45.SerialThree': WHATEVER THE INPUT: true; the input reads as it did. -/
def serialThreeSpec : ChangeSpec := { name := "serialThree", fn := fun _ => fun
  | [d] => { results := [.lit (.bool true)], args := [d] }
  | _ => none }
def serialThreeRow : OpenClaim := { program := "ytonblekdfinpkaagreat", sum := "bef6475534ea64461a9b8fe6f04fdfea5636d93f3efea8fd7bb587bed8882bbf", func := "tenter/tenterlaw45.SerialThree", spec := "serialThree", inPlace := ["slices.overlaps[tenter/digraph.end]"], unfollowed := true, recurses := true, plainKeys := false, apart := false }
def SerialThreeSaid : Prop := serialThreeRow.holds Tryz.pinned (OpenSpec.ofChange serialThreeSpec)

/-- ITS FALSE NEIGHBOUR: 'it returns false'. Refute it at one input. -/
def serialThreeWrong : ChangeSpec := { name := "serialThree", fn := fun _ => fun
  | [d] => { results := [.lit (.bool false)], args := [d] }
  | _ => none }
def SerialThreeWrongFalsely : Prop := serialThreeRow.holds Tryz.pinned (OpenSpec.ofChange serialThreeWrong)

/-- 'tenterlaw45.SerialAny': WHATEVER THE INPUT: true; the input reads as it did. -/
def serialAnySpec : ChangeSpec := { name := "serialAny", fn := fun _ => fun
  | [d1, d2] => { results := [.lit (.bool true)], args := [d1, d2] }
  | _ => none }
def serialAnyRow : OpenClaim := { program := "ytonblekdfinpkaagreat", sum := "bef6475534ea64461a9b8fe6f04fdfea5636d93f3efea8fd7bb587bed8882bbf", func := "tenter/tenterlaw45.SerialAny", spec := "serialAny", inPlace := ["slices.overlaps[tenter/digraph.end]"], unfollowed := true, recurses := true, plainKeys := false, apart := false }
def SerialAnySaid : Prop := serialAnyRow.holds Tryz.pinned (OpenSpec.ofChange serialAnySpec)

/-- ITS FALSE NEIGHBOUR: 'it returns false'. Refute it at one input. -/
def serialAnyWrong : ChangeSpec := { name := "serialAny", fn := fun _ => fun
  | [d1, d2] => { results := [.lit (.bool false)], args := [d1, d2] }
  | _ => none }
def SerialAnyWrongFalsely : Prop := serialAnyRow.holds Tryz.pinned (OpenSpec.ofChange serialAnyWrong)

/- THE SECOND FORM. 'bulk': how many values and letters a reading holds, each counted each time it is reached (what is shared counts as often as it is met; a slice's spare places count too). A statement '..UptoSaid' is the law's where the arguments, and the package variables that the reading takes, are together of bulk at most 1048576: NARROWER than '..Said'. Prove '..Said' where nothing that the law and all that it calls make is longer than what came in: it says more and counts as full. Else prove '..UptoSaid'. A law counts once. -/
mutual
def uptoBulk {H : Type} : DataW H → Nat
  | .lit (.string bytes) => bytes.length + 1
  | .lit _ => 1
  | .nil => 1
  | .ptr d => uptoBulk d + 1
  | .slice elems spare => uptoBulkAll elems + uptoBulkAll spare + 1
  | .agg parts => uptoBulkAll parts + 1
  | .iface _ d => uptoBulk d + 1
  | .map entries => uptoBulkEntries entries + 1
  | .held _ => 1
def uptoBulkAll {H : Type} : List (DataW H) → Nat
  | [] => 0
  | d :: r => uptoBulk d + uptoBulkAll r
def uptoBulkEntries {H : Type} : List (Lit × DataW H) → Nat
  | [] => 0
  | x :: r => uptoBulkEntry x + uptoBulkEntries r
def uptoBulkEntry {H : Type} : Lit × DataW H → Nat
  | (.string bytes, d) => bytes.length + uptoBulk d + 1
  | (_, d) => uptoBulk d + 1
 end
def uptoSmall : (H : Type) → List (DataW H) → Bool := fun _ ds => decide (uptoBulkAll ds ≤ 1048576)
def OpenSpec.upto (s : _root_.Go.ChangeSpec) : _root_.Go.OpenSpec := { _root_.Go.OpenSpec.ofChange s with cond := some uptoSmall }

/-- 'tenterlaw31.WitnessParts', WHERE WHAT IT READS IS OF BULK AT MOST 1048576: true; the input reads as it did. -/
def witnessPartsUptoRow : OpenClaim := { program := "ytonblekdfinpkaagreat", sum := "bef6475534ea64461a9b8fe6f04fdfea5636d93f3efea8fd7bb587bed8882bbf", func := "tenter/tenterlaw31.WitnessParts", spec := "witnessParts", inPlace := ["slices.overlaps[tenter/digraph.end]", "internal/abi.NoEscape"], unfollowed := true, recurses := true, plainKeys := false, apart := false, narrowed := true }
def WitnessPartsUptoSaid : Prop := witnessPartsUptoRow.holds Tryz.pinned (OpenSpec.upto witnessPartsSpec)

/-- 'tenterlaw31.WitnessThere', WHERE WHAT IT READS IS OF BULK AT MOST 1048576: true; the input reads as it did. -/
def witnessThereUptoRow : OpenClaim := { program := "ytonblekdfinpkaagreat", sum := "bef6475534ea64461a9b8fe6f04fdfea5636d93f3efea8fd7bb587bed8882bbf", func := "tenter/tenterlaw31.WitnessThere", spec := "witnessThere", inPlace := ["slices.overlaps[tenter/digraph.end]", "internal/abi.NoEscape"], unfollowed := true, recurses := true, plainKeys := false, apart := false, narrowed := true }
def WitnessThereUptoSaid : Prop := witnessThereUptoRow.holds Tryz.pinned (OpenSpec.upto witnessThereSpec)

/-- 'tenterlaw32.CheckProves', WHERE WHAT IT READS IS OF BULK AT MOST 1048576: true; the input reads as it did. -/
def checkProvesUptoRow : OpenClaim := { program := "ytonblekdfinpkaagreat", sum := "bef6475534ea64461a9b8fe6f04fdfea5636d93f3efea8fd7bb587bed8882bbf", func := "tenter/tenterlaw32.CheckProves", spec := "checkProves", inPlace := ["slices.overlaps[tenter/digraph.end]"], unfollowed := true, recurses := true, plainKeys := false, apart := false, narrowed := true }
def CheckProvesUptoSaid : Prop := checkProvesUptoRow.holds Tryz.pinned (OpenSpec.upto checkProvesSpec)

/-- 'tenterlaw45.SerialTells', WHERE WHAT IT READS IS OF BULK AT MOST 1048576: true; the input reads as it did. -/
def serialTellsUptoRow : OpenClaim := { program := "ytonblekdfinpkaagreat", sum := "bef6475534ea64461a9b8fe6f04fdfea5636d93f3efea8fd7bb587bed8882bbf", func := "tenter/tenterlaw45.SerialTells", spec := "serialTells", unfollowed := true, recurses := true, plainKeys := false, apart := false, narrowed := true }
def SerialTellsUptoSaid : Prop := serialTellsUptoRow.holds Tryz.pinned (OpenSpec.upto serialTellsSpec)

/-- 'tenterlaw45.SerialThree', WHERE WHAT IT READS IS OF BULK AT MOST 1048576: true; the input reads as it did. -/
def serialThreeUptoRow : OpenClaim := { program := "ytonblekdfinpkaagreat", sum := "bef6475534ea64461a9b8fe6f04fdfea5636d93f3efea8fd7bb587bed8882bbf", func := "tenter/tenterlaw45.SerialThree", spec := "serialThree", inPlace := ["slices.overlaps[tenter/digraph.end]"], unfollowed := true, recurses := true, plainKeys := false, apart := false, narrowed := true }
def SerialThreeUptoSaid : Prop := serialThreeUptoRow.holds Tryz.pinned (OpenSpec.upto serialThreeSpec)

/-- 'tenterlaw45.SerialAny', WHERE WHAT IT READS IS OF BULK AT MOST 1048576: true; the input reads as it did. -/
def serialAnyUptoRow : OpenClaim := { program := "ytonblekdfinpkaagreat", sum := "bef6475534ea64461a9b8fe6f04fdfea5636d93f3efea8fd7bb587bed8882bbf", func := "tenter/tenterlaw45.SerialAny", spec := "serialAny", inPlace := ["slices.overlaps[tenter/digraph.end]"], unfollowed := true, recurses := true, plainKeys := false, apart := false, narrowed := true }
def SerialAnyUptoSaid : Prop := serialAnyUptoRow.holds Tryz.pinned (OpenSpec.upto serialAnySpec)

end Rows
end Go.Proofs.YtonblekdfinpkaaGreat
