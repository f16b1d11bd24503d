/-
  No cell of these rows narrows 'for every input' (looked for: loops, veiled, ifaces, maps, wideKeys, modest, calm, conditions, laid).
  DERIVED. THE GIVEN ROWS OF THIS SEAT. 4 by the template 'for every input the law returns true; each argument reads behind the call as it read before'; 0 by the template 'total and deterministic' (their statements: YtaicemjckagcaaaGreatTotals.lean).
  GIVEN WITH THE SEED: the statements are not yours to turn. If you find one false, say at which input.
  Laid BY PROGRAM, IN A SANDBOX (cutbox-rows.mjs): the forced cells as the released guide's own fill.sh prints them over the translation bf9f1b16d258b358… (all of the seat's roots in one cut). By AI agents, Wed Nov 11 2026. No macro, syntax, notation, axiom, sorry.
-/
import Derived.Test.YtaicemjckagcaaaGreatChecked
import GoSem.Claim
import GoSem.ClaimJoined
import GoSem.ClaimMapViews
import Derived.JoinedTies
import Derived.KernelRfl
namespace Go.Proofs.YtaicemjckagcaaaGreat
/- THE CELL 'sum', in the pinned program and in every row, IS THE sha256 OF THE DUMP (.gsa) THAT YtaicemjckagcaaaGreatProg.lean LOADS. Nothing in Lean hashes anything: it is a label: what it is worth is what the hold of that sum in a sandbox is worth. -/
noncomputable def Tryz.pinned : Pinned := { name := "ytaicemjckagcaaagreat", sum := "bf9f1b16d258b35815d505ec02c75c3bcbe1128e3254c3d56be756988569560c", checked := Tryz.checked }
namespace Rows
def none {H : Type} : Left H := { results := [], args := [] }

/-- 'tenterlaw16.DsgTells': WHATEVER THE INPUT: true; the input reads as it did. -/
def dsgTellsSpec : ChangeSpec := { name := "dsgTells", fn := fun _ => fun
  | [d1, d2, d3] => { results := [.lit (.bool true)], args := [d1, d2, d3] }
  | _ => none }
def dsgTellsRow : OpenClaim := { program := "ytaicemjckagcaaagreat", sum := "bf9f1b16d258b35815d505ec02c75c3bcbe1128e3254c3d56be756988569560c", func := "tenter/tenterlaw16.DsgTells", spec := "dsgTells", unfollowed := true, recurses := true, plainKeys := false, apart := false }
def DsgTellsSaid : Prop := dsgTellsRow.holds Tryz.pinned (OpenSpec.ofChange dsgTellsSpec)

/-- ITS FALSE NEIGHBOUR: 'it returns false'. Refute it at one input. -/
def dsgTellsWrong : ChangeSpec := { name := "dsgTells", fn := fun _ => fun
  | [d1, d2, d3] => { results := [.lit (.bool false)], args := [d1, d2, d3] }
  | _ => none }
def DsgTellsWrongFalsely : Prop := dsgTellsRow.holds Tryz.pinned (OpenSpec.ofChange dsgTellsWrong)

/-- 'tenterlaw13.IndexPlays': WHATEVER THE INPUT: true; the input reads as it did. -/
def indexPlaysSpec : ChangeSpec := { name := "indexPlays", fn := fun _ => fun
  | [d1, d2, d3, d4] => { results := [.lit (.bool true)], args := [d1, d2, d3, d4] }
  | _ => none }
def indexPlaysRow : OpenClaim := { program := "ytaicemjckagcaaagreat", sum := "bf9f1b16d258b35815d505ec02c75c3bcbe1128e3254c3d56be756988569560c", func := "tenter/tenterlaw13.IndexPlays", spec := "indexPlays", inPlace := ["slices.overlaps[int]"], unfollowed := true, recurses := true, plainKeys := false, apart := false }
def IndexPlaysSaid : Prop := indexPlaysRow.holds Tryz.pinned (OpenSpec.ofChange indexPlaysSpec)

/-- ITS FALSE NEIGHBOUR: 'it returns false'. Refute it at one input. -/
def indexPlaysWrong : ChangeSpec := { name := "indexPlays", fn := fun _ => fun
  | [d1, d2, d3, d4] => { results := [.lit (.bool false)], args := [d1, d2, d3, d4] }
  | _ => none }
def IndexPlaysWrongFalsely : Prop := indexPlaysRow.holds Tryz.pinned (OpenSpec.ofChange indexPlaysWrong)

/-- 'tenterlaw19.DeriveTells': WHATEVER THE INPUT: true; the input reads as it did. -/
def deriveTellsSpec : ChangeSpec := { name := "deriveTells", fn := fun _ => fun
  | [d1, d2, d3] => { results := [.lit (.bool true)], args := [d1, d2, d3] }
  | _ => none }
def deriveTellsRow : OpenClaim := { program := "ytaicemjckagcaaagreat", sum := "bf9f1b16d258b35815d505ec02c75c3bcbe1128e3254c3d56be756988569560c", func := "tenter/tenterlaw19.DeriveTells", spec := "deriveTells", unfollowed := true, recurses := true, plainKeys := false, apart := false }
def DeriveTellsSaid : Prop := deriveTellsRow.holds Tryz.pinned (OpenSpec.ofChange deriveTellsSpec)

/-- ITS FALSE NEIGHBOUR: 'it returns false'. Refute it at one input. -/
def deriveTellsWrong : ChangeSpec := { name := "deriveTells", fn := fun _ => fun
  | [d1, d2, d3] => { results := [.lit (.bool false)], args := [d1, d2, d3] }
  | _ => none }
def DeriveTellsWrongFalsely : Prop := deriveTellsRow.holds Tryz.pinned (OpenSpec.ofChange deriveTellsWrong)

/-- 'tenterlaw19.DeriveTouched': WHATEVER THE INPUT: true; the input reads as it did. -/
def deriveTouchedSpec : ChangeSpec := { name := "deriveTouched", fn := fun _ => fun
  | [d1, d2] => { results := [.lit (.bool true)], args := [d1, d2] }
  | _ => none }
def deriveTouchedRow : OpenClaim := { program := "ytaicemjckagcaaagreat", sum := "bf9f1b16d258b35815d505ec02c75c3bcbe1128e3254c3d56be756988569560c", func := "tenter/tenterlaw19.DeriveTouched", spec := "deriveTouched", unfollowed := true, recurses := true, plainKeys := false, apart := false }
def DeriveTouchedSaid : Prop := deriveTouchedRow.holds Tryz.pinned (OpenSpec.ofChange deriveTouchedSpec)

/-- ITS FALSE NEIGHBOUR: 'it returns false'. Refute it at one input. -/
def deriveTouchedWrong : ChangeSpec := { name := "deriveTouched", fn := fun _ => fun
  | [d1, d2] => { results := [.lit (.bool false)], args := [d1, d2] }
  | _ => none }
def DeriveTouchedWrongFalsely : Prop := deriveTouchedRow.holds Tryz.pinned (OpenSpec.ofChange deriveTouchedWrong)

/- THE SECOND FORM. 'bulk': how many values and letters a reading holds, each counted each time it is reached (what is shared counts as often as it is met; a slice's spare places count too). A statement '..UptoSaid' is the law's where the arguments, and the package variables that the reading takes, are together of bulk at most 1048576: NARROWER than '..Said'. Prove '..Said' where nothing that the law and all that it calls make is longer than what came in: it says more and counts as full. Else prove '..UptoSaid'. A law counts once. -/
mutual
def uptoBulk {H : Type} : DataW H → Nat
  | .lit (.string bytes) => bytes.length + 1
  | .lit _ => 1
  | .nil => 1
  | .ptr d => uptoBulk d + 1
  | .slice elems spare => uptoBulkAll elems + uptoBulkAll spare + 1
  | .agg parts => uptoBulkAll parts + 1
  | .iface _ d => uptoBulk d + 1
  | .map entries => uptoBulkEntries entries + 1
  | .held _ => 1
def uptoBulkAll {H : Type} : List (DataW H) → Nat
  | [] => 0
  | d :: r => uptoBulk d + uptoBulkAll r
def uptoBulkEntries {H : Type} : List (Lit × DataW H) → Nat
  | [] => 0
  | x :: r => uptoBulkEntry x + uptoBulkEntries r
def uptoBulkEntry {H : Type} : Lit × DataW H → Nat
  | (.string bytes, d) => bytes.length + uptoBulk d + 1
  | (_, d) => uptoBulk d + 1
 end
def uptoSmall : (H : Type) → List (DataW H) → Bool := fun _ ds => decide (uptoBulkAll ds ≤ 1048576)
def OpenSpec.upto (s : _root_.Go.ChangeSpec) : _root_.Go.OpenSpec := { _root_.Go.OpenSpec.ofChange s with cond := some uptoSmall }

/-- 'tenterlaw16.DsgTells', WHERE WHAT IT READS IS OF BULK AT MOST 1048576: true; the input reads as it did. -/
def dsgTellsUptoRow : OpenClaim := { program := "ytaicemjckagcaaagreat", sum := "bf9f1b16d258b35815d505ec02c75c3bcbe1128e3254c3d56be756988569560c", func := "tenter/tenterlaw16.DsgTells", spec := "dsgTells", unfollowed := true, recurses := true, plainKeys := false, apart := false, narrowed := true }
def DsgTellsUptoSaid : Prop := dsgTellsUptoRow.holds Tryz.pinned (OpenSpec.upto dsgTellsSpec)

/-- 'tenterlaw13.IndexPlays', WHERE WHAT IT READS IS OF BULK AT MOST 1048576: true; the input reads as it did. -/
def indexPlaysUptoRow : OpenClaim := { program := "ytaicemjckagcaaagreat", sum := "bf9f1b16d258b35815d505ec02c75c3bcbe1128e3254c3d56be756988569560c", func := "tenter/tenterlaw13.IndexPlays", spec := "indexPlays", inPlace := ["slices.overlaps[int]"], unfollowed := true, recurses := true, plainKeys := false, apart := false, narrowed := true }
def IndexPlaysUptoSaid : Prop := indexPlaysUptoRow.holds Tryz.pinned (OpenSpec.upto indexPlaysSpec)

/-- 'tenterlaw19.DeriveTells', WHERE WHAT IT READS IS OF BULK AT MOST 1048576: true; the input reads as it did. -/
def deriveTellsUptoRow : OpenClaim := { program := "ytaicemjckagcaaagreat", sum := "bf9f1b16d258b35815d505ec02c75c3bcbe1128e3254c3d56be756988569560c", func := "tenter/tenterlaw19.DeriveTells", spec := "deriveTells", unfollowed := true, recurses := true, plainKeys := false, apart := false, narrowed := true }
def DeriveTellsUptoSaid : Prop := deriveTellsUptoRow.holds Tryz.pinned (OpenSpec.upto deriveTellsSpec)

/-- 'tenterlaw19.DeriveTouched', WHERE WHAT IT READS IS OF BULK AT MOST 1048576: true; the input reads as it did. -/
def deriveTouchedUptoRow : OpenClaim := { program := "ytaicemjckagcaaagreat", sum := "bf9f1b16d258b35815d505ec02c75c3bcbe1128e3254c3d56be756988569560c", func := "tenter/tenterlaw19.DeriveTouched", spec := "deriveTouched", unfollowed := true, recurses := true, plainKeys := false, apart := false, narrowed := true }
def DeriveTouchedUptoSaid : Prop := deriveTouchedUptoRow.holds Tryz.pinned (OpenSpec.upto deriveTouchedSpec)

end Rows
end Go.Proofs.YtaicemjckagcaaaGreat
