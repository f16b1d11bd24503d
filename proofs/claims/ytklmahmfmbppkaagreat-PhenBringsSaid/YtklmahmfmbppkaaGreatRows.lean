/-
  No cell of these rows narrows 'for every input' (looked for: loops, veiled, ifaces, maps, wideKeys, modest, calm, conditions, laid).
  DERIVED. THE GIVEN ROWS OF THIS SEAT. 5 by the template 'for every input the law returns true; each argument reads behind the call as it read before'; 0 by the template 'total and deterministic' (their statements: YtklmahmfmbppkaaGreatTotals.lean).
  GIVEN WITH THE SEED: the statements are not yours to turn. If you find one false, say at which input.
  Laid BY PROGRAM, IN A SANDBOX (cutbox-rows.mjs): the forced cells as the released guide's own fill.sh prints them over the translation 7b17f97a15ed6719… (all of the seat's roots in one cut). By AI agents, Wed Nov 11 2026. No macro, syntax, notation, axiom, sorry.
-/
import Derived.Test.YtklmahmfmbppkaaGreatChecked
import GoSem.Claim
import GoSem.ClaimJoined
import GoSem.ClaimMapViews
import Derived.JoinedTies
import Derived.KernelRfl
namespace Go.Proofs.YtklmahmfmbppkaaGreat
/- THE CELL 'sum', in the pinned program and in every row, IS THE sha256 OF THE DUMP (.gsa) THAT YtklmahmfmbppkaaGreatProg.lean LOADS. Nothing in Lean hashes anything: it is a label: what it is worth is what the hold of that sum in a sandbox is worth. -/
noncomputable def Tryz.pinned : Pinned := { name := "ytklmahmfmbppkaagreat", sum := "7b17f97a15ed671990883c266e9a0d2f8a2c8443570fc85781a850fc7d439048", checked := Tryz.checked }
namespace Rows
def none {H : Type} : Left H := { results := [], args := [] }

/-- 'tenterlaw30.PhenTells': WHATEVER THE INPUT: true; the input reads as it did. -/
def phenTellsSpec : ChangeSpec := { name := "phenTells", fn := fun _ => fun
  | [d1, d2, d3, d4, d5] => { results := [.lit (.bool true)], args := [d1, d2, d3, d4, d5] }
  | _ => none }
def phenTellsRow : OpenClaim := { program := "ytklmahmfmbppkaagreat", sum := "7b17f97a15ed671990883c266e9a0d2f8a2c8443570fc85781a850fc7d439048", func := "tenter/tenterlaw30.PhenTells", spec := "phenTells", inPlace := ["slices.overlaps[tenter/digraph.end]"], unfollowed := true, recurses := true, plainKeys := false, apart := false }
def PhenTellsSaid : Prop := phenTellsRow.holds Tryz.pinned (OpenSpec.ofChange phenTellsSpec)

/-- ITS FALSE NEIGHBOUR: 'it returns false'. Refute it at one input. -/
def phenTellsWrong : ChangeSpec := { name := "phenTells", fn := fun _ => fun
  | [d1, d2, d3, d4, d5] => { results := [.lit (.bool false)], args := [d1, d2, d3, d4, d5] }
  | _ => none }
def PhenTellsWrongFalsely : Prop := phenTellsRow.holds Tryz.pinned (OpenSpec.ofChange phenTellsWrong)

/-- 'tenterlaw30.PhenBrings': WHATEVER THE INPUT: true; the input reads as it did. -/
def phenBringsSpec : ChangeSpec := { name := "phenBrings", fn := fun _ => fun
  | [d] => { results := [.lit (.bool true)], args := [d] }
  | _ => none }
def phenBringsRow : OpenClaim := { program := "ytklmahmfmbppkaagreat", sum := "7b17f97a15ed671990883c266e9a0d2f8a2c8443570fc85781a850fc7d439048", func := "tenter/tenterlaw30.PhenBrings", spec := "phenBrings", inPlace := ["slices.overlaps[tenter/digraph.end]"], unfollowed := true, recurses := true, plainKeys := false, apart := false }
def PhenBringsSaid : Prop := phenBringsRow.holds Tryz.pinned (OpenSpec.ofChange phenBringsSpec)

/-- ITS FALSE NEIGHBOUR: 'it returns false'. Refute it at one input. -/
def phenBringsWrong : ChangeSpec := { name := "phenBrings", fn := fun _ => fun
  | [d] => { results := [.lit (.bool false)], args := [d] }
  | _ => none }
def PhenBringsWrongFalsely : Prop := phenBringsRow.holds Tryz.pinned (OpenSpec.ofChange phenBringsWrong)

/-- 'tenterlaw30.PhenFinds': WHATEVER THE INPUT: true; the input reads as it did. -/
def phenFindsSpec : ChangeSpec := { name := "phenFinds", fn := fun _ => fun
  | [d1, d2, d3] => { results := [.lit (.bool true)], args := [d1, d2, d3] }
  | _ => none }
def phenFindsRow : OpenClaim := { program := "ytklmahmfmbppkaagreat", sum := "7b17f97a15ed671990883c266e9a0d2f8a2c8443570fc85781a850fc7d439048", func := "tenter/tenterlaw30.PhenFinds", spec := "phenFinds", inPlace := ["slices.overlaps[tenter/digraph.end]"], unfollowed := true, recurses := true, plainKeys := false, apart := false }
def PhenFindsSaid : Prop := phenFindsRow.holds Tryz.pinned (OpenSpec.ofChange phenFindsSpec)

/-- ITS FALSE NEIGHBOUR: 'it returns false'. Refute it at one input. -/
def phenFindsWrong : ChangeSpec := { name := "phenFinds", fn := fun _ => fun
  | [d1, d2, d3] => { results := [.lit (.bool false)], args := [d1, d2, d3] }
  | _ => none }
def PhenFindsWrongFalsely : Prop := phenFindsRow.holds Tryz.pinned (OpenSpec.ofChange phenFindsWrong)

/-- 'tenterlaw33.LevelTells': WHATEVER THE INPUT: true; the input reads as it did. -/
def levelTellsSpec : ChangeSpec := { name := "levelTells", fn := fun _ => fun
  | [d1, d2, d3, d4, d5] => { results := [.lit (.bool true)], args := [d1, d2, d3, d4, d5] }
  | _ => none }
def levelTellsRow : OpenClaim := { program := "ytklmahmfmbppkaagreat", sum := "7b17f97a15ed671990883c266e9a0d2f8a2c8443570fc85781a850fc7d439048", func := "tenter/tenterlaw33.LevelTells", spec := "levelTells", inPlace := ["slices.overlaps[tenter/digraph.end]"], unfollowed := true, recurses := true, plainKeys := false, apart := false }
def LevelTellsSaid : Prop := levelTellsRow.holds Tryz.pinned (OpenSpec.ofChange levelTellsSpec)

/-- ITS FALSE NEIGHBOUR: 'it returns false'. Refute it at one input. -/
def levelTellsWrong : ChangeSpec := { name := "levelTells", fn := fun _ => fun
  | [d1, d2, d3, d4, d5] => { results := [.lit (.bool false)], args := [d1, d2, d3, d4, d5] }
  | _ => none }
def LevelTellsWrongFalsely : Prop := levelTellsRow.holds Tryz.pinned (OpenSpec.ofChange levelTellsWrong)

/-- 'tenterlaw33.LevelRows': WHATEVER THE INPUT: true; the input reads as it did. -/
def levelRowsSpec : ChangeSpec := { name := "levelRows", fn := fun _ => fun
  | [d1, d2, d3, d4] => { results := [.lit (.bool true)], args := [d1, d2, d3, d4] }
  | _ => none }
def levelRowsRow : OpenClaim := { program := "ytklmahmfmbppkaagreat", sum := "7b17f97a15ed671990883c266e9a0d2f8a2c8443570fc85781a850fc7d439048", func := "tenter/tenterlaw33.LevelRows", spec := "levelRows", inPlace := ["slices.overlaps[tenter/digraph.end]"], unfollowed := true, recurses := true, plainKeys := false, apart := false }
def LevelRowsSaid : Prop := levelRowsRow.holds Tryz.pinned (OpenSpec.ofChange levelRowsSpec)

/-- ITS FALSE NEIGHBOUR: 'it returns false'. Refute it at one input. -/
def levelRowsWrong : ChangeSpec := { name := "levelRows", fn := fun _ => fun
  | [d1, d2, d3, d4] => { results := [.lit (.bool false)], args := [d1, d2, d3, d4] }
  | _ => none }
def LevelRowsWrongFalsely : Prop := levelRowsRow.holds Tryz.pinned (OpenSpec.ofChange levelRowsWrong)

/- THE SECOND FORM. 'bulk': how many values and letters a reading holds, each counted each time it is reached (what is shared counts as often as it is met; a slice's spare places count too). A statement '..UptoSaid' is the law's where the arguments, and the package variables that the reading takes, are together of bulk at most 1048576: NARROWER than '..Said'. Prove '..Said' where nothing that the law and all that it calls make is longer than what came in: it says more and counts as full. Else prove '..UptoSaid'. A law counts once. -/
mutual
def uptoBulk {H : Type} : DataW H → Nat
  | .lit (.string bytes) => bytes.length + 1
  | .lit _ => 1
  | .nil => 1
  | .ptr d => uptoBulk d + 1
  | .slice elems spare => uptoBulkAll elems + uptoBulkAll spare + 1
  | .agg parts => uptoBulkAll parts + 1
  | .iface _ d => uptoBulk d + 1
  | .map entries => uptoBulkEntries entries + 1
  | .held _ => 1
def uptoBulkAll {H : Type} : List (DataW H) → Nat
  | [] => 0
  | d :: r => uptoBulk d + uptoBulkAll r
def uptoBulkEntries {H : Type} : List (Lit × DataW H) → Nat
  | [] => 0
  | x :: r => uptoBulkEntry x + uptoBulkEntries r
def uptoBulkEntry {H : Type} : Lit × DataW H → Nat
  | (.string bytes, d) => bytes.length + uptoBulk d + 1
  | (_, d) => uptoBulk d + 1
 end
def uptoSmall : (H : Type) → List (DataW H) → Bool := fun _ ds => decide (uptoBulkAll ds ≤ 1048576)
def OpenSpec.upto (s : _root_.Go.ChangeSpec) : _root_.Go.OpenSpec := { _root_.Go.OpenSpec.ofChange s with cond := some uptoSmall }

/-- 'tenterlaw30.PhenTells', WHERE WHAT IT READS IS OF BULK AT MOST 1048576: true; the input reads as it did. -/
def phenTellsUptoRow : OpenClaim := { program := "ytklmahmfmbppkaagreat", sum := "7b17f97a15ed671990883c266e9a0d2f8a2c8443570fc85781a850fc7d439048", func := "tenter/tenterlaw30.PhenTells", spec := "phenTells", inPlace := ["slices.overlaps[tenter/digraph.end]"], unfollowed := true, recurses := true, plainKeys := false, apart := false, narrowed := true }
def PhenTellsUptoSaid : Prop := phenTellsUptoRow.holds Tryz.pinned (OpenSpec.upto phenTellsSpec)

/-- 'tenterlaw30.PhenBrings', WHERE WHAT IT READS IS OF BULK AT MOST 1048576: true; the input reads as it did. -/
def phenBringsUptoRow : OpenClaim := { program := "ytklmahmfmbppkaagreat", sum := "7b17f97a15ed671990883c266e9a0d2f8a2c8443570fc85781a850fc7d439048", func := "tenter/tenterlaw30.PhenBrings", spec := "phenBrings", inPlace := ["slices.overlaps[tenter/digraph.end]"], unfollowed := true, recurses := true, plainKeys := false, apart := false, narrowed := true }
def PhenBringsUptoSaid : Prop := phenBringsUptoRow.holds Tryz.pinned (OpenSpec.upto phenBringsSpec)

/-- 'tenterlaw30.PhenFinds', WHERE WHAT IT READS IS OF BULK AT MOST 1048576: true; the input reads as it did. -/
def phenFindsUptoRow : OpenClaim := { program := "ytklmahmfmbppkaagreat", sum := "7b17f97a15ed671990883c266e9a0d2f8a2c8443570fc85781a850fc7d439048", func := "tenter/tenterlaw30.PhenFinds", spec := "phenFinds", inPlace := ["slices.overlaps[tenter/digraph.end]"], unfollowed := true, recurses := true, plainKeys := false, apart := false, narrowed := true }
def PhenFindsUptoSaid : Prop := phenFindsUptoRow.holds Tryz.pinned (OpenSpec.upto phenFindsSpec)

/-- 'tenterlaw33.LevelTells', WHERE WHAT IT READS IS OF BULK AT MOST 1048576: true; the input reads as it did. -/
def levelTellsUptoRow : OpenClaim := { program := "ytklmahmfmbppkaagreat", sum := "7b17f97a15ed671990883c266e9a0d2f8a2c8443570fc85781a850fc7d439048", func := "tenter/tenterlaw33.LevelTells", spec := "levelTells", inPlace := ["slices.overlaps[tenter/digraph.end]"], unfollowed := true, recurses := true, plainKeys := false, apart := false, narrowed := true }
def LevelTellsUptoSaid : Prop := levelTellsUptoRow.holds Tryz.pinned (OpenSpec.upto levelTellsSpec)

/-- 'tenterlaw33.LevelRows', WHERE WHAT IT READS IS OF BULK AT MOST 1048576: true; the input reads as it did. -/
def levelRowsUptoRow : OpenClaim := { program := "ytklmahmfmbppkaagreat", sum := "7b17f97a15ed671990883c266e9a0d2f8a2c8443570fc85781a850fc7d439048", func := "tenter/tenterlaw33.LevelRows", spec := "levelRows", inPlace := ["slices.overlaps[tenter/digraph.end]"], unfollowed := true, recurses := true, plainKeys := false, apart := false, narrowed := true }
def LevelRowsUptoSaid : Prop := levelRowsUptoRow.holds Tryz.pinned (OpenSpec.upto levelRowsSpec)

end Rows
end Go.Proofs.YtklmahmfmbppkaaGreat
