/-
  No cell of these rows narrows 'for every input' (looked for: loops, veiled, ifaces, maps, wideKeys, modest, calm, conditions, laid).
  DERIVED. THE GIVEN ROWS OF THIS SEAT. 5 by the template 'for every input the law returns true; each argument reads behind the call as it read before'; 0 by the template 'total and deterministic' (their statements: YtblplapkdmhikaaGreatTotals.lean).
  GIVEN WITH THE SEED: the statements are not yours to turn. If you find one false, say at which input.
  Laid BY PROGRAM, IN A SANDBOX (cutbox-rows.mjs): the forced cells as the released guide's own fill.sh prints them over the translation 6e4c3d62879b1937… (all of the seat's roots in one cut). By AI agents, Wed Nov 11 2026. No macro, syntax, notation, axiom, sorry.
-/
import Derived.Test.YtblplapkdmhikaaGreatChecked
import GoSem.Claim
import GoSem.ClaimJoined
import GoSem.ClaimMapViews
import Derived.JoinedTies
import Derived.KernelRfl
namespace Go.Proofs.YtblplapkdmhikaaGreat
/- THE CELL 'sum', in the pinned program and in every row, IS THE sha256 OF THE DUMP (.gsa) THAT YtblplapkdmhikaaGreatProg.lean LOADS. Nothing in Lean hashes anything: it is a label: what it is worth is what the hold of that sum in a sandbox is worth. -/
noncomputable def Tryz.pinned : Pinned := { name := "ytblplapkdmhikaagreat", sum := "6e4c3d62879b19373dd2219934a03f45e73146cce8afc295bd8ba2540e844243", checked := Tryz.checked }
namespace Rows
def none {H : Type} : Left H := { results := [], args := [] }

/-- 'tenterlaw41.RenderApart': WHATEVER THE INPUT: true; the input reads as it did. -/
def renderApartSpec : ChangeSpec := { name := "renderApart", fn := fun _ => fun
  | [d1, d2, d3, d4, d5, d6] => { results := [.lit (.bool true)], args := [d1, d2, d3, d4, d5, d6] }
  | _ => none }
def renderApartRow : OpenClaim := { program := "ytblplapkdmhikaagreat", sum := "6e4c3d62879b19373dd2219934a03f45e73146cce8afc295bd8ba2540e844243", func := "tenter/tenterlaw41.RenderApart", spec := "renderApart", inPlace := ["internal/abi.NoEscape", "internal/bytealg.MakeNoZero", "slices.overlaps[tenter/digraph.end]"], unfollowed := true, recurses := true, plainKeys := false, apart := false }
def RenderApartSaid : Prop := renderApartRow.holds Tryz.pinned (OpenSpec.ofChange renderApartSpec)

/-- ITS FALSE NEIGHBOUR: 'it returns false'. Refute it at one input. -/
def renderApartWrong : ChangeSpec := { name := "renderApart", fn := fun _ => fun
  | [d1, d2, d3, d4, d5, d6] => { results := [.lit (.bool false)], args := [d1, d2, d3, d4, d5, d6] }
  | _ => none }
def RenderApartWrongFalsely : Prop := renderApartRow.holds Tryz.pinned (OpenSpec.ofChange renderApartWrong)

/-- 'tenterlaw19.DeriveAdds': WHATEVER THE INPUT: true; the input reads as it did. -/
def deriveAddsSpec : ChangeSpec := { name := "deriveAdds", fn := fun _ => fun
  | [d1, d2, d3] => { results := [.lit (.bool true)], args := [d1, d2, d3] }
  | _ => none }
def deriveAddsRow : OpenClaim := { program := "ytblplapkdmhikaagreat", sum := "6e4c3d62879b19373dd2219934a03f45e73146cce8afc295bd8ba2540e844243", func := "tenter/tenterlaw19.DeriveAdds", spec := "deriveAdds", inPlace := ["slices.overlaps[uint64]"], unfollowed := true, recurses := true, plainKeys := false, apart := false }
def DeriveAddsSaid : Prop := deriveAddsRow.holds Tryz.pinned (OpenSpec.ofChange deriveAddsSpec)

/-- ITS FALSE NEIGHBOUR: 'it returns false'. Refute it at one input. -/
def deriveAddsWrong : ChangeSpec := { name := "deriveAdds", fn := fun _ => fun
  | [d1, d2, d3] => { results := [.lit (.bool false)], args := [d1, d2, d3] }
  | _ => none }
def DeriveAddsWrongFalsely : Prop := deriveAddsRow.holds Tryz.pinned (OpenSpec.ofChange deriveAddsWrong)

/-- 'tenterlaw19.DeriveTouched': WHATEVER THE INPUT: true; the input reads as it did. -/
def deriveTouchedSpec : ChangeSpec := { name := "deriveTouched", fn := fun _ => fun
  | [d1, d2] => { results := [.lit (.bool true)], args := [d1, d2] }
  | _ => none }
def deriveTouchedRow : OpenClaim := { program := "ytblplapkdmhikaagreat", sum := "6e4c3d62879b19373dd2219934a03f45e73146cce8afc295bd8ba2540e844243", func := "tenter/tenterlaw19.DeriveTouched", spec := "deriveTouched", unfollowed := true, recurses := true, plainKeys := false, apart := false }
def DeriveTouchedSaid : Prop := deriveTouchedRow.holds Tryz.pinned (OpenSpec.ofChange deriveTouchedSpec)

/-- ITS FALSE NEIGHBOUR: 'it returns false'. Refute it at one input. -/
def deriveTouchedWrong : ChangeSpec := { name := "deriveTouched", fn := fun _ => fun
  | [d1, d2] => { results := [.lit (.bool false)], args := [d1, d2] }
  | _ => none }
def DeriveTouchedWrongFalsely : Prop := deriveTouchedRow.holds Tryz.pinned (OpenSpec.ofChange deriveTouchedWrong)

/-- 'tenterlaw19.DeriveTells': WHATEVER THE INPUT: true; the input reads as it did. -/
def deriveTellsSpec : ChangeSpec := { name := "deriveTells", fn := fun _ => fun
  | [d1, d2, d3] => { results := [.lit (.bool true)], args := [d1, d2, d3] }
  | _ => none }
def deriveTellsRow : OpenClaim := { program := "ytblplapkdmhikaagreat", sum := "6e4c3d62879b19373dd2219934a03f45e73146cce8afc295bd8ba2540e844243", func := "tenter/tenterlaw19.DeriveTells", spec := "deriveTells", unfollowed := true, recurses := true, plainKeys := false, apart := false }
def DeriveTellsSaid : Prop := deriveTellsRow.holds Tryz.pinned (OpenSpec.ofChange deriveTellsSpec)

/-- ITS FALSE NEIGHBOUR: 'it returns false'. Refute it at one input. -/
def deriveTellsWrong : ChangeSpec := { name := "deriveTells", fn := fun _ => fun
  | [d1, d2, d3] => { results := [.lit (.bool false)], args := [d1, d2, d3] }
  | _ => none }
def DeriveTellsWrongFalsely : Prop := deriveTellsRow.holds Tryz.pinned (OpenSpec.ofChange deriveTellsWrong)

/-- 'tenterlaw13.IndexPlays': WHATEVER THE INPUT: true; the input reads as it did. -/
def indexPlaysSpec : ChangeSpec := { name := "indexPlays", fn := fun _ => fun
  | [d1, d2, d3, d4] => { results := [.lit (.bool true)], args := [d1, d2, d3, d4] }
  | _ => none }
def indexPlaysRow : OpenClaim := { program := "ytblplapkdmhikaagreat", sum := "6e4c3d62879b19373dd2219934a03f45e73146cce8afc295bd8ba2540e844243", func := "tenter/tenterlaw13.IndexPlays", spec := "indexPlays", inPlace := ["slices.overlaps[int]"], unfollowed := true, recurses := true, plainKeys := false, apart := false }
def IndexPlaysSaid : Prop := indexPlaysRow.holds Tryz.pinned (OpenSpec.ofChange indexPlaysSpec)

/-- ITS FALSE NEIGHBOUR: 'it returns false'. Refute it at one input. -/
def indexPlaysWrong : ChangeSpec := { name := "indexPlays", fn := fun _ => fun
  | [d1, d2, d3, d4] => { results := [.lit (.bool false)], args := [d1, d2, d3, d4] }
  | _ => none }
def IndexPlaysWrongFalsely : Prop := indexPlaysRow.holds Tryz.pinned (OpenSpec.ofChange indexPlaysWrong)

/- THE SECOND FORM. 'bulk': how many values and letters a reading holds, each counted each time it is reached (what is shared counts as often as it is met; a slice's spare places count too). A statement '..UptoSaid' is the law's where the arguments, and the package variables that the reading takes, are together of bulk at most 1048576: NARROWER than '..Said'. Prove '..Said' where nothing that the law and all that it calls make is longer than what came in: it says more and counts as full. Else prove '..UptoSaid'. A law counts once. -/
mutual
def uptoBulk {H : Type} : DataW H → Nat
  | .lit (.string bytes) => bytes.length + 1
  | .lit _ => 1
  | .nil => 1
  | .ptr d => uptoBulk d + 1
  | .slice elems spare => uptoBulkAll elems + uptoBulkAll spare + 1
  | .agg parts => uptoBulkAll parts + 1
  | .iface _ d => uptoBulk d + 1
  | .map entries => uptoBulkEntries entries + 1
  | .held _ => 1
def uptoBulkAll {H : Type} : List (DataW H) → Nat
  | [] => 0
  | d :: r => uptoBulk d + uptoBulkAll r
def uptoBulkEntries {H : Type} : List (Lit × DataW H) → Nat
  | [] => 0
  | x :: r => uptoBulkEntry x + uptoBulkEntries r
def uptoBulkEntry {H : Type} : Lit × DataW H → Nat
  | (.string bytes, d) => bytes.length + uptoBulk d + 1
  | (_, d) => uptoBulk d + 1
 end
def uptoSmall : (H : Type) → List (DataW H) → Bool := fun _ ds => decide (uptoBulkAll ds ≤ 1048576)
def OpenSpec.upto (s : _root_.Go.ChangeSpec) : _root_.Go.OpenSpec := { _root_.Go.OpenSpec.ofChange s with cond := some uptoSmall }

/-- 'tenterlaw41.RenderApart', WHERE WHAT IT READS IS OF BULK AT MOST 1048576: true; the input reads as it did. -/
def renderApartUptoRow : OpenClaim := { program := "ytblplapkdmhikaagreat", sum := "6e4c3d62879b19373dd2219934a03f45e73146cce8afc295bd8ba2540e844243", func := "tenter/tenterlaw41.RenderApart", spec := "renderApart", inPlace := ["internal/abi.NoEscape", "internal/bytealg.MakeNoZero", "slices.overlaps[tenter/digraph.end]"], unfollowed := true, recurses := true, plainKeys := false, apart := false, narrowed := true }
def RenderApartUptoSaid : Prop := renderApartUptoRow.holds Tryz.pinned (OpenSpec.upto renderApartSpec)

/-- 'tenterlaw19.DeriveAdds', WHERE WHAT IT READS IS OF BULK AT MOST 1048576: true; the input reads as it did. -/
def deriveAddsUptoRow : OpenClaim := { program := "ytblplapkdmhikaagreat", sum := "6e4c3d62879b19373dd2219934a03f45e73146cce8afc295bd8ba2540e844243", func := "tenter/tenterlaw19.DeriveAdds", spec := "deriveAdds", inPlace := ["slices.overlaps[uint64]"], unfollowed := true, recurses := true, plainKeys := false, apart := false, narrowed := true }
def DeriveAddsUptoSaid : Prop := deriveAddsUptoRow.holds Tryz.pinned (OpenSpec.upto deriveAddsSpec)

/-- 'tenterlaw19.DeriveTouched', WHERE WHAT IT READS IS OF BULK AT MOST 1048576: true; the input reads as it did. -/
def deriveTouchedUptoRow : OpenClaim := { program := "ytblplapkdmhikaagreat", sum := "6e4c3d62879b19373dd2219934a03f45e73146cce8afc295bd8ba2540e844243", func := "tenter/tenterlaw19.DeriveTouched", spec := "deriveTouched", unfollowed := true, recurses := true, plainKeys := false, apart := false, narrowed := true }
def DeriveTouchedUptoSaid : Prop := deriveTouchedUptoRow.holds Tryz.pinned (OpenSpec.upto deriveTouchedSpec)

/-- 'tenterlaw19.DeriveTells', WHERE WHAT IT READS IS OF BULK AT MOST 1048576: true; the input reads as it did. -/
def deriveTellsUptoRow : OpenClaim := { program := "ytblplapkdmhikaagreat", sum := "6e4c3d62879b19373dd2219934a03f45e73146cce8afc295bd8ba2540e844243", func := "tenter/tenterlaw19.DeriveTells", spec := "deriveTells", unfollowed := true, recurses := true, plainKeys := false, apart := false, narrowed := true }
def DeriveTellsUptoSaid : Prop := deriveTellsUptoRow.holds Tryz.pinned (OpenSpec.upto deriveTellsSpec)

/-- 'tenterlaw13.IndexPlays', WHERE WHAT IT READS IS OF BULK AT MOST 1048576: true; the input reads as it did. -/
def indexPlaysUptoRow : OpenClaim := { program := "ytblplapkdmhikaagreat", sum := "6e4c3d62879b19373dd2219934a03f45e73146cce8afc295bd8ba2540e844243", func := "tenter/tenterlaw13.IndexPlays", spec := "indexPlays", inPlace := ["slices.overlaps[int]"], unfollowed := true, recurses := true, plainKeys := false, apart := false, narrowed := true }
def IndexPlaysUptoSaid : Prop := indexPlaysUptoRow.holds Tryz.pinned (OpenSpec.upto indexPlaysSpec)

end Rows
end Go.Proofs.YtblplapkdmhikaaGreat
