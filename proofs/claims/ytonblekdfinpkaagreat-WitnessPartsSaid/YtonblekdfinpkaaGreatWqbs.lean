/- How arcs and deeds that come in read. -/
import Derived.Test.YtonblekdfinpkaaGreatWqas
import Derived.Test.YtonblekdfinpkaaGreatWqbk
namespace Go.Proofs.YtonblekdfinpkaaGreat
set_option linter.unusedVariables false
set_option linter.unusedSimpArgs false
section
open Go.RowKit
theorem Zuc {l:List Value} (h:l.length=4):∃a b c d,l=[a,b,c,d]:=
 match l,h with
 |[a,b,c,d],_=>⟨a,b,c,d,rfl⟩
theorem ZtV:Tryz.prog.cellsOf 3=1:=by kernel_rfl
def HArc.i (a:HArc):Prop:=(-9223372036854775808≤a.f∧a.f≤9223372036854775807)∧(-9223372036854775808≤a.t∧a.t≤9223372036854775807)∧(-9223372036854775808≤a.kind∧a.kind≤9223372036854775807)∧(-9223372036854775808≤a.label∧a.label≤9223372036854775807)
theorem ZtB {n:Int} (h:(Lit.int .i64 n).wf=true): -9223372036854775808≤n∧n≤9223372036854775807:=by
 simp[Lit.wf,IntKind.min,IntKind.max,IntKind.signed,IntKind.bits]at h;omega
section
variable {H:Type} {enc:TypeId×Value→H} {w:World} {base:Nat} {spare:Nat→Bool} {held:Bool} {row:List Value}
theorem ZmY {v:Value} (h:Rdz enc Tryz.prog w base spare held 3 [v]):∃n,v= .int .i64 n∧-9223372036854775808≤n∧n≤9223372036854775807:=by
 obtain⟨n,e,hw⟩:=Rdz.int_ Tryz.underlying3 h
 cases e
 exact⟨n,rfl,ZtB hw⟩
end
end
end Go.Proofs.YtonblekdfinpkaaGreat
