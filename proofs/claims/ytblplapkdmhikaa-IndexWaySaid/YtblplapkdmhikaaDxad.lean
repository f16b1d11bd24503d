/- A contract of the library, laid at this dump: the table of numbers typed out. -/
import Derived.Shelf.SlSortCmp.NoneTotal
import Derived.Ground.SlsfProg
import Derived.Shelf.SlGeneric
import Derived.Test.YtblplapkdmhikaaProg
namespace Go.Proofs.Ytblplapkdmhikaa
set_option linter.unusedVariables false
set_option linter.unusedSimpArgs false
section
open Go.Shelf Go.Proofs
def Zc0:Go.Shelf.Ren:=⟨fun|6=>66|15=>94|14=>93|28=>127|29=>128|20=>119|21=>120|22=>121|23=>122|24=>123|25=>124|26=>125|27=>126|46=>159|47=>160|48=>161|49=>162|50=>163|57=>176|n=>n,fun|22=>64|24=>28|25=>115|3=>3|39=>149|0=>0|53=>179|55=>130|4=>4|46=>173|45=>172|50=>139|5=>5|9=>9|66=>200|70=>204|76=>213|77=>214|n=>n,fun|n=>n⟩
theorem ZcI:Go.Proofs.SlLaysF0.n6 Try.prog Zc0:={
 mixed:=by kernel_rfl
 f6:=⟨Try.f66.name,by decide,Try.func66.trans (congrArg some (by kernel_rfl))⟩
 f14:=⟨Try.f93.name,by decide,Try.func93.trans (congrArg some (by kernel_rfl))⟩
 f15:=Try.func94.trans (congrArg some (by kernel_rfl))
 f20:=⟨Try.f119.name,by decide,Try.func119.trans (congrArg some (by kernel_rfl))⟩
 f21:=⟨Try.f120.name,by decide,Try.func120.trans (congrArg some (by kernel_rfl))⟩
 f22:=⟨Try.f121.name,by decide,Try.func121.trans (congrArg some (by kernel_rfl))⟩
 f23:=⟨Try.f122.name,by decide,Try.func122.trans (congrArg some (by kernel_rfl))⟩
 f24:=⟨Try.f123.name,by decide,Try.func123.trans (congrArg some (by kernel_rfl))⟩
 f25:=⟨Try.f124.name,by decide,Try.func124.trans (congrArg some (by kernel_rfl))⟩
 f26:=⟨Try.f125.name,by decide,Try.func125.trans (congrArg some (by kernel_rfl))⟩
 f27:=⟨Try.f126.name,by decide,Try.func126.trans (congrArg some (by kernel_rfl))⟩
 f28:=Try.func127.trans (congrArg some (by kernel_rfl))
 f29:=Try.func128.trans (congrArg some (by kernel_rfl))
 f46:=⟨Try.f159.name,by decide,Try.func159.trans (congrArg some (by kernel_rfl))⟩
 f47:=Try.func160.trans (congrArg some (by kernel_rfl))
 f48:=Try.func161.trans (congrArg some (by kernel_rfl))
 f49:=⟨Try.f162.name,by decide,Try.func162.trans (congrArg some (by kernel_rfl))⟩
 f50:=⟨Try.f163.name,by decide,Try.func163.trans (congrArg some (by kernel_rfl))⟩
 f57:=⟨Try.f176.name,by decide,Try.func176.trans (congrArg some (by kernel_rfl))⟩
 t0:=Try.underlying0
 a0:=Try.isAgg0
 z0:=Try.sizeOf0
 v0:=Try.zeroValue0
 t3:=Try.underlying3
 a3:=Try.isAgg3
 z3:=Try.sizeOf3
 v3:=Try.zeroValue3
 t4:=Try.underlying4
 a4:=Try.isAgg4
 z4:=Try.sizeOf4
 v4:=Try.zeroValue4
 t5:=Try.underlying5
 a5:=Try.isAgg5
 z5:=Try.sizeOf5
 v5:=Try.zeroValue5
 t9:=Try.underlying9
 a9:=Try.isAgg9
 z9:=Try.sizeOf9
 v9:=Try.zeroValue9
 t22:=Try.underlying64
 a22:=Try.isAgg64
 z22:=Try.sizeOf64
 v22:=Try.zeroValue64
 t25:=Try.underlying115
 a25:=Try.isAgg115
 z25:=Try.sizeOf115
 v25:=Try.zeroValue115
 t39:=Try.underlying149
 a39:=Try.isAgg149
 z39:=Try.sizeOf149
 v39:=Try.zeroValue149
 t45:=Try.underlying172
 a45:=Try.isAgg172
 z45:=Try.sizeOf172
 v45:=Try.zeroValue172
 t46:=Try.underlying173
 a46:=Try.isAgg173
 z46:=Try.sizeOf173
 v46:=Try.zeroValue173
 t50:=Try.underlying139
 a50:=Try.isAgg139
 z50:=Try.sizeOf139
 v50:=Try.zeroValue139
 t53:=Try.underlying179
 a53:=Try.isAgg179
 z53:=Try.sizeOf179
 v53:=Try.zeroValue179
 t55:=Try.underlying130
 a55:=Try.isAgg130
 z55:=Try.sizeOf130
 v55:=Try.zeroValue130
 t66:=Try.underlying200
 a66:=Try.isAgg200
 z66:=Try.sizeOf200
 v66:=Try.zeroValue200
 t70:=Try.underlying204
 a70:=Try.isAgg204
 z70:=Try.sizeOf204
 v70:=Try.zeroValue204
 t76:=Try.underlying213
 a76:=Try.isAgg213
 z76:=Try.sizeOf213
 v76:=Try.zeroValue213
 t77:=Try.underlying214
 a77:=Try.isAgg214
 z77:=Try.sizeOf214
 v77:=Try.zeroValue214}
end
end Go.Proofs.Ytblplapkdmhikaa
