/- A contract of the library, laid at this dump: the table of numbers typed out. -/
import Derived.Shelf.Sort.Plain
import Derived.Ground.NamesProg
import Derived.Shelf.SlGeneric
import Derived.Test.YtblplapkdmhikaaProg
namespace Go.Proofs.Ytblplapkdmhikaa
set_option linter.unusedVariables false
set_option linter.unusedSimpArgs false
section
open Go.Shelf Go.Proofs
def Zc2:Go.Shelf.Ren:=⟨fun|189=>90|125=>94|257=>118|128=>127|129=>128|294=>151|295=>152|296=>153|297=>154|298=>155|299=>156|216=>113|300=>157|301=>158|328=>173|329=>160|330=>161|331=>174|332=>175|215=>129|343=>179|n=>n,fun|28=>53|3=>3|46=>149|0=>0|51=>179|53=>130|4=>4|183=>173|182=>172|131=>139|5=>5|9=>9|218=>200|222=>204|228=>213|229=>214|n=>n,fun|n=>n⟩
theorem ZcK:Go.Proofs.Lays.n189 Try.prog Zc2:={
 mixed:=by kernel_rfl
 f125:=Try.func94.trans (congrArg some (by kernel_rfl))
 f128:=Try.func127.trans (congrArg some (by kernel_rfl))
 f129:=Try.func128.trans (congrArg some (by kernel_rfl))
 f189:=Try.func90.trans (congrArg some (by kernel_rfl))
 f215:=Try.func129.trans (congrArg some (by kernel_rfl))
 f216:=Try.func113.trans (congrArg some (by kernel_rfl))
 f257:=Try.func118.trans (congrArg some (by kernel_rfl))
 f294:=Try.func151.trans (congrArg some (by kernel_rfl))
 f295:=Try.func152.trans (congrArg some (by kernel_rfl))
 f296:=Try.func153.trans (congrArg some (by kernel_rfl))
 f297:=Try.func154.trans (congrArg some (by kernel_rfl))
 f298:=Try.func155.trans (congrArg some (by kernel_rfl))
 f299:=Try.func156.trans (congrArg some (by kernel_rfl))
 f300:=Try.func157.trans (congrArg some (by kernel_rfl))
 f301:=Try.func158.trans (congrArg some (by kernel_rfl))
 f328:=Try.func173.trans (congrArg some (by kernel_rfl))
 f329:=Try.func160.trans (congrArg some (by kernel_rfl))
 f330:=Try.func161.trans (congrArg some (by kernel_rfl))
 f331:=Try.func174.trans (congrArg some (by kernel_rfl))
 f332:=Try.func175.trans (congrArg some (by kernel_rfl))
 f343:=Try.func179.trans (congrArg some (by kernel_rfl))
 t0:=Try.underlying0
 a0:=Try.isAgg0
 z0:=Try.sizeOf0
 v0:=Try.zeroValue0
 t3:=Try.underlying3
 a3:=Try.isAgg3
 z3:=Try.sizeOf3
 v3:=Try.zeroValue3
 t4:=Try.underlying4
 a4:=Try.isAgg4
 z4:=Try.sizeOf4
 v4:=Try.zeroValue4
 t5:=Try.underlying5
 a5:=Try.isAgg5
 z5:=Try.sizeOf5
 v5:=Try.zeroValue5
 t9:=Try.underlying9
 a9:=Try.isAgg9
 z9:=Try.sizeOf9
 v9:=Try.zeroValue9
 t28:=Try.underlying53
 a28:=Try.isAgg53
 z28:=Try.sizeOf53
 v28:=Try.zeroValue53
 t46:=Try.underlying149
 a46:=Try.isAgg149
 z46:=Try.sizeOf149
 v46:=Try.zeroValue149
 t51:=Try.underlying179
 a51:=Try.isAgg179
 z51:=Try.sizeOf179
 v51:=Try.zeroValue179
 t53:=Try.underlying130
 a53:=Try.isAgg130
 z53:=Try.sizeOf130
 v53:=Try.zeroValue130
 t131:=Try.underlying139
 a131:=Try.isAgg139
 z131:=Try.sizeOf139
 v131:=Try.zeroValue139
 t182:=Try.underlying172
 a182:=Try.isAgg172
 z182:=Try.sizeOf172
 v182:=Try.zeroValue172
 t183:=Try.underlying173
 a183:=Try.isAgg173
 z183:=Try.sizeOf173
 v183:=Try.zeroValue173
 t218:=Try.underlying200
 a218:=Try.isAgg200
 z218:=Try.sizeOf200
 v218:=Try.zeroValue200
 t222:=Try.underlying204
 a222:=Try.isAgg204
 z222:=Try.sizeOf204
 v222:=Try.zeroValue204
 t228:=Try.underlying213
 a228:=Try.isAgg213
 z228:=Try.sizeOf213
 v228:=Try.zeroValue213
 t229:=Try.underlying214
 a229:=Try.isAgg214
 z229:=Try.sizeOf214
 v229:=Try.zeroValue214}
end
end Go.Proofs.Ytblplapkdmhikaa
