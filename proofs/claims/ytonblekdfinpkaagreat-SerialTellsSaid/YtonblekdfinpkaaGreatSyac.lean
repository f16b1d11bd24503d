/- A contract of the library, laid at this dump: the table of numbers typed out. -/
import Derived.Shelf.Sort.Plain
import Derived.Ground.NamesProg
import Derived.Shelf.SlGeneric
import Derived.Test.YtonblekdfinpkaaGreatProg
namespace Go.Proofs.YtonblekdfinpkaaGreat
set_option linter.unusedVariables false
set_option linter.unusedSimpArgs false
section
open Go.Shelf Go.Proofs
def ZgK:Go.Shelf.Ren:=⟨fun|189=>153|125=>206|257=>205|128=>245|129=>246|294=>236|295=>237|296=>238|297=>239|298=>240|299=>241|216=>242|300=>243|301=>244|328=>261|329=>262|330=>263|331=>264|332=>265|215=>192|343=>277|n=>n,fun|28=>24|3=>3|46=>110|0=>0|51=>310|53=>234|4=>4|183=>304|182=>303|131=>160|5=>5|9=>9|218=>317|222=>320|228=>330|229=>56|n=>n,fun|n=>n⟩
theorem Zf5:Go.Proofs.Lays.n189 Tryz.prog ZgK:={
 mixed:=by kernel_rfl
 f125:=Tryz.func206.trans (congrArg some (by kernel_rfl))
 f128:=Tryz.func245.trans (congrArg some (by kernel_rfl))
 f129:=Tryz.func246.trans (congrArg some (by kernel_rfl))
 f189:=Tryz.func153.trans (congrArg some (by kernel_rfl))
 f215:=Tryz.func192.trans (congrArg some (by kernel_rfl))
 f216:=Tryz.func242.trans (congrArg some (by kernel_rfl))
 f257:=Tryz.func205.trans (congrArg some (by kernel_rfl))
 f294:=Tryz.func236.trans (congrArg some (by kernel_rfl))
 f295:=Tryz.func237.trans (congrArg some (by kernel_rfl))
 f296:=Tryz.func238.trans (congrArg some (by kernel_rfl))
 f297:=Tryz.func239.trans (congrArg some (by kernel_rfl))
 f298:=Tryz.func240.trans (congrArg some (by kernel_rfl))
 f299:=Tryz.func241.trans (congrArg some (by kernel_rfl))
 f300:=Tryz.func243.trans (congrArg some (by kernel_rfl))
 f301:=Tryz.func244.trans (congrArg some (by kernel_rfl))
 f328:=Tryz.func261.trans (congrArg some (by kernel_rfl))
 f329:=Tryz.func262.trans (congrArg some (by kernel_rfl))
 f330:=Tryz.func263.trans (congrArg some (by kernel_rfl))
 f331:=Tryz.func264.trans (congrArg some (by kernel_rfl))
 f332:=Tryz.func265.trans (congrArg some (by kernel_rfl))
 f343:=Tryz.func277.trans (congrArg some (by kernel_rfl))
 t0:=Tryz.underlying0
 a0:=Tryz.isAgg0
 z0:=Tryz.sizeOf0
 v0:=Tryz.zeroValue0
 t3:=Tryz.underlying3
 a3:=Tryz.isAgg3
 z3:=Tryz.sizeOf3
 v3:=Tryz.zeroValue3
 t4:=Tryz.underlying4
 a4:=Tryz.isAgg4
 z4:=Tryz.sizeOf4
 v4:=Tryz.zeroValue4
 t5:=Tryz.underlying5
 a5:=Tryz.isAgg5
 z5:=Tryz.sizeOf5
 v5:=Tryz.zeroValue5
 t9:=Tryz.underlying9
 a9:=Tryz.isAgg9
 z9:=Tryz.sizeOf9
 v9:=Tryz.zeroValue9
 t28:=Tryz.underlying24
 a28:=Tryz.isAgg24
 z28:=Tryz.sizeOf24
 v28:=Tryz.zeroValue24
 t46:=Tryz.underlying110
 a46:=Tryz.isAgg110
 z46:=Tryz.sizeOf110
 v46:=Tryz.zeroValue110
 t51:=Tryz.underlying310
 a51:=Tryz.isAgg310
 z51:=Tryz.sizeOf310
 v51:=Tryz.zeroValue310
 t53:=Tryz.underlying234
 a53:=Tryz.isAgg234
 z53:=Tryz.sizeOf234
 v53:=Tryz.zeroValue234
 t131:=Tryz.underlying160
 a131:=Tryz.isAgg160
 z131:=Tryz.sizeOf160
 v131:=Tryz.zeroValue160
 t182:=Tryz.underlying303
 a182:=Tryz.isAgg303
 z182:=Tryz.sizeOf303
 v182:=Tryz.zeroValue303
 t183:=Tryz.underlying304
 a183:=Tryz.isAgg304
 z183:=Tryz.sizeOf304
 v183:=Tryz.zeroValue304
 t218:=Tryz.underlying317
 a218:=Tryz.isAgg317
 z218:=Tryz.sizeOf317
 v218:=Tryz.zeroValue317
 t222:=Tryz.underlying320
 a222:=Tryz.isAgg320
 z222:=Tryz.sizeOf320
 v222:=Tryz.zeroValue320
 t228:=Tryz.underlying330
 a228:=Tryz.isAgg330
 z228:=Tryz.sizeOf330
 v228:=Tryz.zeroValue330
 t229:=Tryz.underlying56
 a229:=Tryz.isAgg56
 z229:=Tryz.sizeOf56
 v229:=Tryz.zeroValue56}
end
end Go.Proofs.YtonblekdfinpkaaGreat
