/- A contract of the library, laid at this dump: the table of numbers typed out. -/
import Derived.Shelf.Sort.Plain
import Derived.Ground.NamesProg
import Derived.Shelf.SlGeneric
import Derived.Test.YtklmahmfmbppkaaGreatProg
namespace Go.Proofs.YtklmahmfmbppkaaGreat
set_option linter.unusedVariables false
set_option linter.unusedSimpArgs false
section
open Go.Shelf Go.Proofs
def Zi9:Go.Shelf.Ren:=⟨fun|189=>135|125=>164|257=>173|128=>198|129=>199|294=>205|295=>206|296=>207|297=>208|298=>209|299=>210|216=>174|300=>211|301=>212|328=>224|329=>218|330=>219|331=>225|332=>226|215=>183|343=>231|n=>n,fun|28=>37|3=>3|46=>68|0=>0|51=>249|53=>225|4=>4|183=>243|182=>242|131=>123|5=>5|9=>9|218=>265|222=>268|228=>277|229=>29|n=>n,fun|n=>n⟩
theorem Zig:Go.Proofs.Lays.n189 Tryz.prog Zi9:={
 mixed:=by kernel_rfl
 f125:=Tryz.func164.trans (congrArg some (by kernel_rfl))
 f128:=Tryz.func198.trans (congrArg some (by kernel_rfl))
 f129:=Tryz.func199.trans (congrArg some (by kernel_rfl))
 f189:=Tryz.func135.trans (congrArg some (by kernel_rfl))
 f215:=Tryz.func183.trans (congrArg some (by kernel_rfl))
 f216:=Tryz.func174.trans (congrArg some (by kernel_rfl))
 f257:=Tryz.func173.trans (congrArg some (by kernel_rfl))
 f294:=Tryz.func205.trans (congrArg some (by kernel_rfl))
 f295:=Tryz.func206.trans (congrArg some (by kernel_rfl))
 f296:=Tryz.func207.trans (congrArg some (by kernel_rfl))
 f297:=Tryz.func208.trans (congrArg some (by kernel_rfl))
 f298:=Tryz.func209.trans (congrArg some (by kernel_rfl))
 f299:=Tryz.func210.trans (congrArg some (by kernel_rfl))
 f300:=Tryz.func211.trans (congrArg some (by kernel_rfl))
 f301:=Tryz.func212.trans (congrArg some (by kernel_rfl))
 f328:=Tryz.func224.trans (congrArg some (by kernel_rfl))
 f329:=Tryz.func218.trans (congrArg some (by kernel_rfl))
 f330:=Tryz.func219.trans (congrArg some (by kernel_rfl))
 f331:=Tryz.func225.trans (congrArg some (by kernel_rfl))
 f332:=Tryz.func226.trans (congrArg some (by kernel_rfl))
 f343:=Tryz.func231.trans (congrArg some (by kernel_rfl))
 t0:=Tryz.underlying0
 a0:=Tryz.isAgg0
 z0:=Tryz.sizeOf0
 v0:=Tryz.zeroValue0
 t3:=Tryz.underlying3
 a3:=Tryz.isAgg3
 z3:=Tryz.sizeOf3
 v3:=Tryz.zeroValue3
 t4:=Tryz.underlying4
 a4:=Tryz.isAgg4
 z4:=Tryz.sizeOf4
 v4:=Tryz.zeroValue4
 t5:=Tryz.underlying5
 a5:=Tryz.isAgg5
 z5:=Tryz.sizeOf5
 v5:=Tryz.zeroValue5
 t9:=Tryz.underlying9
 a9:=Tryz.isAgg9
 z9:=Tryz.sizeOf9
 v9:=Tryz.zeroValue9
 t28:=Tryz.underlying37
 a28:=Tryz.isAgg37
 z28:=Tryz.sizeOf37
 v28:=Tryz.zeroValue37
 t46:=Tryz.underlying68
 a46:=Tryz.isAgg68
 z46:=Tryz.sizeOf68
 v46:=Tryz.zeroValue68
 t51:=Tryz.underlying249
 a51:=Tryz.isAgg249
 z51:=Tryz.sizeOf249
 v51:=Tryz.zeroValue249
 t53:=Tryz.underlying225
 a53:=Tryz.isAgg225
 z53:=Tryz.sizeOf225
 v53:=Tryz.zeroValue225
 t131:=Tryz.underlying123
 a131:=Tryz.isAgg123
 z131:=Tryz.sizeOf123
 v131:=Tryz.zeroValue123
 t182:=Tryz.underlying242
 a182:=Tryz.isAgg242
 z182:=Tryz.sizeOf242
 v182:=Tryz.zeroValue242
 t183:=Tryz.underlying243
 a183:=Tryz.isAgg243
 z183:=Tryz.sizeOf243
 v183:=Tryz.zeroValue243
 t218:=Tryz.underlying265
 a218:=Tryz.isAgg265
 z218:=Tryz.sizeOf265
 v218:=Tryz.zeroValue265
 t222:=Tryz.underlying268
 a222:=Tryz.isAgg268
 z222:=Tryz.sizeOf268
 v222:=Tryz.zeroValue268
 t228:=Tryz.underlying277
 a228:=Tryz.isAgg277
 z228:=Tryz.sizeOf277
 v228:=Tryz.zeroValue277
 t229:=Tryz.underlying29
 a229:=Tryz.isAgg29
 z229:=Tryz.sizeOf29
 v229:=Tryz.zeroValue29}
end
end Go.Proofs.YtklmahmfmbppkaaGreat
