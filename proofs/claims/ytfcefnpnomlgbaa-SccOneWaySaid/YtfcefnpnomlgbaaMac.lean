/- A contract of the library, laid at this dump: the table of numbers typed out. -/
import Derived.Shelf.Sort.Plain
import Derived.Ground.NamesProg
import Derived.Shelf.SlGeneric
import Derived.Test.YtfcefnpnomlgbaaProg
namespace Go.Proofs.Ytfcefnpnomlgbaa
open Go.Shelf Go.Proofs
def ZcY:Go.Shelf.Ren:=⟨fun|189=>32|125=>48|257=>47|128=>69|129=>70|294=>60|295=>61|296=>62|297=>63|298=>64|299=>65|216=>66|300=>67|301=>68|328=>80|329=>81|330=>82|331=>83|332=>84|215=>85|343=>88|n=>n,fun|28=>32|3=>3|46=>82|0=>0|51=>111|53=>102|4=>4|183=>105|182=>104|131=>94|5=>5|9=>9|218=>117|222=>121|228=>124|229=>125|n=>n,fun|n=>n⟩
theorem ZcG:Go.Proofs.Lays.n189 Try.prog ZcY:={
 mixed:=by kernel_rfl
 f125:=Try.func48.trans (congrArg some (by kernel_rfl))
 f128:=Try.func69.trans (congrArg some (by kernel_rfl))
 f129:=Try.func70.trans (congrArg some (by kernel_rfl))
 f189:=Try.func32.trans (congrArg some (by kernel_rfl))
 f215:=Try.func85.trans (congrArg some (by kernel_rfl))
 f216:=Try.func66.trans (congrArg some (by kernel_rfl))
 f257:=Try.func47.trans (congrArg some (by kernel_rfl))
 f294:=Try.func60.trans (congrArg some (by kernel_rfl))
 f295:=Try.func61.trans (congrArg some (by kernel_rfl))
 f296:=Try.func62.trans (congrArg some (by kernel_rfl))
 f297:=Try.func63.trans (congrArg some (by kernel_rfl))
 f298:=Try.func64.trans (congrArg some (by kernel_rfl))
 f299:=Try.func65.trans (congrArg some (by kernel_rfl))
 f300:=Try.func67.trans (congrArg some (by kernel_rfl))
 f301:=Try.func68.trans (congrArg some (by kernel_rfl))
 f328:=Try.func80.trans (congrArg some (by kernel_rfl))
 f329:=Try.func81.trans (congrArg some (by kernel_rfl))
 f330:=Try.func82.trans (congrArg some (by kernel_rfl))
 f331:=Try.func83.trans (congrArg some (by kernel_rfl))
 f332:=Try.func84.trans (congrArg some (by kernel_rfl))
 f343:=Try.func88.trans (congrArg some (by kernel_rfl))
 t0:=Try.underlying0
 a0:=Try.isAgg0
 z0:=Try.sizeOf0
 v0:=Try.zeroValue0
 t3:=Try.underlying3
 a3:=Try.isAgg3
 z3:=Try.sizeOf3
 v3:=Try.zeroValue3
 t4:=Try.underlying4
 a4:=Try.isAgg4
 z4:=Try.sizeOf4
 v4:=Try.zeroValue4
 t5:=Try.underlying5
 a5:=Try.isAgg5
 z5:=Try.sizeOf5
 v5:=Try.zeroValue5
 t9:=Try.underlying9
 a9:=Try.isAgg9
 z9:=Try.sizeOf9
 v9:=Try.zeroValue9
 t28:=Try.underlying32
 a28:=Try.isAgg32
 z28:=Try.sizeOf32
 v28:=Try.zeroValue32
 t46:=Try.underlying82
 a46:=Try.isAgg82
 z46:=Try.sizeOf82
 v46:=Try.zeroValue82
 t51:=Try.underlying111
 a51:=Try.isAgg111
 z51:=Try.sizeOf111
 v51:=Try.zeroValue111
 t53:=Try.underlying102
 a53:=Try.isAgg102
 z53:=Try.sizeOf102
 v53:=Try.zeroValue102
 t131:=Try.underlying94
 a131:=Try.isAgg94
 z131:=Try.sizeOf94
 v131:=Try.zeroValue94
 t182:=Try.underlying104
 a182:=Try.isAgg104
 z182:=Try.sizeOf104
 v182:=Try.zeroValue104
 t183:=Try.underlying105
 a183:=Try.isAgg105
 z183:=Try.sizeOf105
 v183:=Try.zeroValue105
 t218:=Try.underlying117
 a218:=Try.isAgg117
 z218:=Try.sizeOf117
 v218:=Try.zeroValue117
 t222:=Try.underlying121
 a222:=Try.isAgg121
 z222:=Try.sizeOf121
 v222:=Try.zeroValue121
 t228:=Try.underlying124
 a228:=Try.isAgg124
 z228:=Try.sizeOf124
 v228:=Try.zeroValue124
 t229:=Try.underlying125
 a229:=Try.isAgg125
 z229:=Try.sizeOf125
 v229:=Try.zeroValue125}
end Go.Proofs.Ytfcefnpnomlgbaa
