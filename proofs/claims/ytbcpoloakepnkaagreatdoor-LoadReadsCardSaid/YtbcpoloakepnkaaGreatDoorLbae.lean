/- A contract of the library, laid at this dump: the table of numbers typed out. -/
import Derived.Shelf.Strings.SlTrimAscii
import Derived.Ground.NamesProg
import Derived.Shelf.SlGeneric
import Derived.Test.YtbcpoloakepnkaaGreatDoorProg
namespace Go.Proofs.YtbcpoloakepnkaaGreatDoor
set_option linter.unusedVariables false
set_option linter.unusedSimpArgs false
section
open Go.Shelf Go.Proofs
def Zbu:Go.Shelf.Ren:=⟨fun|160=>92|232=>96|231=>95|227=>97|234=>99|233=>98|236=>101|235=>100|228=>102|271=>104|151=>103|197=>75|120=>106|152=>105|260=>84|137=>107|119=>108|224=>87|225=>86|217=>85|266=>93|n=>n,fun|9=>9|4=>4|3=>3|5=>5|117=>140|116=>139|0=>0|124=>143|21=>21|105=>121|46=>75|119=>130|139=>133|138=>132|n=>n,fun|3=>1|4=>2|n=>n⟩
theorem Zcl:Go.Proofs.Lays.n160 Tryz.prog Zbu:={
 mixed:=by kernel_rfl
 f119:=Tryz.func108.trans (congrArg some (by kernel_rfl))
 f120:=Tryz.func106.trans (congrArg some (by kernel_rfl))
 f137:=Tryz.func107.trans (congrArg some (by kernel_rfl))
 f151:=Tryz.func103.trans (congrArg some (by kernel_rfl))
 f152:=Tryz.func105.trans (congrArg some (by kernel_rfl))
 f160:=Tryz.func92.trans (congrArg some (by kernel_rfl))
 f197:=Tryz.func75.trans (congrArg some (by kernel_rfl))
 f217:=Tryz.func85.trans (congrArg some (by kernel_rfl))
 f224:=Tryz.func87.trans (congrArg some (by kernel_rfl))
 f225:=Tryz.func86.trans (congrArg some (by kernel_rfl))
 f227:=Tryz.func97.trans (congrArg some (by kernel_rfl))
 f228:=Tryz.func102.trans (congrArg some (by kernel_rfl))
 f231:=Tryz.func95.trans (congrArg some (by kernel_rfl))
 f232:=Tryz.func96.trans (congrArg some (by kernel_rfl))
 f233:=Tryz.func98.trans (congrArg some (by kernel_rfl))
 f234:=Tryz.func99.trans (congrArg some (by kernel_rfl))
 f235:=Tryz.func100.trans (congrArg some (by kernel_rfl))
 f236:=Tryz.func101.trans (congrArg some (by kernel_rfl))
 f260:=Tryz.func84.trans (congrArg some (by kernel_rfl))
 f266:=Tryz.func93.trans (congrArg some (by kernel_rfl))
 f271:=Tryz.func104.trans (congrArg some (by kernel_rfl))
 t0:=Tryz.underlying0
 a0:=Tryz.isAgg0
 z0:=Tryz.sizeOf0
 v0:=Tryz.zeroValue0
 t3:=Tryz.underlying3
 a3:=Tryz.isAgg3
 z3:=Tryz.sizeOf3
 v3:=Tryz.zeroValue3
 t4:=Tryz.underlying4
 a4:=Tryz.isAgg4
 z4:=Tryz.sizeOf4
 v4:=Tryz.zeroValue4
 t5:=Tryz.underlying5
 a5:=Tryz.isAgg5
 z5:=Tryz.sizeOf5
 v5:=Tryz.zeroValue5
 t9:=Tryz.underlying9
 a9:=Tryz.isAgg9
 z9:=Tryz.sizeOf9
 v9:=Tryz.zeroValue9
 t21:=Tryz.underlying21
 a21:=Tryz.isAgg21
 z21:=Tryz.sizeOf21
 v21:=Tryz.zeroValue21
 t46:=Tryz.underlying75
 a46:=Tryz.isAgg75
 z46:=Tryz.sizeOf75
 v46:=Tryz.zeroValue75
 t105:=Tryz.underlying121
 a105:=Tryz.isAgg121
 z105:=Tryz.sizeOf121
 v105:=Tryz.zeroValue121
 t116:=Tryz.underlying139
 a116:=Tryz.isAgg139
 z116:=Tryz.sizeOf139
 t117:=Tryz.underlying140
 a117:=Tryz.isAgg140
 z117:=Tryz.sizeOf140
 v117:=Tryz.zeroValue140
 t119:=Tryz.underlying130
 a119:=Tryz.isAgg130
 z119:=Tryz.sizeOf130
 t124:=Tryz.underlying143
 a124:=Tryz.isAgg143
 z124:=Tryz.sizeOf143
 v124:=Tryz.zeroValue143
 t138:=Tryz.underlying132
 a138:=Tryz.isAgg132
 z138:=Tryz.sizeOf132
 v138:=Tryz.zeroValue132
 t139:=Tryz.underlying133
 a139:=Tryz.isAgg133
 z139:=Tryz.sizeOf133
 v139:=Tryz.zeroValue133
 g3:=by kernel_rfl
 g4:=by kernel_rfl}
end
end Go.Proofs.YtbcpoloakepnkaaGreatDoor
