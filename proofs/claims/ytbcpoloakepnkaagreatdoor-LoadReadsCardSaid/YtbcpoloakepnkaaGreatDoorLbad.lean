/- A contract of the library, laid at this dump: the table of numbers typed out. -/
import Derived.Shelf.Strings.Cut
import Derived.Ground.NamesProg
import Derived.Shelf.SlGeneric
import Derived.Test.YtbcpoloakepnkaaGreatDoorProg
namespace Go.Proofs.YtbcpoloakepnkaaGreatDoor
set_option linter.unusedVariables false
set_option linter.unusedSimpArgs false
section
open Go.Shelf Go.Proofs
def ZbL:Go.Shelf.Ren:=⟨fun|145=>82|220=>91|219=>77|217=>85|225=>86|224=>87|267=>88|266=>93|314=>94|n=>n,fun|9=>9|4=>4|59=>125|3=>3|5=>5|46=>75|146=>135|51=>134|n=>n,fun|1=>0|n=>n⟩
theorem Zdd:Go.Proofs.Lays.n145 Tryz.prog ZbL:={
 mixed:=by kernel_rfl
 f145:=Tryz.func82.trans (congrArg some (by kernel_rfl))
 f217:=Tryz.func85.trans (congrArg some (by kernel_rfl))
 f219:=Tryz.func77.trans (congrArg some (by kernel_rfl))
 f220:=Tryz.func91.trans (congrArg some (by kernel_rfl))
 f224:=Tryz.func87.trans (congrArg some (by kernel_rfl))
 f225:=Tryz.func86.trans (congrArg some (by kernel_rfl))
 f266:=Tryz.func93.trans (congrArg some (by kernel_rfl))
 f267:=Tryz.func88.trans (congrArg some (by kernel_rfl))
 f314:=Tryz.func94.trans (congrArg some (by kernel_rfl))
 t3:=Tryz.underlying3
 a3:=Tryz.isAgg3
 z3:=Tryz.sizeOf3
 v3:=Tryz.zeroValue3
 t4:=Tryz.underlying4
 a4:=Tryz.isAgg4
 z4:=Tryz.sizeOf4
 v4:=Tryz.zeroValue4
 t5:=Tryz.underlying5
 a5:=Tryz.isAgg5
 z5:=Tryz.sizeOf5
 v5:=Tryz.zeroValue5
 t9:=Tryz.underlying9
 a9:=Tryz.isAgg9
 z9:=Tryz.sizeOf9
 v9:=Tryz.zeroValue9
 t46:=Tryz.underlying75
 a46:=Tryz.isAgg75
 z46:=Tryz.sizeOf75
 v46:=Tryz.zeroValue75
 t51:=Tryz.underlying134
 a51:=Tryz.isAgg134
 z51:=Tryz.sizeOf134
 v51:=Tryz.zeroValue134
 t59:=Tryz.underlying125
 a59:=Tryz.isAgg125
 z59:=Tryz.sizeOf125
 v59:=Tryz.zeroValue125
 t146:=Tryz.underlying135
 a146:=Tryz.isAgg135
 z146:=Tryz.sizeOf135
 v146:=Tryz.zeroValue135
 g1:=by kernel_rfl}
end
end Go.Proofs.YtbcpoloakepnkaaGreatDoor
