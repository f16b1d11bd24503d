/- A contract of the library, laid at this dump: the table of numbers typed out. -/
import Derived.Shelf.SlicesG.SearchI
import Derived.Ground.SlgnProg
import Derived.Shelf.SlGeneric
import Derived.Test.YtblplapkdmhikaaGreatProg
namespace Go.Proofs.YtblplapkdmhikaaGreat
set_option linter.unusedVariables false
set_option linter.unusedSimpArgs false
section
open Go.Shelf Go.Proofs
def ZfC:Go.Shelf.Ren:=⟨fun|49=>199|59=>243|60=>264|68=>294|n=>n,fun|22=>64|23=>3|3=>3|4=>4|51=>229|0=>0|n=>n,fun|n=>n⟩
theorem ZiG:Go.Proofs.SlLaysN.n49 Tryz.prog ZfC:={
 mixed:=by kernel_rfl
 f49:=⟨Tryz.f199.name,by decide,Tryz.func199.trans (congrArg some (by kernel_rfl))⟩
 f59:=⟨Tryz.f243.name,by decide,Tryz.func243.trans (congrArg some (by kernel_rfl))⟩
 f60:=⟨Tryz.f264.name,by decide,Tryz.func264.trans (congrArg some (by kernel_rfl))⟩
 f68:=⟨Tryz.f294.name,by decide,Tryz.func294.trans (congrArg some (by kernel_rfl))⟩
 t0:=Tryz.underlying0
 a0:=Tryz.isAgg0
 z0:=Tryz.sizeOf0
 v0:=Tryz.zeroValue0
 t3:=Tryz.underlying3
 a3:=Tryz.isAgg3
 z3:=Tryz.sizeOf3
 v3:=Tryz.zeroValue3
 t4:=Tryz.underlying4
 a4:=Tryz.isAgg4
 z4:=Tryz.sizeOf4
 v4:=Tryz.zeroValue4
 t22:=Tryz.underlying64
 a22:=Tryz.isAgg64
 z22:=Tryz.sizeOf64
 v22:=Tryz.zeroValue64
 t23:=Tryz.underlying3
 a23:=Tryz.isAgg3
 z23:=Tryz.sizeOf3
 v23:=Tryz.zeroValue3
 t51:=Tryz.underlying229
 a51:=Tryz.isAgg229
 z51:=Tryz.sizeOf229
 v51:=Tryz.zeroValue229}
end
end Go.Proofs.YtblplapkdmhikaaGreat
