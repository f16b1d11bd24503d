/- A contract of the library, laid at this dump: the table of numbers typed out. -/
import Derived.Shelf.SlicesG.CompactI
import Derived.Ground.SlgnProg
import Derived.Shelf.SlGeneric
import Derived.Test.YtblplapkdmhikaaGreatProg
namespace Go.Proofs.YtblplapkdmhikaaGreat
set_option linter.unusedVariables false
set_option linter.unusedSimpArgs false
section
open Go.Shelf Go.Proofs
def Zdl:Go.Shelf.Ren:=⟨fun|43=>87|n=>n,fun|22=>64|23=>3|3=>3|4=>4|0=>0|n=>n,fun|n=>n⟩
theorem ZcV:Go.Proofs.SlLaysN.n43 Tryz.prog Zdl:={
 mixed:=by kernel_rfl
 f43:=⟨Tryz.f87.name,by decide,Tryz.func87.trans (congrArg some (by kernel_rfl))⟩
 t0:=Tryz.underlying0
 a0:=Tryz.isAgg0
 z0:=Tryz.sizeOf0
 v0:=Tryz.zeroValue0
 t3:=Tryz.underlying3
 a3:=Tryz.isAgg3
 z3:=Tryz.sizeOf3
 v3:=Tryz.zeroValue3
 t4:=Tryz.underlying4
 a4:=Tryz.isAgg4
 z4:=Tryz.sizeOf4
 v4:=Tryz.zeroValue4
 t22:=Tryz.underlying64
 a22:=Tryz.isAgg64
 z22:=Tryz.sizeOf64
 v22:=Tryz.zeroValue64
 t23:=Tryz.underlying3
 a23:=Tryz.isAgg3
 z23:=Tryz.sizeOf3
 v23:=Tryz.zeroValue3
 i23:=by kernel_rfl}
end
end Go.Proofs.YtblplapkdmhikaaGreat
