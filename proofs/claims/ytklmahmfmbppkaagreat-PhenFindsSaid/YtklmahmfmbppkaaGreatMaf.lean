/- A contract of the library, laid at this dump: the table of numbers typed out. -/
import Derived.Shelf.SlicesG.SearchI
import Derived.Ground.SlgnProg
import Derived.Shelf.SlGeneric
import Derived.Test.YtklmahmfmbppkaaGreatProg
namespace Go.Proofs.YtklmahmfmbppkaaGreat
open Go.Shelf Go.Proofs
def Zkv:Go.Shelf.Ren:=⟨fun|49=>137|59=>174|60=>175|68=>183|n=>n,fun|22=>37|23=>3|3=>3|4=>4|51=>68|0=>0|n=>n,fun|n=>n⟩
theorem Zpj:Go.Proofs.SlLaysN.n49 Tryz.prog Zkv:={
 mixed:=by kernel_rfl
 f49:=⟨Tryz.f137.name,by decide,Tryz.func137.trans (congrArg some (by kernel_rfl))⟩
 f59:=⟨Tryz.f174.name,by decide,Tryz.func174.trans (congrArg some (by kernel_rfl))⟩
 f60:=⟨Tryz.f175.name,by decide,Tryz.func175.trans (congrArg some (by kernel_rfl))⟩
 f68:=⟨Tryz.f183.name,by decide,Tryz.func183.trans (congrArg some (by kernel_rfl))⟩
 t0:=Tryz.underlying0
 a0:=Tryz.isAgg0
 z0:=Tryz.sizeOf0
 v0:=Tryz.zeroValue0
 t3:=Tryz.underlying3
 a3:=Tryz.isAgg3
 z3:=Tryz.sizeOf3
 v3:=Tryz.zeroValue3
 t4:=Tryz.underlying4
 a4:=Tryz.isAgg4
 z4:=Tryz.sizeOf4
 v4:=Tryz.zeroValue4
 t22:=Tryz.underlying37
 a22:=Tryz.isAgg37
 z22:=Tryz.sizeOf37
 v22:=Tryz.zeroValue37
 t23:=Tryz.underlying3
 a23:=Tryz.isAgg3
 z23:=Tryz.sizeOf3
 v23:=Tryz.zeroValue3
 t51:=Tryz.underlying68
 a51:=Tryz.isAgg68
 z51:=Tryz.sizeOf68
 v51:=Tryz.zeroValue68}
end Go.Proofs.YtklmahmfmbppkaaGreat
