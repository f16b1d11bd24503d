/- A contract of the library, laid at this dump: the table of numbers typed out. -/
import Derived.Shelf.SlicesG.CompactI
import Derived.Ground.SlgnProg
import Derived.Shelf.SlGeneric
import Derived.Test.YtfcefnpnomlgbaaProg
namespace Go.Proofs.Ytfcefnpnomlgbaa
open Go.Shelf Go.Proofs
def Zb4:Go.Shelf.Ren:=⟨fun|43=>50|n=>n,fun|22=>32|23=>3|3=>3|4=>4|0=>0|n=>n,fun|n=>n⟩
theorem ZbD:Go.Proofs.SlLaysN.n43 Try.prog Zb4:={
 mixed:=by kernel_rfl
 f43:=⟨Try.f50.name,by decide,Try.func50.trans (congrArg some (by kernel_rfl))⟩
 t0:=Try.underlying0
 a0:=Try.isAgg0
 z0:=Try.sizeOf0
 v0:=Try.zeroValue0
 t3:=Try.underlying3
 a3:=Try.isAgg3
 z3:=Try.sizeOf3
 v3:=Try.zeroValue3
 t4:=Try.underlying4
 a4:=Try.isAgg4
 z4:=Try.sizeOf4
 v4:=Try.zeroValue4
 t22:=Try.underlying32
 a22:=Try.isAgg32
 z22:=Try.sizeOf32
 v22:=Try.zeroValue32
 t23:=Try.underlying3
 a23:=Try.isAgg3
 z23:=Try.sizeOf3
 v23:=Try.zeroValue3
 i23:=by kernel_rfl}
end Go.Proofs.Ytfcefnpnomlgbaa
