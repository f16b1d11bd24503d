/- A contract of the library, laid at this dump: the table of numbers typed out. -/
import Derived.Shelf.SlicesG.CompactI
import Derived.Ground.SlgnProg
import Derived.Shelf.SlGeneric
import Derived.Test.YtblplapkdmhikaaProg
namespace Go.Proofs.Ytblplapkdmhikaa
set_option linter.unusedVariables false
set_option linter.unusedSimpArgs false
section
open Go.Shelf Go.Proofs
def Zce:Go.Shelf.Ren:=⟨fun|43=>112|n=>n,fun|22=>53|23=>3|3=>3|4=>4|0=>0|n=>n,fun|n=>n⟩
theorem ZbT:Go.Proofs.SlLaysN.n43 Try.prog Zce:={
 mixed:=by kernel_rfl
 f43:=⟨Try.f112.name,by decide,Try.func112.trans (congrArg some (by kernel_rfl))⟩
 t0:=Try.underlying0
 a0:=Try.isAgg0
 z0:=Try.sizeOf0
 v0:=Try.zeroValue0
 t3:=Try.underlying3
 a3:=Try.isAgg3
 z3:=Try.sizeOf3
 v3:=Try.zeroValue3
 t4:=Try.underlying4
 a4:=Try.isAgg4
 z4:=Try.sizeOf4
 v4:=Try.zeroValue4
 t22:=Try.underlying53
 a22:=Try.isAgg53
 z22:=Try.sizeOf53
 v22:=Try.zeroValue53
 t23:=Try.underlying3
 a23:=Try.isAgg3
 z23:=Try.sizeOf3
 v23:=Try.zeroValue3
 i23:=by kernel_rfl}
end
end Go.Proofs.Ytblplapkdmhikaa
