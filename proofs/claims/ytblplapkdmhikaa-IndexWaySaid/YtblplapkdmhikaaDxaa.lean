/- A contract of the library, laid at this dump: the table of numbers typed out. -/
import Derived.Shelf.SlicesG.SearchI
import Derived.Ground.SlgnProg
import Derived.Shelf.SlGeneric
import Derived.Test.YtblplapkdmhikaaProg
namespace Go.Proofs.Ytblplapkdmhikaa
set_option linter.unusedVariables false
set_option linter.unusedSimpArgs false
section
open Go.Shelf Go.Proofs
def ZdJ:Go.Shelf.Ren:=⟨fun|49=>86|59=>113|60=>114|68=>129|n=>n,fun|22=>53|23=>3|3=>3|4=>4|51=>149|0=>0|n=>n,fun|n=>n⟩
theorem ZfF:Go.Proofs.SlLaysN.n49 Try.prog ZdJ:={
 mixed:=by kernel_rfl
 f49:=⟨Try.f86.name,by decide,Try.func86.trans (congrArg some (by kernel_rfl))⟩
 f59:=⟨Try.f113.name,by decide,Try.func113.trans (congrArg some (by kernel_rfl))⟩
 f60:=⟨Try.f114.name,by decide,Try.func114.trans (congrArg some (by kernel_rfl))⟩
 f68:=⟨Try.f129.name,by decide,Try.func129.trans (congrArg some (by kernel_rfl))⟩
 t0:=Try.underlying0
 a0:=Try.isAgg0
 z0:=Try.sizeOf0
 v0:=Try.zeroValue0
 t3:=Try.underlying3
 a3:=Try.isAgg3
 z3:=Try.sizeOf3
 v3:=Try.zeroValue3
 t4:=Try.underlying4
 a4:=Try.isAgg4
 z4:=Try.sizeOf4
 v4:=Try.zeroValue4
 t22:=Try.underlying53
 a22:=Try.isAgg53
 z22:=Try.sizeOf53
 v22:=Try.zeroValue53
 t23:=Try.underlying3
 a23:=Try.isAgg3
 z23:=Try.sizeOf3
 v23:=Try.zeroValue3
 t51:=Try.underlying149
 a51:=Try.isAgg149
 z51:=Try.sizeOf149
 v51:=Try.zeroValue149}
end
end Go.Proofs.Ytblplapkdmhikaa
