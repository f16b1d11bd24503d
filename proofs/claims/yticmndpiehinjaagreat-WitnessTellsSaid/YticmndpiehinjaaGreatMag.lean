/- A contract of the library, laid at this dump: the table of numbers typed out. -/
import Derived.Shelf.Bits.Mul64
import Derived.Ground.NamesProg
import Derived.Shelf.SlGeneric
import Derived.Test.YticmndpiehinjaaGreatProg
namespace Go.Proofs.YticmndpiehinjaaGreat
set_option linter.unusedVariables false
set_option linter.unusedSimpArgs false
section
open Go.Shelf Go.Proofs
def Zia:Go.Shelf.Ren:=⟨fun|212=>188|263=>201|264=>202|n=>n,fun|46=>87|51=>220|146=>245|53=>118|148=>247|n=>n,fun|n=>n⟩
theorem Zlb:Go.Proofs.Lays.n212 Tryz.prog Zia:={
 mixed:=by kernel_rfl
 f212:=Tryz.func188.trans (congrArg some (by kernel_rfl))
 f263:=Tryz.func201.trans (congrArg some (by kernel_rfl))
 f264:=Tryz.func202.trans (congrArg some (by kernel_rfl))
 t46:=Tryz.underlying87
 a46:=Tryz.isAgg87
 z46:=Tryz.sizeOf87
 v46:=Tryz.zeroValue87
 t51:=Tryz.underlying220
 a51:=Tryz.isAgg220
 z51:=Tryz.sizeOf220
 v51:=Tryz.zeroValue220
 t53:=Tryz.underlying118
 a53:=Tryz.isAgg118
 z53:=Tryz.sizeOf118
 v53:=Tryz.zeroValue118
 t146:=Tryz.underlying245
 a146:=Tryz.isAgg245
 z146:=Tryz.sizeOf245
 v146:=Tryz.zeroValue245
 t148:=Tryz.underlying247
 a148:=Tryz.isAgg247
 z148:=Tryz.sizeOf247
 v148:=Tryz.zeroValue247}
end
end Go.Proofs.YticmndpiehinjaaGreat
