/- A contract of the library, laid at this dump: the table of numbers typed out. -/
import Derived.Shelf.Bits.Mul64
import Derived.Ground.NamesProg
import Derived.Shelf.SlGeneric
import Derived.Test.YtklmahmfmbppkaaGreatProg
namespace Go.Proofs.YtklmahmfmbppkaaGreat
open Go.Shelf Go.Proofs
def ZhK:Go.Shelf.Ren:=⟨fun|212=>213|263=>227|264=>228|n=>n,fun|46=>68|51=>249|146=>273|53=>225|148=>275|n=>n,fun|n=>n⟩
theorem ZkP:Go.Proofs.Lays.n212 Tryz.prog ZhK:={
 mixed:=by kernel_rfl
 f212:=Tryz.func213.trans (congrArg some (by kernel_rfl))
 f263:=Tryz.func227.trans (congrArg some (by kernel_rfl))
 f264:=Tryz.func228.trans (congrArg some (by kernel_rfl))
 t46:=Tryz.underlying68
 a46:=Tryz.isAgg68
 z46:=Tryz.sizeOf68
 v46:=Tryz.zeroValue68
 t51:=Tryz.underlying249
 a51:=Tryz.isAgg249
 z51:=Tryz.sizeOf249
 v51:=Tryz.zeroValue249
 t53:=Tryz.underlying225
 a53:=Tryz.isAgg225
 z53:=Tryz.sizeOf225
 v53:=Tryz.zeroValue225
 t146:=Tryz.underlying273
 a146:=Tryz.isAgg273
 z146:=Tryz.sizeOf273
 v146:=Tryz.zeroValue273
 t148:=Tryz.underlying275
 a148:=Tryz.isAgg275
 z148:=Tryz.sizeOf275
 v148:=Tryz.zeroValue275}
end Go.Proofs.YtklmahmfmbppkaaGreat
