/- A contract of the library, laid at this dump: the table of numbers typed out. -/
import Derived.Shelf.Bits.Mul64
import Derived.Ground.NamesProg
import Derived.Shelf.SlGeneric
import Derived.Test.YtebjeapnglmokaaProg
namespace Go.Proofs.Ytebjeapnglmokaa
open Go.Shelf Go.Proofs
def bitsMul_lay_ren : Go.Shelf.Ren := ⟨fun | 212 => 89 | 263 => 97 | 264 => 98 | n => n, fun | 46 => 30 | 51 => 133 | 146 => 145 | 53 => 80 | 148 => 147 | n => n, fun | n => n⟩
theorem bitsMul_lay : Go.Proofs.Lays.n212 Try.prog bitsMul_lay_ren := {
  mixed := by kernel_rfl
  f212 := Try.func89.trans (congrArg some (by kernel_rfl))
  f263 := Try.func97.trans (congrArg some (by kernel_rfl))
  f264 := Try.func98.trans (congrArg some (by kernel_rfl))
  t46 := Try.underlying30
  a46 := Try.isAgg30
  z46 := Try.sizeOf30
  v46 := Try.zeroValue30
  t51 := Try.underlying133
  a51 := Try.isAgg133
  z51 := Try.sizeOf133
  v51 := Try.zeroValue133
  t53 := Try.underlying80
  a53 := Try.isAgg80
  z53 := Try.sizeOf80
  v53 := Try.zeroValue80
  t146 := Try.underlying145
  a146 := Try.isAgg145
  z146 := Try.sizeOf145
  v146 := Try.zeroValue145
  t148 := Try.underlying147
  a148 := Try.isAgg147
  z148 := Try.sizeOf147
  v148 := Try.zeroValue147 }
end Go.Proofs.Ytebjeapnglmokaa
