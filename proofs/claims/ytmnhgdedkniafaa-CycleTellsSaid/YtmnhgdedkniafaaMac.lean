/- A contract of the library, laid at this dump: the table of numbers typed out. -/
import Derived.Shelf.Bits.Mul64
import Derived.Ground.NamesProg
import Derived.Shelf.SlGeneric
import Derived.Test.YtmnhgdedkniafaaProg
namespace Go.Proofs.Ytmnhgdedkniafaa
open Go.Shelf Go.Proofs
def bitsMul_lay_ren : Go.Shelf.Ren := ⟨fun | 212 => 212 | 263 => 241 | 264 => 242 | n => n, fun | 46 => 97 | 51 => 264 | 146 => 285 | 53 => 201 | 148 => 287 | n => n, fun | n => n⟩
theorem bitsMul_lay : Go.Proofs.Lays.n212 Try.prog bitsMul_lay_ren := {
  mixed := by kernel_rfl
  f212 := Try.func212.trans (congrArg some (by kernel_rfl))
  f263 := Try.func241.trans (congrArg some (by kernel_rfl))
  f264 := Try.func242.trans (congrArg some (by kernel_rfl))
  t46 := Try.underlying97
  a46 := Try.isAgg97
  z46 := Try.sizeOf97
  v46 := Try.zeroValue97
  t51 := Try.underlying264
  a51 := Try.isAgg264
  z51 := Try.sizeOf264
  v51 := Try.zeroValue264
  t53 := Try.underlying201
  a53 := Try.isAgg201
  z53 := Try.sizeOf201
  v53 := Try.zeroValue201
  t146 := Try.underlying285
  a146 := Try.isAgg285
  z146 := Try.sizeOf285
  v146 := Try.zeroValue285
  t148 := Try.underlying287
  a148 := Try.isAgg287
  z148 := Try.sizeOf287
  v148 := Try.zeroValue287 }
end Go.Proofs.Ytmnhgdedkniafaa
