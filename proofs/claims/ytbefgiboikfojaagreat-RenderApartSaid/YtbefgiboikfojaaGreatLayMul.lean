/- A contract of the library, laid at this dump: the table of numbers typed out. -/
import Derived.Shelf.Bits.Mul64
import Derived.Ground.NamesProg
import Derived.Shelf.SlGeneric
import Derived.Test.YtbefgiboikfojaaGreatProg
namespace Go.Proofs.YtbefgiboikfojaaGreat
open Go.Shelf Go.Proofs
def bitsMul_lay_ren : Go.Shelf.Ren := ⟨fun | 212 => 204 | 263 => 216 | 264 => 217 | n => n, fun | 46 => 117 | 51 => 246 | 146 => 269 | 53 => 111 | 148 => 271 | n => n, fun | n => n⟩
theorem bitsMul_lay : Go.Proofs.Lays.n212 Tryz.prog bitsMul_lay_ren := {
  mixed := by kernel_rfl
  f212 := Tryz.func204.trans (congrArg some (by kernel_rfl))
  f263 := Tryz.func216.trans (congrArg some (by kernel_rfl))
  f264 := Tryz.func217.trans (congrArg some (by kernel_rfl))
  t46 := Tryz.underlying117
  a46 := Tryz.isAgg117
  z46 := Tryz.sizeOf117
  v46 := Tryz.zeroValue117
  t51 := Tryz.underlying246
  a51 := Tryz.isAgg246
  z51 := Tryz.sizeOf246
  v51 := Tryz.zeroValue246
  t53 := Tryz.underlying111
  a53 := Tryz.isAgg111
  z53 := Tryz.sizeOf111
  v53 := Tryz.zeroValue111
  t146 := Tryz.underlying269
  a146 := Tryz.isAgg269
  z146 := Tryz.sizeOf269
  v146 := Tryz.zeroValue269
  t148 := Tryz.underlying271
  a148 := Tryz.isAgg271
  z148 := Tryz.sizeOf271
  v148 := Tryz.zeroValue271 }
end Go.Proofs.YtbefgiboikfojaaGreat
