/- A contract of the library, laid at this dump: the table of numbers typed out. -/
import Derived.Shelf.Bits.Mul64
import Derived.Ground.NamesProg
import Derived.Shelf.SlGeneric
import Derived.Test.YtadmgiljchgccaaGreatProg
namespace Go.Proofs.YtadmgiljchgccaaGreat
open Go.Shelf Go.Proofs
def bitsMul_lay_ren : Go.Shelf.Ren := ⟨fun | 212 => 281 | 263 => 284 | 264 => 285 | n => n, fun | 46 => 116 | 51 => 204 | 146 => 310 | 53 => 147 | 148 => 312 | n => n, fun | n => n⟩
theorem bitsMul_lay : Go.Proofs.Lays.n212 Tryz.prog bitsMul_lay_ren := {
  mixed := by kernel_rfl
  f212 := Tryz.func281.trans (congrArg some (by kernel_rfl))
  f263 := Tryz.func284.trans (congrArg some (by kernel_rfl))
  f264 := Tryz.func285.trans (congrArg some (by kernel_rfl))
  t46 := Tryz.underlying116
  a46 := Tryz.isAgg116
  z46 := Tryz.sizeOf116
  v46 := Tryz.zeroValue116
  t51 := Tryz.underlying204
  a51 := Tryz.isAgg204
  z51 := Tryz.sizeOf204
  v51 := Tryz.zeroValue204
  t53 := Tryz.underlying147
  a53 := Tryz.isAgg147
  z53 := Tryz.sizeOf147
  v53 := Tryz.zeroValue147
  t146 := Tryz.underlying310
  a146 := Tryz.isAgg310
  z146 := Tryz.sizeOf310
  v146 := Tryz.zeroValue310
  t148 := Tryz.underlying312
  a148 := Tryz.isAgg312
  z148 := Tryz.sizeOf312
  v148 := Tryz.zeroValue312 }
end Go.Proofs.YtadmgiljchgccaaGreat
