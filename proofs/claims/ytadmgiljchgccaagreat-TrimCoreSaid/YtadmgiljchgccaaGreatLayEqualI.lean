/- A contract of the library, laid at this dump: the table of numbers typed out. -/
import Derived.Shelf.SlicesG.Equal
import Derived.Ground.SlgnProg
import Derived.Shelf.SlGeneric
import Derived.Test.YtadmgiljchgccaaGreatProg
namespace Go.Proofs.YtadmgiljchgccaaGreat
open Go.Shelf Go.Proofs
def equalI_lay_ren : Go.Shelf.Ren := ⟨fun | 33 => 71 | n => n, fun | 22 => 27 | 23 => 3 | 4 => 4 | 3 => 3 | 0 => 0 | n => n, fun | n => n⟩
theorem equalI_lay : Go.Proofs.SlLaysN.n33 Tryz.prog equalI_lay_ren := {
  mixed := by kernel_rfl
  f33 := ⟨Tryz.f71.name, by decide, Tryz.func71.trans (congrArg some (by kernel_rfl))⟩
  t0 := Tryz.underlying0
  a0 := Tryz.isAgg0
  z0 := Tryz.sizeOf0
  v0 := Tryz.zeroValue0
  t3 := Tryz.underlying3
  a3 := Tryz.isAgg3
  z3 := Tryz.sizeOf3
  v3 := Tryz.zeroValue3
  t4 := Tryz.underlying4
  a4 := Tryz.isAgg4
  z4 := Tryz.sizeOf4
  v4 := Tryz.zeroValue4
  t22 := Tryz.underlying27
  a22 := Tryz.isAgg27
  z22 := Tryz.sizeOf27
  v22 := Tryz.zeroValue27
  t23 := Tryz.underlying3
  a23 := Tryz.isAgg3
  z23 := Tryz.sizeOf3
  v23 := Tryz.zeroValue3 }
end Go.Proofs.YtadmgiljchgccaaGreat
