/- A contract of the library, laid at this dump: the table of numbers typed out. -/
import Derived.Shelf.SlicesG.SearchI
import Derived.Ground.SlgnProg
import Derived.Shelf.SlGeneric
import Derived.Test.YtmnhgdedkniafaaProg
namespace Go.Proofs.Ytmnhgdedkniafaa
open Go.Shelf Go.Proofs
def binI_lay_ren : Go.Shelf.Ren := ⟨fun | 49 => 214 | 59 => 207 | 60 => 243 | 68 => 195 | n => n, fun | 22 => 50 | 23 => 3 | 3 => 3 | 4 => 4 | 51 => 97 | 0 => 0 | n => n, fun | n => n⟩
theorem binI_lay : Go.Proofs.SlLaysN.n49 Try.prog binI_lay_ren := {
  mixed := by kernel_rfl
  f49 := ⟨Try.f214.name, by decide, Try.func214.trans (congrArg some (by kernel_rfl))⟩
  f59 := ⟨Try.f207.name, by decide, Try.func207.trans (congrArg some (by kernel_rfl))⟩
  f60 := ⟨Try.f243.name, by decide, Try.func243.trans (congrArg some (by kernel_rfl))⟩
  f68 := ⟨Try.f195.name, by decide, Try.func195.trans (congrArg some (by kernel_rfl))⟩
  t0 := Try.underlying0
  a0 := Try.isAgg0
  z0 := Try.sizeOf0
  v0 := Try.zeroValue0
  t3 := Try.underlying3
  a3 := Try.isAgg3
  z3 := Try.sizeOf3
  v3 := Try.zeroValue3
  t4 := Try.underlying4
  a4 := Try.isAgg4
  z4 := Try.sizeOf4
  v4 := Try.zeroValue4
  t22 := Try.underlying50
  a22 := Try.isAgg50
  z22 := Try.sizeOf50
  v22 := Try.zeroValue50
  t23 := Try.underlying3
  a23 := Try.isAgg3
  z23 := Try.sizeOf3
  v23 := Try.zeroValue3
  t51 := Try.underlying97
  a51 := Try.isAgg97
  z51 := Try.sizeOf97
  v51 := Try.zeroValue97 }
end Go.Proofs.Ytmnhgdedkniafaa
