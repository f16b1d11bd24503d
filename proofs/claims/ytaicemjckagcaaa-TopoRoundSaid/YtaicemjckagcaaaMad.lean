/- A contract of the library, laid at this dump: the table of numbers typed out. -/
import Derived.Shelf.Bits.Mul64
import Derived.Ground.NamesProg
import Derived.Shelf.SlGeneric
import Derived.Test.YtaicemjckagcaaaProg
namespace Go.Proofs.Ytaicemjckagcaaa
open Go.Shelf Go.Proofs
def bitsMul_lay_ren : Go.Shelf.Ren := ⟨fun | 212 => 227 | 263 => 242 | 264 => 243 | n => n, fun | 46 => 103 | 51 => 248 | 146 => 290 | 53 => 239 | 148 => 292 | n => n, fun | n => n⟩
theorem bitsMul_lay : Go.Proofs.Lays.n212 Try.prog bitsMul_lay_ren := {
  mixed := by kernel_rfl
  f212 := Try.func227.trans (congrArg some (by kernel_rfl))
  f263 := Try.func242.trans (congrArg some (by kernel_rfl))
  f264 := Try.func243.trans (congrArg some (by kernel_rfl))
  t46 := Try.underlying103
  a46 := Try.isAgg103
  z46 := Try.sizeOf103
  v46 := Try.zeroValue103
  t51 := Try.underlying248
  a51 := Try.isAgg248
  z51 := Try.sizeOf248
  v51 := Try.zeroValue248
  t53 := Try.underlying239
  a53 := Try.isAgg239
  z53 := Try.sizeOf239
  v53 := Try.zeroValue239
  t146 := Try.underlying290
  a146 := Try.isAgg290
  z146 := Try.sizeOf290
  v146 := Try.zeroValue290
  t148 := Try.underlying292
  a148 := Try.isAgg292
  z148 := Try.sizeOf292
  v148 := Try.zeroValue292 }
end Go.Proofs.Ytaicemjckagcaaa
