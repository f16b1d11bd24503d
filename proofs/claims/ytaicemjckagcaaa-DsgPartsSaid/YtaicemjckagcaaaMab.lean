/- A contract of the library, laid at this dump: the table of numbers typed out. -/
import Derived.Shelf.Sort.Plain
import Derived.Ground.NamesProg
import Derived.Shelf.SlGeneric
import Derived.Test.YtaicemjckagcaaaProg
namespace Go.Proofs.Ytaicemjckagcaaa
open Go.Shelf Go.Proofs
def sortI_lay_ren : Go.Shelf.Ren := ⟨fun | 189 => 82 | 125 => 135 | 257 => 134 | 128 => 182 | 129 => 183 | 294 => 173 | 295 => 174 | 296 => 175 | 297 => 176 | 298 => 177 | 299 => 178 | 216 => 179 | 300 => 180 | 301 => 181 | 328 => 215 | 329 => 216 | 330 => 217 | 331 => 218 | 332 => 219 | 215 => 192 | 343 => 230 | n => n, fun | 28 => 22 | 3 => 3 | 46 => 103 | 0 => 0 | 51 => 248 | 53 => 239 | 4 => 4 | 183 => 242 | 182 => 241 | 131 => 203 | 5 => 5 | 9 => 9 | 218 => 269 | 222 => 272 | 228 => 280 | 229 => 281 | n => n, fun | n => n⟩
theorem sortI_lay : Go.Proofs.Lays.n189 Try.prog sortI_lay_ren := {
  mixed := by kernel_rfl
  f125 := Try.func135.trans (congrArg some (by kernel_rfl))
  f128 := Try.func182.trans (congrArg some (by kernel_rfl))
  f129 := Try.func183.trans (congrArg some (by kernel_rfl))
  f189 := Try.func82.trans (congrArg some (by kernel_rfl))
  f215 := Try.func192.trans (congrArg some (by kernel_rfl))
  f216 := Try.func179.trans (congrArg some (by kernel_rfl))
  f257 := Try.func134.trans (congrArg some (by kernel_rfl))
  f294 := Try.func173.trans (congrArg some (by kernel_rfl))
  f295 := Try.func174.trans (congrArg some (by kernel_rfl))
  f296 := Try.func175.trans (congrArg some (by kernel_rfl))
  f297 := Try.func176.trans (congrArg some (by kernel_rfl))
  f298 := Try.func177.trans (congrArg some (by kernel_rfl))
  f299 := Try.func178.trans (congrArg some (by kernel_rfl))
  f300 := Try.func180.trans (congrArg some (by kernel_rfl))
  f301 := Try.func181.trans (congrArg some (by kernel_rfl))
  f328 := Try.func215.trans (congrArg some (by kernel_rfl))
  f329 := Try.func216.trans (congrArg some (by kernel_rfl))
  f330 := Try.func217.trans (congrArg some (by kernel_rfl))
  f331 := Try.func218.trans (congrArg some (by kernel_rfl))
  f332 := Try.func219.trans (congrArg some (by kernel_rfl))
  f343 := Try.func230.trans (congrArg some (by kernel_rfl))
  t0 := Try.underlying0
  a0 := Try.isAgg0
  z0 := Try.sizeOf0
  v0 := Try.zeroValue0
  t3 := Try.underlying3
  a3 := Try.isAgg3
  z3 := Try.sizeOf3
  v3 := Try.zeroValue3
  t4 := Try.underlying4
  a4 := Try.isAgg4
  z4 := Try.sizeOf4
  v4 := Try.zeroValue4
  t5 := Try.underlying5
  a5 := Try.isAgg5
  z5 := Try.sizeOf5
  v5 := Try.zeroValue5
  t9 := Try.underlying9
  a9 := Try.isAgg9
  z9 := Try.sizeOf9
  v9 := Try.zeroValue9
  t28 := Try.underlying22
  a28 := Try.isAgg22
  z28 := Try.sizeOf22
  v28 := Try.zeroValue22
  t46 := Try.underlying103
  a46 := Try.isAgg103
  z46 := Try.sizeOf103
  v46 := Try.zeroValue103
  t51 := Try.underlying248
  a51 := Try.isAgg248
  z51 := Try.sizeOf248
  v51 := Try.zeroValue248
  t53 := Try.underlying239
  a53 := Try.isAgg239
  z53 := Try.sizeOf239
  v53 := Try.zeroValue239
  t131 := Try.underlying203
  a131 := Try.isAgg203
  z131 := Try.sizeOf203
  v131 := Try.zeroValue203
  t182 := Try.underlying241
  a182 := Try.isAgg241
  z182 := Try.sizeOf241
  v182 := Try.zeroValue241
  t183 := Try.underlying242
  a183 := Try.isAgg242
  z183 := Try.sizeOf242
  v183 := Try.zeroValue242
  t218 := Try.underlying269
  a218 := Try.isAgg269
  z218 := Try.sizeOf269
  v218 := Try.zeroValue269
  t222 := Try.underlying272
  a222 := Try.isAgg272
  z222 := Try.sizeOf272
  v222 := Try.zeroValue272
  t228 := Try.underlying280
  a228 := Try.isAgg280
  z228 := Try.sizeOf280
  v228 := Try.zeroValue280
  t229 := Try.underlying281
  a229 := Try.isAgg281
  z229 := Try.sizeOf281
  v229 := Try.zeroValue281 }
end Go.Proofs.Ytaicemjckagcaaa
