/- A contract of the library, laid at this dump: the table of numbers typed out. -/
import Derived.Shelf.Sort.Plain
import Derived.Ground.NamesProg
import Derived.Shelf.SlGeneric
import Derived.Test.YtgakhpdclhlmpaaProg
namespace Go.Proofs.Ytgakhpdclhlmpaa
open Go.Shelf Go.Proofs
def sortI_lay_ren : Go.Shelf.Ren := ⟨fun | 189 => 144 | 125 => 171 | 257 => 195 | 128 => 224 | 129 => 225 | 294 => 244 | 295 => 245 | 296 => 246 | 297 => 247 | 298 => 248 | 299 => 249 | 216 => 250 | 300 => 251 | 301 => 252 | 328 => 291 | 329 => 275 | 330 => 276 | 331 => 292 | 332 => 293 | 215 => 226 | 343 => 306 | n => n, fun | 28 => 55 | 3 => 3 | 46 => 103 | 0 => 0 | 51 => 266 | 53 => 186 | 4 => 4 | 183 => 260 | 182 => 259 | 131 => 151 | 5 => 5 | 9 => 9 | 218 => 300 | 222 => 303 | 228 => 320 | 229 => 161 | n => n, fun | n => n⟩
theorem sortI_lay : Go.Proofs.Lays.n189 Try.prog sortI_lay_ren := {
  mixed := by kernel_rfl
  f125 := Try.func171.trans (congrArg some (by kernel_rfl))
  f128 := Try.func224.trans (congrArg some (by kernel_rfl))
  f129 := Try.func225.trans (congrArg some (by kernel_rfl))
  f189 := Try.func144.trans (congrArg some (by kernel_rfl))
  f215 := Try.func226.trans (congrArg some (by kernel_rfl))
  f216 := Try.func250.trans (congrArg some (by kernel_rfl))
  f257 := Try.func195.trans (congrArg some (by kernel_rfl))
  f294 := Try.func244.trans (congrArg some (by kernel_rfl))
  f295 := Try.func245.trans (congrArg some (by kernel_rfl))
  f296 := Try.func246.trans (congrArg some (by kernel_rfl))
  f297 := Try.func247.trans (congrArg some (by kernel_rfl))
  f298 := Try.func248.trans (congrArg some (by kernel_rfl))
  f299 := Try.func249.trans (congrArg some (by kernel_rfl))
  f300 := Try.func251.trans (congrArg some (by kernel_rfl))
  f301 := Try.func252.trans (congrArg some (by kernel_rfl))
  f328 := Try.func291.trans (congrArg some (by kernel_rfl))
  f329 := Try.func275.trans (congrArg some (by kernel_rfl))
  f330 := Try.func276.trans (congrArg some (by kernel_rfl))
  f331 := Try.func292.trans (congrArg some (by kernel_rfl))
  f332 := Try.func293.trans (congrArg some (by kernel_rfl))
  f343 := Try.func306.trans (congrArg some (by kernel_rfl))
  t0 := Try.underlying0
  a0 := Try.isAgg0
  z0 := Try.sizeOf0
  v0 := Try.zeroValue0
  t3 := Try.underlying3
  a3 := Try.isAgg3
  z3 := Try.sizeOf3
  v3 := Try.zeroValue3
  t4 := Try.underlying4
  a4 := Try.isAgg4
  z4 := Try.sizeOf4
  v4 := Try.zeroValue4
  t5 := Try.underlying5
  a5 := Try.isAgg5
  z5 := Try.sizeOf5
  v5 := Try.zeroValue5
  t9 := Try.underlying9
  a9 := Try.isAgg9
  z9 := Try.sizeOf9
  v9 := Try.zeroValue9
  t28 := Try.underlying55
  a28 := Try.isAgg55
  z28 := Try.sizeOf55
  v28 := Try.zeroValue55
  t46 := Try.underlying103
  a46 := Try.isAgg103
  z46 := Try.sizeOf103
  v46 := Try.zeroValue103
  t51 := Try.underlying266
  a51 := Try.isAgg266
  z51 := Try.sizeOf266
  v51 := Try.zeroValue266
  t53 := Try.underlying186
  a53 := Try.isAgg186
  z53 := Try.sizeOf186
  v53 := Try.zeroValue186
  t131 := Try.underlying151
  a131 := Try.isAgg151
  z131 := Try.sizeOf151
  v131 := Try.zeroValue151
  t182 := Try.underlying259
  a182 := Try.isAgg259
  z182 := Try.sizeOf259
  v182 := Try.zeroValue259
  t183 := Try.underlying260
  a183 := Try.isAgg260
  z183 := Try.sizeOf260
  v183 := Try.zeroValue260
  t218 := Try.underlying300
  a218 := Try.isAgg300
  z218 := Try.sizeOf300
  v218 := Try.zeroValue300
  t222 := Try.underlying303
  a222 := Try.isAgg303
  z222 := Try.sizeOf303
  v222 := Try.zeroValue303
  t228 := Try.underlying320
  a228 := Try.isAgg320
  z228 := Try.sizeOf320
  v228 := Try.zeroValue320
  t229 := Try.underlying161
  a229 := Try.isAgg161
  z229 := Try.sizeOf161
  v229 := Try.zeroValue161 }
end Go.Proofs.Ytgakhpdclhlmpaa
