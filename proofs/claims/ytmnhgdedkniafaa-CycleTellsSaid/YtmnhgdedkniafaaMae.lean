/- A contract of the library, laid at this dump: the table of numbers typed out. -/
import Derived.Shelf.Sort.Plain
import Derived.Ground.NamesProg
import Derived.Shelf.SlGeneric
import Derived.Test.YtmnhgdedkniafaaProg
namespace Go.Proofs.Ytmnhgdedkniafaa
open Go.Shelf Go.Proofs
def sortI_lay_ren : Go.Shelf.Ren := ⟨fun | 189 => 116 | 125 => 168 | 257 => 167 | 128 => 210 | 129 => 211 | 294 => 201 | 295 => 202 | 296 => 203 | 297 => 204 | 298 => 205 | 299 => 206 | 216 => 207 | 300 => 208 | 301 => 209 | 328 => 236 | 329 => 237 | 330 => 238 | 331 => 239 | 332 => 240 | 215 => 195 | 343 => 252 | n => n, fun | 28 => 50 | 3 => 3 | 46 => 97 | 0 => 0 | 51 => 264 | 53 => 201 | 4 => 4 | 183 => 258 | 182 => 257 | 131 => 144 | 5 => 5 | 9 => 9 | 218 => 280 | 222 => 283 | 228 => 296 | 229 => 297 | n => n, fun | n => n⟩
theorem sortI_lay : Go.Proofs.Lays.n189 Try.prog sortI_lay_ren := {
  mixed := by kernel_rfl
  f125 := Try.func168.trans (congrArg some (by kernel_rfl))
  f128 := Try.func210.trans (congrArg some (by kernel_rfl))
  f129 := Try.func211.trans (congrArg some (by kernel_rfl))
  f189 := Try.func116.trans (congrArg some (by kernel_rfl))
  f215 := Try.func195.trans (congrArg some (by kernel_rfl))
  f216 := Try.func207.trans (congrArg some (by kernel_rfl))
  f257 := Try.func167.trans (congrArg some (by kernel_rfl))
  f294 := Try.func201.trans (congrArg some (by kernel_rfl))
  f295 := Try.func202.trans (congrArg some (by kernel_rfl))
  f296 := Try.func203.trans (congrArg some (by kernel_rfl))
  f297 := Try.func204.trans (congrArg some (by kernel_rfl))
  f298 := Try.func205.trans (congrArg some (by kernel_rfl))
  f299 := Try.func206.trans (congrArg some (by kernel_rfl))
  f300 := Try.func208.trans (congrArg some (by kernel_rfl))
  f301 := Try.func209.trans (congrArg some (by kernel_rfl))
  f328 := Try.func236.trans (congrArg some (by kernel_rfl))
  f329 := Try.func237.trans (congrArg some (by kernel_rfl))
  f330 := Try.func238.trans (congrArg some (by kernel_rfl))
  f331 := Try.func239.trans (congrArg some (by kernel_rfl))
  f332 := Try.func240.trans (congrArg some (by kernel_rfl))
  f343 := Try.func252.trans (congrArg some (by kernel_rfl))
  t0 := Try.underlying0
  a0 := Try.isAgg0
  z0 := Try.sizeOf0
  v0 := Try.zeroValue0
  t3 := Try.underlying3
  a3 := Try.isAgg3
  z3 := Try.sizeOf3
  v3 := Try.zeroValue3
  t4 := Try.underlying4
  a4 := Try.isAgg4
  z4 := Try.sizeOf4
  v4 := Try.zeroValue4
  t5 := Try.underlying5
  a5 := Try.isAgg5
  z5 := Try.sizeOf5
  v5 := Try.zeroValue5
  t9 := Try.underlying9
  a9 := Try.isAgg9
  z9 := Try.sizeOf9
  v9 := Try.zeroValue9
  t28 := Try.underlying50
  a28 := Try.isAgg50
  z28 := Try.sizeOf50
  v28 := Try.zeroValue50
  t46 := Try.underlying97
  a46 := Try.isAgg97
  z46 := Try.sizeOf97
  v46 := Try.zeroValue97
  t51 := Try.underlying264
  a51 := Try.isAgg264
  z51 := Try.sizeOf264
  v51 := Try.zeroValue264
  t53 := Try.underlying201
  a53 := Try.isAgg201
  z53 := Try.sizeOf201
  v53 := Try.zeroValue201
  t131 := Try.underlying144
  a131 := Try.isAgg144
  z131 := Try.sizeOf144
  v131 := Try.zeroValue144
  t182 := Try.underlying257
  a182 := Try.isAgg257
  z182 := Try.sizeOf257
  v182 := Try.zeroValue257
  t183 := Try.underlying258
  a183 := Try.isAgg258
  z183 := Try.sizeOf258
  v183 := Try.zeroValue258
  t218 := Try.underlying280
  a218 := Try.isAgg280
  z218 := Try.sizeOf280
  v218 := Try.zeroValue280
  t222 := Try.underlying283
  a222 := Try.isAgg283
  z222 := Try.sizeOf283
  v222 := Try.zeroValue283
  t228 := Try.underlying296
  a228 := Try.isAgg296
  z228 := Try.sizeOf296
  v228 := Try.zeroValue296
  t229 := Try.underlying297
  a229 := Try.isAgg297
  z229 := Try.sizeOf297
  v229 := Try.zeroValue297 }
end Go.Proofs.Ytmnhgdedkniafaa
