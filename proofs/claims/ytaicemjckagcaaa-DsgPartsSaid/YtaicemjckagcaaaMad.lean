/- A contract of the library, laid at this dump: the table of numbers typed out. -/
import Derived.Shelf.SlSortCmp.NoneTotal
import Derived.Ground.SlsfProg
import Derived.Shelf.SlGeneric
import Derived.Test.YtaicemjckagcaaaProg
namespace Go.Proofs.Ytaicemjckagcaaa
open Go.Shelf Go.Proofs
def sortE_lay_ren : Go.Shelf.Ren := ⟨fun | 6 => 186 | 15 => 135 | 14 => 221 | 28 => 182 | 29 => 183 | 20 => 232 | 21 => 233 | 22 => 234 | 23 => 235 | 24 => 236 | 25 => 237 | 26 => 238 | 27 => 239 | 46 => 244 | 47 => 216 | 48 => 217 | 49 => 245 | 50 => 246 | 57 => 247 | n => n, fun | 22 => 23 | 24 => 33 | 25 => 153 | 3 => 3 | 39 => 103 | 0 => 0 | 53 => 248 | 55 => 239 | 4 => 4 | 46 => 242 | 45 => 241 | 50 => 203 | 5 => 5 | 9 => 9 | 66 => 269 | 70 => 272 | 76 => 280 | 77 => 281 | n => n, fun | n => n⟩
theorem sortE_lay : Go.Proofs.SlLaysF0.n6 Try.prog sortE_lay_ren := {
  mixed := by kernel_rfl
  f6 := ⟨Try.f186.name, by decide, Try.func186.trans (congrArg some (by kernel_rfl))⟩
  f14 := ⟨Try.f221.name, by decide, Try.func221.trans (congrArg some (by kernel_rfl))⟩
  f15 := Try.func135.trans (congrArg some (by kernel_rfl))
  f20 := ⟨Try.f232.name, by decide, Try.func232.trans (congrArg some (by kernel_rfl))⟩
  f21 := ⟨Try.f233.name, by decide, Try.func233.trans (congrArg some (by kernel_rfl))⟩
  f22 := ⟨Try.f234.name, by decide, Try.func234.trans (congrArg some (by kernel_rfl))⟩
  f23 := ⟨Try.f235.name, by decide, Try.func235.trans (congrArg some (by kernel_rfl))⟩
  f24 := ⟨Try.f236.name, by decide, Try.func236.trans (congrArg some (by kernel_rfl))⟩
  f25 := ⟨Try.f237.name, by decide, Try.func237.trans (congrArg some (by kernel_rfl))⟩
  f26 := ⟨Try.f238.name, by decide, Try.func238.trans (congrArg some (by kernel_rfl))⟩
  f27 := ⟨Try.f239.name, by decide, Try.func239.trans (congrArg some (by kernel_rfl))⟩
  f28 := Try.func182.trans (congrArg some (by kernel_rfl))
  f29 := Try.func183.trans (congrArg some (by kernel_rfl))
  f46 := ⟨Try.f244.name, by decide, Try.func244.trans (congrArg some (by kernel_rfl))⟩
  f47 := Try.func216.trans (congrArg some (by kernel_rfl))
  f48 := Try.func217.trans (congrArg some (by kernel_rfl))
  f49 := ⟨Try.f245.name, by decide, Try.func245.trans (congrArg some (by kernel_rfl))⟩
  f50 := ⟨Try.f246.name, by decide, Try.func246.trans (congrArg some (by kernel_rfl))⟩
  f57 := ⟨Try.f247.name, by decide, Try.func247.trans (congrArg some (by kernel_rfl))⟩
  t0 := Try.underlying0
  a0 := Try.isAgg0
  z0 := Try.sizeOf0
  v0 := Try.zeroValue0
  t3 := Try.underlying3
  a3 := Try.isAgg3
  z3 := Try.sizeOf3
  v3 := Try.zeroValue3
  t4 := Try.underlying4
  a4 := Try.isAgg4
  z4 := Try.sizeOf4
  v4 := Try.zeroValue4
  t5 := Try.underlying5
  a5 := Try.isAgg5
  z5 := Try.sizeOf5
  v5 := Try.zeroValue5
  t9 := Try.underlying9
  a9 := Try.isAgg9
  z9 := Try.sizeOf9
  v9 := Try.zeroValue9
  t22 := Try.underlying23
  a22 := Try.isAgg23
  z22 := Try.sizeOf23
  v22 := Try.zeroValue23
  t25 := Try.underlying153
  a25 := Try.isAgg153
  z25 := Try.sizeOf153
  v25 := Try.zeroValue153
  t39 := Try.underlying103
  a39 := Try.isAgg103
  z39 := Try.sizeOf103
  v39 := Try.zeroValue103
  t45 := Try.underlying241
  a45 := Try.isAgg241
  z45 := Try.sizeOf241
  v45 := Try.zeroValue241
  t46 := Try.underlying242
  a46 := Try.isAgg242
  z46 := Try.sizeOf242
  v46 := Try.zeroValue242
  t50 := Try.underlying203
  a50 := Try.isAgg203
  z50 := Try.sizeOf203
  v50 := Try.zeroValue203
  t53 := Try.underlying248
  a53 := Try.isAgg248
  z53 := Try.sizeOf248
  v53 := Try.zeroValue248
  t55 := Try.underlying239
  a55 := Try.isAgg239
  z55 := Try.sizeOf239
  v55 := Try.zeroValue239
  t66 := Try.underlying269
  a66 := Try.isAgg269
  z66 := Try.sizeOf269
  v66 := Try.zeroValue269
  t70 := Try.underlying272
  a70 := Try.isAgg272
  z70 := Try.sizeOf272
  v70 := Try.zeroValue272
  t76 := Try.underlying280
  a76 := Try.isAgg280
  z76 := Try.sizeOf280
  v76 := Try.zeroValue280
  t77 := Try.underlying281
  a77 := Try.isAgg281
  z77 := Try.sizeOf281
  v77 := Try.zeroValue281 }
end Go.Proofs.Ytaicemjckagcaaa
