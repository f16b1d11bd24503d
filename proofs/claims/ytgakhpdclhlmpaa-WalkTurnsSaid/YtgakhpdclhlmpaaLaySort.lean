/- A contract of the library, laid at this dump: the table of numbers typed out. -/
import Derived.Shelf.SlSortCmp.NoneTotal
import Derived.Ground.SlsfProg
import Derived.Shelf.SlGeneric
import Derived.Test.YtgakhpdclhlmpaaProg
namespace Go.Proofs.Ytgakhpdclhlmpaa
open Go.Shelf Go.Proofs
def sortE_lay_ren : Go.Shelf.Ren := ⟨fun | 6 => 118 | 15 => 171 | 14 => 170 | 28 => 224 | 29 => 225 | 20 => 216 | 21 => 217 | 22 => 218 | 23 => 219 | 24 => 220 | 25 => 221 | 26 => 222 | 27 => 223 | 46 => 274 | 47 => 275 | 48 => 276 | 49 => 277 | 50 => 278 | 57 => 303 | n => n, fun | 22 => 22 | 24 => 89 | 25 => 139 | 3 => 3 | 39 => 103 | 0 => 0 | 53 => 266 | 55 => 186 | 4 => 4 | 46 => 260 | 45 => 259 | 50 => 151 | 5 => 5 | 9 => 9 | 66 => 300 | 70 => 303 | 76 => 320 | 77 => 161 | n => n, fun | n => n⟩
theorem sortE_lay : Go.Proofs.SlLaysF0.n6 Try.prog sortE_lay_ren := {
  mixed := by kernel_rfl
  f6 := ⟨Try.f118.name, by decide, Try.func118.trans (congrArg some (by kernel_rfl))⟩
  f14 := ⟨Try.f170.name, by decide, Try.func170.trans (congrArg some (by kernel_rfl))⟩
  f15 := Try.func171.trans (congrArg some (by kernel_rfl))
  f20 := ⟨Try.f216.name, by decide, Try.func216.trans (congrArg some (by kernel_rfl))⟩
  f21 := ⟨Try.f217.name, by decide, Try.func217.trans (congrArg some (by kernel_rfl))⟩
  f22 := ⟨Try.f218.name, by decide, Try.func218.trans (congrArg some (by kernel_rfl))⟩
  f23 := ⟨Try.f219.name, by decide, Try.func219.trans (congrArg some (by kernel_rfl))⟩
  f24 := ⟨Try.f220.name, by decide, Try.func220.trans (congrArg some (by kernel_rfl))⟩
  f25 := ⟨Try.f221.name, by decide, Try.func221.trans (congrArg some (by kernel_rfl))⟩
  f26 := ⟨Try.f222.name, by decide, Try.func222.trans (congrArg some (by kernel_rfl))⟩
  f27 := ⟨Try.f223.name, by decide, Try.func223.trans (congrArg some (by kernel_rfl))⟩
  f28 := Try.func224.trans (congrArg some (by kernel_rfl))
  f29 := Try.func225.trans (congrArg some (by kernel_rfl))
  f46 := ⟨Try.f274.name, by decide, Try.func274.trans (congrArg some (by kernel_rfl))⟩
  f47 := Try.func275.trans (congrArg some (by kernel_rfl))
  f48 := Try.func276.trans (congrArg some (by kernel_rfl))
  f49 := ⟨Try.f277.name, by decide, Try.func277.trans (congrArg some (by kernel_rfl))⟩
  f50 := ⟨Try.f278.name, by decide, Try.func278.trans (congrArg some (by kernel_rfl))⟩
  f57 := ⟨Try.f303.name, by decide, Try.func303.trans (congrArg some (by kernel_rfl))⟩
  t0 := Try.underlying0
  a0 := Try.isAgg0
  z0 := Try.sizeOf0
  v0 := Try.zeroValue0
  t3 := Try.underlying3
  a3 := Try.isAgg3
  z3 := Try.sizeOf3
  v3 := Try.zeroValue3
  t4 := Try.underlying4
  a4 := Try.isAgg4
  z4 := Try.sizeOf4
  v4 := Try.zeroValue4
  t5 := Try.underlying5
  a5 := Try.isAgg5
  z5 := Try.sizeOf5
  v5 := Try.zeroValue5
  t9 := Try.underlying9
  a9 := Try.isAgg9
  z9 := Try.sizeOf9
  v9 := Try.zeroValue9
  t22 := Try.underlying22
  a22 := Try.isAgg22
  z22 := Try.sizeOf22
  v22 := Try.zeroValue22
  t25 := Try.underlying139
  a25 := Try.isAgg139
  z25 := Try.sizeOf139
  v25 := Try.zeroValue139
  t39 := Try.underlying103
  a39 := Try.isAgg103
  z39 := Try.sizeOf103
  v39 := Try.zeroValue103
  t45 := Try.underlying259
  a45 := Try.isAgg259
  z45 := Try.sizeOf259
  v45 := Try.zeroValue259
  t46 := Try.underlying260
  a46 := Try.isAgg260
  z46 := Try.sizeOf260
  v46 := Try.zeroValue260
  t50 := Try.underlying151
  a50 := Try.isAgg151
  z50 := Try.sizeOf151
  v50 := Try.zeroValue151
  t53 := Try.underlying266
  a53 := Try.isAgg266
  z53 := Try.sizeOf266
  v53 := Try.zeroValue266
  t55 := Try.underlying186
  a55 := Try.isAgg186
  z55 := Try.sizeOf186
  v55 := Try.zeroValue186
  t66 := Try.underlying300
  a66 := Try.isAgg300
  z66 := Try.sizeOf300
  v66 := Try.zeroValue300
  t70 := Try.underlying303
  a70 := Try.isAgg303
  z70 := Try.sizeOf303
  v70 := Try.zeroValue303
  t76 := Try.underlying320
  a76 := Try.isAgg320
  z76 := Try.sizeOf320
  v76 := Try.zeroValue320
  t77 := Try.underlying161
  a77 := Try.isAgg161
  z77 := Try.sizeOf161
  v77 := Try.zeroValue161 }
end Go.Proofs.Ytgakhpdclhlmpaa
