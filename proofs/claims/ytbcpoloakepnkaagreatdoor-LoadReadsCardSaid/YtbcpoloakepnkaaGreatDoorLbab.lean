/- The shelf's contract on (*strings.Builder).WriteString, laid by hand: the table of numbers typed out. -/
import Derived.Shelf.Strings.Builder1
import Derived.Shelf.Strings.Builder2
import Derived.Test.YtbcpoloakepnkaaGreatDoorProg
namespace Go.Proofs.YtbcpoloakepnkaaGreatDoor
set_option linter.unusedVariables false
set_option linter.unusedSimpArgs false
section
open Go.Shelf Go.RowKit
def Zdh:Go.Shelf.Ren:=⟨fun|169=>26|n=>n,fun|70=>52|9=>9|0=>0|72=>55|37=>53|127=>84|3=>3|5=>5|n=>n,fun|n=>n⟩
theorem ZcA:Go.Proofs.Lays.n169 Tryz.prog Zdh:={
 mixed:=by kernel_rfl
 f169:=Tryz.func26.trans (congrArg some (by kernel_rfl))
 t0:=Tryz.underlying0
 a0:=Tryz.isAgg0
 z0:=Tryz.sizeOf0
 v0:=Tryz.zeroValue0
 t3:=Tryz.underlying3
 a3:=Tryz.isAgg3
 z3:=Tryz.sizeOf3
 v3:=Tryz.zeroValue3
 t9:=Tryz.underlying9
 a9:=Tryz.isAgg9
 z9:=Tryz.sizeOf9
 v9:=Tryz.zeroValue9
 t37:=Tryz.underlying53
 a37:=Tryz.isAgg53
 z37:=Tryz.sizeOf53
 v37:=Tryz.zeroValue53
 t70:=Tryz.underlying52
 a70:=Tryz.isAgg52
 z70:=Tryz.sizeOf52
 v70:=Tryz.zeroValue52
 t72:=Tryz.underlying55
 a72:=Tryz.isAgg55
 z72:=Tryz.sizeOf55
 v72:=Tryz.zeroValue55
 t127:=Tryz.underlying84
 a127:=Tryz.isAgg84
 z127:=Tryz.sizeOf84
 v127:=Tryz.zeroValue84}
theorem Zdi:Builder.Extra Tryz.prog Zdh:={
 sizeBuilder:=by kernel_rfl
 liesBuilder:=by kernel_rfl
 t5:=Tryz.underlying5
 a5:=Tryz.isAgg5
 z5:=Tryz.sizeOf5
 v5:=Tryz.zeroValue5
 infoByte:=by kernel_rfl
 cellsByte:=by kernel_rfl
 sizeByte:=by kernel_rfl
 neB5:=by decide}
theorem Zdf (B b:Nat) (l:List UInt8) (w:World) (h:Lib.IsBuilder 55 5 B b (Lib.byteCells l) w) (hBw:B≤w.heap.size):
  Calls Tryz.prog 26 #[.pointer (some ⟨b,0,none⟩)] w fun e w'=>e= .returned (.string ⟨l.toArray⟩)∧Below B w w':=Any.Builder_String_any ZcA Zdi B b l w h hBw
end
end Go.Proofs.YtbcpoloakepnkaaGreatDoor
