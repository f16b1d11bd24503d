/- The shelf's contract on (*strings.Builder).WriteString, laid by hand: the table of numbers typed out. -/
import Derived.Shelf.Strings.Builder1
import Derived.Shelf.Strings.Builder2
import Derived.Test.YtdbjokfejmgepaaProg
namespace Go.Proofs.Ytdbjokfejmgepaa
set_option linter.unusedVariables false
set_option linter.unusedSimpArgs false
section
open Go.Shelf Go.RowKit
def ZlZ:Go.Shelf.Ren:=⟨fun|169=>38|n=>n,fun|70=>67|9=>9|0=>0|72=>70|37=>68|127=>94|3=>3|5=>5|n=>n,fun|n=>n⟩
theorem Zky:Go.Proofs.Lays.n169 Try.prog ZlZ:={
 mixed:=by kernel_rfl
 f169:=Try.func38.trans (congrArg some (by kernel_rfl))
 t0:=Try.underlying0
 a0:=Try.isAgg0
 z0:=Try.sizeOf0
 v0:=Try.zeroValue0
 t3:=Try.underlying3
 a3:=Try.isAgg3
 z3:=Try.sizeOf3
 v3:=Try.zeroValue3
 t9:=Try.underlying9
 a9:=Try.isAgg9
 z9:=Try.sizeOf9
 v9:=Try.zeroValue9
 t37:=Try.underlying68
 a37:=Try.isAgg68
 z37:=Try.sizeOf68
 v37:=Try.zeroValue68
 t70:=Try.underlying67
 a70:=Try.isAgg67
 z70:=Try.sizeOf67
 v70:=Try.zeroValue67
 t72:=Try.underlying70
 a72:=Try.isAgg70
 z72:=Try.sizeOf70
 v72:=Try.zeroValue70
 t127:=Try.underlying94
 a127:=Try.isAgg94
 z127:=Try.sizeOf94
 v127:=Try.zeroValue94}
theorem Zl4:Builder.Extra Try.prog ZlZ:={
 sizeBuilder:=by kernel_rfl
 liesBuilder:=by kernel_rfl
 t5:=Try.underlying5
 a5:=Try.isAgg5
 z5:=Try.sizeOf5
 v5:=Try.zeroValue5
 infoByte:=by kernel_rfl
 cellsByte:=by kernel_rfl
 sizeByte:=by kernel_rfl
 neB5:=by decide}
theorem ZlO (B b:Nat) (l:List UInt8) (w:World) (h:Lib.IsBuilder 70 5 B b (Lib.byteCells l) w) (hBw:B≤w.heap.size):
  Calls Try.prog 38 #[.pointer (some ⟨b,0,none⟩)] w fun e w'=>e= .returned (.string ⟨l.toArray⟩)∧Below B w w':=Any.Builder_String_any Zky Zl4 B b l w h hBw
end
end Go.Proofs.Ytdbjokfejmgepaa
