/- The shelf's contract on (*strings.Builder).WriteString, laid by hand: the table of numbers typed out. -/
import Derived.Test.YtbefgiboikfojaaGreatRczz
import Derived.Shelf.Strings.Builder2
import Derived.Test.YtbefgiboikfojaaGreatProg
namespace Go.Proofs.YtbefgiboikfojaaGreat
set_option linter.unusedVariables false
set_option linter.unusedSimpArgs false
section
open Go.Shelf Go.RowKit
def ZtU:Go.Shelf.Ren:=⟨fun|169=>38|n=>n,fun|70=>76|9=>9|0=>0|72=>79|37=>77|127=>112|3=>3|5=>5|n=>n,fun|n=>n⟩
theorem ZrA:Go.Proofs.Lays.n169 Tryz.prog ZtU:={
 mixed:=by kernel_rfl
 f169:=Tryz.func38.trans (congrArg some (by kernel_rfl))
 t0:=Tryz.underlying0
 a0:=Tryz.isAgg0
 z0:=Tryz.sizeOf0
 v0:=Tryz.zeroValue0
 t3:=Tryz.underlying3
 a3:=Tryz.isAgg3
 z3:=Tryz.sizeOf3
 v3:=Tryz.zeroValue3
 t9:=Tryz.underlying9
 a9:=Tryz.isAgg9
 z9:=Tryz.sizeOf9
 v9:=Tryz.zeroValue9
 t37:=Tryz.underlying77
 a37:=Tryz.isAgg77
 z37:=Tryz.sizeOf77
 v37:=Tryz.zeroValue77
 t70:=Tryz.underlying76
 a70:=Tryz.isAgg76
 z70:=Tryz.sizeOf76
 v70:=Tryz.zeroValue76
 t72:=Tryz.underlying79
 a72:=Tryz.isAgg79
 z72:=Tryz.sizeOf79
 v72:=Tryz.zeroValue79
 t127:=Tryz.underlying112
 a127:=Tryz.isAgg112
 z127:=Tryz.sizeOf112
 v127:=Tryz.zeroValue112}
theorem ZtZ:Builder.Extra Tryz.prog ZtU:={
 sizeBuilder:=by kernel_rfl
 liesBuilder:=by kernel_rfl
 t5:=Tryz.underlying5
 a5:=Tryz.isAgg5
 z5:=Tryz.sizeOf5
 v5:=Tryz.zeroValue5
 infoByte:=by kernel_rfl
 cellsByte:=by kernel_rfl
 sizeByte:=by kernel_rfl
 neB5:=by decide}
theorem Ztz (B b:Nat) (l:List UInt8) (w:World) (h:Lib.IsBuilder 79 5 B b (Lib.byteCells l) w) (DA:B<=w.heap.size):
  Calls Tryz.prog 38 #[.pointer (some ⟨b,0,none⟩)] w fun e w'=>e= .returned (.string ⟨l.toArray⟩)∧Below B w w':=Any.Builder_String_any ZrA ZtZ B b l w h DA
end
