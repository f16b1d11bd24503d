/- The kinds of a phenomenon; who is next in an order. -/
import Derived.Lib.SliceRun
import Derived.Test.YtfcefnpnomlgbaaProg
import Derived.Lib.AppendZerosOnto
import Derived.Deep.RegionHeld3
import Derived.Test.YtfcefnpnomlgbaaMad
import Derived.Test.YtfcefnpnomlgbaaMal
import Derived.Test.YtfcefnpnomlgbaaMas
import Derived.Test.YtfcefnpnomlgbaaMat
namespace Go.Proofs.Ytfcefnpnomlgbaa
set_option linter.unusedSimpArgs false
set_option linter.unusedVariables false
open Go.RowKit
def ZaP (l:List Int) (x:Int):Nat:=l.findIdx (·==x)
theorem Zeg (l:List Int) (x:Int):Lib.idxOf l x=if ZaP l x<l.length then (ZaP l x:Int) else -1:=by
 by_cases h:ZaP l x<l.length
 ·rw[if_pos h]
  have h1:=Lib.idxOf_hit l l.length (ZaP l x) x h (Nat.le_refl _) (by
   rw[List.getD_eq_getElem?_getD,List.getElem?_eq_getElem h]
   have:=List.findIdx_getElem (p:=(·==x)) (xs:=l) (w:=h)
   rw[beq_iff_eq]at this
   exact this) (fun j hj=>by
   have hjl:j<l.length:=Nat.lt_trans hj h
   rw[List.getD_eq_getElem?_getD,List.getElem?_eq_getElem hjl]
   have:=List.not_of_lt_findIdx (p:=(·==x)) (xs:=l) hj
   simpa using this)
  rwa [List.take_length]at h1
 ·rw[if_neg h]
  have h1:=Lib.idxOf_miss l l.length x (fun j hj=>by
   rw[List.getD_eq_getElem?_getD,List.getElem?_eq_getElem hj]
   have hlt:j<l.findIdx (·==x):=Nat.lt_of_lt_of_le hj (Nat.le_of_not_lt h)
   have:=List.not_of_lt_findIdx (p:=(·==x)) (xs:=l) hlt
   simpa using this)
  rwa [List.take_length]at h1
theorem Zgk (F:Nat→Prop) (w:World) (A:Option Addr) (c:Nat) (l:List Int) (x:Int) (h:Ints F w A l) (hl:l.length≤17592186044415):
  Calls Try.prog 46 #[.slice A l.length c,.int .i64 x] w fun e w'=>e= .returned (.int .i64 (if ZaP l x<l.length then (ZaP l x:Int) else -1))∧w=w':=by
 rw[←Zeg]
 by_cases h0:l=[]
 ·subst h0
  refine Calls.mono (AnyG.slices_Index_int_empty Zcm A c x w) ?_
  rintro e w' ⟨rfl,rfl⟩
  exact⟨rfl,rfl⟩
 ·obtain⟨b,o,rfl,hc⟩:=h.cells_ h0
  refine Calls.mono (AnyG.slices_Index_int Zcm b o l.length c l x w (Nat.le_refl _) (by omega) hc) ?_
  rintro e w' ⟨rfl,rfl⟩
  rw[List.take_length]
  exact⟨rfl,rfl⟩
end Go.Proofs.Ytfcefnpnomlgbaa
