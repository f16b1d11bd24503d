/- When two lists of numbers are one, by the document. -/
import Derived.Test.YtblplapkdmhikaaProg
import Derived.Test.YtblplapkdmhikaaDxaf
namespace Go.Proofs.Ytblplapkdmhikaa
set_option linter.unusedVariables false
set_option linter.unusedSimpArgs false
section
open Go.RowKit
theorem ZgR (w:World) (F G:Nat→Prop) (A B:Option Addr) (c d:Nat) (xs ys:List Int) (hx:Ints F w A xs) (hy:Ints G w B ys) (hl:xs.length≤1048576) (hl2:ys.length≤1048576):
  Calls Try.prog 28 #[.slice A xs.length c,.slice B ys.length d] w fun e w'=>e= .returned (.bool (xs==ys))∧Upd No w w':=by
 by_cases hne:xs.length=ys.length
 ·have hb:((xs.length:Int) != (ys.length:Int))=false:=by rw[hne];simp
  go_enter Try.func28,Try.ntmps28
  have Hne:=Qh hne;clear hne;go_wp2
  go_loopg [5,13] xs.length (fun gk j i wr=>∃k:Nat,k+gk=xs.length∧i= .int .i64 k∧xs.take k=ys.take k∧Upd No w wr)
  case atStart=>exact⟨0,by omega,rfl,by simp,Upd.refl _ _⟩
  case round=>
   obtain⟨k,hgk,rfl,hs,hu⟩:=hrel;have Hs:=Qh hs;clear hs
   by_cases hlt:k<xs.length
   ·have hlt2:k<ys.length:=by have:=Hne.out;omega
    obtain⟨ax,rfl,_,_,hcx⟩:=(hx.upd hu (fun _ _=>id)).at_ hlt;obtain⟨ay,rfl,_,_,hcy⟩:=(hy.upd hu (fun _ _=>id)).at_ hlt2;have b1:(0:Int)≤(k:Int):=Qn _;have b2:(k:Int)<(xs.length:Int):=by omega
    have b3:(k:Int)<(ys.length:Int):=by omega
    by_cases he:xs[k]=ys[k]
    ·have heb:(xs[k] != ys[k])=false:=by rw[he];simp
     have He:=Qh he;clear he;go_wp2
     go_quiet (fail)
     go_wp2
     go_roundg (gk-1)
     case measure=>omega
     case rel=>
      refine⟨k+1,by omega,by go_num,?_,hu.drewN _⟩;rw[List.take_succ_eq_append_getElem hlt,List.take_succ_eq_append_getElem hlt2,Hs.out,He.out]
    ·have heb:(xs[k] != ys[k])=true:=by simpa using he
     have He:=Qh he;clear he;go_wp2
     go_quiet (fail)
     go_wp2
     go_ret
     have hne2:(xs==ys)=false:=by
      rw[beq_eq_false_iff_ne];rintro rfl;exact He.out rfl
     exact⟨by rw[hne2];rfl,hu.drewN _⟩
   ·obtain rfl:k=xs.length:=by omega
    go_wp2
    go_ret
    have h2:=Hs.out;rw[List.take_length,Hne.out,List.take_length]at h2;exact⟨by rw[h2,beq_self_eq_true];rfl,hu⟩
 ·have hb:((xs.length:Int) != (ys.length:Int))=true:=by rw[bne_iff_ne];omega
  have hf:(xs==ys)=false:=by rw[beq_eq_false_iff_ne];rintro rfl;exact hne rfl
  have Hf:=Qh hf;clear hf
  go_enter Try.func28,Try.ntmps28
  go_wp2
  go_ret
  exact⟨by rw[Hf.out];rfl,Upd.refl _ _⟩
end
/- The same row twice is the same. -/
section
open Go.RowKit
theorem Z2 (w:World) (F G:Nat→Prop) (A B:Option Addr) (c d:Nat) (xs:List Int) (hx:Ints F w A xs) (hy:Ints G w B xs) (hl:xs.length≤1048576):
  Calls Try.prog 28 #[.slice A xs.length c,.slice B xs.length d] w fun e w'=>e= .returned (.bool true)∧Upd No w w':=by
 refine(ZgR w F G A B c d xs xs hx hy hl hl).mono ?_;rintro e w' ⟨rfl,h⟩;exact⟨by simp,h⟩
end
end Go.Proofs.Ytblplapkdmhikaa
