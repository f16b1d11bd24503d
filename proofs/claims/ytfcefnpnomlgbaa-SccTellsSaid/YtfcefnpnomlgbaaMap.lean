/- The document's own small walks over numbers: where one stands, how often, put among rising ones. -/
import Derived.IntWalk
import Derived.Test.YtfcefnpnomlgbaaMal
namespace Go.Proofs.Ytfcefnpnomlgbaa
set_option linter.unusedSimpArgs false
set_option linter.unusedVariables false
open Go.RowKit
def Z3 (n:Int) (done:Bool) (out:List Int):List Int→List Int
 |[]=>if done then out else out++[n]
 |x::l=>Z3 n (done||decide (n≤x)) ((if !done&&decide (n≤x) then out++[n] else out)++(if x=n then [] else [x])) l
def Zn (n:Int):List Int→List Int
 |[]=>[n]
 |x::l=>if n≤x then n::(x::l).filter (fun y=> !(y==n)) else x::Zn n l
theorem Zag (n a:Int):∀l,a∈Zn n l↔a=n∨a∈l
 |[]=>by simp[Zn]
 |x::l=>by
  have ih:=Zag n a l
  unfold Zn
  split
  ·rw[List.mem_cons,List.mem_filter]
   by_cases h:a=n<;>simp[h]
  ·simp only[List.mem_cons,ih];grind
theorem ZbR (n:Int):∀l,l.Pairwise (·<·)→(Zn n l).Pairwise (·<·)
 |[],_=>by simp[Zn]
 |x::l,h=>by
  have h':=List.pairwise_cons.1 h
  unfold Zn
  split
  ·refine List.pairwise_cons.2 ⟨fun a ha=> ?_,h.filter _⟩
   rw[List.mem_filter]at ha
   have h1:a≠n:=by simpa using ha.2
   rcases List.mem_cons.1 ha.1 with rfl|h2
   ·omega
   ·have:=h'.1 a h2;omega
  ·refine List.pairwise_cons.2 ⟨fun a ha=> ?_,ZbR n l h'.2⟩
   rcases(Zag n a l).1 ha with rfl|h2
   ·omega
   ·exact h'.1 a h2
theorem Zdq (n:Int) (l:List Int):(Zn n l).length≤l.length+1:=by
 induction l with
 |nil=>simp[Zn]
 |cons x l ih=>
  unfold Zn
  split
  ·have:=List.length_filter_le (fun y=> !(y==n)) (x::l)
   simp only[List.length_cons]at*;omega
  ·simp only[List.length_cons]at*;omega
theorem ZcS (n:Int):∀(l out:List Int),Z3 n true out l=out++l.filter fun y=> !(y==n)
 |[],out=>by simp[Z3]
 |x::l,out=>by
  show Z3 n true ((if !true&&decide (n≤x) then out++[n] else out)++(if x=n then [] else [x])) l=_
  rw[ZcS n l]
  by_cases h:x=n
  ·subst h;simp
  ·have:(x==n)=false:=by simpa using h
   simp[h]
theorem Zco (n:Int):∀(l out:List Int),Z3 n false out l=out++Zn n l
 |[],out=>by simp[Z3,Zn]
 |x::l,out=>by
  show Z3 n (false||decide (n≤x)) ((if !false&&decide (n≤x) then out++[n] else out)++(if x=n then [] else [x])) l=_
  unfold Zn
  by_cases h:n≤x
  ·rw[if_pos h,decide_eq_true h]
   show Z3 n true ((out++[n])++(if x=n then [] else [x])) l=_
   rw[ZcS]
   by_cases h2:x=n
   ·subst h2;simp
   ·simp[h2]
  ·rw[if_neg h,decide_eq_false h]
   show Z3 n false (out++(if x=n then [] else [x])) l=_
   rw[if_neg (show¬x=n by omega),Zco n l]
   simp
theorem Zgi (n:Int) (l:List Int):Z3 n false [] l=Zn n l:=by rw[Zco];rfl
def ZfS (w:World) (l:List Int) (e:Ending) (w':World):Prop:=∃A c,e= .returned (.slice A l.length c)∧w'.ownsRow w.heap.size 3 1 (.slice A l.length c) l.length (l.map (Value.int .i64))∧Upd No w w'
theorem Zau:SlT Try.prog 32 3 1 8:=SlT.mk_ Try.underlying32 (z:= .int .i64 0) (by kernel_rfl) rfl (by omega)
set_option maxRecDepth 100000 in
set_option maxHeartbeats 1000000 in
theorem Zhv (F:Nat→Prop) (w:World) (A:Option Addr) (c:Nat) (l:List Int) (n:Int) (h:Ints F w A l) (hl:l.length≤100000000):
  Calls Try.prog 54 #[.slice A l.length c,.int .i64 n] w (ZfS w (Z3 n false [] l)):=by
 go_enter Try.func54,Try.ntmps54
 go_wp2
 go_loopg [5,6,11] l.length (fun gk s d i wr=>∃(k:Nat) (b:Bool) (A3:Option Addr) (c3:Nat) (xs:List Int),k+gk=l.length∧i= .int .i64 k∧d= .bool b∧s= .slice A3 xs.length c3∧Hid (Z3 n b xs (l.drop k)=Z3 n false [] l)∧xs.length≤2*k∧
  wr.ownsRow w.heap.size 3 1 (.slice A3 xs.length c3) xs.length (xs.map (Value.int .i64))∧Upd No w wr)
 case atStart=>exact⟨0,false,none,0,[],by omega,rfl,rfl,rfl,Lib.hid rfl,by simp,World.ownsRow_nil _ _ _ _,Upd.refl _ _⟩
 case round=>
  obtain⟨k,b,A3,c3,xs,hgk,rfl,rfl,rfl,hs,hxl,hown,hu⟩:=hrel
  by_cases hlt:k<l.length
  ·obtain⟨ad,hA,_,_,hc⟩:=(h.upd hu (fun _ _=>id)).at_ hlt
   obtain⟨y,hy⟩:∃y,l[k]=y:=⟨_,rfl⟩
   rw[hy]at hc
   subst hA
   have X:=Lib.hid (show l.drop k=y::l.drop (k+1) by rw[←hy];exact List.drop_eq_getElem_cons hlt)
   clear hy
   have b1:(0:Int)≤(k:Int):=Int.natCast_nonneg _
   have b2:(k:Int)<(l.length:Int):=by omega
   have hst:=hs.out
   rw[X.out]at hst
   have hst:Z3 n (b||decide (n≤y)) ((if !b&&decide (n≤y) then xs++[n] else xs)++(if y=n then [] else [y])) (l.drop (k+1))=Z3 n false [] l:=hst
   have hz:=hu.size
   have hzo:=fun i e=>(hown.lt i e).1
   have HZ:=Lib.hid hzo
   clear hzo
   cases b
   ·by_cases hny:n≤y
    ·rw[decide_eq_true hny]at hst
     simp only[Bool.not_false,Bool.true_and,if_true,Bool.false_or]at hst
     by_cases hyn:y=n
     ·rw[if_pos hyn,List.append_nil]at hst
      have hb:(y != n)=false:=by rw[hyn];simp
      have HS:=Lib.hid hst
      clear hst hyn
      go_wp2_with (at_builtin;refine Zq rfl rfl Zau (v:= .slice A3 xs.length c3) (cells:=[.int .i64 n]) (by rfl) rfl hown rfl rfl (by omega) (by omega) (by omega) ?_;intro g' c' w2 hown2 hu2 hg2 hlt2)
      go_roundg (gk-1)
      case measure=>omega
      case rel=>exact⟨k+1,true,some ⟨g',0,none⟩,c',xs++[n],by omega,by go_num,rfl,by simp,HS,by simp;omega,by simpa using hown2,hu.then_ hu2 fun i e=> .inr (HZ.out i e)⟩
     ·rw[if_neg hyn]at hst
      have hb:(y != n)=true:=by rw[bne_iff_ne];exact hyn
      have HS:=Lib.hid hst
      clear hst hyn
      go_wp2_with (at_builtin;(first
       |(refine Zq rfl rfl Zau (v:= .slice A3 xs.length c3) (cells:=[.int .i64 n]) (by rfl) rfl hown rfl rfl (by omega) (by omega) (by omega) ?_;intro g' c' w2 hown2 hu2 hg2 hlt2;have hz2:=hu2.size;have HZ2:=Lib.hid (fun i e=>(hown2.lt i e).1);have HU2:=Lib.hid (hu.then_ hu2 fun i e=> .inr (HZ.out i e));clear hg2 hu2)
       |(refine Zq rfl rfl Zau (v:= .slice (some ⟨g',0,none⟩) (xs.length+1) c') (cells:=[.int .i64 y]) (by rfl) rfl hown2 rfl rfl (by omega) (by omega) (by omega) ?_;intro g3 c4 w3 hown3 hu3 hg3 hlt3)))
      go_roundg (gk-1)
      case measure=>omega
      case rel=>exact⟨k+1,true,some ⟨g3,0,none⟩,c4,xs++[n]++[y],by omega,by go_num,rfl,by simp,HS,by simp;omega,by simpa using hown3,HU2.out.then_ hu3 fun i e=> .inr (HZ2.out i e)⟩
    ·have hny':¬y≥n:=by omega
     rw[decide_eq_false hny]at hst
     simp only[Bool.not_false,Bool.and_false,Bool.or_false]at hst
     rw[if_neg (show¬(false=true) by decide),if_neg (show¬y=n by omega)]at hst
     have hb:(y != n)=true:=by rw[bne_iff_ne];omega
     have HS:=Lib.hid hst
     clear hst
     go_wp2_with (at_builtin;refine Zq rfl rfl Zau (v:= .slice A3 xs.length c3) (cells:=[.int .i64 y]) (by rfl) rfl hown rfl rfl (by omega) (by omega) (by omega) ?_;intro g' c' w2 hown2 hu2 hg2 hlt2)
     go_roundg (gk-1)
     case measure=>omega
     case rel=>exact⟨k+1,false,some ⟨g',0,none⟩,c',xs++[y],by omega,by go_num,rfl,by simp,HS,by simp;omega,by simpa using hown2,hu.then_ hu2 fun i e=> .inr (HZ.out i e)⟩
   ·simp only[Bool.not_true,Bool.false_and,Bool.true_or]at hst
    rw[if_neg (show¬(false=true) by decide)]at hst
    by_cases hyn:y=n
    ·rw[if_pos hyn,List.append_nil]at hst
     have hb:(y != n)=false:=by rw[hyn];simp
     have HS:=Lib.hid hst
     clear hst hyn
     go_wp2
     go_roundg (gk-1)
     case measure=>omega
     case rel=>exact⟨k+1,true,A3,c3,xs,by omega,by go_num,rfl,rfl,HS,by omega,hown,hu⟩
    ·rw[if_neg hyn]at hst
     have hb:(y != n)=true:=by rw[bne_iff_ne];exact hyn
     have HS:=Lib.hid hst
     clear hst hyn
     go_wp2_with (at_builtin;refine Zq rfl rfl Zau (v:= .slice A3 xs.length c3) (cells:=[.int .i64 y]) (by rfl) rfl hown rfl rfl (by omega) (by omega) (by omega) ?_;intro g' c' w2 hown2 hu2 hg2 hlt2)
     go_roundg (gk-1)
     case measure=>omega
     case rel=>exact⟨k+1,true,some ⟨g',0,none⟩,c',xs++[y],by omega,by go_num,rfl,by simp,HS,by simp;omega,by simpa using hown2,hu.then_ hu2 fun i e=> .inr (HZ.out i e)⟩
  ·obtain rfl:k=l.length:=by omega
   have hst:=hs.out
   rw[List.drop_length]at hst
   have hz:=hu.size
   have HZ:=Lib.hid (fun i e=>(hown.lt i e).1)
   cases b
   ·have HS:=Lib.hid (show xs++[n]=Z3 n false [] l from hst)
    clear hst
    go_wp2_with (at_builtin;refine Zq rfl rfl Zau (v:= .slice A3 xs.length c3) (cells:=[.int .i64 n]) (by rfl) rfl hown rfl rfl (by omega) (by omega) (by omega) ?_;intro g' c' w2 hown2 hu2 hg2 hlt2)
    go_ret
    refine⟨some ⟨g',0,none⟩,c',?_,?_,hu.then_ hu2 fun i e=> .inr (HZ.out i e)⟩
    ·rw[←HS.out];simp
    ·rw[←HS.out];simpa using hown2
   ·have HS:=Lib.hid (show xs=Z3 n false [] l from hst)
    clear hst
    go_wp2
    go_ret
    refine⟨A3,c3,?_,?_,hu⟩
    ·rw[←HS.out];rfl
    ·rw[←HS.out];exact hown
theorem ZgX (F:Nat→Prop) (w:World) (A:Option Addr) (c:Nat) (l:List Int) (n:Int) (h:Ints F w A l) (hl:l.length≤100000000):
  Calls Try.prog 54 #[.slice A l.length c,.int .i64 n] w (ZfS w (Zn n l)):=by
 rw[←Zgi];exact Zhv F w A c l n h hl
theorem ZgE (F:Nat→Prop) (w:World) (A:Option Addr) (c:Nat) (l:List Int) (n:Int) (h:Ints F w A l) (hl:l.length≤100000000):
  Calls Try.prog 41 #[.slice A l.length c,.int .i64 n] w (ZfS w (Zn n l)):=by
 go_enter Try.func41,Try.ntmps41
 go_wp2_with fail
 refine(ZgX F _ A c l n h hl).mono ?_
 rintro e w1 ⟨A1,c1,rfl,ho1,hu1⟩
 go_wp2
 go_ret
 exact⟨A1,c1,rfl,ho1,hu1⟩
end Go.Proofs.Ytfcefnpnomlgbaa
