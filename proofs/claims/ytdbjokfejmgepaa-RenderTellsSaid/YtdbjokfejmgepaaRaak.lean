/- Walks of edges: whether they are closed, and simple; by the program and by the document. -/
import Derived.Test.YtdbjokfejmgepaaProg
import Derived.IntWalk
import Derived.Test.YtdbjokfejmgepaaRaah
namespace Go.Proofs.Ytdbjokfejmgepaa
set_option linter.unusedVariables false
set_option linter.unusedSimpArgs false
section
open Go.RowKit
def okC (l:List Edge) (i:Nat):Bool:=(l[i]?.map (·.t))==(l[(i+1)%l.length]?.map (·.f))
def ZlN (l:List Edge):Bool:=decide (0<l.length)&&(List.range l.length).all (okC l)
end
/- The document's own small walks over numbers:where one stands,how often,put among rising ones. -/
section
open Go.RowKit
def Zb8 (x:Int):List Int→Nat→Int
 |[],_=> -1
 |y::l,k=>if y=x then k else Zb8 x l (k+1)
theorem Zeb (x y:Int) (l:List Int) (k:Nat):Zb8 x (y::l) k=if y=x then (k:Int) else Zb8 x l (k+1):=rfl
set_option maxRecDepth 100000 in
theorem Zmi (F:Nat→Prop) (w:World) (A:Option Addr) (c:Nat) (l:List Int) (x:Int) (h:Ints F w A l) (hl:l.length≤17592186044415):
  Calls Try.prog 98 #[.slice A l.length c,.int .i64 x] w fun e w'=>e= .returned (.int .i64 (Zb8 x l 0))∧Upd No w w':=by
 go_enter Try.func98,Try.ntmps98
 go_wp2
 go_loopg [9] l.length (fun gk i wr=>∃k:Nat,k+gk=l.length∧i= .int .i64 k∧Hid (Zb8 x (l.drop k) k=Zb8 x l 0)∧Upd No w wr)
 case atStart=>exact⟨0,by omega,rfl,Qh rfl,Upd.refl _ _⟩
 case round=>
  obtain⟨k,hgk,rfl,hs,hu⟩:=hrel
  by_cases hlt:k<l.length
  ·obtain⟨ad,hA,_,_,hc⟩:=(h.upd hu (fun _ _=>id)).at_ hlt;obtain⟨y,hy⟩:∃y,l[k]=y:=⟨_,rfl⟩;rw[hy]at hc;subst hA;have X:=Qh (show l.drop k=y::l.drop (k+1) by rw[←hy];exact List.drop_eq_getElem_cons hlt);clear hy;have b1:(0:Int)≤(k:Int):=Qn _;have b2:(k:Int)<(l.length:Int):=by omega
   by_cases he:y=x
   ·have HV:=Qh (show Zb8 x l 0=(k:Int) by rw[←hs.out,X.out,Zeb,if_pos he]);have heb:(y==x)=true:=by simpa using he
    clear he;go_wp2
    go_ret
    exact⟨by rw[HV.out];rfl,hu⟩
   ·have HV:=Qh (show Zb8 x (l.drop (k+1)) (k+1)=Zb8 x l 0 by rw[←hs.out,X.out,Zeb,if_neg he]);have heb:(y==x)=false:=by simpa using he
    clear he;go_wp2
    go_roundg (gk-1)
    case measure=>omega
    case rel=>exact⟨k+1,by omega,by go_num,HV,hu⟩
  ·obtain rfl:k=l.length:=by omega
   have HV:=Qh (show Zb8 x l 0= -1 by rw[←hs.out,List.drop_length];rfl);go_wp2
   go_ret
   exact⟨by rw[HV.out];rfl,hu⟩
def Zb9 (x:Int):List Int→Nat→Nat
 |[],n=>n
 |y::l,n=>Zb9 x l (if x=y then n+1 else n)
theorem Ziv (x:Int):∀(l:List Int) (n:Nat),Zb9 x l n=n+l.count x
 |[],n=>by simp[Zb9]
 |y::l,n=>by
  show Zb9 x l (if x=y then n+1 else n)=_
  rw[Ziv x l,List.count_cons]
  by_cases e:x=y
  ·subst e;simp;omega
  ·have:(y==x)=false:=by rw[beq_eq_false_iff_ne];exact fun h=>e h.symm
   simp[e,this]
set_option maxRecDepth 100000 in
theorem Zjq (F:Nat→Prop) (w:World) (A:Option Addr) (c:Nat) (l:List Int) (x:Int) (h:Ints F w A l) (hl:l.length≤17592186044415):
  Calls Try.prog 95 #[.slice A l.length c,.int .i64 x] w fun e w'=>e= .returned (.int .i64 ((l.count x:Nat):Int))∧Upd No w w':=by
 go_enter Try.func95,Try.ntmps95
 go_wp2
 go_loopg [5,10] l.length (fun gk s i wr=>∃k n:Nat,k+gk=l.length∧i= .int .i64 k∧s= .int .i64 n∧n≤k∧Hid (Zb9 x (l.drop k) n=Zb9 x l 0)∧Upd No w wr)
 case atStart=>exact⟨0,0,by omega,rfl,rfl,by omega,Qh rfl,Upd.refl _ _⟩
 case round=>
  obtain⟨k,n,hgk,rfl,rfl,hn,hs,hu⟩:=hrel
  by_cases hlt:k<l.length
  ·obtain⟨ad,hA,_,_,hc⟩:=(h.upd hu (fun _ _=>id)).at_ hlt;obtain⟨y,hy⟩:∃y,l[k]=y:=⟨_,rfl⟩;rw[hy]at hc;subst hA;have X:=Qh (show l.drop k=y::l.drop (k+1) by rw[←hy];exact List.drop_eq_getElem_cons hlt);clear hy;have b1:(0:Int)≤(k:Int):=Qn _;have b2:(k:Int)<(l.length:Int):=by omega
   by_cases he:x=y
   ·have HV:=Qh (show Zb9 x (l.drop (k+1)) (n+1)=Zb9 x l 0 by rw[←hs.out,X.out];show _=Zb9 x _ (if x=y then n+1 else n);rw[if_pos he]);have heb:(x==y)=true:=by simpa using he
    clear he;go_wp2
    go_roundg (gk-1)
    case measure=>omega
    case rel=>exact⟨k+1,n+1,by omega,by go_num,by go_num,by omega,HV,hu⟩
   ·have HV:=Qh (show Zb9 x (l.drop (k+1)) n=Zb9 x l 0 by rw[←hs.out,X.out];show _=Zb9 x _ (if x=y then n+1 else n);rw[if_neg he]);have heb:(x==y)=false:=by simpa using he
    clear he;go_wp2
    go_roundg (gk-1)
    case measure=>omega
    case rel=>exact⟨k+1,n,by omega,by go_num,rfl,by omega,HV,hu⟩
  ·obtain rfl:k=l.length:=by omega
   have HV:=Qh (show n=l.count x by have:=hs.out;rw[List.drop_length,Ziv x l 0]at this;simpa[Zb9]using this);go_wp2
   go_ret
   exact⟨by rw[HV.out];rfl,hu⟩
set_option maxRecDepth 100000 in
theorem Zna (F G:Nat→Prop) (w:World) (A B:Option Addr) (c d:Nat) (l m:List Int) (h:Ints F w A l) (hm:Ints G w B m) (hl:l.length≤17592186044415) (hl2:m.length≤17592186044415):
  Calls Try.prog 73 #[.slice A l.length c,.slice B m.length d] w fun e w'=>e= .returned (.bool (l.length==m.length&&l.all fun x=>l.count x==m.count x))∧Upd No w w':=by
 by_cases hlm:l.length=m.length
 ·have hb:((l.length:Int) != (m.length:Int))=false:=by rw[hlm];simp
  have Hlm:=Qh (show(l.length==m.length)=true by simpa using hlm);clear hlm
  go_enter Try.func73,Try.ntmps73
  go_wp2
  go_loopg [14] l.length (fun gk i wr=>∃k:Nat,k+gk=l.length∧i= .int .i64 k∧Hid ((l.drop k).all (fun x=>l.count x==m.count x)=l.all (fun x=>l.count x==m.count x))∧Upd No w wr)
  case atStart=>exact⟨0,by omega,rfl,Qh rfl,Upd.refl _ _⟩
  case round=>
   obtain⟨k,hgk,rfl,hs,hu⟩:=hrel
   by_cases hlt:k<l.length
   ·obtain⟨ad,hA,_,_,hc⟩:=(h.upd hu (fun _ _=>id)).at_ hlt;obtain⟨y,hy⟩:∃y,l[k]=y:=⟨_,rfl⟩;rw[hy]at hc;subst hA;have X:=Qh (show l.drop k=y::l.drop (k+1) by rw[←hy];exact List.drop_eq_getElem_cons hlt);clear hy;have b1:(0:Int)≤(k:Int):=Qn _;have b2:(k:Int)<(l.length:Int):=by omega
    go_wp2_with fail
    refine(Zjq F _ (some ad) c l y (h.upd hu (fun _ _=>id)) hl).mono ?_;rintro e w1 ⟨rfl,hu1⟩
    go_wp2_with fail
    refine(Zjq G _ B d m y (hm.upd (hu.trans hu1) (fun _ _=>id)) hl2).mono ?_;rintro e w2 ⟨rfl,hu2⟩;have HU:=Qh ((hu.trans hu1).trans hu2);clear hu1 hu2
    by_cases he:l.count y=m.count y
    ·have heb:(((l.count y:Nat):Int) != ((m.count y:Nat):Int))=false:=by rw[he];simp
     have HV:=Qh (show(l.drop (k+1)).all (fun x=>l.count x==m.count x)=l.all (fun x=>l.count x==m.count x) by rw[←hs.out,X.out,List.all_cons,he];simp);clear he;go_wp2
     go_roundg (gk-1)
     case measure=>omega
     case rel=>exact⟨k+1,by omega,by go_num,HV,HU.out⟩
    ·have heb:(((l.count y:Nat):Int) != ((m.count y:Nat):Int))=true:=by rw[bne_iff_ne];omega
     have HV:=Qh (show l.all (fun x=>l.count x==m.count x)=false by rw[←hs.out,X.out,List.all_cons,beq_eq_false_iff_ne.2 he];simp);clear he;go_wp2
     go_ret
     exact⟨by rw[HV.out,Hlm.out];rfl,HU.out⟩
   ·obtain rfl:k=l.length:=by omega
    have HV:=Qh (show l.all (fun x=>l.count x==m.count x)=true by rw[←hs.out,List.drop_length];rfl);go_wp2
    go_ret
    exact⟨by rw[HV.out,Hlm.out];rfl,hu⟩
 ·have hb:((l.length:Int) != (m.length:Int))=true:=by rw[bne_iff_ne];omega
  have Hlm:=Qh (show(l.length==m.length)=false by simpa using hlm);clear hlm
  go_enter Try.func73,Try.ntmps73
  go_wp2
  go_ret
  exact⟨by rw[Hlm.out];rfl,Upd.refl _ _⟩
def Za0 (n:Int) (done:Bool) (out:List Int):List Int→List Int
 |[]=>if done then out else out++[n]
 |x::l=>Za0 n (done||decide (n≤x)) ((if !done&&decide (n≤x) then out++[n] else out)++(if x=n then [] else [x])) l
def Zd (n:Int):List Int→List Int
 |[]=>[n]
 |x::l=>if n≤x then n::(x::l).filter (fun y=> !(y==n)) else x::Zd n l
theorem Z9 (n a:Int):∀l,a∈Zd n l↔a=n∨a∈l
 |[]=>by simp[Zd]
 |x::l=>by
  have ih:=Z9 n a l;unfold Zd
  split
  ·rw[List.mem_cons,List.mem_filter]
   by_cases h:a=n<;>simp[h]
  ·simp only[List.mem_cons,ih];grind
theorem Zdd (n:Int):∀l,l.Pairwise (·<·)→(Zd n l).Pairwise (·<·)
 |[],_=>by simp[Zd]
 |x::l,h=>by
  have h':=List.pairwise_cons.1 h;unfold Zd
  split
  ·refine List.pairwise_cons.2 ⟨fun a ha=> ?_,h.filter _⟩;rw[List.mem_filter]at ha;have h1:a≠n:=by simpa using ha.2
   rcases List.mem_cons.1 ha.1 with rfl|h2
   ·omega
   ·have:=h'.1 a h2;omega
  ·refine List.pairwise_cons.2 ⟨fun a ha=> ?_,Zdd n l h'.2⟩;rcases(Z9 n a l).1 ha with rfl|h2
   ·omega
   ·exact h'.1 a h2
theorem Zk (n:Int) (l:List Int):(Zd n l).length≤l.length+1:=by
 induction l with
 |nil=>simp[Zd]
 |cons x l ih=>
  unfold Zd
  split
  ·have:=List.length_filter_le (fun y=> !(y==n)) (x::l);simp only[List.length_cons]at*;omega
  ·simp only[List.length_cons]at*;omega
def Zt (s:List Int):List Int→List Int
 |[]=>s
 |k::l=>Zt (Zd k s) l
theorem ZdB (a:Int):∀(l s:List Int),a∈Zt s l↔a∈s∨a∈l
 |[],s=>by simp[Zt]
 |k::l,s=>by
  have ih:=ZdB a l (Zd k s);rw[Z9]at ih
  show a∈Zt (Zd k s) l↔_
  rw[ih,List.mem_cons];grind
theorem ZdY:∀(l s:List Int),s.Pairwise (·<·)→(Zt s l).Pairwise (·<·)
 |[],_,h=>h
 |k::l,s,h=>ZdY l _ (Zdd k s h)
theorem Zfq:∀(l s:List Int),(Zt s l).length≤s.length+l.length
 |[],s=>by simp[Zt]
 |k::l,s=>by
  have:=Zfq l (Zd k s);have:=Zk k s
  show(Zt (Zd k s) l).length≤_
  simp only[List.length_cons];omega
theorem Zgm (n:Int):∀(l out:List Int),Za0 n true out l=out++l.filter fun y=> !(y==n)
 |[],out=>by simp[Za0]
 |x::l,out=>by
  show Za0 n true ((if !true&&decide (n≤x) then out++[n] else out)++(if x=n then [] else [x])) l=_
  rw[Zgm n l]
  by_cases h:x=n
  ·subst h;simp
  ·have:(x==n)=false:=by simpa using h
   simp[h]
theorem Zfo (n:Int):∀(l out:List Int),Za0 n false out l=out++Zd n l
 |[],out=>by simp[Za0,Zd]
 |x::l,out=>by
  show Za0 n (false||decide (n≤x)) ((if !false&&decide (n≤x) then out++[n] else out)++(if x=n then [] else [x])) l=_
  unfold Zd
  by_cases h:n≤x
  ·rw[if_pos h,decide_eq_true h]
   show Za0 n true ((out++[n])++(if x=n then [] else [x])) l=_
   rw[Zgm]
   by_cases h2:x=n
   ·subst h2;simp
   ·simp[h2]
  ·rw[if_neg h,decide_eq_false h]
   show Za0 n false (out++(if x=n then [] else [x])) l=_
   rw[if_neg (show¬x=n by omega),Zfo n l];simp
theorem Zlu (n:Int) (l:List Int):Za0 n false [] l=Zd n l:=by rw[Zfo];rfl
def Ze8 (w:World) (l:List Int) (e:Ending) (w':World):Prop:=∃A c,e= .returned (.slice A l.length c)∧w'.ownsRow w.heap.size 3 1 (.slice A l.length c) l.length (l.map (Value.int .i64))∧Upd No w w'
theorem Zbr:SlT Try.prog 50 3 1 8:=SlT.mk_ Try.underlying50 (z:= .int .i64 0) (by kernel_rfl) rfl (by omega)
set_option maxRecDepth 100000 in
set_option maxHeartbeats 1000000 in
theorem ZnL (F:Nat→Prop) (w:World) (A:Option Addr) (c:Nat) (l:List Int) (n:Int) (h:Ints F w A l) (hl:l.length≤100000000):
  Calls Try.prog 97 #[.slice A l.length c,.int .i64 n] w (Ze8 w (Za0 n false [] l)):=by
 go_enter Try.func97,Try.ntmps97
 go_wp2
 go_loopg [5,6,11] l.length (fun gk s d i wr=>∃(k:Nat) (b:Bool) (A3:Option Addr) (c3:Nat) (xs:List Int),k+gk=l.length∧i= .int .i64 k∧d= .bool b∧s= .slice A3 xs.length c3∧Hid (Za0 n b xs (l.drop k)=Za0 n false [] l)∧xs.length≤2*k∧
  wr.ownsRow w.heap.size 3 1 (.slice A3 xs.length c3) xs.length (xs.map (Value.int .i64))∧Upd No w wr)
 case atStart=>exact⟨0,false,none,0,[],by omega,rfl,rfl,rfl,Qh rfl,by simp,World.ownsRow_nil _ _ _ _,Upd.refl _ _⟩
 case round=>
  obtain⟨k,b,A3,c3,xs,hgk,rfl,rfl,rfl,hs,hxl,hown,hu⟩:=hrel
  by_cases hlt:k<l.length
  ·obtain⟨ad,hA,_,_,hc⟩:=(h.upd hu (fun _ _=>id)).at_ hlt;obtain⟨y,hy⟩:∃y,l[k]=y:=⟨_,rfl⟩;rw[hy]at hc;subst hA;have X:=Qh (show l.drop k=y::l.drop (k+1) by rw[←hy];exact List.drop_eq_getElem_cons hlt);clear hy;have b1:(0:Int)≤(k:Int):=Qn _;have b2:(k:Int)<(l.length:Int):=by omega
   have hst:=hs.out;rw[X.out]at hst;have hst:Za0 n (b||decide (n≤y)) ((if !b&&decide (n≤y) then xs++[n] else xs)++(if y=n then [] else [y])) (l.drop (k+1))=Za0 n false [] l:=hst;have hz:=hu.size;have hzo:=fun i e=>(hown.lt i e).1
   have HZ:=Qh hzo;clear hzo
   cases b
   ·by_cases hny:n≤y
    ·rw[decide_eq_true hny]at hst;simp only[Bool.not_false,Bool.true_and,if_true,Bool.false_or]at hst
     by_cases hyn:y=n
     ·rw[if_pos hyn,List.append_nil]at hst;have hb:(y != n)=false:=by rw[hyn];simp
      have HS:=Qh hst;clear hst hyn
      go_wp2_with (at_builtin;refine ZS rfl rfl Zbr (v:= .slice A3 xs.length c3) (cells:=[.int .i64 n]) (by rfl) rfl hown rfl rfl (by omega) (by omega) (by omega) ?_;intro g' c' w2 hown2 hu2 hg2 hlt2)
      go_roundg (gk-1)
      case measure=>omega
      case rel=>exact⟨k+1,true,some ⟨g',0,none⟩,c',xs++[n],by omega,by go_num,rfl,by simp,HS,by simp;omega,by simpa using hown2,hu.then_ hu2 fun i e=> .inr (HZ.out i e)⟩
     ·rw[if_neg hyn]at hst;have hb:(y != n)=true:=by rw[bne_iff_ne];exact hyn
      have HS:=Qh hst;clear hst hyn
      go_wp2_with (at_builtin;(first
       |(refine ZS rfl rfl Zbr (v:= .slice A3 xs.length c3) (cells:=[.int .i64 n]) (by rfl) rfl hown rfl rfl (by omega) (by omega) (by omega) ?_;intro g' c' w2 hown2 hu2 hg2 hlt2;have hz2:=hu2.size;have HZ2:=Qh (fun i e=>(hown2.lt i e).1);have HU2:=Qh (hu.then_ hu2 fun i e=> .inr (HZ.out i e));clear hg2 hu2)
       |(refine ZS rfl rfl Zbr (v:= .slice (some ⟨g',0,none⟩) (xs.length+1) c') (cells:=[.int .i64 y]) (by rfl) rfl hown2 rfl rfl (by omega) (by omega) (by omega) ?_;intro g3 c4 w3 hown3 hu3 hg3 hlt3)))
      go_roundg (gk-1)
      case measure=>omega
      case rel=>exact⟨k+1,true,some ⟨g3,0,none⟩,c4,xs++[n]++[y],by omega,by go_num,rfl,by simp,HS,by simp;omega,by simpa using hown3,HU2.out.then_ hu3 fun i e=> .inr (HZ2.out i e)⟩
    ·have hny':¬y≥n:=by omega
     rw[decide_eq_false hny]at hst;simp only[Bool.not_false,Bool.and_false,Bool.or_false]at hst;rw[if_neg (show¬(false=true) by decide),if_neg (show¬y=n by omega)]at hst;have hb:(y != n)=true:=by rw[bne_iff_ne];omega
     have HS:=Qh hst;clear hst
     go_wp2_with (at_builtin;refine ZS rfl rfl Zbr (v:= .slice A3 xs.length c3) (cells:=[.int .i64 y]) (by rfl) rfl hown rfl rfl (by omega) (by omega) (by omega) ?_;intro g' c' w2 hown2 hu2 hg2 hlt2)
     go_roundg (gk-1)
     case measure=>omega
     case rel=>exact⟨k+1,false,some ⟨g',0,none⟩,c',xs++[y],by omega,by go_num,rfl,by simp,HS,by simp;omega,by simpa using hown2,hu.then_ hu2 fun i e=> .inr (HZ.out i e)⟩
   ·simp only[Bool.not_true,Bool.false_and,Bool.true_or]at hst;rw[if_neg (show¬(false=true) by decide)]at hst
    by_cases hyn:y=n
    ·rw[if_pos hyn,List.append_nil]at hst;have hb:(y != n)=false:=by rw[hyn];simp
     have HS:=Qh hst;clear hst hyn;go_wp2
     go_roundg (gk-1)
     case measure=>omega
     case rel=>exact⟨k+1,true,A3,c3,xs,by omega,by go_num,rfl,rfl,HS,by omega,hown,hu⟩
    ·rw[if_neg hyn]at hst;have hb:(y != n)=true:=by rw[bne_iff_ne];exact hyn
     have HS:=Qh hst;clear hst hyn
     go_wp2_with (at_builtin;refine ZS rfl rfl Zbr (v:= .slice A3 xs.length c3) (cells:=[.int .i64 y]) (by rfl) rfl hown rfl rfl (by omega) (by omega) (by omega) ?_;intro g' c' w2 hown2 hu2 hg2 hlt2)
     go_roundg (gk-1)
     case measure=>omega
     case rel=>exact⟨k+1,true,some ⟨g',0,none⟩,c',xs++[y],by omega,by go_num,rfl,by simp,HS,by simp;omega,by simpa using hown2,hu.then_ hu2 fun i e=> .inr (HZ.out i e)⟩
  ·obtain rfl:k=l.length:=by omega
   have hst:=hs.out;rw[List.drop_length]at hst;have hz:=hu.size;have HZ:=Qh (fun i e=>(hown.lt i e).1)
   cases b
   ·have HS:=Qh (show xs++[n]=Za0 n false [] l from hst);clear hst
    go_wp2_with (at_builtin;refine ZS rfl rfl Zbr (v:= .slice A3 xs.length c3) (cells:=[.int .i64 n]) (by rfl) rfl hown rfl rfl (by omega) (by omega) (by omega) ?_;intro g' c' w2 hown2 hu2 hg2 hlt2)
    go_ret
    refine⟨some ⟨g',0,none⟩,c',?_,?_,hu.then_ hu2 fun i e=> .inr (HZ.out i e)⟩
    ·rw[←HS.out];simp
    ·rw[←HS.out];simpa using hown2
   ·have HS:=Qh (show xs=Za0 n false [] l from hst);clear hst;go_wp2
    go_ret
    refine⟨A3,c3,?_,?_,hu⟩
    ·rw[←HS.out];rfl
    ·rw[←HS.out];exact hown
theorem ZkY (F:Nat→Prop) (w:World) (A:Option Addr) (c:Nat) (l:List Int) (n:Int) (h:Ints F w A l) (hl:l.length≤100000000):
  Calls Try.prog 97 #[.slice A l.length c,.int .i64 n] w (Ze8 w (Zd n l)):=by
 rw[←Zlu];exact ZnL F w A c l n h hl
theorem Zhd (F:Nat→Prop) (w:World) (A:Option Addr) (c:Nat) (l:List Int) (n:Int) (h:Ints F w A l) (hl:l.length≤100000000):
  Calls Try.prog 84 #[.slice A l.length c,.int .i64 n] w (Ze8 w (Zd n l)):=by
 go_enter Try.func84,Try.ntmps84
 go_wp2_with fail
 refine(ZkY F _ A c l n h hl).mono ?_;rintro e w1 ⟨A1,c1,rfl,ho1,hu1⟩;go_wp2
 go_ret
 exact⟨A1,c1,rfl,ho1,hu1⟩
end
end Go.Proofs.Ytdbjokfejmgepaa
