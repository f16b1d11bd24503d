/- Closed walks, the document's: edges put among others, and those of a mask. -/
import Derived.Test.YtdbjokfejmgepaaRaau
import Derived.Test.YtdbjokfejmgepaaRabl
import Derived.Test.YtdbjokfejmgepaaRabo
namespace Go.Proofs.Ytdbjokfejmgepaa
set_option linter.unusedVariables false
set_option linter.unusedSimpArgs false
section
open Go.RowKit
def Zu (l:List Edge):List Value:=(l.map Edge.cells).flatten
theorem Zbd (l:List Edge):(Zu l).length=l.length*4:=by
 unfold Zu
 induction l with
 |nil=>rfl
 |cons a l ih=>simp only[List.map_cons,List.flatten_cons,List.length_append,List.length_cons,ih];simp[Edge.cells];omega
def ZfR (w:World) (l:List Edge) (e:Ending) (w':World):Prop:=∃A c,e= .returned (.slice A l.length c)∧w'.ownsRow w.heap.size 89 4 (.slice A l.length c) l.length (Zu l)∧Upd No w w'
theorem Zhy (a:Edge):¬ltE a a=true:=by rw[ZcH];exact ZbE _
def Zao (a:Edge) (done:Bool) (out:List Edge):List Edge→List Edge
 |[]=>if done then out else out++[a]
 |x::l=>Zao a (done|| !ltE x a) ((if !done&& !ltE x a then out++[a] else out)++(if x=a then [] else [x])) l
def ZaD (a:Edge):List Edge→List Edge
 |[]=>[a]
 |x::l=>if ltE x a=true then x::ZaD a l else a::(x::l).filter (fun y=> !(y==a))
theorem Zfp (a:Edge):∀(l out:List Edge),Zao a true out l=out++l.filter fun y=> !(y==a)
 |[],out=>by simp[Zao]
 |x::l,out=>by
  show Zao a true ((if !true&& !ltE x a then out++[a] else out)++(if x=a then [] else [x])) l=_
  rw[Zfp a l]
  by_cases h:x=a
  ·subst h;simp
  ·have:(x==a)=false:=by simpa using h
   simp[h]
theorem ZeA (a:Edge):∀(l out:List Edge),Zao a false out l=out++ZaD a l
 |[],out=>by simp[Zao,ZaD]
 |x::l,out=>by
  show Zao a (false|| !ltE x a) ((if !false&& !ltE x a then out++[a] else out)++(if x=a then [] else [x])) l=_
  unfold ZaD
  by_cases h:ltE x a=true
  ·rw[if_pos h,h]
   show Zao a false (out++(if x=a then [] else [x])) l=_
   rw[if_neg (show¬x=a from fun e=>Zhy a (e▸h)),ZeA a l];simp
  ·have hf:ltE x a=false:=by simpa using h
   rw[if_neg h,hf]
   show Zao a true ((out++[a])++(if x=a then [] else [x])) l=_
   rw[Zfp]
   by_cases h2:x=a
   ·subst h2;simp
   ·simp[h2]
theorem Zkn (a:Edge) (l:List Edge):Zao a false [] l=ZaD a l:=by rw[ZeA];rfl
set_option maxRecDepth 100000 in
set_option maxHeartbeats 2000000 in
theorem Znh (F:Nat→Prop) (w:World) (A:Option Addr) (c:Nat) (l:List Edge) (a:Edge) (h:Walk F w A l) (hl:l.length≤1000000):
  Calls Try.prog 96 #[.slice A l.length c,.agg a.cells.toArray] w (ZfR w (Zao a false [] l)):=by
 have qN:=ZkI;have qG:∀(op:BinOp) (x y:Operand) (xs ys:Array Value) (w:World),(eqGuard op 89 x y (.agg xs) (.agg ys)).run Try.prog w= .ok () w:=fun op x y xs ys w=>run_eqGuard_agg w op _ x y xs ys (by kernel_rfl)
 have HA:=Qh h;have UB:=Qh ((Upd.refl No w).alloc (.cells #[.int .i64 a.f,.int .i64 a.t,.int .i64 a.k,.int .i64 a.key] 89));have bB:=Qh (Blk.new w 89 [.int .i64 a.f,.int .i64 a.t,.int .i64 a.k,.int .i64 a.key]);unfold Edge.cells;clear h
 go_enter Try.func96,Try.ntmps96
 go_wp2
 go_loopg [5,6,11] l.length (fun gk s d i wr=>∃(k:Nat) (b:Bool) (A5:Option Addr) (c5:Nat) (xs:List Edge),k+gk=l.length∧i= .int .i64 k∧d= .bool b∧s= .slice A5 xs.length c5∧Hid (Zao a b xs (l.drop k)=Zao a false [] l)∧xs.length≤2*k∧
  wr.ownsRow (w.heap.size+1) 89 4 (.slice A5 xs.length c5) xs.length (Zu xs)∧Upd No w wr∧Blk wr w.heap.size 89 [.int .i64 a.f,.int .i64 a.t,.int .i64 a.k,.int .i64 a.key])
 case atStart=>exact⟨0,false,none,0,[],by omega,rfl,rfl,rfl,Qh rfl,by simp,World.ownsRow_nil _ _ _ _,UB.out,bB.out⟩
 case round=>
  obtain⟨k,b,A5,c5,xs,hgk,rfl,rfl,rfl,hs,hxl,hown,hu,hbl⟩:=hrel
  by_cases hlt:k<l.length
  ·obtain⟨ax,rfl,q0,q1,q2,q3⟩:=(HA.out.upd hu (fun _ _=>id)).at_ hlt;obtain⟨x,hx⟩:∃x,l[k]=x:=⟨_,rfl⟩;rw[hx]at q0 q1 q2 q3;have hst:=hs.out;rw[show l.drop k=x::l.drop (k+1) by rw[←hx];exact List.drop_eq_getElem_cons hlt]at hst;have hst:Zao a (b|| !ltE x a) ((if !b&& !ltE x a then xs++[a] else xs)++(if x=a then [] else [x])) (l.drop (k+1))=Zao a false [] l:=hst;clear hx;have b1:(0:Int)≤(k:Int):=Qn _;have b2:(k:Int)<(l.length:Int):=by omega
   have uA:=(Upd.refl No wr).alloc (.cells #[.int .i64 x.f,.int .i64 x.t,.int .i64 x.k,.int .i64 x.key] 89);have bo:=Blk.new wr 89 [.int .i64 x.f,.int .i64 x.t,.int .i64 x.k,.int .i64 x.key];have hown1:=Zc hown uA (fun _ _=>id);have hbA:=hbl.alloc (.cells #[.int .i64 x.f,.int .i64 x.t,.int .i64 x.k,.int .i64 x.key] 89);have hz0:=hbl.lt;have hzz:=hu.size;have HNB:=Qh (show¬Own (.slice A5 xs.length c5) w.heap.size from fun e=>by have:=(hown1.lt _ e).1;omega);have HNX:=Qh (show¬Own (.slice A5 xs.length c5) wr.heap.size from fun e=>by have:=(hown.lt _ e).2;omega);have HL:=Qh (Zbd xs);have HGE:=Qh (fun i e=>(hown.lt i e).1);have Hu1:=Qh (hu.trans uA);have HR:=Qh (fun W=>Znb W x a);have g0:=bo.cell 0;have g1:=bo.cell 1;have g2:=bo.cell 2;have g3:=bo.cell 3;have d0:=hbA.cell 0;have d1:=hbA.cell 1;have d2:=hbA.cell 2;have d3:=hbA.cell 3;simp only[Qz,Qs]at g0 g1 g2 g3 d0 d1 d2 d3;have BX:=Qh bo;have BA:=Qh hbA;clear uA bo hbA
   cases b
   ·cases hr:ltE x a
    ·rw[hr]at hst HR;simp only[Bool.not_false,Bool.true_and,if_true,Bool.false_or]at hst;unfold Edge.cells at HR
     go_wp2_with fail
     refine(HR.out _).mono ?_;rintro e w1 ⟨rfl,hu1⟩;have bX1:=BX.out.upd hu1 id;have bA1:=BA.out.upd hu1 id;have f0:=bA1.cell 0;have f1:=bA1.cell 1;have f2:=bA1.cell 2;have f3:=bA1.cell 3;simp only[Qz,Qs]at f0 f1 f2 f3;have hown2:=Zc hown1 hu1 (fun _ _=>id);have hz1:=hu1.size;simp only[World.size_alloc]at hz1;have HU2:=Qh (Hu1.out.trans hu1);have BX1:=Qh bX1;have BA1:=Qh bA1;clear bX1 bA1 hown1 hu1
     by_cases hxa:x=a
     ·rw[if_pos hxa,List.append_nil]at hst;have hb:(x != a)=false:=by rw[hxa];simp
      have HS:=Qh hst;clear hst hxa
      go_wp2_with (at_builtin;refine ZS rfl rfl ZV (v:= .slice A5 xs.length c5) (n:=xs.length) (xs:=Zu xs) (cells:=[.int .i64 a.f,.int .i64 a.t,.int .i64 a.k,.int .i64 a.key]) (by rfl) rfl hown2 rfl rfl (by omega) (by omega) (by omega) ?_;intro g' c' w2 hown3 hu3 hg3 hlt3;have e0:=(BX1.out.upd hu3 HNX.out).cell 0;have e1:=(BX1.out.upd hu3 HNX.out).cell 1;have e2:=(BX1.out.upd hu3 HNX.out).cell 2;have e3:=(BX1.out.upd hu3 HNX.out).cell 3;have j0:=(BA1.out.upd hu3 HNB.out).cell 0;have j1:=(BA1.out.upd hu3 HNB.out).cell 1;have j2:=(BA1.out.upd hu3 HNB.out).cell 2;have j3:=(BA1.out.upd hu3 HNB.out).cell 3;simp only[Qz,Qs]at e0 e1 e2 e3 j0 j1 j2 j3)
      go_roundg (gk-1)
      case measure=>omega
      case rel=>
       exact⟨k+1,true,some ⟨g',0,none⟩,c',xs++[a],by omega,by go_num,rfl,by simp,HS,by simp;omega,by simpa[Zu,Edge.cells]using hown3,HU2.out.then_ hu3 fun i e=> .inr (by have:=HGE.out i e;omega),BA1.out.upd hu3 HNB.out⟩
     ·rw[if_neg hxa]at hst;have hb:(x != a)=true:=by rw[bne_iff_ne];exact hxa
      have HS:=Qh hst;clear hst hxa
      go_wp2_with (at_builtin;(first
       |(refine ZS rfl rfl ZV (v:= .slice A5 xs.length c5) (n:=xs.length) (xs:=Zu xs) (cells:=[.int .i64 a.f,.int .i64 a.t,.int .i64 a.k,.int .i64 a.key]) (by rfl) rfl hown2 rfl rfl (by omega) (by omega) (by omega) ?_;intro g' c' w2 hown3 hu3 hg3 hlt3;have e0:=(BX1.out.upd hu3 HNX.out).cell 0;have e1:=(BX1.out.upd hu3 HNX.out).cell 1;have e2:=(BX1.out.upd hu3 HNX.out).cell 2;have e3:=(BX1.out.upd hu3 HNX.out).cell 3;have j0:=(BA1.out.upd hu3 HNB.out).cell 0;have j1:=(BA1.out.upd hu3 HNB.out).cell 1;have j2:=(BA1.out.upd hu3 HNB.out).cell 2;have j3:=(BA1.out.upd hu3 HNB.out).cell 3;simp only[Qz,Qs]at e0 e1 e2 e3 j0 j1 j2 j3;have hz2:=hu3.size;have HU3:=Qh (HU2.out.then_ hu3 fun i e=> .inr (by have:=HGE.out i e;omega));have BA2:=Qh (BA1.out.upd hu3 HNB.out);have HGE2:=Qh (fun i e=>(hown3.lt i e).1);have HNB2:=Qh (show¬Own (.slice (some ⟨g',0,none⟩) (xs.length+1) c') w.heap.size from fun e=>by have:=HGE2.out _ e;omega);clear hg3 hu3)
       |(refine ZS rfl rfl ZV (v:= .slice (some ⟨g',0,none⟩) (xs.length+1) c') (n:=xs.length+1) (xs:=Zu xs++[.int .i64 a.f,.int .i64 a.t,.int .i64 a.k,.int .i64 a.key]) (cells:=[.int .i64 x.f,.int .i64 x.t,.int .i64 x.k,.int .i64 x.key]) (by rfl) rfl hown3 rfl rfl (by omega) (by omega) (by omega) ?_;intro g5 c6 w3 hown5 hu5 hg5 hlt5)))
      go_roundg (gk-1)
      case measure=>omega
      case rel=>
       exact⟨k+1,true,some ⟨g5,0,none⟩,c6,xs++[a]++[x],by omega,by go_num,rfl,by simp,HS,by simp;omega,by simpa[Zu,Edge.cells]using hown5,HU3.out.then_ hu5 fun i e=> .inr (by have:=HGE2.out i e;omega),BA2.out.upd hu5 HNB2.out⟩
    ·have hxa:¬x=a:=fun e=>Zhy a (e▸hr)
     rw[hr,if_neg hxa]at hst;rw[hr]at HR;simp only[Bool.not_false,Bool.not_true,Bool.and_false,Bool.or_false]at hst;rw[if_neg (show¬(false=true) by decide)]at hst;have hb:(x != a)=true:=by rw[bne_iff_ne];exact hxa
     have HS:=Qh hst;clear hst hxa;unfold Edge.cells at HR
     go_wp2_with fail
     refine(HR.out _).mono ?_;rintro e w1 ⟨rfl,hu1⟩;have bX1:=BX.out.upd hu1 id;have bA1:=BA.out.upd hu1 id;have f0:=bA1.cell 0;have f1:=bA1.cell 1;have f2:=bA1.cell 2;have f3:=bA1.cell 3;have e0:=bX1.cell 0;have e1:=bX1.cell 1;have e2:=bX1.cell 2;have e3:=bX1.cell 3;simp only[Qz,Qs]at e0 e1 e2 e3 f0 f1 f2 f3;have hown2:=Zc hown1 hu1 (fun _ _=>id);have hz1:=hu1.size;simp only[World.size_alloc]at hz1;have HU2:=Qh (Hu1.out.trans hu1);have BA1:=Qh bA1;clear bX1 bA1 hown1 hu1
     go_wp2_with (at_builtin;refine ZS rfl rfl ZV (v:= .slice A5 xs.length c5) (n:=xs.length) (xs:=Zu xs) (cells:=[.int .i64 x.f,.int .i64 x.t,.int .i64 x.k,.int .i64 x.key]) (by rfl) rfl hown2 rfl rfl (by omega) (by omega) (by omega) ?_;intro g' c' w2 hown3 hu3 hg3 hlt3)
     go_roundg (gk-1)
     case measure=>omega
     case rel=>
      exact⟨k+1,false,some ⟨g',0,none⟩,c',xs++[x],by omega,by go_num,rfl,by simp,HS,by simp;omega,by simpa[Zu,Edge.cells]using hown3,HU2.out.then_ hu3 fun i e=> .inr (by have:=HGE.out i e;omega),BA1.out.upd hu3 HNB.out⟩
   ·simp only[Bool.not_true,Bool.false_and,Bool.true_or]at hst;rw[if_neg (show¬(false=true) by decide)]at hst
    by_cases hxa:x=a
    ·rw[if_pos hxa,List.append_nil]at hst;have hb:(x != a)=false:=by rw[hxa];simp
     have HS:=Qh hst;clear hst hxa HR;go_wp2
     go_roundg (gk-1)
     case measure=>omega
     case rel=>exact⟨k+1,true,A5,c5,xs,by omega,by go_num,rfl,rfl,HS,by omega,hown1,Hu1.out,BA.out⟩
    ·rw[if_neg hxa]at hst;have hb:(x != a)=true:=by rw[bne_iff_ne];exact hxa
     have HS:=Qh hst;clear hst hxa HR
     go_wp2_with (at_builtin;refine ZS rfl rfl ZV (base:=w.heap.size+1) (n:=xs.length) (xs:=Zu xs) (v:= .slice A5 xs.length c5) (cells:=[.int .i64 x.f,.int .i64 x.t,.int .i64 x.k,.int .i64 x.key]) (c:=1) (by rfl) (by show Value.slice (some ⟨wr.heap.size+1,0,none⟩) 1 1=_;simp) hown1 rfl rfl (by omega) (by omega) (by simp;omega) ?_;intro g' c' w2 hown3 hu3 hg3 hlt3)
     go_roundg (gk-1)
     case measure=>omega
     case rel=>
      exact⟨k+1,true,some ⟨g',0,none⟩,c',xs++[x],by omega,by go_num,rfl,by simp,HS,by simp;omega,by simpa[Zu,Edge.cells]using hown3,Hu1.out.then_ hu3 fun i e=> .inr (by have:=HGE.out i e;omega),BA.out.upd hu3 HNB.out⟩
  ·obtain rfl:k=l.length:=by omega
   have hst:=hs.out;rw[List.drop_length]at hst;have hz0:=hbl.lt;have hzz:=hu.size;have HL:=Qh (Zbd xs);have HGE:=Qh (fun i e=>(hown.lt i e).1);have d0:=hbl.cell 0;have d1:=hbl.cell 1;have d2:=hbl.cell 2;have d3:=hbl.cell 3;simp only[Qz,Qs]at d0 d1 d2 d3;clear hbl
   cases b
   ·have HS:=Qh (show xs++[a]=Zao a false [] l from hst);clear hst
    go_wp2_with (at_builtin;refine ZS rfl rfl ZV (v:= .slice A5 xs.length c5) (n:=xs.length) (xs:=Zu xs) (cells:=[.int .i64 a.f,.int .i64 a.t,.int .i64 a.k,.int .i64 a.key]) (by rfl) rfl hown rfl rfl (by omega) (by omega) (by omega) ?_;intro g' c' w2 hown3 hu3 hg3 hlt3)
    go_ret
    rw[←HS.out];refine⟨some ⟨g',0,none⟩,c',by simp,Z1 (by simpa[Zu,Edge.cells]using hown3) (by omega),hu.then_ hu3 fun i e=> .inr (by have:=HGE.out i e;omega)⟩
   ·have HS:=Qh (show xs=Zao a false [] l from hst);clear hst;go_wp2
    go_ret
    rw[←HS.out];exact⟨A5,c5,rfl,Z1 hown (by omega),hu⟩
theorem ZkH {p:Edge→Bool} {l:List Edge} {k:Nat} {x:Edge} (hk:k<l.length) (hx:l[k]=x) (hr:p x=false):(l.take (k+1)).filter p=(l.take k).filter p:=by
 subst hx;rw[List.take_succ_eq_append_getElem hk,List.filter_append,List.filter_cons_of_neg (by rw[hr];decide)];simp
theorem ZjO {p:Edge→Bool} {l:List Edge} {k:Nat} {x:Edge} (hk:k<l.length) (hx:l[k]=x) (hr:p x=true):(l.take (k+1)).filter p=(l.take k).filter p++[x]:=by
 subst hx;rw[List.take_succ_eq_append_getElem hk,List.filter_append,List.filter_cons_of_pos (by rw[hr])];rfl
theorem Zjr (w:World) (mask kind:Int):Calls Try.prog 80 #[.int .i64 mask,.int .i64 kind] w fun e w'=>e= .returned (.bool (Zh mask kind))∧Upd No w w':=by
 have u0:=Qh ((Upd.refl No w).alloc (.cells #[.int .i64 1,.int .i64 2,.int .i64 4,.int .i64 8] 3))
 by_cases h1:kind<1
 ·have hv:Hid (Zh mask kind=false):=Qh (by unfold Zh;rw[decide_eq_false (show¬1≤kind by omega)];rfl);have d1:decide (1≤kind)=false:=decide_eq_false (by omega)
  go_enter Try.func80,Try.ntmps80
  go_wp2
  go_ret
  exact⟨by rw[hv.out];rfl,u0.out⟩
 ·have d1:decide (1≤kind)=true:=decide_eq_true (by omega)
  by_cases h2:3<kind
  ·have hv:Hid (Zh mask kind=false):=Qh (by unfold Zh;rw[d1,decide_eq_false (show¬kind≤3 by omega)];rfl);have d2:decide (kind≤3)=false:=decide_eq_false (by omega)
   go_enter Try.func80,Try.ntmps80
   go_wp2
   go_ret
   exact⟨by rw[hv.out];rfl,u0.out⟩
  ·have hk:kind=1∨kind=2∨kind=3:=by omega
   clear h1 h2 d1;rcases hk with rfl|rfl|rfl
   ·have hv:=Qh (ZkS mask)
    go_enter Try.func80,Try.ntmps80
    go_wp2
    go_ret
    exact⟨congrArg (fun b=>Ending.returned (.bool b)) hv.out,u0.out⟩
   ·have hv:=Qh (ZkR mask)
    go_enter Try.func80,Try.ntmps80
    go_wp2
    go_ret
    exact⟨congrArg (fun b=>Ending.returned (.bool b)) hv.out,u0.out⟩
   ·have hv:=Qh (ZkQ mask)
    go_enter Try.func80,Try.ntmps80
    go_wp2
    go_ret
    exact⟨congrArg (fun b=>Ending.returned (.bool b)) hv.out,u0.out⟩
set_option maxRecDepth 100000 in
set_option maxHeartbeats 2000000 in
theorem ZiC (F:Nat→Prop) (w:World) (A:Option Addr) (c:Nat) (l:List Edge) (mask:Int) (h:Walk F w A l) (hl:l.length≤1000000):
  Calls Try.prog 78 #[.slice A l.length c,.int .i64 mask] w (ZfR w (l.filter fun x=>Zh mask x.k)):=by
 have HA:=Qh h;clear h
 go_enter Try.func78,Try.ntmps78
 go_wp2
 go_loopg [5,10] l.length (fun gk s i wr=>∃(k:Nat) (A5:Option Addr) (c5:Nat) (xs:List Edge),k+gk=l.length∧i= .int .i64 k∧s= .slice A5 xs.length c5∧Hid (xs=(l.take k).filter fun x=>Zh mask x.k)∧xs.length≤k∧
  wr.ownsRow w.heap.size 89 4 (.slice A5 xs.length c5) xs.length (Zu xs)∧Upd No w wr)
 case atStart=>exact⟨0,none,0,[],by omega,rfl,rfl,Qh (by simp),by simp,World.ownsRow_nil _ _ _ _,Upd.refl _ _⟩
 case round=>
  obtain⟨k,A5,c5,xs,hgk,rfl,rfl,hxs,hxl,hown,hu⟩:=hrel
  by_cases hlt:k<l.length
  ·obtain⟨ax,rfl,q0,q1,q2,q3⟩:=(HA.out.upd hu (fun _ _=>id)).at_ hlt;obtain⟨x,hx⟩:∃x,l[k]=x:=⟨_,rfl⟩;rw[hx]at q0 q1 q2 q3;have X:=Qh hx;clear hx;have b1:(0:Int)≤(k:Int):=Qn _;have b2:(k:Int)<(l.length:Int):=by omega
   have uA:=(Upd.refl No wr).alloc (.cells #[.int .i64 x.f,.int .i64 x.t,.int .i64 x.k,.int .i64 x.key] 89);have bo:=Blk.new wr 89 [.int .i64 x.f,.int .i64 x.t,.int .i64 x.k,.int .i64 x.key];have hown1:=Zc hown uA (fun _ _=>id);have g0:=bo.cell 2;simp only[Qz,Qs]at g0;have hof:=Qh (fun W=>Zjr W mask x.k)
   cases hr:Zh mask x.k
   ·rw[hr]at hof;have HS:=Qh (ZkH (p:=fun x=>Zh mask x.k) hlt X.out hr);clear hr
    go_wp2_with fail
    refine(hof.out _).mono ?_;rintro e w1 ⟨rfl,hu1⟩;have Hu1:=Qh ((hu.trans uA).trans hu1);have hown2:=Zc hown1 hu1 (fun _ _=>id);clear hown1 uA hu1;go_wp2
    go_roundg (gk-1)
    case measure=>omega
    case rel=>exact⟨k+1,A5,c5,xs,by omega,by go_num,rfl,Qh (by rw[HS.out,hxs.out]),by omega,hown2,Hu1.out⟩
   ·rw[hr]at hof;have HS:=Qh (ZjO (p:=fun x=>Zh mask x.k) hlt X.out hr);clear hr
    go_wp2_with fail
    refine(hof.out _).mono ?_;rintro e w1 ⟨rfl,hu1⟩;have bo1:=bo.upd hu1 id;have g1:=bo1.cell 0;have g2:=bo1.cell 1;have g3:=bo1.cell 2;have g4:=bo1.cell 3;simp only[Qz,Qs]at g1 g2 g3 g4;have hown2:=Zc hown1 hu1 (fun _ _=>id);have hz1:=(uA.trans hu1).size;have hz0:=hu.size;have Hu1:=Qh ((hu.trans uA).trans hu1);have HL:=Qh (Zbd xs);clear hown1 uA hu1 bo1
    go_wp2_with (at_builtin;refine ZS rfl rfl ZV (v:= .slice A5 xs.length c5) (cells:=[.int .i64 x.f,.int .i64 x.t,.int .i64 x.k,.int .i64 x.key]) (by rfl) rfl hown2 rfl rfl (by omega) (by omega) (by omega) ?_;intro g' c' w2 hown3 hu3 hg3 hlt3)
    go_roundg (gk-1)
    case measure=>omega
    case rel=>
     refine⟨k+1,some ⟨g',0,none⟩,c',xs++[x],by omega,by go_num,by simp,Qh (by rw[HS.out,hxs.out]),by simp;omega,by simpa[Zu,Edge.cells]using hown3,Hu1.out.then_ hu3 fun i e=> ?_⟩;exact .inr (hown2.lt i e).1
  ·obtain rfl:k=l.length:=by omega
   have Hx:=Qh (show(l.filter fun x=>Zh mask x.k)=xs by rw[hxs.out,List.take_length]);clear hxs;go_wp2
   go_ret
   rw[Hx.out];exact⟨A5,c5,rfl,hown,hu⟩
theorem ZcY (a:Edge):∀l:List Edge,(ZaD a l).map Edge.arc=Zb4 a.arc (l.map Edge.arc)
 |[]=>rfl
 |x::l=>by
  have hf:∀m:List Edge,(m.filter fun y=> !(y==a)).map Edge.arc=(m.map Edge.arc).filter fun y=> !(y==a.arc):=by
   intro m
   induction m with
   |nil=>rfl
   |cons y m ih=>
    have hb:(y==a)=(y.arc==a.arc):=by
     rw[Bool.eq_iff_iff,beq_iff_eq,beq_iff_eq];exact⟨fun e=>by rw[e],fun e=>by rw[←ZdL y,←ZdL a,e]⟩
    rw[List.map_cons,List.filter_cons,List.filter_cons,hb]
    split
    ·rw[List.map_cons,ih]
    ·exact ih
  show(if ltE x a=true then x::ZaD a l else a::(x::l).filter (fun y=> !(y==a))).map Edge.arc=(if Zaf x.arc a.arc=true then x.arc::Zb4 a.arc (l.map Edge.arc) else a.arc::((x::l).map Edge.arc).filter (fun y=> !(y==a.arc)))
  rw[ZcH]
  split
  ·rw[List.map_cons,ZcY a l]
  ·rw[List.map_cons,hf]
end
end Go.Proofs.Ytdbjokfejmgepaa
