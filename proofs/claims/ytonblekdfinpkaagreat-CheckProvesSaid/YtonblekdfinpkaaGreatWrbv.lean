/- Phenomena, plain: one brings another; where there is an order that goes along there is none. -/
import Derived.Test.YtonblekdfinpkaaGreatWras
import Derived.Test.YtonblekdfinpkaaGreatWrbh
import Derived.Test.YtonblekdfinpkaaGreatWrbi
import Derived.Test.YtonblekdfinpkaaGreatWrbp
import Derived.Test.YtonblekdfinpkaaGreatWrbr
import Derived.Test.YtonblekdfinpkaaGreatWrbu
namespace Go.Proofs.YtonblekdfinpkaaGreat
set_option linter.unusedVariables false
set_option linter.unusedSimpArgs false
section
theorem RchE.mono {D D':List Edge} (h:∀e∈D,e∈D') {x y:Int} (k:RchE D x y):RchE D' x y:=by
 induction k with
 |refl=>exact RchE.refl _
 |step _ h2 h3 ih=>exact ih.step (h _ h2) h3
end
/- Phenomena:ids are numbered (phen.nodes.node). -/
section
open Go.RowKit
def ZbR:Nat→List Int→List (Int×Value)
 |_,[]=>[]
 |k,x::l=>(x,.int .i64 (k:Int))::ZbR (k+1) l
theorem Zho:∀(k:Nat) (l:List Int),(ZbR k l).length=l.length
 |_,[]=>rfl
 |k,x::l=>by unfold ZbR;rw[List.length_cons,List.length_cons,Zho]
theorem ZjF (y:Int) (l:List Int) (x:Int):Zm (y::l) x=if x=y then 0 else Zm l x+1:=by
 unfold Zm;rw[List.findIdx_cons]
 by_cases h:x=y
 ·subst h;simp
 ·rw[if_neg h,show(y==x)=false by rw[beq_eq_false_iff_ne];exact fun e=>h e.symm];rfl
theorem Zge (x:Int):∀(l:List Int) (k i:Nat),look x (ZbR k l) i=if x∈l then some (i+Zm l x,.int .i64 ((k+Zm l x:Nat):Int)) else none
 |[],k,i=>by simp[ZbR,look]
 |y::l,k,i=>by
  unfold ZbR look
  by_cases h:x=y
  ·subst h;rw[if_pos rfl,if_pos (List.mem_cons_self ..),ZjF,if_pos rfl];simp
  ·rw[if_neg h,Zge x l (k+1) (i+1),ZjF,if_neg h]
   by_cases hm:x∈l
   ·rw[if_pos hm,if_pos (List.mem_cons_of_mem _ hm)];rw[show i+1+Zm l x=i+(Zm l x+1) by omega,show k+1+Zm l x=k+(Zm l x+1) by omega]
   ·rw[if_neg hm,if_neg (by rw[List.mem_cons,not_or];exact⟨h,hm⟩)]
theorem Zo3 (x:Int) (l:List Int):ZP (ZbR 0 l) x=if x∈l then some (.int .i64 (Zm l x:Int)) else none:=by
 unfold ZP;rw[Zge]
 split
 ·rw[Nat.zero_add];rfl
 ·rfl
theorem Zld (x:Int):∀(l:List Int) (k:Nat),ZbR k (l++[x])=ZbR k l++[(x,.int .i64 ((k+l.length:Nat):Int))]
 |[],k=>rfl
 |y::l,k=>by
  show(y,_)::ZbR (k+1) (l++[x])=(y,_)::(ZbR (k+1) l++_)
  rw[Zld x l (k+1),List.length_cons,show k+1+l.length=k+(l.length+1) by omega]
theorem Zo1 {x:Int} {l:List Int} (h:x∉l):ZB (ZbR 0 l) x (.int .i64 (l.length:Int))=ZbR 0 (l++[x]):=by
 unfold ZB;rw[Zge,if_neg h,Zld,Nat.zero_add]
theorem Zp3 (w:World):(zeroValue 3).run Tryz.prog w= .ok (.int .i64 0) w:=by kernel_rfl
set_option maxRecDepth 100000 in
theorem ZrE (w:World) (b:Nat) (ids:List Int) (x:Int) (h:MapIs w b (fun n:Int=>Value.int .i64 n) (ZbR 0 ids)):
  Calls Tryz.prog 123 #[.map (some b),.int .i64 x] w fun e w'=>e= .returned (.int .i64 (Zm (ZX ids x) x:Int))∧MapIs w' b (fun n:Int=>Value.int .i64 n) (ZbR 0 (ZX ids x))∧Upd (One b) w w':=by
 have hl:=Zl7 Zdj Tryz.underlying191 Zp3 h x;rw[Zo3]at hl;have hn:=Zhd (ty:=3) Tryz.underlying191 h;rw[Zho]at hn;have HM:=Qh h;clear h
 by_cases hx:x∈ids
 ·rw[if_pos hx]at hl;have HE:=Qh (show ZX ids x=ids from if_pos hx);simp only[Option.getD_some,Option.isSome_some]at hl;clear hx;rw[HE.out]
  go_enter Tryz.func123,Tryz.ntmps123
  go_wp2
  go_ret
  exact⟨rfl,HM.out,Upd.refl _ _⟩
 ·rw[if_neg hx]at hl;have HE:=Qh (show ZX ids x=ids++[x] from if_neg hx);have HP:=Qh (Zqt hx);have HPU:=Qh (Zo1 hx);simp only[Option.getD_none,Option.isSome_none]at hl;clear hx;rw[HE.out,HP.out]
  go_enter Tryz.func123,Tryz.ntmps123
  go_wp2_with (at_mapUpdate;refine Zlm rfl rfl Zdj Tryz.underlying191 (a:=x) (val:= .int .i64 (ids.length:Int)) (by rfl) (by rfl) (by rfl) HM.out ?_;intro w5 hm5 hu5;rw[HPU.out]at hm5;have HM5:=Qh hm5;have HU5:=Qh hu5;clear hm5 hu5)
  go_ret
  exact⟨rfl,HM5.out,HU5.out⟩
end
/- Phenomena:whether an arc is Za2 a component (the closure of phen.Round). -/
section
open Go.RowKit
theorem Zvp {k:Int} (h:k=1∨k=2∨k=3):(2:Int) ^ min (IntKind.u64.wrap k).toNat 64=2 ^ k.toNat:=by
 rcases h with rfl|rfl|rfl<;>rfl
def inP (lab:List Int) (must:Int) (a:HArc):Bool:=decide (lab.getD a.f.toNat 0=lab.getD a.t.toNat 0)&&((bits .and .i64 must 14==0)||Zs must a.kind)
def ZiW (n:Nat) (a:HArc):Prop:=0≤a.f∧a.f<(n:Int)∧0≤a.t∧a.t<(n:Int)∧1≤a.kind∧a.kind≤3
set_option maxRecDepth 100000 in
set_option maxHeartbeats 4000000 in
theorem Zvl (F:Nat→Prop) (w:World) (pl pm:Addr) (L:Option Addr) (cL:Nat) (lab:List Int) (must:Int) (a:HArc) (hpl:w.cell? pl=some (.slice L lab.length cL)) (hpm:w.cell? pm=some (.int .i64 must))
  (hL:Ints F w L lab) (ha:ZiW lab.length a) (hl:lab.length≤100000):
  Calls Tryz.prog 126 #[.agg a.cells.toArray,.pointer (some pl),.pointer (some pm)] w fun e w'=>e= .returned (.bool (inP lab must a))∧Upd No w w':=by
 obtain⟨f,t,k,y⟩:=a;obtain⟨h1,h2,h3,h4,h5,h6⟩:=ha;simp only at h1 h2 h3 h4 h5 h6;obtain⟨i,rfl⟩:=Int.eq_ofNat_of_zero_le h1;obtain⟨j,rfl⟩:=Int.eq_ofNat_of_zero_le h3;have hi:i<lab.length:=by omega
 have hj:j<lab.length:=by omega
 obtain⟨ad,rfl,_,_,ci⟩:=hL.at_ hi;obtain⟨ad2,e2,_,_,cj⟩:=hL.at_ hj
 cases e2
 obtain⟨x,hx⟩:∃x,lab[i]=x:=⟨_,rfl⟩;obtain⟨z,hz⟩:∃z,lab[j]=z:=⟨_,rfl⟩;rw[hx]at ci;rw[hz]at cj;have gx:lab.getD i 0=x:=by rw[List.getD_eq_getElem?_getD,Qg hi,hx];rfl
 have gz:lab.getD j 0=z:=by rw[List.getD_eq_getElem?_getD,Qg hj,hz];rfl
 obtain⟨v,hv⟩:∃v,inP lab must ⟨(i:Int),(j:Int),k,y⟩=v:=⟨_,rfl⟩;rw[hv]
 have hv:(decide (x=z)&&((bits .and .i64 must 14==0)||Zs must k))=v:=by
  rw[←hv];unfold inP;simp only[Int.toNat_natCast,gx,gz]
 obtain⟨wz,hwz⟩:∃wz,w.alloc (.cells #[.int .i64 (i:Int),.int .i64 (j:Int),.int .i64 k,.int .i64 y] 34)=wz:=⟨_,rfl⟩;have uz:Upd No w wz:=by rw[←hwz];exact(Upd.refl No w).alloc _
 have bo:Blk wz w.heap.size 34 [.int .i64 (i:Int),.int .i64 (j:Int),.int .i64 k,.int .i64 y]:=by rw[←hwz];exact Blk.new w _ _
 have g0:∀W,Upd No wz W→W.cell? ⟨w.heap.size,0,none⟩=some (.int .i64 (i:Int)):=fun W u=>(bo.upd u id).cell 0
 have g1:∀W,Upd No wz W→W.cell? ⟨w.heap.size,1,none⟩=some (.int .i64 (j:Int)):=fun W u=>(bo.upd u id).cell 1
 have g2:∀W,Upd No wz W→W.cell? ⟨w.heap.size,2,none⟩=some (.int .i64 k):=fun W u=>(bo.upd u id).cell 2
 have p0:∀W,Upd No wz W→W.cell? pl=some (.slice (some ad) lab.length cL):=fun W u=>(uz.trans u).keepNo hpl
 have p1:∀W,Upd No wz W→W.cell? pm=some (.int .i64 must):=fun W u=>(uz.trans u).keepNo hpm
 have p2:∀W,Upd No wz W→W.cell? (ad.add i)=some (.int .i64 x):=fun W u=>(uz.trans u).keepNo ci
 have p3:∀W,Upd No wz W→W.cell? (ad.add j)=some (.int .i64 z):=fun W u=>(uz.trans u).keepNo cj
 have HU:=Qh uz;have hzz:Upd No wz wz:=Upd.refl _ _;have i0:(0:Int)≤(i:Int):=Qn _;have i1:(i:Int)<(lab.length:Int):=by omega
 have j0:(0:Int)≤(j:Int):=Qn _;have j1:(j:Int)<(lab.length:Int):=by omega
 unfold HArc.cells;have hk3:k=1∨k=2∨k=3:=by omega
 have hbu:(bits .and .i64 (must/2 ^ min (IntKind.u64.wrap k).toNat 64) 1==1)=Zd must k:=by rw[Zvp hk3,ZfS];rfl
 have hbu2:(bits .and .i64 (must/2 ^ k.toNat) 1==1)=Zd must k:=by rw[ZfS];rfl
 have hbr:Zs must k=Zd must k:=by unfold Zs;rw[decide_eq_true h5,decide_eq_true h6];rfl
 clear bo uz ci cj hpl hpm hL gx gz hx hz h1 h2 h3 h4 hk3 hi hj
 by_cases hxz:x=z
 ·subst hxz;have hq:(x==x)=true:=by simp
  rw[decide_eq_true rfl,Bool.true_and]at hv
  cases hm:(bits .and .i64 must 14==0)
  ·rw[hm,Bool.false_or,hbr]at hv;rw[hv]at hbu hbu2;clear hv hbr;have HV:=Qh (show v=v from rfl)
   cases v
   ·go_enter Tryz.func126,Tryz.ntmps126
    go_wp2;refine wp_region_noPanic ?_;refine wp_region_held_drew (S:=(fun W'=>Upd No wz W')) (by kernel_rfl) ?_ (fun hHeld=> ?_)
    ·(first|exact hzz.drew|exact hHeld)
    refine wpK 0 rfl ?_;refine wpK 1 rfl ?_;refine wpK 2 rfl ?_;refine wpK 3 rfl ?_;refine wpK 4 rfl ?_;refine wpK 5 rfl ?_;refine wpK 6 rfl ?_;refine wpK 7 rfl ?_;refine wpK 8 rfl ?_;refine wpK 9 rfl ?_;refine wpK 10 rfl ?_;refine wpK 11 rfl ?_;refine wpK 12 rfl ?_;refine wpK 13 rfl ?_;refine wpK 14 rfl ?_;refine wpK 15 rfl ?_;refine wpK 16 rfl ?_;refine wpK 17 rfl ?_;refine wpK 18 rfl ?_;refine wpK 19 rfl ?_;refine wpK 20 rfl ?_;refine wpK 21 rfl ?_;refine wpK 22 rfl ?_;refine wpK 23 rfl ?_;refine wpK 24 rfl ?_;refine wpK 25 rfl ?_;refine wpD (NoPanic.normal ?_);have HU3:=Qh (HU.out.trans hHeld);clear hHeld;go_wp2
    go_ret
    exact⟨by first|rfl|(have:=HV.out;subst this;rfl),HU3.out⟩
   ·go_enter Tryz.func126,Tryz.ntmps126
    go_wp2;refine wp_region_noPanic ?_;refine wp_region_held_drew (S:=(fun W'=>Upd No wz W')) (by kernel_rfl) ?_ (fun hHeld=> ?_)
    ·(first|exact hzz.drew|exact hHeld)
    refine wpK 0 rfl ?_;refine wpK 1 rfl ?_;refine wpK 2 rfl ?_;refine wpK 3 rfl ?_;refine wpK 4 rfl ?_;refine wpK 5 rfl ?_;refine wpK 6 rfl ?_;refine wpK 7 rfl ?_;refine wpK 8 rfl ?_;refine wpK 9 rfl ?_;refine wpK 10 rfl ?_;refine wpK 11 rfl ?_;refine wpK 12 rfl ?_;refine wpK 13 rfl ?_;refine wpK 14 rfl ?_;refine wpK 15 rfl ?_;refine wpK 16 rfl ?_;refine wpK 17 rfl ?_;refine wpK 18 rfl ?_;refine wpK 19 rfl ?_;refine wpK 20 rfl ?_;refine wpK 21 rfl ?_;refine wpK 22 rfl ?_;refine wpK 23 rfl ?_;refine wpK 24 rfl ?_;refine wpK 25 rfl ?_;refine wpD (NoPanic.normal ?_);have HU3:=Qh (HU.out.trans hHeld);clear hHeld;go_wp2
    go_ret
    exact⟨by first|rfl|(have:=HV.out;subst this;rfl),HU3.out⟩
  ·rw[hm,Bool.true_or]at hv;have HV:=Qh hv;clear hv hbr hbu hbu2
   go_enter Tryz.func126,Tryz.ntmps126
   go_wp2;refine wp_region_noPanic ?_;refine wp_region_held_drew (S:=(fun W'=>Upd No wz W')) (by kernel_rfl) ?_ (fun hHeld=> ?_)
   ·(first|exact hzz.drew|exact hHeld)
   refine wpK 0 rfl ?_;refine wpK 1 rfl ?_;refine wpK 2 rfl ?_;refine wpK 3 rfl ?_;refine wpK 4 rfl ?_;refine wpK 5 rfl ?_;refine wpK 6 rfl ?_;refine wpK 7 rfl ?_;refine wpK 8 rfl ?_;refine wpK 9 rfl ?_;refine wpK 10 rfl ?_;refine wpK 11 rfl ?_;refine wpK 12 rfl ?_;refine wpK 13 rfl ?_;refine wpK 14 rfl ?_;refine wpK 15 rfl ?_;refine wpN 16 rfl ?_;refine wpN 17 rfl ?_;refine wpN 18 rfl ?_;refine wpN 19 rfl ?_;refine wpN 20 rfl ?_;refine wpN 21 rfl ?_;refine wpN 22 rfl ?_;refine wpK 23 rfl ?_;refine wpK 24 rfl ?_;refine wpK 25 rfl ?_;refine wpD (NoPanic.normal ?_);have HU3:=Qh (HU.out.trans hHeld);clear hHeld;go_wp2
   go_ret
   exact⟨by first|rfl|(have:=HV.out;subst this;rfl),HU3.out⟩
 ·have hq:(x==z)=false:=by rw[beq_eq_false_iff_ne];exact hxz
  rw[decide_eq_false hxz,Bool.false_and]at hv;have HV:=Qh hv;clear hv hbr hbu hbu2 hxz
  go_enter Tryz.func126,Tryz.ntmps126
  go_wp2;refine wp_region_noPanic ?_;refine wp_region_held_drew (S:=(fun W'=>Upd No wz W')) (by kernel_rfl) ?_ (fun hHeld=> ?_)
  ·(first|exact hzz.drew|exact hHeld)
  refine wpK 0 rfl ?_;refine wpK 1 rfl ?_;refine wpK 2 rfl ?_;refine wpK 3 rfl ?_;refine wpK 4 rfl ?_;refine wpK 5 rfl ?_;refine wpK 6 rfl ?_;refine wpK 7 rfl ?_;refine wpK 8 rfl ?_;refine wpK 9 rfl ?_;refine wpK 10 rfl ?_;refine wpK 11 rfl ?_;refine wpN 12 rfl ?_;refine wpN 13 rfl ?_;refine wpN 14 rfl ?_;refine wpN 15 rfl ?_;refine wpN 16 rfl ?_;refine wpN 17 rfl ?_;refine wpN 18 rfl ?_;refine wpN 19 rfl ?_;refine wpN 20 rfl ?_;refine wpN 21 rfl ?_;refine wpN 22 rfl ?_;refine wpN 23 rfl ?_;refine wpK 24 rfl ?_;refine wpK 25 rfl ?_;refine wpD (NoPanic.normal ?_);have HU3:=Qh (HU.out.trans hHeld);clear hHeld;go_wp2
  go_ret
  exact⟨by first|rfl|(have:=HV.out;subst this;rfl),HU3.out⟩
def ZeX (lab:List Int) (must:Int) (l:List HArc):Nat:=l.findIdx (inP lab must)
def Zgn (lab:List Int) (must:Int) (l:List HArc):Int:=if ZeX lab must l<l.length then (ZeX lab must l:Int) else -1
theorem Zqr {lab:List Int} {must:Int} {l:List HArc} {k:Nat} (hk:k<l.length) (h:∀(j:Nat) (hj:j<k),inP lab must (l[j]'(by omega))=false) (h1:inP lab must l[k]=true):ZeX lab must l=k:=by
 unfold ZeX;rw[List.findIdx_eq hk];exact⟨h1,fun j hj=>by simp only[h j hj]⟩
theorem ZoM {lab:List Int} {must:Int} {l:List HArc} (h:∀(j:Nat) (hj:j<l.length),inP lab must l[j]=false):ZeX lab must l=l.length:=by
 unfold ZeX;rw[List.findIdx_eq_length];intro x hx;obtain⟨k,hk,rfl⟩:=List.mem_iff_getElem.1 hx;simp only[h k hk]
theorem ZqU (lab:List Int) (must:Int) (l:List HArc):decide (0≤Zgn lab must l)=l.any (inP lab must):=by
 unfold Zgn
 by_cases h:ZeX lab must l<l.length
 ·rw[if_pos h,decide_eq_true (by omega)];unfold ZeX at h;rw[List.findIdx_lt_length]at h;obtain⟨x,hx,he⟩:=h;exact(List.any_eq_true.2 ⟨x,hx,he⟩).symm
 ·rw[if_neg h];have h0:ZeX lab must l=l.length:=by have:=List.findIdx_le_length (xs:=l) (p:=inP lab must);unfold ZeX at h ⊢;omega
  have h1:=(List.findIdx_eq_length (p:=inP lab must) (xs:=l)).1 h0;rw[show l.any (inP lab must)=false from List.any_eq_false.2 fun x hx=>by rw[h1 x hx];decide];rfl
section
variable {F G:Nat→Prop} {w:World} {B:Option Addr} {d:Nat} {l:List HArc} {pl pm:Addr} {L:Option Addr} {cL:Nat} {lab:List Int} {must:Int}
set_option maxRecDepth 100000 in
theorem Zut (H:ArcsL F w B l) (hl:l.length≤1000000) (hpl:w.cell? pl=some (.slice L lab.length cL)) (hpm:w.cell? pm=some (.int .i64 must)) (hL:Ints G w L lab) (ha:∀a∈l,ZiW lab.length a) (hn:lab.length≤100000):
  Calls Tryz.prog 191 #[.slice B l.length d,.func (.func 126) #[] #[.pointer (some pl),.pointer (some pm)]] w fun e w'=>e= .returned (.int .i64 (Zgn lab must l))∧Upd No w w':=by
 go_enter Tryz.func191,Tryz.ntmps191
 go_wp2
 go_loopg [8] l.length (fun gk s wr=>∃k:Nat,k+gk=l.length∧s= .int .i64 k∧Hid (∀(j:Nat) (hj:j<l.length),j<k→inP lab must l[j]=false)∧Upd No w wr)
 case atStart=>exact⟨0,by omega,rfl,Qh (fun j _ hj=>by omega),Upd.refl _ _⟩
 case round=>
  obtain⟨k,hgk,rfl,hall,hu⟩:=hrel
  by_cases hlt:k<l.length
  ·obtain⟨ad,rfl,q0,q1,q2,q3⟩:=(H.upd hu (fun _ _=>id)).at_ hlt;have hok:=ha _ (List.getElem_mem hlt);obtain⟨x,hx⟩:∃x,l[k]=x:=⟨_,rfl⟩;rw[hx]at q0 q1 q2 q3 hok;have X:=Qh hx;have b2:(k:Int)<(l.length:Int):=by omega
   have b1:(0:Int)≤(k:Int):=Qn _;have HC:=Qh (Zvl G wr pl pm L cL lab must x (hu.keepNo hpl) (hu.keepNo hpm) (hL.upd hu (fun _ _=>id)) hok hn);unfold HArc.cells at HC;clear hx hok
   by_cases he:inP lab must x=true
   ·have hpos:=Qh (show Zgn lab must l=(k:Int) by unfold Zgn;rw[Zqr hlt (fun j hj=>hall.out j (by omega) hj) (by rw[X.out];exact he),if_pos hlt]);have He:=Qh he;clear he
    go_wp2_with fail
    refine(HC.out).mono ?_;rintro e w1 ⟨hee,hu1⟩;rw[He.out]at hee;subst hee;go_wp2
    go_ret
    exact⟨by rw[hpos.out];rfl,hu.trans hu1⟩
   ·have hef:inP lab must x=false:=by simpa using he
    have He:=Qh hef;clear he hef
    go_wp2_with fail
    refine(HC.out).mono ?_;rintro e w1 ⟨hee,hu1⟩;rw[He.out]at hee;subst hee;go_wp2
    go_roundg (gk-1)
    case measure=>omega
    case rel=>exact⟨k+1,by omega,by go_num,Qh (fun j hj hjk=>by
      by_cases e:j=k
      ·subst e;rw[X.out];exact He.out
      ·exact hall.out j hj (by omega)),hu.trans hu1⟩
  ·obtain rfl:k=l.length:=by omega
   have hpos:=Qh (show Zgn lab must l= -1 by unfold Zgn;rw[ZoM fun j hj=>hall.out j hj hj,if_neg (by omega)]);go_wp2
   go_ret
   exact⟨by rw[hpos.out];rfl,hu⟩
set_option maxRecDepth 100000 in
theorem Ztp (H:ArcsL F w B l) (hl:l.length≤1000000) (hpl:w.cell? pl=some (.slice L lab.length cL)) (hpm:w.cell? pm=some (.int .i64 must)) (hL:Ints G w L lab) (ha:∀a∈l,ZiW lab.length a) (hn:lab.length≤100000):
  Calls Tryz.prog 125 #[.slice B l.length d,.func (.func 126) #[] #[.pointer (some pl),.pointer (some pm)]] w fun e w'=>e= .returned (.bool (l.any (inP lab must)))∧Upd No w w':=by
 have hq:=ZqU lab must l;have hf:=Zut (d:=d) H hl hpl hpm hL ha hn;obtain⟨b,hb⟩:∃b,l.any (inP lab must)=b:=⟨_,rfl⟩;obtain⟨i,hi⟩:∃i,Zgn lab must l=i:=⟨_,rfl⟩;rw[hb,hi]at hq;rw[hi]at hf;rw[hb];have HF:=Qh hf;clear hf hb hi H hpl hpm hL ha;subst hq
 go_enter Tryz.func125,Tryz.ntmps125
 go_wp2_with fail
 refine(HF.out).mono ?_;rintro e w1 ⟨rfl,hu1⟩;go_wp2
 go_ret
 exact⟨rfl,hu1⟩
end
end
/- Phenomena:phen.Round is walked. -/
section
open Go.RowKit
theorem ZqS {x:Edge} {m:List Edge} {mask:Int} (h:Zs mask x.k=true):Zf (x::m) mask=x::Zf m mask:=by unfold Zf;rw[List.filter_cons_of_pos (p:=fun e:Edge=>Zs mask e.k) h]
theorem Zi9 {x:Edge} {m:List Edge} {mask:Int} (h:Zs mask x.k=false):Zf (x::m) mask=Zf m mask:=by unfold Zf;rw[List.filter_cons_of_neg (p:=fun e:Edge=>Zs mask e.k) (by rw[h];decide)]
theorem Zm2 {l:List Edge} {mask:Int}:∀a∈ZeR l mask,ZiW (ZbW l mask).length a:=by
 intro a ha;have hn:=Zfb l mask;rw[hn.arcs]at ha;obtain⟨e,he,rfl⟩:=List.mem_map.1 ha;have hk:=ZeN he;have hh:=hn.has e he;have a1:=Zdr hh.1;have a2:=Zdr hh.2;unfold ZbH ZiW;refine⟨?_,?_,?_,?_,hk.1,hk.2⟩<;>simp only<;>omega
theorem ZmJ {N:Nat} {q:List HArc} {i:Nat} (h:i<N):(Zdi N q).getD i 0=(ZbV q i:Int):=by
 unfold Zdi;rw[List.getD_eq_getElem?_getD,List.getElem?_map,List.getElem?_range h];rfl
theorem ZsY (l:List Edge) (mask must:Int):(ZeR l mask).any (inP (Zdi (ZbW l mask).length (ZcT l mask)) must)=Zb2 l mask must:=by
 rw[←ZoC];unfold ZkM Zrp
 have h:∀a∈ZeR l mask,inP (Zdi (ZbW l mask).length (ZcT l mask)) must a=(decide (ZbV (ZcT l mask) a.f.toNat=ZbV (ZcT l mask) a.t.toNat)&&((bits .and .i64 must 14==0)||Zs must a.kind)):=by
  intro a ha;obtain⟨h1,h2,h3,h4,_,_⟩:=Zm2 a ha;unfold inP;rw[ZmJ (by omega),ZmJ (by omega)]
  congr 1
  rw[Bool.eq_iff_iff,decide_eq_true_eq,decide_eq_true_eq];omega
 rw[Bool.eq_iff_iff,List.any_eq_true,List.any_eq_true]
 constructor
 ·rintro⟨a,ha,h2⟩;exact⟨a,ha,by rw[←h a ha];exact h2⟩
 ·rintro⟨a,ha,h2⟩;exact⟨a,ha,by rw[h a ha];exact h2⟩
theorem ZoV (ids:List Int) (ac:List HArc) (x:Edge) (m:List Edge):ZdS ids ac (x::m)=ZdS (ZX (ZX ids x.f) x.t) (ac++[⟨(Zm (ZX ids x.f) x.f:Int),(Zm (ZX (ZX ids x.f) x.t) x.t:Int),x.k,0⟩]) m:=rfl
theorem Zn5 (l:List HArc) (a:HArc):ZaV (l++[a])=ZaV l++a.cells:=by unfold ZaV;rw[List.map_append,List.flatten_append];simp
set_option maxRecDepth 100000 in
set_option maxHeartbeats 8000000 in
theorem Ztq (F:Nat→Prop) (w:World) (A:Option Addr) (c:Nat) (l:List Edge) (mask must:Int) (h:Walk F w A l) (hl:l.length≤2000):
  Calls Tryz.prog 57 #[.slice A l.length c,.int .i64 mask,.int .i64 must] w fun e w'=>e= .returned (.bool (Zb2 l mask must))∧Upd No w w':=by
 obtain⟨II,hII⟩:∃II,ZbW l mask=II:=⟨_,rfl⟩;obtain⟨AA,hAA⟩:∃AA,ZeR l mask=AA:=⟨_,rfl⟩;have hlI:=ZsB l mask;have hlA:=Zro l mask;have hok:=Zm2 (l:=l) (mask:=mask);have hany:=ZsY l mask must;unfold ZcT at hany;rw[hII]at hlI hok hany;rw[hAA]at hlA hok hany;have HNUM:=Qh (show ZdS [] [] (Zf (l.drop 0) mask)=(II,AA) by rw[List.drop_zero,←hII,←hAA];rfl);have HLI:=Qh hlI;have HLA:=Qh hlA;have HOK:=Qh hok;have HANY:=Qh hany;have HA:=Qh (show Walk (fun i=>i<w.heap.size) w A l from Recs.lt h);have hroom:Zca (II.length:Int)=II.length:=by unfold Zca;omega
 have HROOM:=Qh hroom;obtain⟨rv,hrv⟩:∃rv,Zb2 l mask must=rv:=⟨_,rfl⟩;rw[hrv]at HANY ⊢;clear hII hAA hlI hlA hok hany h hroom hrv;obtain⟨z,hz⟩:∃z,w.heap.size=z:=⟨_,rfl⟩;obtain⟨w1,hw1⟩:∃w1,w.alloc (.cells #[.int .i64 must] 3)=w1:=⟨_,rfl⟩;have s1:w1.heap.size=z+1:=by rw[←hw1,←hz];simp
 obtain⟨wb,hwb⟩:∃wb,w1.alloc (.map #[] 0)=wb:=⟨_,rfl⟩;have u1:Upd No w w1:=by rw[←hw1];exact(Upd.refl No w).alloc _
 have u2:Upd No w1 wb:=by rw[←hwb];exact(Upd.refl No w1).alloc _
 have hM0:MapIs wb (z+1) (fun n:Int=>Value.int .i64 n) (ZbR 0 []):=by rw[←hwb,←s1];exact MapIs.new w1 _
 have bM:Blk wb z 3 [.int .i64 must]:=by
  have:Blk w1 z 3 [.int .i64 must]:=by rw[←hw1,←hz];exact Blk.new w _ _
  exact this.upd u2 id
 have sb:wb.heap.size=z+2:=by rw[←hwb];simp[s1]
 have HM0:=Qh hM0;have U0:=Qh (u1.trans u2);have HSB:=Qh sb;have BM:=Qh bM;have HZ:=Qh hz;have hmm:= @run_makeMap Tryz.prog;clear hM0 u1 u2 bM sb hz
 go_enter Tryz.func57,Tryz.ntmps57
 go_wp2;clear hw1 hwb s1
 go_loopg [8,18] l.length (fun gk s i wr=>∃(k:Nat) (A5:Option Addr) (c5:Nat) (ids:List Int) (ac:List HArc),k+gk=l.length∧i= .int .i64 (k:Int)∧s= .slice A5 ac.length c5∧Hid (ZdS ids ac (Zf (l.drop k) mask)=(II,AA))∧
  Hid (ids.length≤2*k)∧Hid (ac.length≤k)∧Hid (MapIs wr (z+1) (fun n:Int=>Value.int .i64 n) (ZbR 0 ids))∧Hid (wr.ownsRow (z+2) 34 4 (.slice A5 ac.length c5) ac.length (ZaV ac))∧Hid (Upd (One (z+1)) wb wr))
 case atStart=>exact⟨0,none,0,[],[],by omega,rfl,rfl,HNUM,Qh (Nat.zero_le _),Qh (Nat.zero_le _),HM0,Qh (World.ownsRow_nil _ _ _ _),Qh (Upd.refl _ _)⟩
 case round=>
  clear HNUM HM0 hmm;obtain⟨k,A5,c5,ids,ac,hgk,rfl,rfl,hst,hil,hal,hM,hown,hu⟩:=hrel
  by_cases hk:k<l.length
  ·obtain⟨ax,rfl,q0,q1,q2,q3⟩:=((HA.out.upd U0.out (fun _ _=>id)).upd hu.out (fun i hi=>by have:=HZ.out;have hi2:i<w.heap.size:=hi;unfold One;omega)).at_ hk;obtain⟨x,hx⟩:∃x,l[k]=x:=⟨_,rfl⟩;rw[hx]at q0 q1 q2 q3;have X:=Qh (show l.drop k=x::l.drop (k+1) by rw[←hx];exact List.drop_eq_getElem_cons hk);clear hx;have b1:(0:Int)≤(k:Int):=Qn _;have b2:(k:Int)<(l.length:Int):=by omega
   have jw:IntKind.i64.wrap ((k:Int)+1)=(k:Int)+1:=IntWalk.i64_in _ (by omega);obtain⟨wz,hwz⟩:∃wz,wr.alloc (.cells #[.int .i64 x.f,.int .i64 x.t,.int .i64 x.k,.int .i64 x.key] 26)=wz:=⟨_,rfl⟩;have uz:Upd No wr wz:=by rw[←hwz];exact(Upd.refl No wr).alloc _
   have bo:Blk wz wr.heap.size 26 [.int .i64 x.f,.int .i64 x.t,.int .i64 x.k,.int .i64 x.key]:=by rw[←hwz];exact Blk.new wr _ _
   have hzr:z+2≤wr.heap.size:=by have:=hu.out.size;rw[HSB.out]at this;exact this
   have g0:∀W,Upd (fun i=>z+1≤i∧i≠wr.heap.size) wz W→W.cell? ⟨wr.heap.size,0,none⟩=some (.int .i64 x.f):=fun W u=>(bo.upd u (by omega)).cell 0
   have g1:∀W,Upd (fun i=>z+1≤i∧i≠wr.heap.size) wz W→W.cell? ⟨wr.heap.size,1,none⟩=some (.int .i64 x.t):=fun W u=>(bo.upd u (by omega)).cell 1
   have g2:∀W,Upd (fun i=>z+1≤i∧i≠wr.heap.size) wz W→W.cell? ⟨wr.heap.size,2,none⟩=some (.int .i64 x.k):=fun W u=>(bo.upd u (by omega)).cell 2
   have hzz:Upd (fun i=>z+1≤i∧i≠wr.heap.size) wz wz:=Upd.refl _ _;have HZR:=Qh hzr;have HOL:=Qh (fun i e=>hown.out.lt i e);have hbu:(bits .and .i64 (mask/2 ^ x.k.toNat) 1==1)=Zd mask x.k:=by rw[ZfS];rfl
   clear bo hzr
   by_cases k1:1≤x.k
   ·have d1:decide (1≤x.k)=true:=decide_eq_true k1
    by_cases k2:x.k≤3
    ·have d2:decide (x.k≤3)=true:=decide_eq_true k2;have hbe:Zs mask x.k=Zd mask x.k:=by unfold Zs;rw[d1,d2];rfl
     cases hbm:Zd mask x.k
     ·have hbr:Zs mask x.k=false:=hbe.trans hbm;rw[hbm]at hbu;clear hbm hbe;have HN:=Qh (show ZdS ids ac (Zf (l.drop (k+1)) mask)=(II,AA) by have:=hst.out;rw[X.out,Zi9 hbr]at this;exact this);clear hst X hbr;go_wp2
      go_roundg (gk-1)
      case measure=>omega
      case rel=>exact⟨k+1,A5,c5,ids,ac,by omega,by simp,rfl,HN,Qh (by have:=hil.out;omega),Qh (by have:=hal.out;omega),Qh (hM.out.upd uz id),Qh (Za hown.out uz (fun _ _=>id)),Qh (hu.out.then_ uz (fun _ e=>e.elim))⟩
     ·have hbr:Zs mask x.k=true:=hbe.trans hbm;rw[hbm]at hbu;clear hbm hbe;have hst2:=hst.out;rw[X.out,ZqS hbr,ZoV]at hst2;obtain⟨i1,hi1⟩:∃i1,ZX ids x.f=i1:=⟨_,rfl⟩;obtain⟨i2,hi2⟩:∃i2,ZX i1 x.t=i2:=⟨_,rfl⟩;have hl1:=ZfA ids x.f;have hl2:=ZfA i1 x.t;rw[hi1,hi2]at hst2;rw[hi1]at hl1;rw[hi2]at hl2;obtain⟨n1,hn1⟩:∃n1,Zm i1 x.f=n1:=⟨_,rfl⟩;obtain⟨n2,hn2⟩:∃n2,Zm i2 x.t=n2:=⟨_,rfl⟩;rw[hn1,hn2]at hst2;have HST2:=Qh hst2;have HL2:=Qh (show i2.length≤2*(k+1) by have:=hil.out;omega);have hp1:=fun W (hW:MapIs W (z+1) (fun n:Int=>Value.int .i64 n) (ZbR 0 ids))=>ZrE W (z+1) ids x.f hW
      rw[hi1,hn1]at hp1;have hp2:=fun W (hW:MapIs W (z+1) (fun n:Int=>Value.int .i64 n) (ZbR 0 i1))=>ZrE W (z+1) i1 x.t hW
      rw[hi2,hn2]at hp2;have HP1:=Qh hp1;have HP2:=Qh hp2;have HM1:=Qh (hM.out.upd uz id);have HO1:=Qh (Za hown.out uz (fun _ _=>id));have HUZ:=Qh uz;have hall:ac.length≤2000:=by have:=hal.out;omega
      clear hst hst2 hl1 hl2 hi1 hi2 hn1 hn2 hp1 hp2 uz hM hown hil X hbr;go_wp2;refine wp_region_noPanic ?_;refine wp_region_held_drew (S:=(fun W'=>Upd (fun i=>z+1≤i∧i≠wr.heap.size) wz W')) (by kernel_rfl) ?_ (fun hHeld=> ?_)
      ·(first|exact hzz.drew|(with_reducible exact hHeld)|(with_reducible exact hq)|exact hHeld.alloc _)
      refine wpK 0 rfl ?_;refine wpK 1 rfl ?_;refine wpK 2 rfl ?_;refine wpK 3 rfl ?_;refine wpK 5 rfl ?_;refine wpK 6 rfl ?_;refine wpK 7 rfl ?_;refine wpK 9 rfl ?_;refine wpK 10 rfl ?_;refine wpR [4] ?_;refine wpC rfl (fun K hK=> ?_) AllReadyH.nil;go_simp
      (first
  |(go_at_call 123;refine(HP1.out wz.drew (show MapIs wz.drew (z+1) _ _ from HM1.out)).mono ?_;rintro e w3 ⟨rfl,hm3,hu3'⟩;have hu3:=hu3'.of_drew;have HM3:=Qh hm3;have HU3:=Qh (show Upd (One (z+1)) wz w3 from hu3);have hq:Upd (fun i=>z+1≤i∧i≠wr.heap.size) wz w3:=hu3.mono (fun i _ e=>by have:=HZR.out;unfold One at e;omega);clear hm3 hu3 hu3'))
      try (go_wp2_with fail)
      refine hK.out _ _ ?_ (fun hHeld=> ?_)
      ·(first|exact hzz.drew|(with_reducible exact hHeld)|(with_reducible exact hq)|exact hHeld.alloc _)
      clear hK K
      try simp only[Act.put,sT,sS,sZ]
      refine wpR [8] ?_;refine wpC rfl (fun K hK=> ?_) AllReadyH.nil;go_simp
      (first
  |(go_at_call 123;refine(HP2.out _ HM3.out).mono ?_;rintro e w4 ⟨rfl,hm4,hu4⟩;have HM4:=Qh hm4;have HU4:=Qh (HU3.out.trans hu4);have hq:Upd (fun i=>z+1≤i∧i≠wr.heap.size) wz w4:=HU4.out.mono (fun i _ e=>by have:=HZR.out;unfold One at e;omega);clear hm4 hu4))
      try (go_wp2_with fail)
      refine hK.out _ _ ?_ (fun hHeld=> ?_)
      ·(first|exact hzz.drew|(with_reducible exact hHeld)|(with_reducible exact hq)|exact hHeld.alloc _)
      clear hK K
      try simp only[Act.put,sT,sS,sZ]
      refine wpK 11 rfl ?_;refine wpR [12] ?_;refine wpC rfl (fun K hK=> ?_) AllReadyH.nil;go_simp;refine hK.out _ _ ?_ (fun hHeld=> ?_)
      ·(first|exact hzz.drew|(with_reducible exact hHeld)|(with_reducible exact hq)|exact hHeld.alloc _)
      clear hK K
      try simp only[Act.put,sT,sS,sZ]
      refine wpR [13] ?_;refine wpC rfl (fun K hK=> ?_) AllReadyH.nil
      (first
  |(refine ZeG (by rfl) (by rfl) Zeb (v:= .slice A5 ac.length c5) (n:=ac.length) (xs:=ZaV ac) (cells:=[.int .i64 (n1:Int),.int .i64 (n2:Int),.int .i64 x.k,.int .i64 0]) (by rfl) (by rfl) (by exact Za HO1.out (HU4.out.alloc _) (fun i e e2=>by have:=(HO1.out.lt i e).1;unfold One at e2;omega)) rfl (by exact Zdt) (by rfl) (by omega) (by omega) (by have:=(HU4.out.alloc (.cells #[.int .i64 (n1:Int),.int .i64 (n2:Int),.int .i64 x.k,.int .i64 0] 34)).size;have:=HUZ.out.size;have:=HZR.out;omega) ?_;intro g6 c6 w6 hown6 hu6 hg6 hlt6;have HO6:=Qh hown6;have HU6:=Qh hu6;have hq:Upd (fun i=>z+1≤i∧i≠wr.heap.size) wz w6:=((HU4.out.alloc _).mono (fun i _ e=>by have:=HZR.out;unfold One at e;omega)).trans (hu6.mono (fun i _ e=>by have:=HOL.out i e;omega));clear hown6 hu6 hg6 hlt6))
      refine hK.out _ _ ?_ (fun hHeld=> ?_)
      ·(first|exact hzz.drew|(with_reducible exact hHeld)|(with_reducible exact hq)|exact hHeld.alloc _)
      clear hK K
      try simp only[Act.put,sT,sS,sZ]
      refine wpK 14 rfl ?_;refine wpD (NoPanic.normal ?_);have HM6:=Qh ((HM4.out.upd ((Upd.refl No _).alloc _) id).upd HU6.out (fun e=>by have:=(HO1.out.lt _ e).1;omega));have HUF:=Qh (show Upd (One (z+1)) wb _ from((hu.out.then_ HUZ.out (fun _ e=>e.elim)).trans (HU4.out.alloc _)).then_ HU6.out (fun i e=>Or.inr (by have:=(HO1.out.lt i e).1;rw[HSB.out];exact this)));clear hHeld;go_wp2
      go_roundg (gk-1)
      case measure=>omega
      case rel=>exact⟨k+1,some ⟨g6,0,none⟩,c6,i2,ac++[⟨(n1:Int),(n2:Int),x.k,0⟩],by omega,by simp,by simp,HST2,HL2,Qh (by simp;have:=hal.out;omega),HM6,Qh (by have:=HO6.out;rw[Zn5];simpa[HArc.cells]using this),HUF⟩
    ·have d2:decide (x.k≤3)=false:=decide_eq_false k2;have hbr:Zs mask x.k=false:=by unfold Zs;rw[d1,d2];rfl
     have HN:=Qh (show ZdS ids ac (Zf (l.drop (k+1)) mask)=(II,AA) by have:=hst.out;rw[X.out,Zi9 hbr]at this;exact this);clear hst X hbr;go_wp2
     go_roundg (gk-1)
     case measure=>omega
     case rel=>exact⟨k+1,A5,c5,ids,ac,by omega,by simp,rfl,HN,Qh (by have:=hil.out;omega),Qh (by have:=hal.out;omega),Qh (hM.out.upd uz id),Qh (Za hown.out uz (fun _ _=>id)),Qh (hu.out.then_ uz (fun _ e=>e.elim))⟩
   ·have d1:decide (1≤x.k)=false:=decide_eq_false k1;have hbr:Zs mask x.k=false:=by unfold Zs;rw[d1];rfl
    have HN:=Qh (show ZdS ids ac (Zf (l.drop (k+1)) mask)=(II,AA) by have:=hst.out;rw[X.out,Zi9 hbr]at this;exact this);clear hst X hbr;go_wp2
    go_roundg (gk-1)
    case measure=>omega
    case rel=>exact⟨k+1,A5,c5,ids,ac,by omega,by simp,rfl,HN,Qh (by have:=hil.out;omega),Qh (by have:=hal.out;omega),Qh (hM.out.upd uz id),Qh (Za hown.out uz (fun _ _=>id)),Qh (hu.out.then_ uz (fun _ e=>e.elim))⟩
  ·obtain rfl:k=l.length:=by omega
   have hfin:=hst.out;rw[List.drop_length]at hfin;have hf1:ids=II:=congrArg Prod.fst hfin;have hf2:ac=AA:=congrArg Prod.snd hfin;subst hf1 hf2;clear hfin hst;have hln:=Zhd (ty:=3) Tryz.underlying191 hM.out;rw[Zho]at hln;have n1:decide (4096<(ids.length:Int))=false:=decide_eq_false (by have:=HLI.out;omega);have hm1:=BM.out.upd hu.out (by unfold One;omega);have CN:=Qh (ZuP wr (ids.length:Int));rw[HROOM.out]at CN;have HAC:=Qh (show ArcsL (fun i=>z+2≤i) wr A5 ac from Recs.weak (ZeQ hown.out) (fun i _ e=>(hown.out.lt i e).1));have HMC:=Qh hm1;have HUR:=Qh (show Upd No w wr from U0.out.then_ hu.out (fun i e=>Or.inr (by unfold One at e;have:=HZ.out;omega)));clear hm1 hown hu hM
   go_wp2_with fail
   refine(CN.out).mono ?_;rintro e w3 ⟨g,rfl,hd3⟩;have HD3:=Qh hd3;obtain⟨RQ,hRQ⟩:∃RQ,Zd6 ids.length [] ac=RQ:=⟨_,rfl⟩;have HQ0:=Qh (show Zd6 ids.length [] (ac.drop 0)=RQ by rw[List.drop_zero];exact hRQ);rw[hRQ]at HANY;obtain⟨wo,hwo⟩:∃wo,wo=wr:=⟨_,rfl⟩;subst hwo;have hacl:ac.length≤2000:=by have:=HLA.out;omega
   clear hd3 CN hln hRQ;go_wp2
   generalize gk=GK at*
   go_loopg [65] ac.length (fun gk i wx=>∃(j:Nat) (q:List HArc),j+gk=ac.length∧i= .int .i64 (j:Int)∧Hid (DMa wo g ids.length j q wx)∧Hid (Zd6 ids.length q (ac.drop j)=RQ))
   case atStart=>exact⟨0,[],by omega,rfl,HD3,HQ0⟩
   case round=>
    clear HD3 HQ0;obtain⟨j,q,hgj,rfl,hd,hq⟩:=hrel
    by_cases hlt:j<ac.length
    ·obtain⟨ax,rfl,q0,q1,q2,q3⟩:=(HAC.out.upd hd.out.upd (fun _ _=>id)).at_ hlt;obtain⟨x,hx⟩:∃x,ac[j]=x:=⟨_,rfl⟩;rw[hx]at q0 q1 q2 q3;have hst:=hq.out;rw[show ac.drop j=x::ac.drop (j+1) by rw[←hx];exact List.drop_eq_getElem_cons hlt,Zim]at hst;have HS:=Qh hst;clear hx hst hq;have b1:(0:Int)≤(j:Int):=Qn _;have b2:(j:Int)<(ac.length:Int):=by omega
     have jw:IntKind.i64.wrap ((j:Int)+1)=(j:Int)+1:=IntWalk.i64_in _ (by omega);have bo:=Blk.new wr 34 [.int .i64 x.f,.int .i64 x.t,.int .i64 x.kind,.int .i64 x.label];have g0:=bo.cell 0;have g1:=bo.cell 1;have g2:=bo.cell 2;have g3:=bo.cell 3;simp only[Qz,Qs]at g0 g1 g2 g3;have HD:=Qh (hd.out.no ((Upd.refl No wr).alloc (.cells #[.int .i64 x.f,.int .i64 x.t,.int .i64 x.kind,.int .i64 x.label] 34)));clear bo hd
     go_wp2_with fail
     refine(ZuQ HD.out (by omega) x).mono ?_;rintro e w3 ⟨rfl,hd3⟩;go_wp2
     go_roundg (gk-1)
     case measure=>omega
     case rel=>exact⟨j+1,Zb9 ids.length q x,by omega,by simp,Qh hd3,HS⟩
    ·obtain rfl:j=ac.length:=by omega
     have hqR:q=RQ:=by have:=hq.out;rw[List.drop_length]at this;exact this
     subst hqR;clear hq;obtain⟨G,hDG⟩:=hd.out.is;have HUD:=Qh hd.out.upd;have CL:=Qh (ZsT hDG (by have:=HLI.out;omega) 14);clear hd hDG
     go_wp2_with fail
     refine(CL.out).mono ?_;rintro e w4 ⟨A4,c4,rfl,ho4,hu4⟩;obtain⟨LL,hLL⟩:∃LL,Zdi ids.length (ofA 14 q)=LL:=⟨_,rfl⟩;have hLN:LL.length=ids.length:=by rw[←hLL];unfold Zdi;simp
     rw[hLL]at ho4 HANY ⊢;obtain⟨wl,hwl⟩:∃wl,w4.alloc (.cells #[.slice A4 LL.length c4] 24)=wl:=⟨_,rfl⟩;have ul:Upd No w4 wl:=by rw[←hwl];exact(Upd.refl No w4).alloc _
     have bl:Blk wl w4.heap.size 24 [.slice A4 LL.length c4]:=by rw[←hwl];exact Blk.new w4 _ _
     have HU4:=Qh ((HUD.out.trans hu4).trans ul);have CC:=Qh (Ztp (d:=c5) (HAC.out.upd HU4.out (fun _ _=>id)) (by omega) (bl.cell 0) ((HMC.out.upd HU4.out id).cell 0) ((Ints.of_own ho4).upd ul (fun _ _=>id)) (by rw[hLN];exact HOK.out) (by rw[hLN];have:=HLI.out;omega));rw[HANY.out,←HZ.out]at CC;clear ho4 hu4 ul bl hLL hLN
     go_wp2_with fail
     refine(CC.out).mono ?_;rintro e w5 ⟨rfl,hu5⟩;go_wp2
     go_ret
     exact⟨rfl,(HUR.out.trans HU4.out).trans hu5⟩
end
end Go.Proofs.YtonblekdfinpkaaGreat
