/- Phenomena, plain: one brings another; where there is an order that goes along there is none. -/
import Derived.Test.YtklmahmfmbppkaaGreatMao
import Derived.Test.YtklmahmfmbppkaaGreatMbe
import Derived.Test.YtklmahmfmbppkaaGreatMbg
import Derived.Test.YtklmahmfmbppkaaGreatMbo
import Derived.Test.YtklmahmfmbppkaaGreatMbp
import Derived.Test.YtklmahmfmbppkaaGreatMbr
import Derived.Test.YtklmahmfmbppkaaGreatMbt
namespace Go.Proofs.YtklmahmfmbppkaaGreat
set_option linter.unusedSimpArgs false
set_option linter.unusedVariables false
theorem RchE.mono {D D':List Edge} (h:∀e∈D,e∈D') {x y:Int} (k:RchE D x y):RchE D' x y:=by
 induction k with
 |refl=>exact RchE.refl _
 |step _ h2 h3 ih=>exact ih.step (h _ h2) h3
end Go.Proofs.YtklmahmfmbppkaaGreat
/- Phenomena:ids are numbered (phen.nodes.node). -/
namespace Go.Proofs.YtklmahmfmbppkaaGreat
set_option linter.unusedSimpArgs false
set_option linter.unusedVariables false
open Go.RowKit
def Zbo:Nat→List Int→List (Int×Value)
 |_,[]=>[]
 |k,x::l=>(x,.int .i64 (k:Int))::Zbo (k+1) l
theorem Zgn:∀(k:Nat) (l:List Int),(Zbo k l).length=l.length
 |_,[]=>rfl
 |k,x::l=>by unfold Zbo;rw[List.length_cons,List.length_cons,Zgn]
theorem Ziv (y:Int) (l:List Int) (x:Int):Zo (y::l) x=if x=y then 0 else Zo l x+1:=by
 unfold Zo
 rw[List.findIdx_cons]
 by_cases h:x=y
 ·subst h;simp
 ·rw[if_neg h,show(y==x)=false by rw[beq_eq_false_iff_ne];exact fun e=>h e.symm];rfl
theorem Zfk (x:Int):∀(l:List Int) (k i:Nat),look x (Zbo k l) i=if x∈l then some (i+Zo l x,.int .i64 ((k+Zo l x:Nat):Int)) else none
 |[],k,i=>by simp[Zbo,look]
 |y::l,k,i=>by
  unfold Zbo look
  by_cases h:x=y
  ·subst h
   rw[if_pos rfl,if_pos (List.mem_cons_self ..),Ziv,if_pos rfl]
   simp
  ·rw[if_neg h,Zfk x l (k+1) (i+1),Ziv,if_neg h]
   by_cases hm:x∈l
   ·rw[if_pos hm,if_pos (List.mem_cons_of_mem _ hm)]
    rw[show i+1+Zo l x=i+(Zo l x+1) by omega,show k+1+Zo l x=k+(Zo l x+1) by omega]
   ·rw[if_neg hm,if_neg (by rw[List.mem_cons,not_or];exact⟨h,hm⟩)]
theorem Znf (x:Int) (l:List Int):ZE (Zbo 0 l) x=if x∈l then some (.int .i64 (Zo l x:Int)) else none:=by
 unfold ZE
 rw[Zfk]
 split
 ·rw[Nat.zero_add];rfl
 ·rfl
theorem ZjU (x:Int):∀(l:List Int) (k:Nat),Zbo k (l++[x])=Zbo k l++[(x,.int .i64 ((k+l.length:Nat):Int))]
 |[],k=>rfl
 |y::l,k=>by
  show(y,_)::Zbo (k+1) (l++[x])=(y,_)::(Zbo (k+1) l++_)
  rw[ZjU x l (k+1),List.length_cons,show k+1+l.length=k+(l.length+1) by omega]
theorem Zne {x:Int} {l:List Int} (h:x∉l):Zq (Zbo 0 l) x (.int .i64 (l.length:Int))=Zbo 0 (l++[x]):=by
 unfold Zq
 rw[Zfk,if_neg h,ZjU,Nat.zero_add]
theorem Zn5 (w:World):(zeroValue 3).run Tryz.prog w= .ok (.int .i64 0) w:=by kernel_rfl
set_option maxRecDepth 100000 in
theorem Zpw (w:World) (b:Nat) (ids:List Int) (x:Int) (h:MapIs w b (fun n:Int=>Value.int .i64 n) (Zbo 0 ids)):
  Calls Tryz.prog 42 #[.map (some b),.int .i64 x] w fun e w'=>e= .returned (.int .i64 (Zo (ZO ids x) x:Int))∧MapIs w' b (fun n:Int=>Value.int .i64 n) (Zbo 0 (ZO ids x))∧Upd (One b) w w':=by
 have hl:=ZkF ZcA Tryz.underlying66 Zn5 h x
 rw[Znf]at hl
 have hn:=Zge (ty:=3) Tryz.underlying66 h
 rw[Zgn]at hn
 have HM:=Lib.hid h
 clear h
 by_cases hx:x∈ids
 ·rw[if_pos hx]at hl
  have HE:=Lib.hid (show ZO ids x=ids from if_pos hx)
  simp only[Option.getD_some,Option.isSome_some]at hl
  clear hx
  rw[HE.out]
  go_enter Tryz.func42,Tryz.ntmps42
  go_wp2
  go_ret
  exact⟨rfl,HM.out,Upd.refl _ _⟩
 ·rw[if_neg hx]at hl
  have HE:=Lib.hid (show ZO ids x=ids++[x] from if_neg hx)
  have HP:=Lib.hid (Zoy hx)
  have HPU:=Lib.hid (Zne hx)
  simp only[Option.getD_none,Option.isSome_none]at hl
  clear hx
  rw[HE.out,HP.out]
  go_enter Tryz.func42,Tryz.ntmps42
  go_wp2_with (at_mapUpdate;refine Zj3 rfl rfl ZcA Tryz.underlying66 (a:=x) (val:= .int .i64 (ids.length:Int)) (by rfl) (by rfl) (by rfl) HM.out ?_;intro w5 hm5 hu5;rw[HPU.out]at hm5;have HM5:=Lib.hid hm5;have HU5:=Lib.hid hu5;clear hm5 hu5)
  go_ret
  exact⟨rfl,HM5.out,HU5.out⟩
end Go.Proofs.YtklmahmfmbppkaaGreat
/- Phenomena:whether an arc is ZaG a component (the closure of phen.Round). -/
namespace Go.Proofs.YtklmahmfmbppkaaGreat
set_option linter.unusedSimpArgs false
set_option linter.unusedVariables false
open Go.RowKit
theorem ZsG {k:Int} (h:k=1∨k=2∨k=3):(2:Int) ^ min (IntKind.u64.wrap k).toNat 64=2 ^ k.toNat:=by
 rcases h with rfl|rfl|rfl<;>rfl
def inP (lab:List Int) (must:Int) (a:HArc):Bool:=decide (lab.getD a.f.toNat 0=lab.getD a.t.toNat 0)&&((bits .and .i64 must 14==0)||Zs must a.kind)
def ZhQ (n:Nat) (a:HArc):Prop:=0≤a.f∧a.f<(n:Int)∧0≤a.t∧a.t<(n:Int)∧1≤a.kind∧a.kind≤3
set_option maxRecDepth 100000 in
set_option maxHeartbeats 4000000 in
theorem ZsA (F:Nat→Prop) (w:World) (pl pm:Addr) (L:Option Addr) (cL:Nat) (lab:List Int) (must:Int) (a:HArc) (hpl:w.cell? pl=some (.slice L lab.length cL)) (hpm:w.cell? pm=some (.int .i64 must))
  (hL:Ints F w L lab) (ha:ZhQ lab.length a) (hl:lab.length≤100000):
  Calls Tryz.prog 48 #[.agg a.cells.toArray,.pointer (some pl),.pointer (some pm)] w fun e w'=>e= .returned (.bool (inP lab must a))∧Upd No w w':=by
 obtain⟨f,t,k,y⟩:=a
 obtain⟨h1,h2,h3,h4,h5,h6⟩:=ha
 simp only at h1 h2 h3 h4 h5 h6
 obtain⟨i,rfl⟩:=Int.eq_ofNat_of_zero_le h1
 obtain⟨j,rfl⟩:=Int.eq_ofNat_of_zero_le h3
 have hi:i<lab.length:=by omega
 have hj:j<lab.length:=by omega
 obtain⟨ad,rfl,_,_,ci⟩:=hL.at_ hi
 obtain⟨ad2,e2,_,_,cj⟩:=hL.at_ hj
 cases e2
 obtain⟨x,hx⟩:∃x,lab[i]=x:=⟨_,rfl⟩
 obtain⟨z,hz⟩:∃z,lab[j]=z:=⟨_,rfl⟩
 rw[hx]at ci
 rw[hz]at cj
 have gx:lab.getD i 0=x:=by rw[List.getD_eq_getElem?_getD,List.getElem?_eq_getElem hi,hx];rfl
 have gz:lab.getD j 0=z:=by rw[List.getD_eq_getElem?_getD,List.getElem?_eq_getElem hj,hz];rfl
 obtain⟨v,hv⟩:∃v,inP lab must ⟨(i:Int),(j:Int),k,y⟩=v:=⟨_,rfl⟩
 rw[hv]
 have hv:(decide (x=z)&&((bits .and .i64 must 14==0)||Zs must k))=v:=by
  rw[←hv]
  unfold inP
  simp only[Int.toNat_natCast,gx,gz]
 obtain⟨wz,hwz⟩:∃wz,w.alloc (.cells #[.int .i64 (i:Int),.int .i64 (j:Int),.int .i64 k,.int .i64 y] 70)=wz:=⟨_,rfl⟩
 have uz:Upd No w wz:=by rw[←hwz];exact(Upd.refl No w).alloc _
 have bo:Blk wz w.heap.size 70 [.int .i64 (i:Int),.int .i64 (j:Int),.int .i64 k,.int .i64 y]:=by rw[←hwz];exact Blk.new w _ _
 have g0:∀W,Upd No wz W→W.cell? ⟨w.heap.size,0,none⟩=some (.int .i64 (i:Int)):=fun W u=>(bo.upd u id).cell 0
 have g1:∀W,Upd No wz W→W.cell? ⟨w.heap.size,1,none⟩=some (.int .i64 (j:Int)):=fun W u=>(bo.upd u id).cell 1
 have g2:∀W,Upd No wz W→W.cell? ⟨w.heap.size,2,none⟩=some (.int .i64 k):=fun W u=>(bo.upd u id).cell 2
 have p0:∀W,Upd No wz W→W.cell? pl=some (.slice (some ad) lab.length cL):=fun W u=>(uz.trans u).keepNo hpl
 have p1:∀W,Upd No wz W→W.cell? pm=some (.int .i64 must):=fun W u=>(uz.trans u).keepNo hpm
 have p2:∀W,Upd No wz W→W.cell? (ad.add i)=some (.int .i64 x):=fun W u=>(uz.trans u).keepNo ci
 have p3:∀W,Upd No wz W→W.cell? (ad.add j)=some (.int .i64 z):=fun W u=>(uz.trans u).keepNo cj
 have HU:=Lib.hid uz
 have hzz:Upd No wz wz:=Upd.refl _ _
 have i0:(0:Int)≤(i:Int):=Int.natCast_nonneg _
 have i1:(i:Int)<(lab.length:Int):=by omega
 have j0:(0:Int)≤(j:Int):=Int.natCast_nonneg _
 have j1:(j:Int)<(lab.length:Int):=by omega
 unfold HArc.cells
 have hk3:k=1∨k=2∨k=3:=by omega
 have hbu:(bits .and .i64 (must/2 ^ min (IntKind.u64.wrap k).toNat 64) 1==1)=Zm must k:=by rw[ZsG hk3,Ze2];rfl
 have hbu2:(bits .and .i64 (must/2 ^ k.toNat) 1==1)=Zm must k:=by rw[Ze2];rfl
 have hbr:Zs must k=Zm must k:=by unfold Zs;rw[decide_eq_true h5,decide_eq_true h6];rfl
 clear bo uz ci cj hpl hpm hL gx gz hx hz h1 h2 h3 h4 hk3 hi hj
 by_cases hxz:x=z
 ·subst hxz
  have hq:(x==x)=true:=by simp
  rw[decide_eq_true rfl,Bool.true_and]at hv
  cases hm:(bits .and .i64 must 14==0)
  ·rw[hm,Bool.false_or,hbr]at hv
   rw[hv]at hbu hbu2
   clear hv hbr
   have HV:=Lib.hid (show v=v from rfl)
   cases v
   ·go_enter Tryz.func48,Tryz.ntmps48
    go_wp2
    refine wp_region_noPanic ?_
    refine wp_region_held_drew (S:=(fun W'=>Upd No wz W')) (by kernel_rfl) ?_ (fun hHeld=> ?_)
    ·(first|exact hzz.drew|exact hHeld)
    refine wpK 0 rfl ?_
    refine wpK 1 rfl ?_
    refine wpK 2 rfl ?_
    refine wpK 3 rfl ?_
    refine wpK 4 rfl ?_
    refine wpK 5 rfl ?_
    refine wpK 6 rfl ?_
    refine wpK 7 rfl ?_
    refine wpK 8 rfl ?_
    refine wpK 9 rfl ?_
    refine wpK 10 rfl ?_
    refine wpK 11 rfl ?_
    refine wpK 12 rfl ?_
    refine wpK 13 rfl ?_
    refine wpK 14 rfl ?_
    refine wpK 15 rfl ?_
    refine wpK 16 rfl ?_
    refine wpK 17 rfl ?_
    refine wpK 18 rfl ?_
    refine wpK 19 rfl ?_
    refine wpK 20 rfl ?_
    refine wpK 21 rfl ?_
    refine wpK 22 rfl ?_
    refine wpK 23 rfl ?_
    refine wpK 24 rfl ?_
    refine wpK 25 rfl ?_
    refine wpD (NoPanic.normal ?_)
    have HU3:=Lib.hid (HU.out.trans hHeld)
    clear hHeld
    go_wp2
    go_ret
    exact⟨by first|rfl|(have:=HV.out;subst this;rfl),HU3.out⟩
   ·go_enter Tryz.func48,Tryz.ntmps48
    go_wp2
    refine wp_region_noPanic ?_
    refine wp_region_held_drew (S:=(fun W'=>Upd No wz W')) (by kernel_rfl) ?_ (fun hHeld=> ?_)
    ·(first|exact hzz.drew|exact hHeld)
    refine wpK 0 rfl ?_
    refine wpK 1 rfl ?_
    refine wpK 2 rfl ?_
    refine wpK 3 rfl ?_
    refine wpK 4 rfl ?_
    refine wpK 5 rfl ?_
    refine wpK 6 rfl ?_
    refine wpK 7 rfl ?_
    refine wpK 8 rfl ?_
    refine wpK 9 rfl ?_
    refine wpK 10 rfl ?_
    refine wpK 11 rfl ?_
    refine wpK 12 rfl ?_
    refine wpK 13 rfl ?_
    refine wpK 14 rfl ?_
    refine wpK 15 rfl ?_
    refine wpK 16 rfl ?_
    refine wpK 17 rfl ?_
    refine wpK 18 rfl ?_
    refine wpK 19 rfl ?_
    refine wpK 20 rfl ?_
    refine wpK 21 rfl ?_
    refine wpK 22 rfl ?_
    refine wpK 23 rfl ?_
    refine wpK 24 rfl ?_
    refine wpK 25 rfl ?_
    refine wpD (NoPanic.normal ?_)
    have HU3:=Lib.hid (HU.out.trans hHeld)
    clear hHeld
    go_wp2
    go_ret
    exact⟨by first|rfl|(have:=HV.out;subst this;rfl),HU3.out⟩
  ·rw[hm,Bool.true_or]at hv
   have HV:=Lib.hid hv
   clear hv hbr hbu hbu2
   go_enter Tryz.func48,Tryz.ntmps48
   go_wp2
   refine wp_region_noPanic ?_
   refine wp_region_held_drew (S:=(fun W'=>Upd No wz W')) (by kernel_rfl) ?_ (fun hHeld=> ?_)
   ·(first|exact hzz.drew|exact hHeld)
   refine wpK 0 rfl ?_
   refine wpK 1 rfl ?_
   refine wpK 2 rfl ?_
   refine wpK 3 rfl ?_
   refine wpK 4 rfl ?_
   refine wpK 5 rfl ?_
   refine wpK 6 rfl ?_
   refine wpK 7 rfl ?_
   refine wpK 8 rfl ?_
   refine wpK 9 rfl ?_
   refine wpK 10 rfl ?_
   refine wpK 11 rfl ?_
   refine wpK 12 rfl ?_
   refine wpK 13 rfl ?_
   refine wpK 14 rfl ?_
   refine wpK 15 rfl ?_
   refine wpN 16 rfl ?_
   refine wpN 17 rfl ?_
   refine wpN 18 rfl ?_
   refine wpN 19 rfl ?_
   refine wpN 20 rfl ?_
   refine wpN 21 rfl ?_
   refine wpN 22 rfl ?_
   refine wpK 23 rfl ?_
   refine wpK 24 rfl ?_
   refine wpK 25 rfl ?_
   refine wpD (NoPanic.normal ?_)
   have HU3:=Lib.hid (HU.out.trans hHeld)
   clear hHeld
   go_wp2
   go_ret
   exact⟨by first|rfl|(have:=HV.out;subst this;rfl),HU3.out⟩
 ·have hq:(x==z)=false:=by rw[beq_eq_false_iff_ne];exact hxz
  rw[decide_eq_false hxz,Bool.false_and]at hv
  have HV:=Lib.hid hv
  clear hv hbr hbu hbu2 hxz
  go_enter Tryz.func48,Tryz.ntmps48
  go_wp2
  refine wp_region_noPanic ?_
  refine wp_region_held_drew (S:=(fun W'=>Upd No wz W')) (by kernel_rfl) ?_ (fun hHeld=> ?_)
  ·(first|exact hzz.drew|exact hHeld)
  refine wpK 0 rfl ?_
  refine wpK 1 rfl ?_
  refine wpK 2 rfl ?_
  refine wpK 3 rfl ?_
  refine wpK 4 rfl ?_
  refine wpK 5 rfl ?_
  refine wpK 6 rfl ?_
  refine wpK 7 rfl ?_
  refine wpK 8 rfl ?_
  refine wpK 9 rfl ?_
  refine wpK 10 rfl ?_
  refine wpK 11 rfl ?_
  refine wpN 12 rfl ?_
  refine wpN 13 rfl ?_
  refine wpN 14 rfl ?_
  refine wpN 15 rfl ?_
  refine wpN 16 rfl ?_
  refine wpN 17 rfl ?_
  refine wpN 18 rfl ?_
  refine wpN 19 rfl ?_
  refine wpN 20 rfl ?_
  refine wpN 21 rfl ?_
  refine wpN 22 rfl ?_
  refine wpN 23 rfl ?_
  refine wpK 24 rfl ?_
  refine wpK 25 rfl ?_
  refine wpD (NoPanic.normal ?_)
  have HU3:=Lib.hid (HU.out.trans hHeld)
  clear hHeld
  go_wp2
  go_ret
  exact⟨by first|rfl|(have:=HV.out;subst this;rfl),HU3.out⟩
def Zd9 (lab:List Int) (must:Int) (l:List HArc):Nat:=l.findIdx (inP lab must)
def Zfr (lab:List Int) (must:Int) (l:List HArc):Int:=if Zd9 lab must l<l.length then (Zd9 lab must l:Int) else -1
theorem Zov {lab:List Int} {must:Int} {l:List HArc} {k:Nat} (hk:k<l.length) (h:∀(j:Nat) (hj:j<k),inP lab must (l[j]'(by omega))=false) (h1:inP lab must l[k]=true):Zd9 lab must l=k:=by
 unfold Zd9
 rw[List.findIdx_eq hk]
 exact⟨h1,fun j hj=>by simp only[h j hj]⟩
theorem Zm0 {lab:List Int} {must:Int} {l:List HArc} (h:∀(j:Nat) (hj:j<l.length),inP lab must l[j]=false):Zd9 lab must l=l.length:=by
 unfold Zd9
 rw[List.findIdx_eq_length]
 intro x hx
 obtain⟨k,hk,rfl⟩:=List.mem_iff_getElem.1 hx
 simp only[h k hk]
theorem ZoX (lab:List Int) (must:Int) (l:List HArc):decide (0≤Zfr lab must l)=l.any (inP lab must):=by
 unfold Zfr
 by_cases h:Zd9 lab must l<l.length
 ·rw[if_pos h,decide_eq_true (by omega)]
  unfold Zd9 at h
  rw[List.findIdx_lt_length]at h
  obtain⟨x,hx,he⟩:=h
  exact(List.any_eq_true.2 ⟨x,hx,he⟩).symm
 ·rw[if_neg h]
  have h0:Zd9 lab must l=l.length:=by have:=List.findIdx_le_length (xs:=l) (p:=inP lab must);unfold Zd9 at h ⊢;omega
  have h1:=(List.findIdx_eq_length (p:=inP lab must) (xs:=l)).1 h0
  rw[show l.any (inP lab must)=false from List.any_eq_false.2 fun x hx=>by rw[h1 x hx];decide]
  rfl
section
variable {F G:Nat→Prop} {w:World} {B:Option Addr} {d:Nat} {l:List HArc} {pl pm:Addr} {L:Option Addr} {cL:Nat} {lab:List Int} {must:Int}
set_option maxRecDepth 100000 in
theorem ZrS (H:ArcsL F w B l) (hl:l.length≤1000000) (hpl:w.cell? pl=some (.slice L lab.length cL)) (hpm:w.cell? pm=some (.int .i64 must)) (hL:Ints G w L lab) (ha:∀a∈l,ZhQ lab.length a) (hn:lab.length≤100000):
  Calls Tryz.prog 87 #[.slice B l.length d,.func (.func 48) #[] #[.pointer (some pl),.pointer (some pm)]] w fun e w'=>e= .returned (.int .i64 (Zfr lab must l))∧Upd No w w':=by
 go_enter Tryz.func87,Tryz.ntmps87
 go_wp2
 go_loopg [8] l.length (fun gk s wr=>∃k:Nat,k+gk=l.length∧s= .int .i64 k∧Hid (∀(j:Nat) (hj:j<l.length),j<k→inP lab must l[j]=false)∧Upd No w wr)
 case atStart=>exact⟨0,by omega,rfl,Lib.hid (fun j _ hj=>by omega),Upd.refl _ _⟩
 case round=>
  obtain⟨k,hgk,rfl,hall,hu⟩:=hrel
  by_cases hlt:k<l.length
  ·obtain⟨ad,rfl,q0,q1,q2,q3⟩:=(H.upd hu (fun _ _=>id)).at_ hlt
   have hok:=ha _ (List.getElem_mem hlt)
   obtain⟨x,hx⟩:∃x,l[k]=x:=⟨_,rfl⟩
   rw[hx]at q0 q1 q2 q3 hok
   have X:=Lib.hid hx
   have b2:(k:Int)<(l.length:Int):=by omega
   have b1:(0:Int)≤(k:Int):=Int.natCast_nonneg _
   have HC:=Lib.hid (ZsA G wr pl pm L cL lab must x (hu.keepNo hpl) (hu.keepNo hpm) (hL.upd hu (fun _ _=>id)) hok hn)
   unfold HArc.cells at HC
   clear hx hok
   by_cases he:inP lab must x=true
   ·have hpos:=Lib.hid (show Zfr lab must l=(k:Int) by unfold Zfr;rw[Zov hlt (fun j hj=>hall.out j (by omega) hj) (by rw[X.out];exact he),if_pos hlt])
    have He:=Lib.hid he
    clear he
    go_wp2_with fail
    refine(HC.out).mono ?_
    rintro e w1 ⟨hee,hu1⟩
    rw[He.out]at hee
    subst hee
    go_wp2
    go_ret
    exact⟨by rw[hpos.out];rfl,hu.trans hu1⟩
   ·have hef:inP lab must x=false:=by simpa using he
    have He:=Lib.hid hef
    clear he hef
    go_wp2_with fail
    refine(HC.out).mono ?_
    rintro e w1 ⟨hee,hu1⟩
    rw[He.out]at hee
    subst hee
    go_wp2
    go_roundg (gk-1)
    case measure=>omega
    case rel=>exact⟨k+1,by omega,by go_num,Lib.hid (fun j hj hjk=>by
      by_cases e:j=k
      ·subst e;rw[X.out];exact He.out
      ·exact hall.out j hj (by omega)),hu.trans hu1⟩
  ·obtain rfl:k=l.length:=by omega
   have hpos:=Lib.hid (show Zfr lab must l= -1 by unfold Zfr;rw[Zm0 fun j hj=>hall.out j hj hj,if_neg (by omega)])
   go_wp2
   go_ret
   exact⟨by rw[hpos.out];rfl,hu⟩
set_option maxRecDepth 100000 in
theorem Zq2 (H:ArcsL F w B l) (hl:l.length≤1000000) (hpl:w.cell? pl=some (.slice L lab.length cL)) (hpm:w.cell? pm=some (.int .i64 must)) (hL:Ints G w L lab) (ha:∀a∈l,ZhQ lab.length a) (hn:lab.length≤100000):
  Calls Tryz.prog 47 #[.slice B l.length d,.func (.func 48) #[] #[.pointer (some pl),.pointer (some pm)]] w fun e w'=>e= .returned (.bool (l.any (inP lab must)))∧Upd No w w':=by
 have hq:=ZoX lab must l
 have hf:=ZrS (d:=d) H hl hpl hpm hL ha hn
 obtain⟨b,hb⟩:∃b,l.any (inP lab must)=b:=⟨_,rfl⟩
 obtain⟨i,hi⟩:∃i,Zfr lab must l=i:=⟨_,rfl⟩
 rw[hb,hi]at hq
 rw[hi]at hf
 rw[hb]
 have HF:=Lib.hid hf
 clear hf hb hi H hpl hpm hL ha
 subst hq
 go_enter Tryz.func47,Tryz.ntmps47
 go_wp2_with fail
 refine(HF.out).mono ?_
 rintro e w1 ⟨rfl,hu1⟩
 go_wp2
 go_ret
 exact⟨rfl,hu1⟩
end
end Go.Proofs.YtklmahmfmbppkaaGreat
/- Phenomena:phen.Round is walked. -/
namespace Go.Proofs.YtklmahmfmbppkaaGreat
set_option linter.unusedSimpArgs false
set_option linter.unusedVariables false
open Go.RowKit
theorem ZoV {x:Edge} {m:List Edge} {mask:Int} (h:Zs mask x.k=true):Ze (x::m) mask=x::Ze m mask:=by unfold Ze;rw[List.filter_cons_of_pos (p:=fun e:Edge=>Zs mask e.k) h]
theorem Zh4 {x:Edge} {m:List Edge} {mask:Int} (h:Zs mask x.k=false):Ze (x::m) mask=Ze m mask:=by unfold Ze;rw[List.filter_cons_of_neg (p:=fun e:Edge=>Zs mask e.k) (by rw[h];decide)]
theorem Zlx {l:List Edge} {mask:Int}:∀a∈Zd1 l mask,ZhQ (Zbr l mask).length a:=by
 intro a ha
 have hn:=Zel l mask
 rw[hn.arcs]at ha
 obtain⟨e,he,rfl⟩:=List.mem_map.1 ha
 have hk:=ZdY he
 have hh:=hn.has e he
 have a1:=ZcH hh.1
 have a2:=ZcH hh.2
 unfold Zbh ZhQ
 refine⟨?_,?_,?_,?_,hk.1,hk.2⟩<;>simp only<;>omega
theorem Zle {N:Nat} {q:List HArc} {i:Nat} (h:i<N):(Zcz N q).getD i 0=(Zbq q i:Int):=by
 unfold Zcz
 rw[List.getD_eq_getElem?_getD,List.getElem?_map,List.getElem?_range h]
 rfl
theorem ZqJ (l:List Edge) (mask must:Int):(Zd1 l mask).any (inP (Zcz (Zbr l mask).length (Zcg l mask)) must)=Zaj l mask must:=by
 rw[←ZmQ]
 unfold ZjC Zpm
 have h:∀a∈Zd1 l mask,inP (Zcz (Zbr l mask).length (Zcg l mask)) must a=(decide (Zbq (Zcg l mask) a.f.toNat=Zbq (Zcg l mask) a.t.toNat)&&((bits .and .i64 must 14==0)||Zs must a.kind)):=by
  intro a ha
  obtain⟨h1,h2,h3,h4,_,_⟩:=Zlx a ha
  unfold inP
  rw[Zle (by omega),Zle (by omega)]
  congr 1
  rw[Bool.eq_iff_iff,decide_eq_true_eq,decide_eq_true_eq]
  omega
 rw[Bool.eq_iff_iff,List.any_eq_true,List.any_eq_true]
 constructor
 ·rintro⟨a,ha,h2⟩;exact⟨a,ha,by rw[←h a ha];exact h2⟩
 ·rintro⟨a,ha,h2⟩;exact⟨a,ha,by rw[h a ha];exact h2⟩
theorem Zm8 (ids:List Int) (ac:List HArc) (x:Edge) (m:List Edge):Zc2 ids ac (x::m)=Zc2 (ZO (ZO ids x.f) x.t) (ac++[⟨(Zo (ZO ids x.f) x.f:Int),(Zo (ZO (ZO ids x.f) x.t) x.t:Int),x.k,0⟩]) m:=rfl
theorem Zmn (l:List HArc) (a:HArc):ZaC (l++[a])=ZaC l++a.cells:=by unfold ZaC;rw[List.map_append,List.flatten_append];simp
set_option maxRecDepth 100000 in
set_option maxHeartbeats 8000000 in
theorem ZjQ (F:Nat→Prop) (w:World) (A:Option Addr) (c:Nat) (l:List Edge) (mask must:Int) (h:Walk F w A l) (hl:l.length≤2000):
  Calls Tryz.prog 16 #[.slice A l.length c,.int .i64 mask,.int .i64 must] w fun e w'=>e= .returned (.bool (Zaj l mask must))∧Upd No w w':=by
 obtain⟨II,hII⟩:∃II,Zbr l mask=II:=⟨_,rfl⟩
 obtain⟨AA,hAA⟩:∃AA,Zd1 l mask=AA:=⟨_,rfl⟩
 have hlI:=Zqo l mask
 have hlA:=Zpl l mask
 have hok:=Zlx (l:=l) (mask:=mask)
 have hany:=ZqJ l mask must
 unfold Zcg at hany
 rw[hII]at hlI hok hany
 rw[hAA]at hlA hok hany
 have HNUM:=Lib.hid (show Zc2 [] [] (Ze (l.drop 0) mask)=(II,AA) by rw[List.drop_zero,←hII,←hAA];rfl)
 have HLI:=Lib.hid hlI
 have HLA:=Lib.hid hlA
 have HOK:=Lib.hid hok
 have HANY:=Lib.hid hany
 have HA:=Lib.hid (show Walk (fun i=>i<w.heap.size) w A l from Recs.lt h)
 have hroom:ZbG (II.length:Int)=II.length:=by unfold ZbG;omega
 have HROOM:=Lib.hid hroom
 obtain⟨rv,hrv⟩:∃rv,Zaj l mask must=rv:=⟨_,rfl⟩
 rw[hrv]at HANY ⊢
 clear hII hAA hlI hlA hok hany h hroom hrv
 obtain⟨z,hz⟩:∃z,w.heap.size=z:=⟨_,rfl⟩
 obtain⟨w1,hw1⟩:∃w1,w.alloc (.cells #[.int .i64 must] 3)=w1:=⟨_,rfl⟩
 have s1:w1.heap.size=z+1:=by rw[←hw1,←hz];simp
 obtain⟨wb,hwb⟩:∃wb,w1.alloc (.map #[] 0)=wb:=⟨_,rfl⟩
 have u1:Upd No w w1:=by rw[←hw1];exact(Upd.refl No w).alloc _
 have u2:Upd No w1 wb:=by rw[←hwb];exact(Upd.refl No w1).alloc _
 have hM0:MapIs wb (z+1) (fun n:Int=>Value.int .i64 n) (Zbo 0 []):=by rw[←hwb,←s1];exact MapIs.new w1 _
 have bM:Blk wb z 3 [.int .i64 must]:=by
  have:Blk w1 z 3 [.int .i64 must]:=by rw[←hw1,←hz];exact Blk.new w _ _
  exact this.upd u2 id
 have sb:wb.heap.size=z+2:=by rw[←hwb];simp[s1]
 have HM0:=Lib.hid hM0
 have U0:=Lib.hid (u1.trans u2)
 have HSB:=Lib.hid sb
 have BM:=Lib.hid bM
 have HZ:=Lib.hid hz
 have hmm:= @run_makeMap Tryz.prog
 clear hM0 u1 u2 bM sb hz
 go_enter Tryz.func16,Tryz.ntmps16
 go_wp2
 clear hw1 hwb s1
 go_loopg [8,18] l.length (fun gk s i wr=>∃(k:Nat) (A5:Option Addr) (c5:Nat) (ids:List Int) (ac:List HArc),k+gk=l.length∧i= .int .i64 (k:Int)∧s= .slice A5 ac.length c5∧Hid (Zc2 ids ac (Ze (l.drop k) mask)=(II,AA))∧
  Hid (ids.length≤2*k)∧Hid (ac.length≤k)∧Hid (MapIs wr (z+1) (fun n:Int=>Value.int .i64 n) (Zbo 0 ids))∧Hid (wr.ownsRow (z+2) 70 4 (.slice A5 ac.length c5) ac.length (ZaC ac))∧Hid (Upd (One (z+1)) wb wr))
 case atStart=>exact⟨0,none,0,[],[],by omega,rfl,rfl,HNUM,Lib.hid (Nat.zero_le _),Lib.hid (Nat.zero_le _),HM0,Lib.hid (World.ownsRow_nil _ _ _ _),Lib.hid (Upd.refl _ _)⟩
 case round=>
  clear HNUM HM0 hmm
  obtain⟨k,A5,c5,ids,ac,hgk,rfl,rfl,hst,hil,hal,hM,hown,hu⟩:=hrel
  by_cases hk:k<l.length
  ·obtain⟨ax,rfl,q0,q1,q2,q3⟩:=((HA.out.upd U0.out (fun _ _=>id)).upd hu.out (fun i hi=>by have:=HZ.out;have hi2:i<w.heap.size:=hi;unfold One;omega)).at_ hk
   obtain⟨x,hx⟩:∃x,l[k]=x:=⟨_,rfl⟩
   rw[hx]at q0 q1 q2 q3
   have X:=Lib.hid (show l.drop k=x::l.drop (k+1) by rw[←hx];exact List.drop_eq_getElem_cons hk)
   clear hx
   have b1:(0:Int)≤(k:Int):=Int.natCast_nonneg _
   have b2:(k:Int)<(l.length:Int):=by omega
   have jw:IntKind.i64.wrap ((k:Int)+1)=(k:Int)+1:=IntWalk.i64_in _ (by omega)
   obtain⟨wz,hwz⟩:∃wz,wr.alloc (.cells #[.int .i64 x.f,.int .i64 x.t,.int .i64 x.k,.int .i64 x.key] 61)=wz:=⟨_,rfl⟩
   have uz:Upd No wr wz:=by rw[←hwz];exact(Upd.refl No wr).alloc _
   have bo:Blk wz wr.heap.size 61 [.int .i64 x.f,.int .i64 x.t,.int .i64 x.k,.int .i64 x.key]:=by rw[←hwz];exact Blk.new wr _ _
   have hzr:z+2≤wr.heap.size:=by have:=hu.out.size;rw[HSB.out]at this;exact this
   have g0:∀W,Upd (fun i=>z+1≤i∧i≠wr.heap.size) wz W→W.cell? ⟨wr.heap.size,0,none⟩=some (.int .i64 x.f):=fun W u=>(bo.upd u (by omega)).cell 0
   have g1:∀W,Upd (fun i=>z+1≤i∧i≠wr.heap.size) wz W→W.cell? ⟨wr.heap.size,1,none⟩=some (.int .i64 x.t):=fun W u=>(bo.upd u (by omega)).cell 1
   have g2:∀W,Upd (fun i=>z+1≤i∧i≠wr.heap.size) wz W→W.cell? ⟨wr.heap.size,2,none⟩=some (.int .i64 x.k):=fun W u=>(bo.upd u (by omega)).cell 2
   have hzz:Upd (fun i=>z+1≤i∧i≠wr.heap.size) wz wz:=Upd.refl _ _
   have HZR:=Lib.hid hzr
   have HOL:=Lib.hid (fun i e=>hown.out.lt i e)
   have hbu:(bits .and .i64 (mask/2 ^ x.k.toNat) 1==1)=Zm mask x.k:=by rw[Ze2];rfl
   clear bo hzr
   by_cases k1:1≤x.k
   ·have d1:decide (1≤x.k)=true:=decide_eq_true k1
    by_cases k2:x.k≤3
    ·have d2:decide (x.k≤3)=true:=decide_eq_true k2
     have hbe:Zs mask x.k=Zm mask x.k:=by unfold Zs;rw[d1,d2];rfl
     cases hbm:Zm mask x.k
     ·have hbr:Zs mask x.k=false:=hbe.trans hbm
      rw[hbm]at hbu
      clear hbm hbe
      have HN:=Lib.hid (show Zc2 ids ac (Ze (l.drop (k+1)) mask)=(II,AA) by have:=hst.out;rw[X.out,Zh4 hbr]at this;exact this)
      clear hst X hbr
      go_wp2
      go_roundg (gk-1)
      case measure=>omega
      case rel=>exact⟨k+1,A5,c5,ids,ac,by omega,by simp,rfl,HN,Lib.hid (by have:=hil.out;omega),Lib.hid (by have:=hal.out;omega),Lib.hid (hM.out.upd uz id),Lib.hid (Za hown.out uz (fun _ _=>id)),Lib.hid (hu.out.then_ uz (fun _ e=>e.elim))⟩
     ·have hbr:Zs mask x.k=true:=hbe.trans hbm
      rw[hbm]at hbu
      clear hbm hbe
      have hst2:=hst.out
      rw[X.out,ZoV hbr,Zm8]at hst2
      obtain⟨i1,hi1⟩:∃i1,ZO ids x.f=i1:=⟨_,rfl⟩
      obtain⟨i2,hi2⟩:∃i2,ZO i1 x.t=i2:=⟨_,rfl⟩
      have hl1:=ZeJ ids x.f
      have hl2:=ZeJ i1 x.t
      rw[hi1,hi2]at hst2
      rw[hi1]at hl1
      rw[hi2]at hl2
      obtain⟨n1,hn1⟩:∃n1,Zo i1 x.f=n1:=⟨_,rfl⟩
      obtain⟨n2,hn2⟩:∃n2,Zo i2 x.t=n2:=⟨_,rfl⟩
      rw[hn1,hn2]at hst2
      have HST2:=Lib.hid hst2
      have HL2:=Lib.hid (show i2.length≤2*(k+1) by have:=hil.out;omega)
      have hp1:=fun W (hW:MapIs W (z+1) (fun n:Int=>Value.int .i64 n) (Zbo 0 ids))=>Zpw W (z+1) ids x.f hW
      rw[hi1,hn1]at hp1
      have hp2:=fun W (hW:MapIs W (z+1) (fun n:Int=>Value.int .i64 n) (Zbo 0 i1))=>Zpw W (z+1) i1 x.t hW
      rw[hi2,hn2]at hp2
      have HP1:=Lib.hid hp1
      have HP2:=Lib.hid hp2
      have HM1:=Lib.hid (hM.out.upd uz id)
      have HO1:=Lib.hid (Za hown.out uz (fun _ _=>id))
      have HUZ:=Lib.hid uz
      have hall:ac.length≤2000:=by have:=hal.out;omega
      clear hst hst2 hl1 hl2 hi1 hi2 hn1 hn2 hp1 hp2 uz hM hown hil X hbr
      go_wp2
      refine wp_region_noPanic ?_
      refine wp_region_held_drew (S:=(fun W'=>Upd (fun i=>z+1≤i∧i≠wr.heap.size) wz W')) (by kernel_rfl) ?_ (fun hHeld=> ?_)
      ·(first|exact hzz.drew|(with_reducible exact hHeld)|(with_reducible exact hq)|exact hHeld.alloc _)
      refine wpK 0 rfl ?_
      refine wpK 1 rfl ?_
      refine wpK 2 rfl ?_
      refine wpK 3 rfl ?_
      refine wpK 5 rfl ?_
      refine wpK 6 rfl ?_
      refine wpK 7 rfl ?_
      refine wpK 9 rfl ?_
      refine wpK 10 rfl ?_
      refine wpR [4] ?_
      refine wpC rfl (fun K hK=> ?_) AllReadyH.nil
      go_simp
      (first
  |(go_at_call 42;refine(HP1.out wz.drew (show MapIs wz.drew (z+1) _ _ from HM1.out)).mono ?_;rintro e w3 ⟨rfl,hm3,hu3'⟩;have hu3:=hu3'.of_drew;have HM3:=Lib.hid hm3;have HU3:=Lib.hid (show Upd (One (z+1)) wz w3 from hu3);have hq:Upd (fun i=>z+1≤i∧i≠wr.heap.size) wz w3:=hu3.mono (fun i _ e=>by have:=HZR.out;unfold One at e;omega);clear hm3 hu3 hu3'))
      try (go_wp2_with fail)
      refine hK.out _ _ ?_ (fun hHeld=> ?_)
      ·(first|exact hzz.drew|(with_reducible exact hHeld)|(with_reducible exact hq)|exact hHeld.alloc _)
      clear hK K
      try simp only[Act.put,sT,sS,sZ]
      refine wpR [8] ?_
      refine wpC rfl (fun K hK=> ?_) AllReadyH.nil
      go_simp
      (first
  |(go_at_call 42;refine(HP2.out _ HM3.out).mono ?_;rintro e w4 ⟨rfl,hm4,hu4⟩;have HM4:=Lib.hid hm4;have HU4:=Lib.hid (HU3.out.trans hu4);have hq:Upd (fun i=>z+1≤i∧i≠wr.heap.size) wz w4:=HU4.out.mono (fun i _ e=>by have:=HZR.out;unfold One at e;omega);clear hm4 hu4))
      try (go_wp2_with fail)
      refine hK.out _ _ ?_ (fun hHeld=> ?_)
      ·(first|exact hzz.drew|(with_reducible exact hHeld)|(with_reducible exact hq)|exact hHeld.alloc _)
      clear hK K
      try simp only[Act.put,sT,sS,sZ]
      refine wpK 11 rfl ?_
      refine wpR [12] ?_
      refine wpC rfl (fun K hK=> ?_) AllReadyH.nil
      go_simp
      refine hK.out _ _ ?_ (fun hHeld=> ?_)
      ·(first|exact hzz.drew|(with_reducible exact hHeld)|(with_reducible exact hq)|exact hHeld.alloc _)
      clear hK K
      try simp only[Act.put,sT,sS,sZ]
      refine wpR [13] ?_
      refine wpC rfl (fun K hK=> ?_) AllReadyH.nil
      (first
  |(refine ZdP (by rfl) (by rfl) Zdj (v:= .slice A5 ac.length c5) (n:=ac.length) (xs:=ZaC ac) (cells:=[.int .i64 (n1:Int),.int .i64 (n2:Int),.int .i64 x.k,.int .i64 0]) (by rfl) (by rfl) (by exact Za HO1.out (HU4.out.alloc _) (fun i e e2=>by have:=(HO1.out.lt i e).1;unfold One at e2;omega)) rfl (by exact ZcJ) (by rfl) (by omega) (by omega) (by have:=(HU4.out.alloc (.cells #[.int .i64 (n1:Int),.int .i64 (n2:Int),.int .i64 x.k,.int .i64 0] 70)).size;have:=HUZ.out.size;have:=HZR.out;omega) ?_;intro g6 c6 w6 hown6 hu6 hg6 hlt6;have HO6:=Lib.hid hown6;have HU6:=Lib.hid hu6;have hq:Upd (fun i=>z+1≤i∧i≠wr.heap.size) wz w6:=((HU4.out.alloc _).mono (fun i _ e=>by have:=HZR.out;unfold One at e;omega)).trans (hu6.mono (fun i _ e=>by have:=HOL.out i e;omega));clear hown6 hu6 hg6 hlt6))
      refine hK.out _ _ ?_ (fun hHeld=> ?_)
      ·(first|exact hzz.drew|(with_reducible exact hHeld)|(with_reducible exact hq)|exact hHeld.alloc _)
      clear hK K
      try simp only[Act.put,sT,sS,sZ]
      refine wpK 14 rfl ?_
      refine wpD (NoPanic.normal ?_)
      have HM6:=Lib.hid ((HM4.out.upd ((Upd.refl No _).alloc _) id).upd HU6.out (fun e=>by have:=(HO1.out.lt _ e).1;omega))
      have HUF:=Lib.hid (show Upd (One (z+1)) wb _ from((hu.out.then_ HUZ.out (fun _ e=>e.elim)).trans (HU4.out.alloc _)).then_ HU6.out (fun i e=>Or.inr (by have:=(HO1.out.lt i e).1;rw[HSB.out];exact this)))
      clear hHeld
      go_wp2
      go_roundg (gk-1)
      case measure=>omega
      case rel=>exact⟨k+1,some ⟨g6,0,none⟩,c6,i2,ac++[⟨(n1:Int),(n2:Int),x.k,0⟩],by omega,by simp,by simp,HST2,HL2,Lib.hid (by simp;have:=hal.out;omega),HM6,Lib.hid (by have:=HO6.out;rw[Zmn];simpa[HArc.cells]using this),HUF⟩
    ·have d2:decide (x.k≤3)=false:=decide_eq_false k2
     have hbr:Zs mask x.k=false:=by unfold Zs;rw[d1,d2];rfl
     have HN:=Lib.hid (show Zc2 ids ac (Ze (l.drop (k+1)) mask)=(II,AA) by have:=hst.out;rw[X.out,Zh4 hbr]at this;exact this)
     clear hst X hbr
     go_wp2
     go_roundg (gk-1)
     case measure=>omega
     case rel=>exact⟨k+1,A5,c5,ids,ac,by omega,by simp,rfl,HN,Lib.hid (by have:=hil.out;omega),Lib.hid (by have:=hal.out;omega),Lib.hid (hM.out.upd uz id),Lib.hid (Za hown.out uz (fun _ _=>id)),Lib.hid (hu.out.then_ uz (fun _ e=>e.elim))⟩
   ·have d1:decide (1≤x.k)=false:=decide_eq_false k1
    have hbr:Zs mask x.k=false:=by unfold Zs;rw[d1];rfl
    have HN:=Lib.hid (show Zc2 ids ac (Ze (l.drop (k+1)) mask)=(II,AA) by have:=hst.out;rw[X.out,Zh4 hbr]at this;exact this)
    clear hst X hbr
    go_wp2
    go_roundg (gk-1)
    case measure=>omega
    case rel=>exact⟨k+1,A5,c5,ids,ac,by omega,by simp,rfl,HN,Lib.hid (by have:=hil.out;omega),Lib.hid (by have:=hal.out;omega),Lib.hid (hM.out.upd uz id),Lib.hid (Za hown.out uz (fun _ _=>id)),Lib.hid (hu.out.then_ uz (fun _ e=>e.elim))⟩
  ·obtain rfl:k=l.length:=by omega
   have hfin:=hst.out
   rw[List.drop_length]at hfin
   have hf1:ids=II:=congrArg Prod.fst hfin
   have hf2:ac=AA:=congrArg Prod.snd hfin
   subst hf1 hf2
   clear hfin hst
   have hln:=Zge (ty:=3) Tryz.underlying66 hM.out
   rw[Zgn]at hln
   have n1:decide (4096<(ids.length:Int))=false:=decide_eq_false (by have:=HLI.out;omega)
   have hm1:=BM.out.upd hu.out (by unfold One;omega)
   have CN:=Lib.hid (Zsb wr (ids.length:Int))
   rw[HROOM.out]at CN
   have HAC:=Lib.hid (show ArcsL (fun i=>z+2≤i) wr A5 ac from Recs.weak (Zd0 hown.out) (fun i _ e=>(hown.out.lt i e).1))
   have HMC:=Lib.hid hm1
   have HUR:=Lib.hid (show Upd No w wr from U0.out.then_ hu.out (fun i e=>Or.inr (by unfold One at e;have:=HZ.out;omega)))
   clear hm1 hown hu hM
   go_wp2_with fail
   refine(CN.out).mono ?_
   rintro e w3 ⟨g,rfl,hd3⟩
   have HD3:=Lib.hid hd3
   obtain⟨RQ,hRQ⟩:∃RQ,Zdg ids.length [] ac=RQ:=⟨_,rfl⟩
   have HQ0:=Lib.hid (show Zdg ids.length [] (ac.drop 0)=RQ by rw[List.drop_zero];exact hRQ)
   rw[hRQ]at HANY
   obtain⟨wo,hwo⟩:∃wo,wo=wr:=⟨_,rfl⟩
   subst hwo
   have hacl:ac.length≤2000:=by have:=HLA.out;omega
   clear hd3 CN hln hRQ
   go_wp2
   generalize gk=GK at*
   go_loopg [65] ac.length (fun gk i wx=>∃(j:Nat) (q:List HArc),j+gk=ac.length∧i= .int .i64 (j:Int)∧Hid (DMa wo g ids.length j q wx)∧Hid (Zdg ids.length q (ac.drop j)=RQ))
   case atStart=>exact⟨0,[],by omega,rfl,HD3,HQ0⟩
   case round=>
    clear HD3 HQ0
    obtain⟨j,q,hgj,rfl,hd,hq⟩:=hrel
    by_cases hlt:j<ac.length
    ·obtain⟨ax,rfl,q0,q1,q2,q3⟩:=(HAC.out.upd hd.out.upd (fun _ _=>id)).at_ hlt
     obtain⟨x,hx⟩:∃x,ac[j]=x:=⟨_,rfl⟩
     rw[hx]at q0 q1 q2 q3
     have hst:=hq.out
     rw[show ac.drop j=x::ac.drop (j+1) by rw[←hx];exact List.drop_eq_getElem_cons hlt,Zhm]at hst
     have HS:=Lib.hid hst
     clear hx hst hq
     have b1:(0:Int)≤(j:Int):=Int.natCast_nonneg _
     have b2:(j:Int)<(ac.length:Int):=by omega
     have jw:IntKind.i64.wrap ((j:Int)+1)=(j:Int)+1:=IntWalk.i64_in _ (by omega)
     have bo:=Blk.new wr 70 [.int .i64 x.f,.int .i64 x.t,.int .i64 x.kind,.int .i64 x.label]
     have g0:=bo.cell 0
     have g1:=bo.cell 1
     have g2:=bo.cell 2
     have g3:=bo.cell 3
     simp only[List.getElem?_cons_zero,List.getElem?_cons_succ]at g0 g1 g2 g3
     have HD:=Lib.hid (hd.out.no ((Upd.refl No wr).alloc (.cells #[.int .i64 x.f,.int .i64 x.t,.int .i64 x.kind,.int .i64 x.label] 70)))
     clear bo hd
     go_wp2_with fail
     refine(Zsc HD.out (by omega) x).mono ?_
     rintro e w3 ⟨rfl,hd3⟩
     go_wp2
     go_roundg (gk-1)
     case measure=>omega
     case rel=>exact⟨j+1,ZbE ids.length q x,by omega,by simp,Lib.hid hd3,HS⟩
    ·obtain rfl:j=ac.length:=by omega
     have hqR:q=RQ:=by have:=hq.out;rw[List.drop_length]at this;exact this
     subst hqR
     clear hq
     obtain⟨G,hDG⟩:=hd.out.is
     have HUD:=Lib.hid hd.out.upd
     have CL:=Lib.hid (ZqH hDG (by have:=HLI.out;omega) 14)
     clear hd hDG
     go_wp2_with fail
     refine(CL.out).mono ?_
     rintro e w4 ⟨A4,c4,rfl,ho4,hu4⟩
     obtain⟨LL,hLL⟩:∃LL,Zcz ids.length (ofA 14 q)=LL:=⟨_,rfl⟩
     have hLN:LL.length=ids.length:=by rw[←hLL];unfold Zcz;simp
     rw[hLL]at ho4 HANY ⊢
     obtain⟨wl,hwl⟩:∃wl,w4.alloc (.cells #[.slice A4 LL.length c4] 37)=wl:=⟨_,rfl⟩
     have ul:Upd No w4 wl:=by rw[←hwl];exact(Upd.refl No w4).alloc _
     have bl:Blk wl w4.heap.size 37 [.slice A4 LL.length c4]:=by rw[←hwl];exact Blk.new w4 _ _
     have HU4:=Lib.hid ((HUD.out.trans hu4).trans ul)
     have CC:=Lib.hid (Zq2 (d:=c5) (HAC.out.upd HU4.out (fun _ _=>id)) (by omega) (bl.cell 0) ((HMC.out.upd HU4.out id).cell 0) ((Ints.of_own ho4).upd ul (fun _ _=>id)) (by rw[hLN];exact HOK.out) (by rw[hLN];have:=HLI.out;omega))
     rw[HANY.out,←HZ.out]at CC
     clear ho4 hu4 ul bl hLL hLN
     go_wp2_with fail
     refine(CC.out).mono ?_
     rintro e w5 ⟨rfl,hu5⟩
     go_wp2
     go_ret
     exact⟨rfl,(HUR.out.trans HU4.out).trans hu5⟩
end Go.Proofs.YtklmahmfmbppkaaGreat
