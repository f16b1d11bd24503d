/- Witnesses, plain: how many edges there are, what a witness is. -/
import Derived.Test.YtonblekdfinpkaaGreatSxak
import Derived.Test.YtonblekdfinpkaaGreatSxbe
import Derived.Test.YtonblekdfinpkaaGreatSxbh
import Derived.Test.YtonblekdfinpkaaGreatSxbi
import Derived.Test.YtonblekdfinpkaaGreatSxbj
import Derived.Test.YtonblekdfinpkaaGreatSxbm
import Derived.Test.YtonblekdfinpkaaGreatSxbn
import Derived.Test.YtonblekdfinpkaaGreatSxbp
import Derived.Test.YtonblekdfinpkaaGreatSxbr
import Derived.Test.YtonblekdfinpkaaGreatSxbs
import Derived.Test.YtonblekdfinpkaaGreatSxbt
import Derived.Test.YtonblekdfinpkaaGreatSxbw
import Derived.Test.YtonblekdfinpkaaGreatSxbx
namespace Go.Proofs.YtonblekdfinpkaaGreat
set_option linter.unusedVariables false
set_option linter.unusedSimpArgs false
section
open Go.RowKit
theorem Zeb {α:Type} [DecidableEq α]:∀(l m:List α),l.Nodup→(∀x∈l,x∈m)→l.length≤m.length
 |[],_,_,_=>Nat.zero_le _
 |x::l,m,hn,hs=>by
  obtain⟨h1,h2⟩:=List.nodup_cons.1 hn;have hx:=hs x (List.mem_cons_self ..);have:=Zeb l (m.erase x) h2 fun y hy=>(List.mem_erase_of_ne (fun e:y=x=>h1 (by rw[←e];exact hy))).2 (hs y (List.mem_cons_of_mem _ hy))
  rw[List.length_erase_of_mem hx]at this;have:=List.length_pos_of_mem hx;rw[List.length_cons];omega
theorem Zmk (key:Int):∀l:List Int,(wwO key l).length≤l.length
 |[]=>by simp[wwO]
 |[a]=>by simp[wwO]
 |a::b::l=>by
  have:=Zmk key (b::l)
  show(⟨a,b,1,key⟩::wwO key (b::l)).length≤_
  rw[List.length_cons];simp only[List.length_cons]at*;omega
theorem ZfP {α β:Type} (f:α→List β) (K:Nat):∀l:List α,(∀x∈l,(f x).length≤K)→(l.flatMap f).length≤K*l.length
 |[],_=>by simp
 |x::l,h=>by
  have h1:=h x (List.mem_cons_self ..);have h2:=ZfP f K l fun y hy=>h y (List.mem_cons_of_mem _ hy)
  rw[List.flatMap_cons,List.length_append,List.length_cons,Nat.mul_succ];omega
theorem ZlI {h:Hist} (hl:Zv h=true):h.ords.length≤24∧∀o∈h.ords,o.txs.length≤24:=by
 unfold Zv at hl;simp only[Bool.and_eq_true,decide_eq_true_eq,List.all_eq_true]at hl;exact⟨hl.1.1.2,fun t ht=>hl.2 t ht⟩
theorem Zfk {h:Hist} (hl:Zv h=true):(Zh h).length≤1152:=by
 by_cases hr:Za h=true
 ·obtain⟨n1,n2⟩:=Ze9 hl;obtain⟨n3,n4⟩:=ZlI hl
  have h1:((Zh h).map (·.e)).length≤(wwL (fun _=>true) h.ords++rdL (fun _=>true) (Zc h.txs) (Ze h.txs) (Zy h.ords) h.txs).length:=by
   refine Zeb _ _ ?_ fun e he=> ?_
   ·rw[List.nodup_iff_pairwise_ne,List.pairwise_map];exact Znz
   ·obtain⟨x,hx,rfl⟩:=List.mem_map.1 he;have hc:=((Zay hr).1 hx).1;have hg:=Zk7 hr (fun _=>true) x.e;rw[if_pos rfl]at hg;rw[←hg]at hc;unfold ZlQ at hc;rw[List.mem_append]
    apply Classical.byContradiction
    intro hn;rw[not_or]at hn
    apply hc
    unfold ZaL;rw[if_neg hn.1,Nat.zero_add];unfold Zs;rw[List.length_eq_zero_iff,List.filter_eq_nil_iff];intro y hy;simp only[decide_eq_true_eq];intro e;rw[e]at hy;exact hn.2 hy
  rw[List.length_map,List.length_append]at h1
  have h2:(wwL (fun _=>true) h.ords).length≤24*h.ords.length:=ZfP _ 24 _ fun o ho=>by
   unfold wwC;rw[if_pos rfl];exact Nat.le_trans (Zmk _ _) (n4 o ho)
  have h3:(rdL (fun _=>true) (Zc h.txs) (Ze h.txs) (Zy h.ords) h.txs).length≤48*(h.txs.filter (·.done)).length:=ZfP _ 48 _ fun t ht=>by
   have h4:(rdO (fun _=>true) (Zc h.txs) (Ze h.txs) (Zy h.ords) t.id t.ops).length≤2*(t.ops.filter fun o=>o.read&&true).length:=ZfP _ 2 _ fun o _=>Zh7 _ _ _ _ _
   have h5:=List.length_filter_le (fun o:HOp=>o.read&&true) t.ops;have h6:=n2 t (List.mem_filter.1 ht).1;exact Nat.le_trans h4 (by omega)
  have h7:=List.length_filter_le (fun t:HTx=>t.done) h.txs;omega
 ·unfold Zh;rw[if_neg hr];simp
structure HWit where
 p:Int
 walk:List Edge
 read:HBad
deriving DecidableEq
def HWit.at_ (x:HWit) (A:Option Addr) (c:Nat):List Value:=[.int .i64 x.p,.slice A x.walk.length c,.int .i64 x.read.tx,.int .i64 x.read.place,.int .i64 x.read.of.tx,.int .i64 x.read.of.key,.int .i64 x.read.of.nth]
theorem EdX.nil {w:World} {A:Option Addr}:EdX w A []:=⟨fun _=>True,fun h=>absurd rfl h⟩
end
/- Phenomena:which a history has (phen.Has,phen.All,tenterref30.Has). -/
section
open Go.RowKit
def ZB (h:Hist) (p:Int):Bool:=if p=2∨p=3 then decide (0<(Zct h p).length) else Zah (Zl (Zh h)) (ZdL p) (ZdK p)
theorem Znf (l:List Edge):Zj l 0=[]:=by
 unfold Zj;rw[List.filter_eq_nil_iff];intro e _ h;unfold ZJ ZS at h;simp at h
theorem Zlv (l:List Edge) (must:Int):Zah l 0 must=false:=by
 have h:=Znf l;unfold Zj at h;unfold Zah;simp only[h]
 split<;>rfl
set_option maxRecDepth 100000 in
set_option maxHeartbeats 2000000 in
theorem Zta (F:Nat→Prop) (w:World) (txs:List HTx) (ords:List HOrd) (A:Option Addr) (c:Nat) (B:Option Addr) (d:Nat) (p:Int) (H:Hist.lies F w ⟨txs,ords,A,c,B,d⟩) (hl:Zv ⟨txs,ords,A,c,B,d⟩=true):
  Calls Tryz.prog 20 #[.agg #[.slice A txs.length c,.slice B ords.length d],.int .i64 p] w fun e w'=>e= .returned (.bool (ZB ⟨txs,ords,A,c,B,d⟩ p))∧Upd No w w':=by
 obtain⟨wb,hwb⟩:∃wb,w.alloc (.cells #[.slice A txs.length c,.slice B ords.length d] 50)=wb:=⟨_,rfl⟩;have u0:Upd No w wb:=by rw[←hwb];exact(Upd.refl No w).alloc _
 have bH:Blk wb w.heap.size 50 [.slice A txs.length c,.slice B ords.length d]:=by rw[←hwb];exact Blk.new w _ _
 have h0:∀W,Upd No wb W→W.cell? ⟨w.heap.size,0,none⟩=some (.slice A txs.length c):=fun W u=>(bH.upd u id).cell 0
 have h1:∀W,Upd No wb W→W.cell? ⟨w.heap.size,1,none⟩=some (.slice B ords.length d):=fun W u=>(bH.upd u id).cell 1
 have HH:=Qh (H.upd u0 (fun _ _=>id));have U0:=Qh u0;have hr:Upd No wb wb:=Upd.refl _ _;clear bH u0 H
 by_cases p2:p=2
 ·subst p2;have CB:=Qh (oOf F wb txs ords A c B d 2 HH.out);obtain⟨bl,hbl⟩:∃bl,Zct ⟨txs,ords,A,c,B,d⟩ 2=bl:=⟨_,rfl⟩;have HV:=Qh (show ZB ⟨txs,ords,A,c,B,d⟩ 2=decide (0<bl.length) by unfold ZB;rw[if_pos (by decide),hbl]);rw[hbl]at CB;rw[HV.out];clear hbl
  go_enter Tryz.func20,Tryz.ntmps20
  go_wp2_with fail
  refine(CB.out).mono ?_;rintro e w1 ⟨A1,c1,rfl,_,hu1⟩;go_wp2
  go_ret
  exact⟨rfl,U0.out.trans hu1⟩
 by_cases p3:p=3
 ·subst p3;have CB:=Qh (oOf F wb txs ords A c B d 3 HH.out);obtain⟨bl,hbl⟩:∃bl,Zct ⟨txs,ords,A,c,B,d⟩ 3=bl:=⟨_,rfl⟩;have HV:=Qh (show ZB ⟨txs,ords,A,c,B,d⟩ 3=decide (0<bl.length) by unfold ZB;rw[if_pos (by decide),hbl]);rw[hbl]at CB;rw[HV.out];clear hbl
  go_enter Tryz.func20,Tryz.ntmps20
  go_wp2_with fail
  refine(CB.out).mono ?_;rintro e w1 ⟨A1,c1,rfl,_,hu1⟩;go_wp2
  go_ret
  exact⟨rfl,U0.out.trans hu1⟩
 have q2:(p==2)=false:=by simpa using p2
 have q3:(p==3)=false:=by simpa using p3
 have hv:ZB ⟨txs,ords,A,c,B,d⟩ p=Zah (Zl (Zh ⟨txs,ords,A,c,B,d⟩)) (ZdL p) (ZdK p):=by unfold ZB;rw[if_neg (by omega)]
 rw[hv];clear hv;obtain⟨l,hll⟩:∃l,Zh ⟨txs,ords,A,c,B,d⟩=l:=⟨_,rfl⟩;have hfew:=Zfk hl;obtain⟨n1,n2⟩:=Ze9 hl;have CE:=Qh (Zi6 HH.out n1 n2 rfl rfl hll rfl);rw[hll]at hfew ⊢;obtain⟨pl,hpl⟩:∃pl,Zl l=pl:=⟨_,rfl⟩;have hpn:pl.length=l.length:=by rw[←hpl];unfold Zl;rw[List.length_map]
 have HPL:=Qh hpl;rw[hpl];have HPN:=Qh hpn;have HF:=Qh hfew;obtain⟨M,hM⟩:∃M,ZdL p=M:=⟨_,rfl⟩;obtain⟨T,hT⟩:∃T,ZdK p=T:=⟨_,rfl⟩;have PM:=Qh (fun W=>Zq9 W p);rw[hM,hT]at PM ⊢;clear hM hT hll hpl hpn p2 p3 n1 n2 hfew
 by_cases hm:M=0
 ·subst hm;rw[Zlv]
  go_enter Tryz.func20,Tryz.ntmps20
  go_wp2_with fail
  refine(PM.out _).mono ?_;rintro e w1 ⟨rfl,rfl⟩;go_wp2
  go_ret
  exact⟨rfl,U0.out⟩
 ·have hmb:(M != 0)=true:=by simpa using hm
  clear hm
  go_enter Tryz.func20,Tryz.ntmps20
  go_wp2_with fail
  refine(PM.out _).mono ?_;rintro e w1 ⟨rfl,rfl⟩
  go_wp2_with fail
  refine(CE.out).mono ?_;rintro e w1 ⟨A1,c1,rfl,hx1,hu1⟩;have C2:=Qh (Zi5 (c:=c1) hx1 (by have:=HF.out;omega) rfl HPL.out rfl)
  go_wp2_with fail
  refine(C2.out).mono ?_;rintro e w2 ⟨A2,c2,rfl,⟨G,hx2⟩,hu2⟩;have hu12:=hu1.trans hu2;have C3:=Qh (Zrc G w2 A2 c2 pl M T hx2 (by have:=HF.out;have:=HPN.out;omega));clear hx1 hx2 hu1 hu2
  go_wp2_with fail
  refine(C3.out).mono ?_;rintro e w3 ⟨rfl,hu3⟩;go_wp2
  go_ret
  exact⟨rfl,U0.out.trans (hu12.trans hu3)⟩
end
/- Phenomena:all that a history has (phen.All). -/
section
open Go.RowKit
def Zkb (h:Hist):Value:= .agg #[.bool (ZB h 0),.bool (ZB h 1),.bool (ZB h 2),.bool (ZB h 3),.bool (ZB h 4),.bool (ZB h 5)]
set_option maxRecDepth 100000 in
set_option maxHeartbeats 2000000 in
theorem Ztb (F:Nat→Prop) (w:World) (txs:List HTx) (ords:List HOrd) (A:Option Addr) (c:Nat) (B:Option Addr) (d:Nat) (H:Hist.lies F w ⟨txs,ords,A,c,B,d⟩) (hl:Zv ⟨txs,ords,A,c,B,d⟩=true):
  Calls Tryz.prog 93 #[.agg #[.slice A txs.length c,.slice B ords.length d]] w fun e w'=>e= .returned (Zkb ⟨txs,ords,A,c,B,d⟩)∧Upd No w w':=by
 obtain⟨z,hz⟩:∃z,w.heap.size=z:=⟨_,rfl⟩;obtain⟨wh,hwh⟩:∃wh,w.alloc (.cells #[.slice A txs.length c,.slice B ords.length d] 50)=wh:=⟨_,rfl⟩;have sh:wh.heap.size=z+1:=by rw[←hwh,←hz];simp
 obtain⟨wr1,hwr1⟩:∃wr1,wh.alloc (.cells #[.bool false,.bool false,.bool false,.bool false,.bool false,.bool false] 72)=wr1:=⟨_,rfl⟩;have sr:wr1.heap.size=z+2:=by rw[←hwr1];simp[sh]
 obtain⟨wb,hwb⟩:∃wb,wr1.alloc (.cells #[.bool false,.bool false,.bool false,.bool false,.bool false,.bool false] 72)=wb:=⟨_,rfl⟩;have u1:Upd No w wh:=by rw[←hwh];exact(Upd.refl No w).alloc _
 have u2:Upd No wh wr1:=by rw[←hwr1];exact(Upd.refl No wh).alloc _
 have u3:Upd No wr1 wb:=by rw[←hwb];exact(Upd.refl No wr1).alloc _
 have bH:Blk wb z 50 [.slice A txs.length c,.slice B ords.length d]:=by
  have:Blk wh z 50 [.slice A txs.length c,.slice B ords.length d]:=by rw[←hwh,←hz];exact Blk.new w _ _
  exact(this.upd u2 id).upd u3 id
 have bR:Blk wb (z+1) 72 [.bool false,.bool false,.bool false,.bool false,.bool false,.bool false]:=by
  have:Blk wr1 (z+1) 72 [.bool false,.bool false,.bool false,.bool false,.bool false,.bool false]:=by rw[←hwr1,←sh];exact Blk.new wh _ _
  exact this.upd u3 id
 have bA:Blk wb (z+2) 72 (ZdU (ZB ⟨txs,ords,A,c,B,d⟩) 0):=by rw[ZmG,←hwb,←sr];exact Blk.new wr1 _ _
 have h0:∀W,Upd (One (z+2)) wb W→W.cell? ⟨z,0,none⟩=some (.slice A txs.length c):=fun W u=>(bH.upd u (by unfold One;omega)).cell 0
 have h1:∀W,Upd (One (z+2)) wb W→W.cell? ⟨z,1,none⟩=some (.slice B ords.length d):=fun W u=>(bH.upd u (by unfold One;omega)).cell 1
 have BR:=Qh bR;have BA:=Qh bA;have U0:=Qh ((u1.trans u2).trans u3);have HZ:=Qh hz;have HP:=Qh (fun W (u:Upd (One (z+2)) wb W) (p:Int)=>Zta _ W txs ords A c B d p (H.upd (U0.out.then_ u (fun i e=>Or.inr (by unfold One at e;omega))) (fun _ _=>id)) hl);clear bH bR bA u1 u2 u3 H hl
 go_enter Tryz.func93,Tryz.ntmps93
 go_wp2;clear hwh hwr1 hwb sh sr hz
 go_loopg [5] 6 (fun gk i wr=>∃k:Nat,k+gk=6∧i= .int .i64 (k:Int)∧Hid (Blk wr (z+2) 72 (ZdU (ZB ⟨txs,ords,A,c,B,d⟩) k))∧Hid (Upd (One (z+2)) wb wr))
 case atStart=>exact⟨0,by omega,rfl,BA,Qh (Upd.refl _ _)⟩
 case round=>
  clear BA;obtain⟨k,hgk,rfl,hb,hu⟩:=hrel
  by_cases hk:k<6
  ·have b1:(0:Int)≤(k:Int):=Qn _;have b2:(k:Int)<6:=by omega
   have jw:IntKind.i64.wrap ((k:Int)+1)=(k:Int)+1:=IntWalk.i64_in _ (by omega);have CP:=Qh (HP.out wr hu.out (k:Int));have hur:=hu.out
   go_wp2_with fail
   refine(CP.out).mono ?_;rintro e w3 ⟨rfl,hu3⟩;have b3:=hb.out.upd hu3 id;have f3:∀i,w3.frozen? ⟨z+2,i,none⟩=false:=fun i=>b3.free i
   have c3:=b3.cell k
   have hcell:∃v,w3.cell? ⟨z+2,k,none⟩=some v:=by
    rw[c3,Qg (by rw[Zoa];exact hk)];exact⟨_,rfl⟩
   obtain⟨v0,hv0⟩:=hcell;have HB3:=Qh (Zn9 (ZB ⟨txs,ords,A,c,B,d⟩) k hk▸b3.set_ k (.bool (ZB ⟨txs,ords,A,c,B,d⟩ (k:Int))));have HU3:=Qh ((hu.out.trans (hu3.mono (fun _ _ e=>e.elim))).setOne k (.bool (ZB ⟨txs,ords,A,c,B,d⟩ (k:Int))));clear b3 c3 hu3 hb hu CP;go_wp2
   go_roundg (gk-1)
   case measure=>omega
   case rel=>exact⟨k+1,by omega,by simp,HB3,HU3⟩
  ·obtain rfl:k=6:=by omega
   have b6:=hb.out;rw[Zn8]at b6;have a0:=b6.cell 0;have a1:=b6.cell 1;have a2:=b6.cell 2;have a3:=b6.cell 3;have a4:=b6.cell 4;have a5:=b6.cell 5;simp only[Qz,Qs]at a0 a1 a2 a3 a4 a5;have bR:=BR.out.upd hu.out (by unfold One;omega);have k0:=bR.free 0;have k1:=bR.free 1;have k2:=bR.free 2;have k3:=bR.free 3;have k4:=bR.free 4;have k5:=bR.free 5;have d0:=bR.cell 0;have d1:=bR.cell 1;have d2:=bR.cell 2;have d3:=bR.cell 3;have d4:=bR.cell 4;have d5:=bR.cell 5;simp only[Qz,Qs]at d0 d1 d2 d3 d4 d5;have HBR:=Qh bR;have HU:=Qh hu.out;obtain⟨v0,hv0⟩:∃v,ZB ⟨txs,ords,A,c,B,d⟩ 0=v:=⟨_,rfl⟩;obtain⟨v1,hv1⟩:∃v,ZB ⟨txs,ords,A,c,B,d⟩ 1=v:=⟨_,rfl⟩;obtain⟨v2,hv2⟩:∃v,ZB ⟨txs,ords,A,c,B,d⟩ 2=v:=⟨_,rfl⟩;obtain⟨v3,hv3⟩:∃v,ZB ⟨txs,ords,A,c,B,d⟩ 3=v:=⟨_,rfl⟩;obtain⟨v4,hv4⟩:∃v,ZB ⟨txs,ords,A,c,B,d⟩ 4=v:=⟨_,rfl⟩;obtain⟨v5,hv5⟩:∃v,ZB ⟨txs,ords,A,c,B,d⟩ 5=v:=⟨_,rfl⟩;have HAV:=Qh (show Zkb ⟨txs,ords,A,c,B,d⟩= .agg #[.bool v0,.bool v1,.bool v2,.bool v3,.bool v4,.bool v5] by unfold Zkb;rw[hv0,hv1,hv2,hv3,hv4,hv5]);rw[hv0]at a0;rw[hv1]at a1;rw[hv2]at a2;rw[hv3]at a3;rw[hv4]at a4;rw[hv5]at a5;clear bR hb hu b6 hv0 hv1 hv2 hv3 hv4 hv5;go_wp2;obtain⟨b7,u7⟩:=ZsQ HBR.out (.bool v0) (.bool v1) (.bool v2) (.bool v3) (.bool v4) (.bool v5);have r0:=b7.cell 0;have r1:=b7.cell 1;have r2:=b7.cell 2;have r3:=b7.cell 3;have r4:=b7.cell 4;have r5:=b7.cell 5;simp only[Qz,Qs]at r0 r1 r2 r3 r4 r5
   refine bodyPost_ret (v:= .agg #[.bool v0,.bool v1,.bool v2,.bool v3,.bool v4,.bool v5]) (by simp[results,Tryz.results93,go_sem,r0,r1,r2,r3,r4,r5]) rfl ⟨by rw[HAV.out],?_⟩;exact(U0.out.then_ HU.out (fun i e=>Or.inr (by unfold One at e;have:=HZ.out;omega))).then_ u7 (fun i e=>Or.inr (by unfold One at e;have:=HZ.out;omega))
end
/- Phenomena:the answers that the document gives. -/
section
open Go.RowKit
theorem ZrX (w:World):Calls Tryz.prog 46 #[] w fun e w'=>∃N,e= .returned (.agg #[.slice (some ⟨N+1+1+1,0,none⟩) 2 2,.slice (some ⟨N+1+1+1+1+1+1,0,none⟩) 2 2])∧(Zas N).lies (fun _=>True) w'∧Upd No w w':=
 (ZrU w).mono fun e w' h=>⟨_,h⟩
theorem ph0 (n:Nat):Zv (Zas n)=true:=by kernel_rfl
def f1:Edge:=⟨1,2,1,0⟩
def f2:Edge:=⟨2,1,3,-1⟩
section
variable {F:Nat→Prop} {w:World} {N:Nat} {p:Int} {b:Bool}
end
end
/- Witnesses:of edges,of reads,of a history:the program's and the document's. -/
section
open Go.RowKit
theorem ToldC.no {w:World} {d:List Edge} {e:Ending} {w':World} (h:ToldC w d e w') (hd:d=[]):∃A c,e= .returned (.tuple #[.slice A 0 c,.int .i64 3])∧Upd No w w':=by
 obtain⟨A,c,rfl,_,hu⟩:=h;subst hd;exact⟨A,c,rfl,hu⟩
end
/- Phenomena:the law that one brings another:the walk. -/
section
open Go.RowKit
theorem Zoo {h:Hist} (e:Edge) (he:e∈Zl (Zh h)):(1≤e.k∧e.k≤3)∧(e.f∈h.txs.map (·.id)∧e.t∈h.txs.map (·.id))∧∃t∈h.txs,t.done=true:=by
 unfold Zl at he;obtain⟨x,hx,rfl⟩:=List.mem_map.1 he;have hr:=Zfl hx;obtain⟨⟨a,ha,ia⟩,⟨b,hb,ib⟩,hk,_⟩:=ZiG hr ((Zay hr).1 hx).1;obtain⟨⟨c,hc,dc⟩,_⟩:=ZhM hr hx;exact⟨by omega,⟨List.mem_map.2 ⟨a,ha,ia⟩,List.mem_map.2 ⟨b,hb,ib⟩⟩,c,Zba hc,dc⟩
end
/- Levels:the verdict of a history. -/
section
open Go.RowKit
def Zpk (f:Int→Bool):Value:= .agg #[.bool (f 0),.bool (f 1),.bool (f 2),.bool (f 3),.bool (f 4),.bool (f 5),.int .i64 (ZlH (f 1) (f 2) (f 3) (f 4) (f 5))]
set_option maxRecDepth 100000 in
set_option maxHeartbeats 2000000 in
theorem ZoJ (F:Nat→Prop) (w:World) (txs:List HTx) (ords:List HOrd) (A:Option Addr) (c:Nat) (B:Option Addr) (d:Nat) (H:Hist.lies F w ⟨txs,ords,A,c,B,d⟩) (hl:Zv ⟨txs,ords,A,c,B,d⟩=true):
  Calls Tryz.prog 42 #[.agg #[.slice A txs.length c,.slice B ords.length d]] w fun e w'=>e= .returned (Zpk (ZB ⟨txs,ords,A,c,B,d⟩))∧Upd No w w':=by
 obtain⟨z,hz⟩:∃z,w.heap.size=z:=⟨_,rfl⟩;obtain⟨wh,hwh⟩:∃wh,w.alloc (.cells #[.slice A txs.length c,.slice B ords.length d] 50)=wh:=⟨_,rfl⟩;have sh:wh.heap.size=z+1:=by rw[←hwh,←hz];simp
 obtain⟨wb,hwb⟩:∃wb,wh.alloc (.cells #[.bool false,.bool false,.bool false,.bool false,.bool false,.bool false,.int .i64 0] 74)=wb:=⟨_,rfl⟩;have u1:Upd No w wh:=by rw[←hwh];exact(Upd.refl No w).alloc _
 have u2:Upd No wh wb:=by rw[←hwb];exact(Upd.refl No wh).alloc _
 have bH:Blk wb z 50 [.slice A txs.length c,.slice B ords.length d]:=by
  have:Blk wh z 50 [.slice A txs.length c,.slice B ords.length d]:=by rw[←hwh,←hz];exact Blk.new w _ _
  exact this.upd u2 id
 have bR:Blk wb (z+1) 74 [.bool false,.bool false,.bool false,.bool false,.bool false,.bool false,.int .i64 0]:=by rw[←hwb,←sh];exact Blk.new wh _ _
 have h0:∀W,Upd No wb W→W.cell? ⟨z,0,none⟩=some (.slice A txs.length c):=fun W u=>(bH.upd u id).cell 0
 have h1:∀W,Upd No wb W→W.cell? ⟨z,1,none⟩=some (.slice B ords.length d):=fun W u=>(bH.upd u id).cell 1
 have BR:=Qh bR;have U0:=Qh (u1.trans u2);have HZ:=Qh hz;have GH:=Qh (fun W (u:Upd No w W)=>H.upd u (fun _ _=>id));obtain⟨f,hf⟩:∃f,ZB ⟨txs,ords,A,c,B,d⟩=f:=⟨_,rfl⟩;have CA:=Qh (fun W (u:Upd No w W)=>Ztb F W txs ords A c B d (GH.out W u) hl);have hav:Zkb ⟨txs,ords,A,c,B,d⟩= .agg #[.bool (f 0),.bool (f 1),.bool (f 2),.bool (f 3),.bool (f 4),.bool (f 5)]:=by unfold Zkb;rw[hf]
 rw[hav]at CA;rw[hf];unfold Zpk;obtain⟨v0,hv0⟩:∃v,f 0=v:=⟨_,rfl⟩;obtain⟨v1,hv1⟩:∃v,f 1=v:=⟨_,rfl⟩;obtain⟨v2,hv2⟩:∃v,f 2=v:=⟨_,rfl⟩;obtain⟨v3,hv3⟩:∃v,f 3=v:=⟨_,rfl⟩;obtain⟨v4,hv4⟩:∃v,f 4=v:=⟨_,rfl⟩;obtain⟨v5,hv5⟩:∃v,f 5=v:=⟨_,rfl⟩;rw[hv0,hv1,hv2,hv3,hv4,hv5]at CA ⊢;have CO:=Qh (fun W=>lOf W v0 v1 v2 v3 v4 v5);obtain⟨LV,hLV⟩:∃LV,ZlH v1 v2 v3 v4 v5=LV:=⟨_,rfl⟩;rw[hLV]at CO ⊢;clear bH bR u1 u2 H hl hf hav hv0 hv1 hv2 hv3 hv4 hv5 hLV
 go_enter Tryz.func42,Tryz.ntmps42
 have hr:Upd No wb wb:=Upd.refl _ _
 go_wp2_with fail
 refine(CA.out _ U0.out).mono ?_;rintro e w3 ⟨rfl,hu3⟩;obtain⟨y,hy⟩:∃y,w3.heap.size=y:=⟨_,rfl⟩;obtain⟨wc,hwc⟩:∃wc,w3.alloc (.cells #[.bool v0,.bool v1,.bool v2,.bool v3,.bool v4,.bool v5] 72)=wc:=⟨_,rfl⟩;have uc:Upd No w3 wc:=by rw[←hwc];exact(Upd.refl No w3).alloc _
 have bc:Blk wc y 72 [.bool v0,.bool v1,.bool v2,.bool v3,.bool v4,.bool v5]:=by rw[←hwc,←hy];exact Blk.new w3 _ _
 have hzy:z+1≠y:=by have:=BR.out.lt;have:=hu3.size;omega
 have a0:∀W,Upd (One (z+1)) wc W→W.cell? ⟨y,0,none⟩=some (.bool v0):=fun W u=>(bc.upd u (by unfold One;omega)).cell 0
 have a1:∀W,Upd (One (z+1)) wc W→W.cell? ⟨y,1,none⟩=some (.bool v1):=fun W u=>(bc.upd u (by unfold One;omega)).cell 1
 have a2:∀W,Upd (One (z+1)) wc W→W.cell? ⟨y,2,none⟩=some (.bool v2):=fun W u=>(bc.upd u (by unfold One;omega)).cell 2
 have a3:∀W,Upd (One (z+1)) wc W→W.cell? ⟨y,3,none⟩=some (.bool v3):=fun W u=>(bc.upd u (by unfold One;omega)).cell 3
 have a4:∀W,Upd (One (z+1)) wc W→W.cell? ⟨y,4,none⟩=some (.bool v4):=fun W u=>(bc.upd u (by unfold One;omega)).cell 4
 have a5:∀W,Upd (One (z+1)) wc W→W.cell? ⟨y,5,none⟩=some (.bool v5):=fun W u=>(bc.upd u (by unfold One;omega)).cell 5
 have BRC:=Qh ((BR.out.upd hu3 id).upd uc id);have UC:=Qh ((U0.out.trans hu3).trans uc);have hzz:Upd (One (z+1)) wc wc:=Upd.refl _ _;clear uc bc hu3 h0 h1 hr;go_wp2;refine wp_region_noPanic ?_;refine wp_region_held_drew (S:=(fun W'=>Upd (One (z+1)) wc W')) (by kernel_rfl) ?_ (fun hHeld=> ?_)
 ·(first|exact hzz.drew|exact hHeld|exact hq)
 refine wpK 0 rfl ?_;refine wpK 1 rfl ?_;refine wpR [2] ?_;refine wpC rfl (fun K hK=> ?_) AllReadyH.nil;go_simp
 (first
  |(go_at_call 94;refine(CO.out _).mono ?_;rintro e w4 ⟨rfl,hu4⟩;have HB4:=Qh ((show Blk _ (z+1) _ _ from BRC.out.drew).upd hu4 id);have hq:Upd (One (z+1)) wc w4:=hHeld.trans (hu4.mono (fun _ _ e=>e.elim))))
 try (go_wp2_with fail)
 refine hK.out _ _ ?_ (fun hHeld=> ?_)
 ·(first|exact hzz.drew|exact hHeld|exact hq)
 clear hK K
 try simp only[Act.put,sT,sS,sZ]
 refine wpK 3 rfl ?_;refine wpR [4] ?_;refine wpC rfl (fun K hK=> ?_) AllReadyH.nil
 (first
  |(refine Zkk rfl rfl (g:=z+1) (cells:=[.bool v0,.bool v1,.bool v2,.bool v3,.bool v4,.bool v5,.int .i64 LV]) (by rfl) (by rfl) HB4.out (by kernel_rfl) rfl rfl ?_;intro w6 hb6 hu6;have HB6:=Qh hb6;have hq:Upd (One (z+1)) wc w6:=hHeld.trans hu6))
 refine hK.out _ _ ?_ (fun hHeld=> ?_)
 ·(first|exact hzz.drew|exact hHeld|exact hq)
 clear hK K
 try simp only[Act.put,sT,sS,sZ]
 refine wpD (NoPanic.normal ?_);have HU:=Qh hHeld;clear hHeld;go_wp2;have r0:=HB6.out.cell 0;have r1:=HB6.out.cell 1;have r2:=HB6.out.cell 2;have r3:=HB6.out.cell 3;have r4:=HB6.out.cell 4;have r5:=HB6.out.cell 5;have r6:=HB6.out.cell 6;simp only[Qz,Qs]at r0 r1 r2 r3 r4 r5 r6;refine bodyPost_ret (v:= .agg #[.bool v0,.bool v1,.bool v2,.bool v3,.bool v4,.bool v5,.int .i64 LV]) (by simp[results,Tryz.results42,go_sem,HZ.out,r0,r1,r2,r3,r4,r5,r6]) rfl ⟨rfl,?_⟩;exact UC.out.then_ HU.out (fun i e=>Or.inr (by unfold One at e;have:=HZ.out;omega))
end
end Go.Proofs.YtonblekdfinpkaaGreat
