/- Witnesses, plain: how many edges there are, what a witness is. -/
import Derived.Test.YtklmahmfmbppkaaGreatVak
import Derived.Test.YtklmahmfmbppkaaGreatVbj
import Derived.Test.YtklmahmfmbppkaaGreatVbk
import Derived.Test.YtklmahmfmbppkaaGreatVbo
import Derived.Test.YtklmahmfmbppkaaGreatVbt
import Derived.Test.YtklmahmfmbppkaaGreatVbu
import Derived.Test.YtklmahmfmbppkaaGreatVbx
import Derived.Test.YtklmahmfmbppkaaGreatVbz
namespace Go.Proofs.YtklmahmfmbppkaaGreat
set_option linter.unusedVariables false
set_option linter.unusedSimpArgs false
section
open Go.RowKit
theorem Zeb {α:Type} [DecidableEq α]:∀(l m:List α),l.Nodup→(∀x∈l,x∈m)→l.length≤m.length
 |[],_,_,_=>Nat.zero_le _
 |x::l,m,hn,hs=>by
  obtain⟨h1,h2⟩:=List.nodup_cons.1 hn;have hx:=hs x (List.mem_cons_self ..);have:=Zeb l (m.erase x) h2 fun y hy=>(List.mem_erase_of_ne (fun e:y=x=>h1 (by rw[←e];exact hy))).2 (hs y (List.mem_cons_of_mem _ hy))
  rw[List.length_erase_of_mem hx]at this;have:=List.length_pos_of_mem hx;rw[List.length_cons];omega
theorem ZmW (key:Int):∀l:List Int,(wwO key l).length≤l.length
 |[]=>by simp[wwO]
 |[a]=>by simp[wwO]
 |a::b::l=>by
  have:=ZmW key (b::l)
  show(⟨a,b,1,key⟩::wwO key (b::l)).length≤_
  rw[List.length_cons];simp only[List.length_cons]at*;omega
theorem ZfR {α β:Type} (f:α→List β) (K:Nat):∀l:List α,(∀x∈l,(f x).length≤K)→(l.flatMap f).length≤K*l.length
 |[],_=>by simp
 |x::l,h=>by
  have h1:=h x (List.mem_cons_self ..);have h2:=ZfR f K l fun y hy=>h y (List.mem_cons_of_mem _ hy)
  rw[List.flatMap_cons,List.length_append,List.length_cons,Nat.mul_succ];omega
theorem Zmg {h:Hist} (hl:ZJ h=true):h.ords.length≤24∧∀o∈h.ords,o.txs.length≤24:=by
 unfold ZJ at hl;simp only[Bool.and_eq_true,decide_eq_true_eq,List.all_eq_true]at hl;exact⟨hl.1.1.2,fun t ht=>hl.2 t ht⟩
theorem Zfn {h:Hist} (hl:ZJ h=true):(Zl h).length≤1152:=by
 by_cases hr:Zb h=true
 ·obtain⟨n1,n2⟩:=ZdR hl;obtain⟨n3,n4⟩:=Zmg hl
  have h1:((Zl h).map (·.e)).length≤(wwL (fun _=>true) h.ords++rdL (fun _=>true) (ZI h.txs) (Zf h.txs) (Zx h.ords) h.txs).length:=by
   refine Zeb _ _ ?_ fun e he=> ?_
   ·rw[List.nodup_iff_pairwise_ne,List.pairwise_map];exact Zoh
   ·obtain⟨x,hx,rfl⟩:=List.mem_map.1 he;have hc:=((Zbj hr).1 hx).1;have hg:=ZlF hr (fun _=>true) x.e;rw[if_pos rfl]at hg;rw[←hg]at hc;unfold Zmr at hc;rw[List.mem_append]
    apply Classical.byContradiction
    intro hn;rw[not_or]at hn
    apply hc
    unfold ZaP;rw[if_neg hn.1,Nat.zero_add];unfold Zp;rw[List.length_eq_zero_iff,List.filter_eq_nil_iff];intro y hy;simp only[decide_eq_true_eq];intro e;rw[e]at hy;exact hn.2 hy
  rw[List.length_map,List.length_append]at h1
  have h2:(wwL (fun _=>true) h.ords).length≤24*h.ords.length:=ZfR _ 24 _ fun o ho=>by
   unfold wwC;rw[if_pos rfl];exact Nat.le_trans (ZmW _ _) (n4 o ho)
  have h3:(rdL (fun _=>true) (ZI h.txs) (Zf h.txs) (Zx h.ords) h.txs).length≤48*(h.txs.filter (·.done)).length:=ZfR _ 48 _ fun t ht=>by
   have h4:(rdO (fun _=>true) (ZI h.txs) (Zf h.txs) (Zx h.ords) t.id t.ops).length≤2*(t.ops.filter fun o=>o.read&&true).length:=ZfR _ 2 _ fun o _=>Zik _ _ _ _ _
   have h5:=List.length_filter_le (fun o:HOp=>o.read&&true) t.ops;have h6:=n2 t (List.mem_filter.1 ht).1;exact Nat.le_trans h4 (by omega)
  have h7:=List.length_filter_le (fun t:HTx=>t.done) h.txs;omega
 ·unfold Zl;rw[if_neg hr];simp
structure HWit where
 p:Int
 walk:List Edge
 read:HBad
deriving DecidableEq
def HWit.at_ (x:HWit) (A:Option Addr) (c:Nat):List Value:=[.int .i64 x.p,.slice A x.walk.length c,.int .i64 x.read.tx,.int .i64 x.read.place,.int .i64 x.read.of.tx,.int .i64 x.read.of.key,.int .i64 x.read.of.nth]
theorem EdX.nil {w:World} {A:Option Addr}:EdX w A []:=⟨fun _=>True,fun h=>absurd rfl h⟩
end
/- Phenomena:which a history has (phen.Has,phen.All,tenterref30.Has). -/
section
open Go.RowKit
def Zj (h:Hist) (p:Int):Bool:=if p=2∨p=3 then decide (0<(Za4 h p).length) else ZC (Zw (Zl h)) (ZaU p) (Zbw p)
theorem Zn2 (l:List Edge):Zi l 0=[]:=by
 unfold Zi;rw[List.filter_eq_nil_iff];intro e _ h;unfold Zq ZO at h;simp at h
theorem ZgU (l:List Edge) (must:Int):ZC l 0 must=false:=by
 have h:=Zn2 l;unfold Zi at h;unfold ZC;simp only[h]
 split<;>rfl
set_option maxRecDepth 100000 in
set_option maxHeartbeats 2000000 in
theorem Zl5 (F:Nat→Prop) (w:World) (txs:List HTx) (ords:List HOrd) (A:Option Addr) (c:Nat) (B:Option Addr) (d:Nat) (p:Int) (H:Hist.lies F w ⟨txs,ords,A,c,B,d⟩) (hl:ZJ ⟨txs,ords,A,c,B,d⟩=true):
  Calls Tryz.prog 13 #[.agg #[.slice A txs.length c,.slice B ords.length d],.int .i64 p] w fun e w'=>e= .returned (.bool (Zj ⟨txs,ords,A,c,B,d⟩ p))∧Upd No w w':=by
 obtain⟨wb,hwb⟩:∃wb,w.alloc (.cells #[.slice A txs.length c,.slice B ords.length d] 25)=wb:=⟨_,rfl⟩;have u0:Upd No w wb:=by rw[←hwb];exact(Upd.refl No w).alloc _
 have bH:Blk wb w.heap.size 25 [.slice A txs.length c,.slice B ords.length d]:=by rw[←hwb];exact Blk.new w _ _
 have h0:∀W,Upd No wb W→W.cell? ⟨w.heap.size,0,none⟩=some (.slice A txs.length c):=fun W u=>(bH.upd u id).cell 0
 have h1:∀W,Upd No wb W→W.cell? ⟨w.heap.size,1,none⟩=some (.slice B ords.length d):=fun W u=>(bH.upd u id).cell 1
 have HH:=Qh (H.upd u0 (fun _ _=>id));have U0:=Qh u0;have hr:Upd No wb wb:=Upd.refl _ _;clear bH u0 H
 by_cases p2:p=2
 ·subst p2;have CB:=Qh (oOf F wb txs ords A c B d 2 HH.out);obtain⟨bl,hbl⟩:∃bl,Za4 ⟨txs,ords,A,c,B,d⟩ 2=bl:=⟨_,rfl⟩;have HV:=Qh (show Zj ⟨txs,ords,A,c,B,d⟩ 2=decide (0<bl.length) by unfold Zj;rw[if_pos (by decide),hbl]);rw[hbl]at CB;rw[HV.out];clear hbl
  go_enter Tryz.func13,Tryz.ntmps13
  go_wp2_with fail
  refine(CB.out).mono ?_;rintro e w1 ⟨A1,c1,rfl,_,hu1⟩;go_wp2
  go_ret
  exact⟨rfl,U0.out.trans hu1⟩
 by_cases p3:p=3
 ·subst p3;have CB:=Qh (oOf F wb txs ords A c B d 3 HH.out);obtain⟨bl,hbl⟩:∃bl,Za4 ⟨txs,ords,A,c,B,d⟩ 3=bl:=⟨_,rfl⟩;have HV:=Qh (show Zj ⟨txs,ords,A,c,B,d⟩ 3=decide (0<bl.length) by unfold Zj;rw[if_pos (by decide),hbl]);rw[hbl]at CB;rw[HV.out];clear hbl
  go_enter Tryz.func13,Tryz.ntmps13
  go_wp2_with fail
  refine(CB.out).mono ?_;rintro e w1 ⟨A1,c1,rfl,_,hu1⟩;go_wp2
  go_ret
  exact⟨rfl,U0.out.trans hu1⟩
 have q2:(p==2)=false:=by simpa using p2
 have q3:(p==3)=false:=by simpa using p3
 have hv:Zj ⟨txs,ords,A,c,B,d⟩ p=ZC (Zw (Zl ⟨txs,ords,A,c,B,d⟩)) (ZaU p) (Zbw p):=by unfold Zj;rw[if_neg (by omega)]
 rw[hv];clear hv;obtain⟨l,hll⟩:∃l,Zl ⟨txs,ords,A,c,B,d⟩=l:=⟨_,rfl⟩;have hfew:=Zfn hl;obtain⟨n1,n2⟩:=ZdR hl;have CE:=Qh (Zm3 HH.out n1 n2 rfl rfl hll rfl);rw[hll]at hfew ⊢;obtain⟨pl,hpl⟩:∃pl,Zw l=pl:=⟨_,rfl⟩;have hpn:pl.length=l.length:=by rw[←hpl];unfold Zw;rw[List.length_map]
 have HPL:=Qh hpl;rw[hpl];have HPN:=Qh hpn;have HF:=Qh hfew;obtain⟨M,hM⟩:∃M,ZaU p=M:=⟨_,rfl⟩;obtain⟨T,hT⟩:∃T,Zbw p=T:=⟨_,rfl⟩;have PM:=Qh (fun W=>Zd9 W p);rw[hM,hT]at PM ⊢;clear hM hT hll hpl hpn p2 p3 n1 n2 hfew
 by_cases hm:M=0
 ·subst hm;rw[ZgU]
  go_enter Tryz.func13,Tryz.ntmps13
  go_wp2_with fail
  refine(PM.out _).mono ?_;rintro e w1 ⟨rfl,rfl⟩;go_wp2
  go_ret
  exact⟨rfl,U0.out⟩
 ·have hmb:(M != 0)=true:=by simpa using hm
  clear hm
  go_enter Tryz.func13,Tryz.ntmps13
  go_wp2_with fail
  refine(PM.out _).mono ?_;rintro e w1 ⟨rfl,rfl⟩
  go_wp2_with fail
  refine(CE.out).mono ?_;rintro e w1 ⟨A1,c1,rfl,hx1,hu1⟩;have C2:=Qh (ZgN (c:=c1) hx1 (by have:=HF.out;omega) rfl HPL.out rfl)
  go_wp2_with fail
  refine(C2.out).mono ?_;rintro e w2 ⟨A2,c2,rfl,⟨G,hx2⟩,hu2⟩;have hu12:=hu1.trans hu2;have C3:=Qh (ZjR G w2 A2 c2 pl M T hx2 (by have:=HF.out;have:=HPN.out;omega));clear hx1 hx2 hu1 hu2
  go_wp2_with fail
  refine(C3.out).mono ?_;rintro e w3 ⟨rfl,hu3⟩;go_wp2
  go_ret
  exact⟨rfl,U0.out.trans (hu12.trans hu3)⟩
set_option maxRecDepth 100000 in
set_option maxHeartbeats 2000000 in
theorem ZnB (F:Nat→Prop) (w:World) (txs:List HTx) (ords:List HOrd) (A:Option Addr) (c:Nat) (B:Option Addr) (d:Nat) (p:Int) (H:Hist.lies F w ⟨txs,ords,A,c,B,d⟩) (hl:ZJ ⟨txs,ords,A,c,B,d⟩=true):
  Calls Tryz.prog 12 #[.agg #[.slice A txs.length c,.slice B ords.length d],.int .i64 p] w fun e w'=>e= .returned (.bool (Zj ⟨txs,ords,A,c,B,d⟩ p))∧Upd No w w':=by
 obtain⟨wb,hwb⟩:∃wb,w.alloc (.cells #[.slice A txs.length c,.slice B ords.length d] 25)=wb:=⟨_,rfl⟩;have u0:Upd No w wb:=by rw[←hwb];exact(Upd.refl No w).alloc _
 have bH:Blk wb w.heap.size 25 [.slice A txs.length c,.slice B ords.length d]:=by rw[←hwb];exact Blk.new w _ _
 have h0:∀W,Upd No wb W→W.cell? ⟨w.heap.size,0,none⟩=some (.slice A txs.length c):=fun W u=>(bH.upd u id).cell 0
 have h1:∀W,Upd No wb W→W.cell? ⟨w.heap.size,1,none⟩=some (.slice B ords.length d):=fun W u=>(bH.upd u id).cell 1
 have HH:=Qh (H.upd u0 (fun _ _=>id));have U0:=Qh u0;have hr:Upd No wb wb:=Upd.refl _ _;clear bH u0 H
 by_cases p2:p=2
 ·subst p2;have CB:=Qh (Zqm F wb txs ords A c B d 2 HH.out);obtain⟨bl,hbl⟩:∃bl,Za4 ⟨txs,ords,A,c,B,d⟩ 2=bl:=⟨_,rfl⟩;have HV:=Qh (show Zj ⟨txs,ords,A,c,B,d⟩ 2=decide (0<bl.length) by unfold Zj;rw[if_pos (by decide),hbl]);rw[hbl]at CB;rw[HV.out];clear hbl
  go_enter Tryz.func12,Tryz.ntmps12
  go_wp2_with fail
  refine(CB.out).mono ?_;rintro e w1 ⟨A1,c1,rfl,_,hu1⟩;go_wp2
  go_ret
  exact⟨rfl,U0.out.trans hu1⟩
 by_cases p3:p=3
 ·subst p3;have CB:=Qh (Zqm F wb txs ords A c B d 3 HH.out);obtain⟨bl,hbl⟩:∃bl,Za4 ⟨txs,ords,A,c,B,d⟩ 3=bl:=⟨_,rfl⟩;have HV:=Qh (show Zj ⟨txs,ords,A,c,B,d⟩ 3=decide (0<bl.length) by unfold Zj;rw[if_pos (by decide),hbl]);rw[hbl]at CB;rw[HV.out];clear hbl
  go_enter Tryz.func12,Tryz.ntmps12
  go_wp2_with fail
  refine(CB.out).mono ?_;rintro e w1 ⟨A1,c1,rfl,_,hu1⟩;go_wp2
  go_ret
  exact⟨rfl,U0.out.trans hu1⟩
 have q2:(p==2)=false:=by simpa using p2
 have q3:(p==3)=false:=by simpa using p3
 have hv:Zj ⟨txs,ords,A,c,B,d⟩ p=ZC (Zw (Zl ⟨txs,ords,A,c,B,d⟩)) (ZaU p) (Zbw p):=by unfold Zj;rw[if_neg (by omega)]
 rw[hv];clear hv;obtain⟨l,hll⟩:∃l,Zl ⟨txs,ords,A,c,B,d⟩=l:=⟨_,rfl⟩;have hfew:=Zfn hl;obtain⟨n1,n2⟩:=ZdR hl;have CE:=Qh (ZqS HH.out n1 n2 hll);rw[hll]at hfew ⊢;obtain⟨pl,hpl⟩:∃pl,Zw l=pl:=⟨_,rfl⟩;have hpn:pl.length=l.length:=by rw[←hpl];unfold Zw;rw[List.length_map]
 have HPL:=Qh hpl;rw[hpl];have HPN:=Qh hpn;have HF:=Qh hfew;obtain⟨M,hM⟩:∃M,ZaU p=M:=⟨_,rfl⟩;obtain⟨T,hT⟩:∃T,Zbw p=T:=⟨_,rfl⟩;have PM:=Qh (fun W=>Zqo W p);have PT:=Qh (fun W=>Zqn W p);rw[hM]at PM;rw[hT]at PT;rw[hM,hT];clear hM hT hll hpl hpn p2 p3 n1 n2 hfew
 go_enter Tryz.func12,Tryz.ntmps12
 go_wp2_with fail
 refine(CE.out).mono ?_;rintro e w1 ⟨A1,c1,rfl,hx1,hu1⟩;have C2:=Qh (ZqR (c:=c1) hx1 (by have:=HF.out;omega));rw[HPL.out]at C2
 go_wp2_with fail
 refine(C2.out).mono ?_;rintro e w2 ⟨A2,c2,rfl,⟨G,hx2⟩,hu2⟩
 go_wp2_with fail
 refine(PM.out _).mono ?_;rintro e w3 ⟨rfl,hu3⟩
 go_wp2_with fail
 refine(PT.out _).mono ?_;rintro e w4 ⟨rfl,hu4⟩;have hu34:=hu3.trans hu4;have hu14:=(hu1.trans hu2).trans hu34;have C3:=Qh (ZjA G w4 A2 c2 pl M T (Recs.upd hx2 hu34 (fun _ _=>id)) (by have:=HF.out;have:=HPN.out;omega));clear hx1 hx2 hu1 hu2 hu3 hu4 hu34
 go_wp2_with fail
 refine(C3.out).mono ?_;rintro e w5 ⟨rfl,hu5⟩;go_wp2
 go_ret
 exact⟨rfl,U0.out.trans (hu14.trans hu5)⟩
end
/- Phenomena:all that a history has (phen.All). -/
section
open Go.RowKit
def Zd4 (h:Hist):Value:= .agg #[.bool (Zj h 0),.bool (Zj h 1),.bool (Zj h 2),.bool (Zj h 3),.bool (Zj h 4),.bool (Zj h 5)]
set_option maxRecDepth 100000 in
set_option maxHeartbeats 2000000 in
theorem Zl6 (F:Nat→Prop) (w:World) (txs:List HTx) (ords:List HOrd) (A:Option Addr) (c:Nat) (B:Option Addr) (d:Nat) (H:Hist.lies F w ⟨txs,ords,A,c,B,d⟩) (hl:ZJ ⟨txs,ords,A,c,B,d⟩=true):
  Calls Tryz.prog 11 #[.agg #[.slice A txs.length c,.slice B ords.length d]] w fun e w'=>e= .returned (Zd4 ⟨txs,ords,A,c,B,d⟩)∧Upd No w w':=by
 obtain⟨z,hz⟩:∃z,w.heap.size=z:=⟨_,rfl⟩;obtain⟨wh,hwh⟩:∃wh,w.alloc (.cells #[.slice A txs.length c,.slice B ords.length d] 25)=wh:=⟨_,rfl⟩;have sh:wh.heap.size=z+1:=by rw[←hwh,←hz];simp
 obtain⟨wr1,hwr1⟩:∃wr1,wh.alloc (.cells #[.bool false,.bool false,.bool false,.bool false,.bool false,.bool false] 31)=wr1:=⟨_,rfl⟩;have sr:wr1.heap.size=z+2:=by rw[←hwr1];simp[sh]
 obtain⟨wb,hwb⟩:∃wb,wr1.alloc (.cells #[.bool false,.bool false,.bool false,.bool false,.bool false,.bool false] 31)=wb:=⟨_,rfl⟩;have u1:Upd No w wh:=by rw[←hwh];exact(Upd.refl No w).alloc _
 have u2:Upd No wh wr1:=by rw[←hwr1];exact(Upd.refl No wh).alloc _
 have u3:Upd No wr1 wb:=by rw[←hwb];exact(Upd.refl No wr1).alloc _
 have bH:Blk wb z 25 [.slice A txs.length c,.slice B ords.length d]:=by
  have:Blk wh z 25 [.slice A txs.length c,.slice B ords.length d]:=by rw[←hwh,←hz];exact Blk.new w _ _
  exact(this.upd u2 id).upd u3 id
 have bR:Blk wb (z+1) 31 [.bool false,.bool false,.bool false,.bool false,.bool false,.bool false]:=by
  have:Blk wr1 (z+1) 31 [.bool false,.bool false,.bool false,.bool false,.bool false,.bool false]:=by rw[←hwr1,←sh];exact Blk.new wh _ _
  exact this.upd u3 id
 have bA:Blk wb (z+2) 31 (Zcz (Zj ⟨txs,ords,A,c,B,d⟩) 0):=by rw[Zni,←hwb,←sr];exact Blk.new wr1 _ _
 have h0:∀W,Upd (One (z+2)) wb W→W.cell? ⟨z,0,none⟩=some (.slice A txs.length c):=fun W u=>(bH.upd u (by unfold One;omega)).cell 0
 have h1:∀W,Upd (One (z+2)) wb W→W.cell? ⟨z,1,none⟩=some (.slice B ords.length d):=fun W u=>(bH.upd u (by unfold One;omega)).cell 1
 have BR:=Qh bR;have BA:=Qh bA;have U0:=Qh ((u1.trans u2).trans u3);have HZ:=Qh hz;have HP:=Qh (fun W (u:Upd (One (z+2)) wb W) (p:Int)=>Zl5 _ W txs ords A c B d p (H.upd (U0.out.then_ u (fun i e=>Or.inr (by unfold One at e;omega))) (fun _ _=>id)) hl);clear bH bR bA u1 u2 u3 H hl
 go_enter Tryz.func11,Tryz.ntmps11
 go_wp2;clear hwh hwr1 hwb sh sr hz
 go_loopg [5] 6 (fun gk i wr=>∃k:Nat,k+gk=6∧i= .int .i64 (k:Int)∧Hid (Blk wr (z+2) 31 (Zcz (Zj ⟨txs,ords,A,c,B,d⟩) k))∧Hid (Upd (One (z+2)) wb wr))
 case atStart=>exact⟨0,by omega,rfl,BA,Qh (Upd.refl _ _)⟩
 case round=>
  clear BA;obtain⟨k,hgk,rfl,hb,hu⟩:=hrel
  by_cases hk:k<6
  ·have b1:(0:Int)≤(k:Int):=Qn _;have b2:(k:Int)<6:=by omega
   have jw:IntKind.i64.wrap ((k:Int)+1)=(k:Int)+1:=IntWalk.i64_in _ (by omega);have CP:=Qh (HP.out wr hu.out (k:Int));have hur:=hu.out
   go_wp2_with fail
   refine(CP.out).mono ?_;rintro e w3 ⟨rfl,hu3⟩;have b3:=hb.out.upd hu3 id;have f3:∀i,w3.frozen? ⟨z+2,i,none⟩=false:=fun i=>b3.free i
   have c3:=b3.cell k
   have hcell:∃v,w3.cell? ⟨z+2,k,none⟩=some v:=by
    rw[c3,Qg (by rw[ZoV];exact hk)];exact⟨_,rfl⟩
   obtain⟨v0,hv0⟩:=hcell;have HB3:=Qh (ZoU (Zj ⟨txs,ords,A,c,B,d⟩) k hk▸b3.set_ k (.bool (Zj ⟨txs,ords,A,c,B,d⟩ (k:Int))));have HU3:=Qh ((hu.out.trans (hu3.mono (fun _ _ e=>e.elim))).setOne k (.bool (Zj ⟨txs,ords,A,c,B,d⟩ (k:Int))));clear b3 c3 hu3 hb hu CP;go_wp2
   go_roundg (gk-1)
   case measure=>omega
   case rel=>exact⟨k+1,by omega,by simp,HB3,HU3⟩
  ·obtain rfl:k=6:=by omega
   have b6:=hb.out;rw[Zgg]at b6;have a0:=b6.cell 0;have a1:=b6.cell 1;have a2:=b6.cell 2;have a3:=b6.cell 3;have a4:=b6.cell 4;have a5:=b6.cell 5;simp only[Qz,Qs]at a0 a1 a2 a3 a4 a5;have bR:=BR.out.upd hu.out (by unfold One;omega);have k0:=bR.free 0;have k1:=bR.free 1;have k2:=bR.free 2;have k3:=bR.free 3;have k4:=bR.free 4;have k5:=bR.free 5;have d0:=bR.cell 0;have d1:=bR.cell 1;have d2:=bR.cell 2;have d3:=bR.cell 3;have d4:=bR.cell 4;have d5:=bR.cell 5;simp only[Qz,Qs]at d0 d1 d2 d3 d4 d5;have HBR:=Qh bR;have HU:=Qh hu.out;obtain⟨v0,hv0⟩:∃v,Zj ⟨txs,ords,A,c,B,d⟩ 0=v:=⟨_,rfl⟩;obtain⟨v1,hv1⟩:∃v,Zj ⟨txs,ords,A,c,B,d⟩ 1=v:=⟨_,rfl⟩;obtain⟨v2,hv2⟩:∃v,Zj ⟨txs,ords,A,c,B,d⟩ 2=v:=⟨_,rfl⟩;obtain⟨v3,hv3⟩:∃v,Zj ⟨txs,ords,A,c,B,d⟩ 3=v:=⟨_,rfl⟩;obtain⟨v4,hv4⟩:∃v,Zj ⟨txs,ords,A,c,B,d⟩ 4=v:=⟨_,rfl⟩;obtain⟨v5,hv5⟩:∃v,Zj ⟨txs,ords,A,c,B,d⟩ 5=v:=⟨_,rfl⟩;have HAV:=Qh (show Zd4 ⟨txs,ords,A,c,B,d⟩= .agg #[.bool v0,.bool v1,.bool v2,.bool v3,.bool v4,.bool v5] by unfold Zd4;rw[hv0,hv1,hv2,hv3,hv4,hv5]);rw[hv0]at a0;rw[hv1]at a1;rw[hv2]at a2;rw[hv3]at a3;rw[hv4]at a4;rw[hv5]at a5;clear bR hb hu b6 hv0 hv1 hv2 hv3 hv4 hv5;go_wp2;obtain⟨b7,u7⟩:=Zub HBR.out (.bool v0) (.bool v1) (.bool v2) (.bool v3) (.bool v4) (.bool v5);have r0:=b7.cell 0;have r1:=b7.cell 1;have r2:=b7.cell 2;have r3:=b7.cell 3;have r4:=b7.cell 4;have r5:=b7.cell 5;simp only[Qz,Qs]at r0 r1 r2 r3 r4 r5
   refine bodyPost_ret (v:= .agg #[.bool v0,.bool v1,.bool v2,.bool v3,.bool v4,.bool v5]) (by simp[results,Tryz.results11,go_sem,r0,r1,r2,r3,r4,r5]) rfl ⟨by rw[HAV.out],?_⟩;exact(U0.out.then_ HU.out (fun i e=>Or.inr (by unfold One at e;have:=HZ.out;omega))).then_ u7 (fun i e=>Or.inr (by unfold One at e;have:=HZ.out;omega))
end
/- Phenomena:the answers that the document gives. -/
section
open Go.RowKit
theorem ZfD (w:World):Calls Tryz.prog 37 #[] w fun e w'=>∃N,e= .returned (.agg #[.slice (some ⟨N+1+1+1,0,none⟩) 2 2,.slice (some ⟨N+1+1+1+1+1+1,0,none⟩) 2 2])∧(Zn N).lies (fun _=>True) w'∧Upd No w w':=
 (Zs8 w).mono fun e w' h=>⟨_,h⟩
theorem ph0 (n:Nat):ZJ (Zn n)=true:=by kernel_rfl
theorem Zuo (n:Nat):ZJ ⟨(Zn n).txs,[],(Zn n).A,(Zn n).c,none,0⟩=true:=by kernel_rfl
theorem ph1 (n:Nat):Zj (Zn n) 5=true:=by kernel_rfl
theorem ph2 (n:Nat):Zj (Zn n) 4=false:=by kernel_rfl
theorem ph3 (n:Nat):Zj (Zn n) 9=false:=by kernel_rfl
theorem ph4 (n:Nat):Zj ⟨(Zn n).txs,[],(Zn n).A,(Zn n).c,none,0⟩ 5=false:=by kernel_rfl
theorem phA (n:Nat):Zd4 (Zn n)= .agg #[.bool false,.bool false,.bool false,.bool false,.bool false,.bool true]:=by kernel_rfl
def f1:Edge:=⟨1,2,1,0⟩
def f2:Edge:=⟨2,1,3,-1⟩
theorem pr1:ZC [f1,f2] 14 8=true:=by kernel_rfl
theorem pr2:ZC [f1,f2] 14 4=false:=by kernel_rfl
theorem pr3:ZC [f1,f2] 2 0=false:=by kernel_rfl
theorem pr4:ZC [f1,f2] 14 0=true:=by kernel_rfl
section
variable {F:Nat→Prop} {w:World} {N:Nat} {p:Int} {b:Bool}
theorem ZlZ (H:(Zn N).lies F w) (hb:Zj (Zn N) p=b):Calls Tryz.prog 13 #[.agg #[.slice (some ⟨N+1+1+1,0,none⟩) 2 2,.slice (some ⟨N+1+1+1+1+1+1,0,none⟩) 2 2],.int .i64 p] w fun e w'=>e= .returned (.bool b)∧Upd No w w':=by
 subst hb;exact Zl5 F w (Zn N).txs (Zn N).ords _ 2 _ 2 p H (ph0 N)
theorem Zr2 (H:(Zn N).lies F w) (hb:Zj ⟨(Zn N).txs,[],(Zn N).A,(Zn N).c,none,0⟩ p=b):Calls Tryz.prog 13 #[.agg #[.slice (some ⟨N+1+1+1,0,none⟩) 2 2,.slice none 0 0],.int .i64 p] w fun e w'=>e= .returned (.bool b)∧Upd No w w':=by
 subst hb;exact Zl5 F w (Zn N).txs [] _ 2 none 0 p (ZpB H) (Zuo N)
theorem Ztb (H:(Zn N).lies F w):Calls Tryz.prog 11 #[.agg #[.slice (some ⟨N+1+1+1,0,none⟩) 2 2,.slice (some ⟨N+1+1+1+1+1+1,0,none⟩) 2 2]] w fun e w'=>e= .returned (.agg #[.bool false,.bool false,.bool false,.bool false,.bool false,.bool true])∧Upd No w w':=by
 rw[←phA N];exact Zl6 F w (Zn N).txs (Zn N).ords _ 2 _ 2 H (ph0 N)
theorem ZgV {A:Option Addr} {c:Nat} {mask must:Int} (h:EdX w A [f1,f2]) (hb:ZC [f1,f2] mask must=b):Calls Tryz.prog 16 #[.slice A 2 c,.int .i64 mask,.int .i64 must] w fun e w'=>e= .returned (.bool b)∧Upd No w w':=by
 subst hb;obtain⟨G,h⟩:=h;exact ZjR G w A c [f1,f2] mask must h (by decide)
end
set_option maxRecDepth 100000 in
set_option maxHeartbeats 8000000 in
theorem Zlr (w:World):Calls Tryz.prog 9 #[] w fun e w'=>e= .returned (.bool true)∧Upd No w w':=by
 have M5:=Qh (show∀W,Calls Tryz.prog 10 #[.int .i64 5] W fun e w'=>e= .returned (.tuple #[.int .i64 14,.int .i64 8])∧W=w' from fun W=>Zd9 W 5);have M4:=Qh (show∀W,Calls Tryz.prog 10 #[.int .i64 4] W fun e w'=>e= .returned (.tuple #[.int .i64 6,.int .i64 0])∧W=w' from fun W=>Zd9 W 4);have M2:=Qh (show∀W,Calls Tryz.prog 10 #[.int .i64 2] W fun e w'=>e= .returned (.tuple #[.int .i64 0,.int .i64 0])∧W=w' from fun W=>Zd9 W 2);have M1:=Qh (show∀W,Calls Tryz.prog 10 #[.int .i64 1] W fun e w'=>e= .returned (.tuple #[.int .i64 2,.int .i64 0])∧W=w' from fun W=>Zd9 W 1);obtain⟨wb,hwb⟩:∃wb,w.alloc (.cells #[.int .i64 1,.int .i64 2,.int .i64 1,.int .i64 0,.int .i64 2,.int .i64 1,.int .i64 3,.int .i64 (-1)] 61)=wb:=⟨_,rfl⟩;have u0:Upd No w wb:=by rw[←hwb];exact(Upd.refl No w).alloc _
 have bL:Blk wb w.heap.size 61 [.int .i64 1,.int .i64 2,.int .i64 1,.int .i64 0,.int .i64 2,.int .i64 1,.int .i64 3,.int .i64 (-1)]:=by rw[←hwb];exact Blk.new w _ _
 have HL:=Qh (show EdX wb (some ⟨w.heap.size,0,none⟩) [f1,f2] from ZrG bL rfl);have HU:=Qh u0;have h6:= @ZhG;have h5:∀(W:World) (A B:Option Addr) (n m c d:Nat),(Instr.field 25 (.agg #[.slice A n c,.slice B m d]) 0).run Tryz.prog W= .ok (.slice A n c) W:=fun W A B n m c d=>by kernel_rfl
 clear u0 bL
 go_enter Tryz.func9,Tryz.ntmps9
 go_wp2_with fail
 refine(M5.out _).mono ?_;rintro e w1 ⟨rfl,rfl⟩
 go_wp2_with fail
 refine(M4.out _).mono ?_;rintro e w1 ⟨rfl,rfl⟩
 go_wp2_with fail
 refine(M2.out _).mono ?_;rintro e w1 ⟨rfl,rfl⟩
 go_wp2_with fail
 refine(M1.out _).mono ?_;rintro e w1 ⟨rfl,rfl⟩;have hx:Upd No wb wb:=Upd.refl _ _
 go_wp2_with fail
 refine(ZfD _).mono ?_;rintro e s1 ⟨N1,rfl,hs1,hu1⟩;have uu1:=hx.trans hu1
 go_wp2_with fail
 refine(Ztb hs1).mono ?_;rintro e q1 ⟨rfl,hv1⟩;have uu2:=uu1.trans hv1
 go_wp2_with fail
 refine(ZfD _).mono ?_;rintro e s2 ⟨N2,rfl,hs2,hu2⟩;have uu3:=uu2.trans hu2
 go_wp2_with fail
 refine(ZlZ hs2 (ph1 _)).mono ?_;rintro e q2 ⟨rfl,hv2⟩;have uu4:=uu3.trans hv2
 go_wp2_with fail
 refine(ZfD _).mono ?_;rintro e s3 ⟨N3,rfl,hs3,hu3⟩;have uu5:=uu4.trans hu3
 go_wp2_with fail
 refine(ZlZ hs3 (ph2 _)).mono ?_;rintro e q3 ⟨rfl,hv3⟩;have uu6:=uu5.trans hv3
 go_wp2_with fail
 refine(ZfD _).mono ?_;rintro e s4 ⟨N4,rfl,hs4,hu4⟩;have uu7:=uu6.trans hu4
 go_wp2_with fail
 refine(ZlZ hs4 (ph3 _)).mono ?_;rintro e q4 ⟨rfl,hv4⟩;have uu8:=uu7.trans hv4
 go_wp2_with fail
 refine(ZfD _).mono ?_;rintro e s5 ⟨N5,rfl,hs5,hu5⟩;have uu9:=uu8.trans hu5
 go_wp2_with fail
 refine(Zr2 hs5 (ph4 _)).mono ?_;rintro e q5 ⟨rfl,hv5⟩;have uu10:=uu9.trans hv5
 go_wp2_with fail
 refine(ZgV (HL.out.upd uu10) pr1).mono ?_;rintro e q6 ⟨rfl,hv6⟩;have uu11:=uu10.trans hv6
 go_wp2_with fail
 refine(ZgV (HL.out.upd uu11) pr2).mono ?_;rintro e q7 ⟨rfl,hv7⟩;have uu12:=uu11.trans hv7
 go_wp2_with fail
 refine(ZgV (HL.out.upd uu12) pr3).mono ?_;rintro e q8 ⟨rfl,hv8⟩;have uu13:=uu12.trans hv8
 go_wp2_with fail
 refine(ZgV (HL.out.upd uu13) pr4).mono ?_;rintro e q9 ⟨rfl,hv9⟩;have uu14:=uu13.trans hv9;go_wp2
 go_ret
 exact⟨rfl,HU.out.trans uu14⟩
end
/- Witnesses:of edges,of reads,of a history:the program's and the document's. -/
section
open Go.RowKit
theorem ToldC.no {w:World} {d:List Edge} {e:Ending} {w':World} (h:ToldC w d e w') (hd:d=[]):∃A c,e= .returned (.tuple #[.slice A 0 c,.int .i64 3])∧Upd No w w':=by
 obtain⟨A,c,rfl,_,hu⟩:=h;subst hd;exact⟨A,c,rfl,hu⟩
theorem Zua {W:World} {b:Nat} {ty:TypeId} {c0 c1 c2 c3 c4 c5 c6:Value} (h:Blk W b ty [c0,c1,c2,c3,c4,c5,c6]) (v0 v1 v2 v3 v4 v5 v6:Value):
  Blk (((((((W.setCell ⟨b,0,none⟩ v0).setCell ⟨b,1,none⟩ v1).setCell ⟨b,2,none⟩ v2).setCell ⟨b,3,none⟩ v3).setCell ⟨b,4,none⟩ v4).setCell ⟨b,5,none⟩ v5).setCell ⟨b,6,none⟩ v6) b ty [v0,v1,v2,v3,v4,v5,v6]∧
  Upd (One b) W (((((((W.setCell ⟨b,0,none⟩ v0).setCell ⟨b,1,none⟩ v1).setCell ⟨b,2,none⟩ v2).setCell ⟨b,3,none⟩ v3).setCell ⟨b,4,none⟩ v4).setCell ⟨b,5,none⟩ v5).setCell ⟨b,6,none⟩ v6):=by
 refine⟨?_,(((((((Upd.refl _ _).setOne 0 _).setOne 1 _).setOne 2 _).setOne 3 _).setOne 4 _).setOne 5 _).setOne 6 _⟩;have:=((((((h.set_ 0 v0).set_ 1 v1).set_ 2 v2).set_ 3 v3).set_ 4 v4).set_ 5 v5).set_ 6 v6
 simpa only[List.set_cons_zero,List.set_cons_succ]using this
end
/- Phenomena:the laws that they are what the document says,and that a walk is found just if there is one:the walks. -/
section
open Go.RowKit
def ZhL:Prop:=∀w:World,Calls Tryz.prog 9 #[] w fun e w'=>e= .returned (.bool true)∧Upd No w w'
set_option maxRecDepth 100000 in
set_option maxHeartbeats 8000000 in
theorem ZqV (F G:Nat→Prop) (w:World) (txs:List HTx) (ords:List HOrd) (A:Option Addr) (c:Nat) (B:Option Addr) (d:Nat) (p:Int) (E:Option Addr) (ec:Nat) (l:List Edge) (mask must:Int)
  (H:Hist.lies F w ⟨txs,ords,A,c,B,d⟩) (HE:Walk G w E l) (L:Hid ZhL):
  Calls Tryz.prog 3 #[.agg #[.slice A txs.length c,.slice B ords.length d],.int .i64 p,.slice E l.length ec,.int .i64 mask,.int .i64 must] w fun e w'=>e= .returned (.bool true)∧Upd No w w':=by
 obtain⟨z,hz⟩:∃z,w.heap.size=z:=⟨_,rfl⟩;obtain⟨wb,hwb⟩:∃wb,w.alloc (.cells #[.slice A txs.length c,.slice B ords.length d] 25)=wb:=⟨_,rfl⟩;have u0:Upd No w wb:=by rw[←hwb];exact(Upd.refl No w).alloc _
 have bH:Blk wb z 25 [.slice A txs.length c,.slice B ords.length d]:=by rw[←hwb,←hz];exact Blk.new w _ _
 have h0:∀W,Upd No wb W→W.cell? ⟨z,0,none⟩=some (.slice A txs.length c):=fun W u=>(bH.upd u id).cell 0
 have h1:∀W,Upd No wb W→W.cell? ⟨z,1,none⟩=some (.slice B ords.length d):=fun W u=>(bH.upd u id).cell 1
 have hr:Upd No wb wb:=Upd.refl _ _;have U0:=Qh u0;have GH:=Qh (H.upd u0 (fun _ _=>id));have GE:=Qh (fun W (u:Upd No wb W)=>Recs.upd HE (u0.trans u) (fun _ _=>id));obtain⟨v,hv⟩:∃v,ZJ ⟨txs,ords,A,c,B,d⟩=v:=⟨_,rfl⟩;have HV:=Qh hv;have CL:=Qh (ZfN GH.out hv);clear u0 bH hv H HE
 go_enter Tryz.func3,Tryz.ntmps3
 cases v
 ·go_wp2_with fail
  refine(CL.out).mono ?_;rintro e w3 ⟨rfl,hu3⟩
  go_wp2_with fail
  refine(L.out _).mono ?_;rintro e w4 ⟨rfl,hu4⟩;go_wp2
  go_ret
  exact⟨rfl,(U0.out.trans hu3).trans hu4⟩
 by_cases g1:60<l.length
 ·have e1:decide ((60:Int)<(l.length:Int))=true:=decide_eq_true (by omega)
  go_wp2_with fail
  refine(CL.out).mono ?_;rintro e w3 ⟨rfl,hu3⟩
  go_wp2_with fail
  refine(L.out _).mono ?_;rintro e w4 ⟨rfl,hu4⟩;go_wp2
  go_ret
  exact⟨rfl,(U0.out.trans hu3).trans hu4⟩
 have e1:decide ((60:Int)<(l.length:Int))=false:=decide_eq_false (by omega);have hl:l.length≤2000:=by omega
 obtain⟨f,hf⟩:∃f,Zj ⟨txs,ords,A,c,B,d⟩=f:=⟨_,rfl⟩;have CH:=Qh (fun W (u:Upd No wb W) q=>Zl5 F W txs ords A c B d q (GH.out.upd u (fun _ _=>id)) HV.out);have CR:=Qh (fun W (u:Upd No wb W) q=>ZnB F W txs ords A c B d q (GH.out.upd u (fun _ _=>id)) HV.out);have CA:=Qh (fun W (u:Upd No wb W)=>Zl6 F W txs ords A c B d (GH.out.upd u (fun _ _=>id)) HV.out);have hav:Zd4 ⟨txs,ords,A,c,B,d⟩= .agg #[.bool (f 0),.bool (f 1),.bool (f 2),.bool (f 3),.bool (f 4),.bool (f 5)]:=by unfold Zd4;rw[hf]
 rw[hf]at CH CR;rw[hav]at CA;obtain⟨M,hM⟩:∃M,ZaU p=M:=⟨_,rfl⟩;obtain⟨T,hT⟩:∃T,Zbw p=T:=⟨_,rfl⟩;have PM:=Qh (fun W=>Zd9 W p);have RM:=Qh (fun W=>Zqo W p);have RT:=Qh (fun W=>Zqn W p);rw[hM]at PM RM;rw[hT]at PM RT;obtain⟨rv,hrv⟩:∃rv,ZC l mask must=rv:=⟨_,rfl⟩;have C1:=Qh (fun W (u:Upd No wb W)=>ZjR G W E ec l mask must (GE.out W u) hl);have C2:=Qh (fun W (u:Upd No wb W)=>ZjA G W E ec l mask must (GE.out W u) hl);rw[hrv]at C1 C2;have F0:=Qh (Zgg f);clear g1 hf hav hM hT hrv
 go_wp2_with fail
 refine(CL.out).mono ?_;rintro e w3 ⟨rfl,hu3⟩
 go_wp2_with fail
 refine(PM.out _).mono ?_;rintro e w3b ⟨rfl,rfl⟩
 go_wp2_with fail
 refine(CA.out _ hu3).mono ?_;rintro e w5 ⟨rfl,hu5⟩;obtain⟨y,hy⟩:∃y,w5.heap.size=y:=⟨_,rfl⟩;obtain⟨wc,hwc⟩:∃wc,w5.alloc (.cells #[.bool (f 0),.bool (f 1),.bool (f 2),.bool (f 3),.bool (f 4),.bool (f 5)] 31)=wc:=⟨_,rfl⟩;have uc:Upd No w5 wc:=by rw[←hwc];exact(Upd.refl No w5).alloc _
 have bc:Blk wc y 31 (Zcz f 6):=by rw[F0.out,←hwc,←hy];exact Blk.new w5 _ _
 have HBC:=Qh bc;have UC:=Qh ((hu3.trans hu5).trans uc);clear uc bc hu3 hu5 hr;go_wp2;clear hwc
 go_loopg [31] 6 (fun gk i wr=>∃k:Nat,k+gk=6∧i= .int .i64 (k:Int)∧Hid (Upd No wc wr))
 case atStart=>exact⟨0,by omega,rfl,Qh (Upd.refl _ _)⟩
 case round=>
  obtain⟨k,hgk,rfl,hu⟩:=hrel;have U1:=Qh (UC.out.trans hu.out);have hrr:Upd No wr wr:=Upd.refl _ _;have k0:∀W,Upd No wr W→W.cell? ⟨z,0,none⟩=some (.slice A txs.length c):=fun W u=>h0 W (U1.out.trans u)
  have k1:∀W,Upd No wr W→W.cell? ⟨z,1,none⟩=some (.slice B ords.length d):=fun W u=>h1 W (U1.out.trans u)
  clear h0 h1
  by_cases hk:k<6
  ·have b1:(0:Int)≤(k:Int):=Qn _;have b2:(k:Int)<6:=by omega
   have jw:IntKind.i64.wrap ((k:Int)+1)=(k:Int)+1:=IntWalk.i64_in _ (by omega);have hg:=ZjB f hk;obtain⟨fv,hfv⟩:∃fv,f (k:Int)=fv:=⟨_,rfl⟩;rw[hfv]at hg;have c0:∀W,Upd No wr W→W.cell? ⟨y,k,none⟩=some (.bool fv):=fun W u=>by rw[(HBC.out.upd (hu.out.trans u) id).cell];exact hg
   have D1:=Qh (fun W (u:Upd No wr W)=>CH.out W (U1.out.trans u) (k:Int));have D2:=Qh (fun W (u:Upd No wr W)=>CR.out W (U1.out.trans u) (k:Int));rw[hfv]at D1 D2;have q1:(fv==fv)=true:=by simp
   have q2:(fv != fv)=false:=by simp
   clear hfv hg;go_wp2;refine wp_region_noPanic ?_;refine wp_region_held_drew (S:=(fun W'=>Upd No wr W')) (by kernel_rfl) ?_ (fun hHeld=> ?_)
   ·(first|exact hrr.drew|exact hHeld.trans hu9|exact hHeld)
   refine wpK 0 rfl ?_;refine wpK 1 rfl ?_;refine wpK 2 rfl ?_;refine wpK 3 rfl ?_;refine wpK 4 rfl ?_;refine wpR [5] ?_;refine wpC rfl (fun K hK=> ?_) AllReadyH.nil;go_simp
   (first
  |(go_at_call 12;refine Calls.mono (D2.out _ hHeld) ?_;rintro r w9 ⟨rfl,hu9⟩))
   try (go_wp2_with fail)
   refine hK.out _ _ ?_ (fun hHeld=> ?_)
   ·(first|exact hrr.drew|exact hHeld.trans hu9|exact hHeld)
   clear hK K
   try simp only[Act.put,sT,sS,sZ]
   refine wpK 6 rfl ?_;refine wpK 7 rfl ?_;refine wpK 8 rfl ?_;refine wpK 9 rfl ?_;refine wpK 11 rfl ?_;refine wpK 12 rfl ?_;refine wpK 13 rfl ?_;refine wpR [10] ?_;refine wpC rfl (fun K hK=> ?_) AllReadyH.nil;go_simp
   (first
  |(go_at_call 13;refine Calls.mono (D1.out _ hHeld) ?_;rintro r w9 ⟨rfl,hu9⟩))
   try (go_wp2_with fail)
   refine hK.out _ _ ?_ (fun hHeld=> ?_)
   ·(first|exact hrr.drew|exact hHeld.trans hu9|exact hHeld)
   clear hK K
   try simp only[Act.put,sT,sS,sZ]
   refine wpK 14 rfl ?_;refine wpK 15 rfl ?_;refine wpD (NoPanic.normal ?_);have HH:=Qh (hu.out.trans hHeld);clear hHeld;go_wp2
   go_roundg (gk-1)
   case measure=>omega
   case rel=>exact⟨k+1,by omega,by simp,HH⟩
  ·obtain rfl:k=6:=by omega
   obtain⟨pv,hpv⟩:∃pv,f p=pv:=⟨_,rfl⟩;have D1:=Qh (fun W (u:Upd No wr W)=>CH.out W (U1.out.trans u) p);have D2:=Qh (fun W (u:Upd No wr W)=>CR.out W (U1.out.trans u) p);rw[hpv]at D1 D2;have E1:=Qh (fun W (u:Upd No wr W)=>C1.out W (U1.out.trans u));have E2:=Qh (fun W (u:Upd No wr W)=>C2.out W (U1.out.trans u));have q1:(pv==pv)=true:=by simp
   have q2:(rv==rv)=true:=by simp
   have q3:(M==M)=true:=by simp
   have q4:(T==T)=true:=by simp
   clear hpv;go_wp2;refine wp_region_noPanic ?_;refine wp_region_held_drew (S:=(fun W'=>Upd No wr W')) (by kernel_rfl) ?_ (fun hHeld=> ?_)
   ·(first|exact hrr.drew|exact hHeld.trans hu9|exact hHeld)
   refine wpK 0 rfl ?_;refine wpK 1 rfl ?_;refine wpR [2] ?_;refine wpC rfl (fun K hK=> ?_) AllReadyH.nil;go_simp
   (first
  |(go_at_call 14;refine Calls.mono (RM.out _) ?_;rintro r w9 ⟨rfl,hu9⟩))
   try (go_wp2_with fail)
   refine hK.out _ _ ?_ (fun hHeld=> ?_)
   ·(first|exact hrr.drew|exact hHeld.trans hu9|exact hHeld)
   clear hK K
   try simp only[Act.put,sT,sS,sZ]
   refine wpK 3 rfl ?_;refine wpK 4 rfl ?_;refine wpK 5 rfl ?_;refine wpK 6 rfl ?_;refine wpR [7] ?_;refine wpC rfl (fun K hK=> ?_) AllReadyH.nil;go_simp
   (first
  |(go_at_call 15;refine Calls.mono (RT.out _) ?_;rintro r w9 ⟨rfl,hu9⟩))
   try (go_wp2_with fail)
   refine hK.out _ _ ?_ (fun hHeld=> ?_)
   ·(first|exact hrr.drew|exact hHeld.trans hu9|exact hHeld)
   clear hK K
   try simp only[Act.put,sT,sS,sZ]
   refine wpK 8 rfl ?_;refine wpK 9 rfl ?_;refine wpK 10 rfl ?_;refine wpK 11 rfl ?_;refine wpK 12 rfl ?_;refine wpK 14 rfl ?_;refine wpK 15 rfl ?_;refine wpR [13] ?_;refine wpC rfl (fun K hK=> ?_) AllReadyH.nil;go_simp
   (first
  |(go_at_call 13;refine Calls.mono (D1.out _ hHeld) ?_;rintro r w9 ⟨rfl,hu9⟩))
   try (go_wp2_with fail)
   refine hK.out _ _ ?_ (fun hHeld=> ?_)
   ·(first|exact hrr.drew|exact hHeld.trans hu9|exact hHeld)
   clear hK K
   try simp only[Act.put,sT,sS,sZ]
   refine wpR [16] ?_;refine wpC rfl (fun K hK=> ?_) AllReadyH.nil;go_simp
   (first
  |(go_at_call 12;refine Calls.mono (D2.out _ hHeld) ?_;rintro r w9 ⟨rfl,hu9⟩))
   try (go_wp2_with fail)
   refine hK.out _ _ ?_ (fun hHeld=> ?_)
   ·(first|exact hrr.drew|exact hHeld.trans hu9|exact hHeld)
   clear hK K
   try simp only[Act.put,sT,sS,sZ]
   refine wpK 17 rfl ?_;refine wpK 18 rfl ?_;refine wpK 19 rfl ?_;refine wpK 20 rfl ?_;refine wpK 21 rfl ?_;refine wpK 22 rfl ?_;refine wpK 24 rfl ?_;refine wpK 25 rfl ?_;refine wpK 26 rfl ?_;refine wpR [23] ?_;refine wpC rfl (fun K hK=> ?_) AllReadyH.nil;go_simp
   (first
  |(go_at_call 16;refine Calls.mono (E1.out _ hHeld) ?_;rintro r w9 ⟨rfl,hu9⟩))
   try (go_wp2_with fail)
   refine hK.out _ _ ?_ (fun hHeld=> ?_)
   ·(first|exact hrr.drew|exact hHeld.trans hu9|exact hHeld)
   clear hK K
   try simp only[Act.put,sT,sS,sZ]
   refine wpR [27] ?_;refine wpC rfl (fun K hK=> ?_) AllReadyH.nil;go_simp
   (first
  |(go_at_call 17;refine Calls.mono (E2.out _ hHeld) ?_;rintro r w9 ⟨rfl,hu9⟩))
   try (go_wp2_with fail)
   refine hK.out _ _ ?_ (fun hHeld=> ?_)
   ·(first|exact hrr.drew|exact hHeld.trans hu9|exact hHeld)
   clear hK K
   try simp only[Act.put,sT,sS,sZ]
   refine wpK 28 rfl ?_;refine wpK 29 rfl ?_;refine wpK 30 rfl ?_;refine wpR [31] ?_;refine wpC rfl (fun K hK=> ?_) AllReadyH.nil;go_simp
   (first
  |(go_at_call 9;refine Calls.mono (L.out _) ?_;rintro r w9 ⟨rfl,hu9⟩))
   try (go_wp2_with fail)
   refine hK.out _ _ ?_ (fun hHeld=> ?_)
   ·(first|exact hrr.drew|exact hHeld.trans hu9|exact hHeld)
   clear hK K
   try simp only[Act.put,sT,sS,sZ]
   refine wpK 32 rfl ?_;refine wpK 33 rfl ?_;refine wpD (NoPanic.normal ?_);have HH:=Qh hHeld;clear hHeld;go_wp2
   go_ret
   exact⟨rfl,U0.out.trans (U1.out.trans HH.out)⟩
end
/- Phenomena:the law that one brings another:the walk. -/
section
open Go.RowKit
theorem Zgl {h:Hist} (e:Edge) (he:e∈Zw (Zl h)):(1≤e.k∧e.k≤3)∧(e.f∈h.txs.map (·.id)∧e.t∈h.txs.map (·.id))∧∃t∈h.txs,t.done=true:=by
 unfold Zw at he;obtain⟨x,hx,rfl⟩:=List.mem_map.1 he;have hr:=Zkv hx;obtain⟨⟨a,ha,ia⟩,⟨b,hb,ib⟩,hk,_⟩:=Zi0 hr ((Zbj hr).1 hx).1;obtain⟨⟨c,hc,dc⟩,_⟩:=ZrH hr hx;exact⟨by omega,⟨List.mem_map.2 ⟨a,ha,ia⟩,List.mem_map.2 ⟨b,hb,ib⟩⟩,c,ZcX hc,dc⟩
theorem ZhE (txs:List HTx) (p:Int) (t:HTx) (ht:t.done=false):∀(l:List HOp) (i:Nat) (acc:List HBad),Zbq txs p t i acc l=acc
 |[],_,_=>rfl
 |o::l,i,acc=>by
  unfold Zbq;rw[if_neg (by unfold ZaL;rw[ht];simp)];exact ZhE txs p t ht l _ _
theorem ZhF (txs:List HTx) (p:Int):∀(l:List HTx) (acc:List HBad),(∀t∈l,t.done=false)→ZbS txs p acc l=acc
 |[],_,_=>rfl
 |t::l,acc,h=>by
  unfold ZbS;rw[ZhE txs p t (h t (List.mem_cons_self ..))];exact ZhF txs p l _ fun x hx=>h x (List.mem_cons_of_mem _ hx)
theorem Znj (mask must:Int):ZC [] mask must=false:=by unfold ZC;simp
theorem ZdB {h:Hist} (hn:h.txs.any (·.done)=false) (p:Int):Zj h p=false:=by
 have hd:∀t∈h.txs,t.done=false:=fun t ht=>by
  cases hq:t.done with
  |false=>rfl
  |true=>rw[List.any_eq_false]at hn;exact absurd hq (by simpa using hn t ht)
 unfold Zj
 split
 ·unfold Za4
  split
  ·rw[ZhF _ _ _ _ hd];rfl
  ·rfl
 ·have:Zw (Zl h)=[]:=by
   rw[List.eq_nil_iff_forall_not_mem];intro e he;obtain⟨_,_,t,ht,h2⟩:=Zgl e he;rw[hd t ht]at h2
   cases h2
  rw[this,Znj]
theorem Zkm (h:Hist):Zj h 0=false:=by
 unfold Zj;rw[if_neg (by decide),show ZaU 0=0 from rfl,ZgU]
theorem Zrx {h:Hist} (h1:Zj h 1=true):Zj h 4=true:=by
 unfold Zj at h1 ⊢;rw[if_neg (by decide)]at h1 ⊢;exact ZsF _ h1
theorem Zn7 (h:Hist):decide (ZbW (h.txs.map (·.id)) (Zw (Zl h))=none)=(Zj h 4||Zj h 5):=by
 have ho:=ZkU (ids:=h.txs.map (·.id)) (l:=Zw (Zl h)) (fun e he=>(Zgl e he).1) (fun e he=>(Zgl e he).2.1);have hs:=ZkQ (Zw (Zl h));have h4:Zj h 4=ZC (Zw (Zl h)) 6 0:=by unfold Zj;rw[if_neg (by decide)];rfl
 have h5:Zj h 5=ZC (Zw (Zl h)) 14 8:=by unfold Zj;rw[if_neg (by decide)];rfl
 rw[h4,h5,Bool.eq_iff_iff,decide_eq_true_eq,ho,hs,Bool.or_eq_true]
end
/- Levels:the verdict of a history. -/
section
open Go.RowKit
theorem ZgM (w:World) (a0 a1 a2 a3 a4 a5 b0 b1 b2 b3 b4 b5:Bool) (x y:Int):
  (Op.equalIn 10000 52 (.agg #[.bool a0,.bool a1,.bool a2,.bool a3,.bool a4,.bool a5,.int .i64 x]) (.agg #[.bool b0,.bool b1,.bool b2,.bool b3,.bool b4,.bool b5,.int .i64 y])).run Tryz.prog w=
   .ok ((a0==b0&&(a1==b1&&(a2==b2&&(a3==b3&&(a4==b4&&a5==b5)))))&&x==y) w:=by
 rw[run_equalIn_struct w _ _ _ _ (by kernel_rfl) (by kernel_rfl)];have hI:∀(w:World) (d:Nat) (x y:Int),(Op.equalIn (d+1) 3 (.int .i64 x) (.int .i64 y)).run Tryz.prog w= .ok (x==y) w:=fun w d x y=>run_equalIn_int w d _ _ _ x y Tryz.underlying3
 have hA:=fun w=>Zgd 9997 w a0 a1 a2 a3 a4 a5 b0 b1 b2 b3 b4 b5
 have p1:∀(w:World) (c0 c1 c2 c3 c4 c5:Bool) (z:Int),(part 31 #[.bool c0,.bool c1,.bool c2,.bool c3,.bool c4,.bool c5,.int .i64 z] 0).run Tryz.prog w= .ok (.agg #[.bool c0,.bool c1,.bool c2,.bool c3,.bool c4,.bool c5]) w:=fun w c0 c1 c2 c3 c4 c5 z=>by kernel_rfl
 have p2:∀(w:World) (c0 c1 c2 c3 c4 c5:Bool) (z:Int),(part 3 #[.bool c0,.bool c1,.bool c2,.bool c3,.bool c4,.bool c5,.int .i64 z] 6).run Tryz.prog w= .ok (.int .i64 z) w:=fun w c0 c1 c2 c3 c4 c5 z=>by kernel_rfl
 generalize (a0==b0&&(a1==b1&&(a2==b2&&(a3==b3&&(a4==b4&&a5==b5)))))=v at hA ⊢
 cases v<;>simp[Program.fieldsOf,Tryz.underlying52,Op.eqFields,p1,p2,hA,hI,Result.andThen]
 by_cases h:x=y<;>simp[h]
def ZdK (f:Int→Bool):Value:= .agg #[.bool (f 0),.bool (f 1),.bool (f 2),.bool (f 3),.bool (f 4),.bool (f 5),.int .i64 (Zt (f 1) (f 2) (f 3) (f 4) (f 5))]
set_option maxRecDepth 100000 in
set_option maxHeartbeats 2000000 in
theorem Zgs (F:Nat→Prop) (w:World) (txs:List HTx) (ords:List HOrd) (A:Option Addr) (c:Nat) (B:Option Addr) (d:Nat) (H:Hist.lies F w ⟨txs,ords,A,c,B,d⟩) (hl:ZJ ⟨txs,ords,A,c,B,d⟩=true):
  Calls Tryz.prog 27 #[.agg #[.slice A txs.length c,.slice B ords.length d]] w fun e w'=>e= .returned (ZdK (Zj ⟨txs,ords,A,c,B,d⟩))∧Upd No w w':=by
 obtain⟨z,hz⟩:∃z,w.heap.size=z:=⟨_,rfl⟩;obtain⟨wh,hwh⟩:∃wh,w.alloc (.cells #[.slice A txs.length c,.slice B ords.length d] 25)=wh:=⟨_,rfl⟩;have sh:wh.heap.size=z+1:=by rw[←hwh,←hz];simp
 obtain⟨wb,hwb⟩:∃wb,wh.alloc (.cells #[.bool false,.bool false,.bool false,.bool false,.bool false,.bool false,.int .i64 0] 52)=wb:=⟨_,rfl⟩;have u1:Upd No w wh:=by rw[←hwh];exact(Upd.refl No w).alloc _
 have u2:Upd No wh wb:=by rw[←hwb];exact(Upd.refl No wh).alloc _
 have bH:Blk wb z 25 [.slice A txs.length c,.slice B ords.length d]:=by
  have:Blk wh z 25 [.slice A txs.length c,.slice B ords.length d]:=by rw[←hwh,←hz];exact Blk.new w _ _
  exact this.upd u2 id
 have bR:Blk wb (z+1) 52 [.bool false,.bool false,.bool false,.bool false,.bool false,.bool false,.int .i64 0]:=by rw[←hwb,←sh];exact Blk.new wh _ _
 have h0:∀W,Upd No wb W→W.cell? ⟨z,0,none⟩=some (.slice A txs.length c):=fun W u=>(bH.upd u id).cell 0
 have h1:∀W,Upd No wb W→W.cell? ⟨z,1,none⟩=some (.slice B ords.length d):=fun W u=>(bH.upd u id).cell 1
 have BR:=Qh bR;have U0:=Qh (u1.trans u2);have HZ:=Qh hz;have GH:=Qh (fun W (u:Upd No w W)=>H.upd u (fun _ _=>id));obtain⟨f,hf⟩:∃f,Zj ⟨txs,ords,A,c,B,d⟩=f:=⟨_,rfl⟩;have CA:=Qh (fun W (u:Upd No w W)=>Zl6 F W txs ords A c B d (GH.out W u) hl);have hav:Zd4 ⟨txs,ords,A,c,B,d⟩= .agg #[.bool (f 0),.bool (f 1),.bool (f 2),.bool (f 3),.bool (f 4),.bool (f 5)]:=by unfold Zd4;rw[hf]
 rw[hav]at CA;rw[hf];unfold ZdK;obtain⟨v0,hv0⟩:∃v,f 0=v:=⟨_,rfl⟩;obtain⟨v1,hv1⟩:∃v,f 1=v:=⟨_,rfl⟩;obtain⟨v2,hv2⟩:∃v,f 2=v:=⟨_,rfl⟩;obtain⟨v3,hv3⟩:∃v,f 3=v:=⟨_,rfl⟩;obtain⟨v4,hv4⟩:∃v,f 4=v:=⟨_,rfl⟩;obtain⟨v5,hv5⟩:∃v,f 5=v:=⟨_,rfl⟩;rw[hv0,hv1,hv2,hv3,hv4,hv5]at CA ⊢;have CO:=Qh (fun W=>lOf W v0 v1 v2 v3 v4 v5);obtain⟨LV,hLV⟩:∃LV,Zt v1 v2 v3 v4 v5=LV:=⟨_,rfl⟩;rw[hLV]at CO ⊢;clear bH bR u1 u2 H hl hf hav hv0 hv1 hv2 hv3 hv4 hv5 hLV
 go_enter Tryz.func27,Tryz.ntmps27
 have hr:Upd No wb wb:=Upd.refl _ _
 go_wp2_with fail
 refine(CA.out _ U0.out).mono ?_;rintro e w3 ⟨rfl,hu3⟩;obtain⟨y,hy⟩:∃y,w3.heap.size=y:=⟨_,rfl⟩;obtain⟨wc,hwc⟩:∃wc,w3.alloc (.cells #[.bool v0,.bool v1,.bool v2,.bool v3,.bool v4,.bool v5] 31)=wc:=⟨_,rfl⟩;have uc:Upd No w3 wc:=by rw[←hwc];exact(Upd.refl No w3).alloc _
 have bc:Blk wc y 31 [.bool v0,.bool v1,.bool v2,.bool v3,.bool v4,.bool v5]:=by rw[←hwc,←hy];exact Blk.new w3 _ _
 have hzy:z+1≠y:=by have:=BR.out.lt;have:=hu3.size;omega
 have a0:∀W,Upd (One (z+1)) wc W→W.cell? ⟨y,0,none⟩=some (.bool v0):=fun W u=>(bc.upd u (by unfold One;omega)).cell 0
 have a1:∀W,Upd (One (z+1)) wc W→W.cell? ⟨y,1,none⟩=some (.bool v1):=fun W u=>(bc.upd u (by unfold One;omega)).cell 1
 have a2:∀W,Upd (One (z+1)) wc W→W.cell? ⟨y,2,none⟩=some (.bool v2):=fun W u=>(bc.upd u (by unfold One;omega)).cell 2
 have a3:∀W,Upd (One (z+1)) wc W→W.cell? ⟨y,3,none⟩=some (.bool v3):=fun W u=>(bc.upd u (by unfold One;omega)).cell 3
 have a4:∀W,Upd (One (z+1)) wc W→W.cell? ⟨y,4,none⟩=some (.bool v4):=fun W u=>(bc.upd u (by unfold One;omega)).cell 4
 have a5:∀W,Upd (One (z+1)) wc W→W.cell? ⟨y,5,none⟩=some (.bool v5):=fun W u=>(bc.upd u (by unfold One;omega)).cell 5
 have BRC:=Qh ((BR.out.upd hu3 id).upd uc id);have UC:=Qh ((U0.out.trans hu3).trans uc);have hzz:Upd (One (z+1)) wc wc:=Upd.refl _ _;clear uc bc hu3 h0 h1 hr;go_wp2;refine wp_region_noPanic ?_;refine wp_region_held_drew (S:=(fun W'=>Upd (One (z+1)) wc W')) (by kernel_rfl) ?_ (fun hHeld=> ?_)
 ·(first|exact hzz.drew|exact hHeld|exact hq)
 refine wpK 0 rfl ?_;refine wpK 1 rfl ?_;refine wpR [2] ?_;refine wpC rfl (fun K hK=> ?_) AllReadyH.nil;go_simp
 (first
  |(go_at_call 25;refine(CO.out _).mono ?_;rintro e w4 ⟨rfl,hu4⟩;have HB4:=Qh ((show Blk _ (z+1) _ _ from BRC.out.drew).upd hu4 id);have hq:Upd (One (z+1)) wc w4:=hHeld.trans (hu4.mono (fun _ _ e=>e.elim))))
 try (go_wp2_with fail)
 refine hK.out _ _ ?_ (fun hHeld=> ?_)
 ·(first|exact hzz.drew|exact hHeld|exact hq)
 clear hK K
 try simp only[Act.put,sT,sS,sZ]
 refine wpK 3 rfl ?_;refine wpR [4] ?_;refine wpC rfl (fun K hK=> ?_) AllReadyH.nil
 (first
  |(refine ZkN rfl rfl (g:=z+1) (cells:=[.bool v0,.bool v1,.bool v2,.bool v3,.bool v4,.bool v5,.int .i64 LV]) (by rfl) (by rfl) HB4.out (by kernel_rfl) rfl rfl ?_;intro w6 hb6 hu6;have HB6:=Qh hb6;have hq:Upd (One (z+1)) wc w6:=hHeld.trans hu6))
 refine hK.out _ _ ?_ (fun hHeld=> ?_)
 ·(first|exact hzz.drew|exact hHeld|exact hq)
 clear hK K
 try simp only[Act.put,sT,sS,sZ]
 refine wpD (NoPanic.normal ?_);have HU:=Qh hHeld;clear hHeld;go_wp2;have r0:=HB6.out.cell 0;have r1:=HB6.out.cell 1;have r2:=HB6.out.cell 2;have r3:=HB6.out.cell 3;have r4:=HB6.out.cell 4;have r5:=HB6.out.cell 5;have r6:=HB6.out.cell 6;simp only[Qz,Qs]at r0 r1 r2 r3 r4 r5 r6;refine bodyPost_ret (v:= .agg #[.bool v0,.bool v1,.bool v2,.bool v3,.bool v4,.bool v5,.int .i64 LV]) (by simp[results,Tryz.results27,go_sem,HZ.out,r0,r1,r2,r3,r4,r5,r6]) rfl ⟨rfl,?_⟩;exact UC.out.then_ HU.out (fun i e=>Or.inr (by unfold One at e;have:=HZ.out;omega))
def Zem (f:Int→Bool) (k:Nat):List Value:=((List.range 6).map fun i=> .bool (decide (1≤i)&&decide (i≤k)&&f (i:Int)))++[.int .i64 0]
theorem Zng (f:Int→Bool):Zem f 0=[.bool false,.bool false,.bool false,.bool false,.bool false,.bool false,.int .i64 0]:=by unfold Zem;rfl
theorem Znh (f:Int→Bool):Zem f 5=[.bool false,.bool (f 1),.bool (f 2),.bool (f 3),.bool (f 4),.bool (f 5),.int .i64 0]:=by unfold Zem;rfl
theorem ZoS (f:Int→Bool) (k:Nat) (hk:k<5):(Zem f k).set (k+1) (.bool (f ((k+1:Nat):Int)))=Zem f (k+1):=by
 rcases(show k=0∨k=1∨k=2∨k=3∨k=4 by omega)with rfl|rfl|rfl|rfl|rfl<;>rfl
theorem ZoT (f:Int→Bool) (k:Nat) (hk:k<5):∃v,(Zem f k)[k+1]? =some v:=by
 rcases(show k=0∨k=1∨k=2∨k=3∨k=4 by omega)with rfl|rfl|rfl|rfl|rfl<;>exact⟨_,rfl⟩
set_option maxRecDepth 100000 in
set_option maxHeartbeats 4000000 in
theorem Zo3 (F:Nat→Prop) (w:World) (txs:List HTx) (ords:List HOrd) (A:Option Addr) (c:Nat) (B:Option Addr) (d:Nat) (H:Hist.lies F w ⟨txs,ords,A,c,B,d⟩) (hl:ZJ ⟨txs,ords,A,c,B,d⟩=true) (hz0:Zj ⟨txs,ords,A,c,B,d⟩ 0=false):
  Calls Tryz.prog 28 #[.agg #[.slice A txs.length c,.slice B ords.length d]] w fun e w'=>e= .returned (ZdK (Zj ⟨txs,ords,A,c,B,d⟩))∧Upd No w w':=by
 obtain⟨z,hz⟩:∃z,w.heap.size=z:=⟨_,rfl⟩;obtain⟨wh,hwh⟩:∃wh,w.alloc (.cells #[.slice A txs.length c,.slice B ords.length d] 25)=wh:=⟨_,rfl⟩;have sh:wh.heap.size=z+1:=by rw[←hwh,←hz];simp
 obtain⟨wb,hwb⟩:∃wb,wh.alloc (.cells #[.bool false,.bool false,.bool false,.bool false,.bool false,.bool false,.int .i64 0] 52)=wb:=⟨_,rfl⟩;have u1:Upd No w wh:=by rw[←hwh];exact(Upd.refl No w).alloc _
 have u2:Upd No wh wb:=by rw[←hwb];exact(Upd.refl No wh).alloc _
 have bH:Blk wb z 25 [.slice A txs.length c,.slice B ords.length d]:=by
  have:Blk wh z 25 [.slice A txs.length c,.slice B ords.length d]:=by rw[←hwh,←hz];exact Blk.new w _ _
  exact this.upd u2 id
 have bR:Blk wb (z+1) 52 [.bool false,.bool false,.bool false,.bool false,.bool false,.bool false,.int .i64 0]:=by rw[←hwb,←sh];exact Blk.new wh _ _
 have h0:∀W,Upd No wb W→W.cell? ⟨z,0,none⟩=some (.slice A txs.length c):=fun W u=>(bH.upd u id).cell 0
 have h1:∀W,Upd No wb W→W.cell? ⟨z,1,none⟩=some (.slice B ords.length d):=fun W u=>(bH.upd u id).cell 1
 have BR:=Qh bR;have U0:=Qh (u1.trans u2);have HZ:=Qh hz;have GH:=Qh (fun W (u:Upd No w W)=>H.upd u (fun _ _=>id));obtain⟨f,hf⟩:∃f,Zj ⟨txs,ords,A,c,B,d⟩=f:=⟨_,rfl⟩;have CH:=Qh (fun W (u:Upd No w W) p=>ZnB F W txs ords A c B d p (GH.out W u) hl);rw[hf]at CH hz0 ⊢;obtain⟨wc,hwc⟩:∃wc,wb.alloc (.cells #[.bool false,.bool false,.bool false,.bool false,.bool false,.bool false,.int .i64 0] 52)=wc:=⟨_,rfl⟩;have sb:wb.heap.size=z+2:=by rw[←hwb];simp[sh]
 have u3:Upd No wb wc:=by rw[←hwc];exact(Upd.refl No wb).alloc _
 have bV:Blk wc (z+2) 52 (Zem f 0):=by rw[Zng,←hwc,←sb];exact Blk.new wb _ _
 have k0:∀W,Upd (One (z+2)) wc W→W.cell? ⟨z,0,none⟩=some (.slice A txs.length c):=fun W u=>((bH.upd u3 id).upd u (by unfold One;omega)).cell 0
 have k1:∀W,Upd (One (z+2)) wc W→W.cell? ⟨z,1,none⟩=some (.slice B ords.length d):=fun W u=>((bH.upd u3 id).upd u (by unfold One;omega)).cell 1
 have BV:=Qh bV;have BRC:=Qh (bR.upd u3 id);have UC:=Qh (U0.out.trans u3);have HF0:=Qh hz0;clear bH bR u1 u2 u3 bV H hl hf h0 h1 hz0
 go_enter Tryz.func28,Tryz.ntmps28
 go_wp2;clear hwh hwb hwc sh sb hz
 go_loopg [4] 5 (fun gk i wr=>∃k:Nat,k+gk=5∧i= .int .i64 (((k+1:Nat):Int))∧Hid (Blk wr (z+2) 52 (Zem f k))∧Hid (Upd (One (z+2)) wc wr))
 case atStart=>exact⟨0,by omega,rfl,BV,Qh (Upd.refl _ _)⟩
 case round=>
  clear BV;obtain⟨k,hgk,rfl,hb,hu⟩:=hrel
  by_cases hk:k<5
  ·have CP:=CH.out wr (UC.out.then_ hu.out (fun i e=>Or.inr (by unfold One at e;have:=HZ.out;omega))) ((k+1:Nat):Int);have HST:=Qh (ZoS f k hk);obtain⟨v0,hv0⟩:=ZoT f k hk;obtain⟨PK,hPK⟩:∃PK:Int,((k+1:Nat):Int)=PK:=⟨_,rfl⟩;have HP:=Qh hPK;have hpn:PK.toNat=k+1:=by omega
   rw[hPK]at CP HST ⊢;have l1:PK≤5:=by omega
   have l2:(0:Int)≤PK:=by omega
   have l3:PK<6:=by omega
   have pw:IntKind.i64.wrap (PK+1)=PK+1:=IntWalk.i64_in _ (by omega);have hur:=hu.out;have CP2:=Qh CP;clear hPK CP
   go_wp2_with fail
   refine(CP2.out).mono ?_;rintro e w3 ⟨rfl,hu3⟩;have b3:=hb.out.upd hu3 id;have f3:∀i,w3.frozen? ⟨z+2,i,none⟩=false:=fun i=>b3.free i
   have c3:w3.cell? ⟨z+2,k+1,none⟩=some v0:=by rw[b3.cell];exact hv0
   have HB3:=Qh (HST.out▸b3.set_ (k+1) (.bool (f PK)));have HU3:=Qh ((hu.out.trans (hu3.mono (fun _ _ e=>e.elim))).setOne (k+1) (.bool (f PK)));clear b3 hu3 hb hu CP2 hv0;go_wp2
   go_roundg (gk-1)
   case measure=>omega
   case rel=>exact⟨k+1,by omega,by have:=HP.out;simp;omega,HB3,HU3⟩
  ·obtain rfl:k=5:=by omega
   have b5:=hb.out;rw[Znh]at b5;have CO:=fun W=>Zql W f
   rw[HF0.out]at CO;obtain⟨v1,hv1⟩:∃v,f 1=v:=⟨_,rfl⟩;obtain⟨v2,hv2⟩:∃v,f 2=v:=⟨_,rfl⟩;obtain⟨v3,hv3⟩:∃v,f 3=v:=⟨_,rfl⟩;obtain⟨v4,hv4⟩:∃v,f 4=v:=⟨_,rfl⟩;obtain⟨v5,hv5⟩:∃v,f 5=v:=⟨_,rfl⟩;rw[hv1,hv2,hv3,hv4,hv5]at CO b5;obtain⟨LV,hLV⟩:∃LV,Zt v1 v2 v3 v4 v5=LV:=⟨_,rfl⟩;rw[hLV]at CO;have HCO:=Qh CO;have HVV:=Qh (show ZdK f= .agg #[.bool false,.bool v1,.bool v2,.bool v3,.bool v4,.bool v5,.int .i64 LV] by unfold ZdK;rw[HF0.out,hv1,hv2,hv3,hv4,hv5,hLV]);have a0:=b5.cell 0;have a1:=b5.cell 1;have a2:=b5.cell 2;have a3:=b5.cell 3;have a4:=b5.cell 4;have a5:=b5.cell 5;simp only[Qz,Qs]at a0 a1 a2 a3 a4 a5;have HU:=Qh hu.out;have HB5:=Qh b5;clear hb hu b5 hv1 hv2 hv3 hv4 hv5 hLV CO
   go_wp2_with fail
   refine(HCO.out _).mono ?_;rintro e w5 ⟨rfl,hu5⟩;have b6:=HB5.out.upd hu5 id;have f6:=b6.free 6;have e6:=b6.cell 6;simp only[Qz,Qs]at e6;obtain⟨w6,hw6⟩:∃w6,w5.setCell ⟨z+2,6,none⟩ (.int .i64 LV)=w6:=⟨_,rfl⟩;have b7:Blk w6 (z+2) 52 [.bool false,.bool v1,.bool v2,.bool v3,.bool v4,.bool v5,.int .i64 LV]:=by rw[←hw6];exact b6.set_ 6 (.int .i64 LV)
   have u7:Upd (One (z+2)) wr w6:=by rw[←hw6];exact(hu5.mono (fun _ _ e=>e.elim)).setOne 6 _
   have c0:=b7.cell 0;have c1:=b7.cell 1;have c2:=b7.cell 2;have c3:=b7.cell 3;have c4:=b7.cell 4;have c5:=b7.cell 5;have c6:=b7.cell 6;simp only[Qz,Qs]at c0 c1 c2 c3 c4 c5 c6;have bR:=(BRC.out.upd HU.out (by unfold One;omega)).upd u7 (by unfold One;omega);have k0:=bR.free 0;have k1:=bR.free 1;have k2:=bR.free 2;have k3:=bR.free 3;have k4:=bR.free 4;have k5:=bR.free 5;have k6:=bR.free 6;have d0:=bR.cell 0;have d1:=bR.cell 1;have d2:=bR.cell 2;have d3:=bR.cell 3;have d4:=bR.cell 4;have d5:=bR.cell 5;have d6:=bR.cell 6;simp only[Qz,Qs]at d0 d1 d2 d3 d4 d5 d6;have HBR:=Qh bR;have HU7:=Qh u7;clear b6 b7 u7 bR hu5;go_wp2;obtain⟨b9,u9⟩:=Zua HBR.out (.bool false) (.bool v1) (.bool v2) (.bool v3) (.bool v4) (.bool v5) (.int .i64 LV);have r0:=b9.cell 0;have r1:=b9.cell 1;have r2:=b9.cell 2;have r3:=b9.cell 3;have r4:=b9.cell 4;have r5:=b9.cell 5;have r6:=b9.cell 6;simp only[Qz,Qs]at r0 r1 r2 r3 r4 r5 r6;refine bodyPost_ret (v:= .agg #[.bool false,.bool v1,.bool v2,.bool v3,.bool v4,.bool v5,.int .i64 LV]) (by simp[results,Tryz.results28,go_sem,r0,r1,r2,r3,r4,r5,r6]) rfl ⟨by rw[HVV.out],?_⟩;exact(UC.out.then_ (HU.out.trans HU7.out) (fun i e=>Or.inr (by unfold One at e;have:=HZ.out;omega))).then_ u9 (fun i e=>Or.inr (by unfold One at e;have:=HZ.out;omega))
end
/- Levels:the answers that the document gives. -/
section
open Go.RowKit
theorem ps1:ZcH ⟨#[103,49,99]⟩=4:=by decide+kernel
theorem ps2:ZcH ⟨#[71,48]⟩=0:=by decide+kernel
theorem ps3:ZcH ⟨#[]⟩=0:=by decide+kernel
section
variable (w:World)
theorem ZdA (b0 b1 b2 b3 b4 b5:Bool) {v:Int} (hv:Zt b1 b2 b3 b4 b5=v):Calls Tryz.prog 25 #[.agg #[.bool b0,.bool b1,.bool b2,.bool b3,.bool b4,.bool b5]] w fun e w'=>e= .returned (.int .i64 v)∧Upd No w w':=by subst hv;exact lOf w b0 b1 b2 b3 b4 b5
theorem Zal (l p:Int) {v:Bool} (hv:ZD l p=v):Calls Tryz.prog 23 #[.int .i64 l,.int .i64 p] w fun e w'=>e= .returned (.bool v)∧w=w':=by subst hv;exact Zqy w l p
theorem Zdz (l:Int) {v:ByteArray} (hv:Zbs l=v):Calls Tryz.prog 29 #[.int .i64 l] w fun e w'=>e= .returned (.string v)∧Upd No w w':=by subst hv;exact Zqv w l
theorem ZnY (p:Int) {v:ByteArray} (hv:Zcu p=v):Calls Tryz.prog 31 #[.int .i64 p] w fun e w'=>e= .returned (.string v)∧w=w':=by subst hv;exact Zqx w p
theorem ZnZ (p:Int) {v:ByteArray} (hv:Za3 p=v):Calls Tryz.prog 33 #[.int .i64 p] w fun e w'=>e= .returned (.string v)∧w=w':=by subst hv;exact Zmo w p
theorem Zhm (s:ByteArray) {v:Int} (hv:ZcH s=v):Calls Tryz.prog 35 #[.string s] w fun e w'=>e= .returned (.int .i64 v)∧Upd No w w':=by subst hv;exact Zqw w s
end
theorem Zt4 (n:Nat):ZdK (Zj (Zn n))= .agg #[.bool false,.bool false,.bool false,.bool false,.bool false,.bool true,.int .i64 2]:=by kernel_rfl
theorem Znb {F:Nat→Prop} {w:World} {N:Nat} (H:(Zn N).lies F w):Calls Tryz.prog 27 #[.agg #[.slice (some ⟨N+1+1+1,0,none⟩) 2 2,.slice (some ⟨N+1+1+1+1+1+1,0,none⟩) 2 2]] w fun e w'=>e= .returned (.agg #[.bool false,.bool false,.bool false,.bool false,.bool false,.bool true,.int .i64 2])∧Upd No w w':=by
 rw[←Zt4 N];exact Zgs F w (Zn N).txs (Zn N).ords _ 2 _ 2 H (ph0 N)
set_option maxRecDepth 100000 in
set_option maxHeartbeats 8000000 in
theorem Zlq (w:World):Calls Tryz.prog 22 #[] w fun e w'=>e= .returned (.bool true)∧Upd No w w':=by
 have h7:= @ZgM
 go_enter Tryz.func22,Tryz.ntmps22
 go_wp2_with fail
 refine(ZfD _).mono ?_;rintro e w1 ⟨N,rfl,hs1,hu1⟩
 go_wp2_with fail
 refine(Znb hs1).mono ?_;rintro e w2 ⟨rfl,hu2⟩;obtain⟨wb,hwb⟩:∃wb,w2.alloc (.cells #[.bool false,.bool false,.bool false,.bool false,.bool false,.bool true,.int .i64 2] 52)=wb:=⟨_,rfl⟩;obtain⟨y,hy⟩:∃y,w2.heap.size=y:=⟨_,rfl⟩;have ub:Upd No w2 wb:=by rw[←hwb];exact(Upd.refl No w2).alloc _
 have bb:Blk wb y 52 [.bool false,.bool false,.bool false,.bool false,.bool false,.bool true,.int .i64 2]:=by rw[←hwb,←hy];exact Blk.new w2 _ _
 have a0:∀W,Upd No wb W→W.cell? ⟨y,0,none⟩=some (.bool false):=fun W u=>(bb.upd u id).cell 0
 have a1:∀W,Upd No wb W→W.cell? ⟨y,1,none⟩=some (.bool false):=fun W u=>(bb.upd u id).cell 1
 have a2:∀W,Upd No wb W→W.cell? ⟨y,2,none⟩=some (.bool false):=fun W u=>(bb.upd u id).cell 2
 have a3:∀W,Upd No wb W→W.cell? ⟨y,3,none⟩=some (.bool false):=fun W u=>(bb.upd u id).cell 3
 have a4:∀W,Upd No wb W→W.cell? ⟨y,4,none⟩=some (.bool false):=fun W u=>(bb.upd u id).cell 4
 have a5:∀W,Upd No wb W→W.cell? ⟨y,5,none⟩=some (.bool true):=fun W u=>(bb.upd u id).cell 5
 have a6:∀W,Upd No wb W→W.cell? ⟨y,6,none⟩=some (.int .i64 2):=fun W u=>(bb.upd u id).cell 6
 have HU:=Qh ((hu1.trans hu2).trans ub);clear ub bb hs1 hu1 hu2;have hx:Upd No wb wb:=Upd.refl _ _
 go_wp2_with fail
 refine(ZdA _ false false false false false false (show _=(3:Int) from rfl)).mono ?_;rintro e q1 ⟨rfl,hv1⟩;have uu1:=hx.trans hv1
 go_wp2_with fail
 refine(ZdA _ false false true false false true (show _=(1:Int) from rfl)).mono ?_;rintro e q2 ⟨rfl,hv2⟩;have uu2:=uu1.trans hv2
 go_wp2_with fail
 refine(ZdA _ false true false false false false (show _=(0:Int) from rfl)).mono ?_;rintro e q3 ⟨rfl,hv3⟩;have uu3:=uu2.trans hv3
 go_wp2_with fail
 refine(ZdA _ true false false false false false (show _=(3:Int) from rfl)).mono ?_;rintro e q4 ⟨rfl,hv4⟩;have uu4:=uu3.trans hv4
 go_wp2_with fail
 refine(Zal _ 1 1 (show _=true from by decide)).mono ?_;rintro e q5 ⟨rfl,rfl⟩
 go_wp2_with fail
 refine(Zal _ 1 2 (show _=false from by decide)).mono ?_;rintro e q5 ⟨rfl,rfl⟩
 go_wp2_with fail
 refine(Zal _ 2 3 (show _=true from by decide)).mono ?_;rintro e q5 ⟨rfl,rfl⟩
 go_wp2_with fail
 refine(Zal _ 2 5 (show _=false from by decide)).mono ?_;rintro e q5 ⟨rfl,rfl⟩
 go_wp2_with fail
 refine(Zal _ 3 5 (show _=true from by decide)).mono ?_;rintro e q5 ⟨rfl,rfl⟩
 go_wp2_with fail
 refine(Zal _ 0 1 (show _=false from by decide)).mono ?_;rintro e q5 ⟨rfl,rfl⟩
 go_wp2_with fail
 refine(Zal _ 4 1 (show _=false from by decide)).mono ?_;rintro e q5 ⟨rfl,rfl⟩
 go_wp2_with fail
 refine(Zal _ 3 6 (show _=false from by decide)).mono ?_;rintro e q5 ⟨rfl,rfl⟩
 go_wp2_with fail
 refine(Zdz _ 3 (show _=(⟨#[80,76,45,51]⟩:ByteArray) from rfl)).mono ?_;rintro e q5 ⟨rfl,hv5⟩;have uu5:=uu4.trans hv5
 go_wp2_with fail
 refine(Zdz _ 0 (show _=(⟨#[110,111,110,101]⟩:ByteArray) from rfl)).mono ?_;rintro e q6 ⟨rfl,hv6⟩;have uu6:=uu5.trans hv6
 go_wp2_with fail
 refine(Zdz _ 4 (show _=(⟨#[]⟩:ByteArray) from rfl)).mono ?_;rintro e q7 ⟨rfl,hv7⟩;have uu7:=uu6.trans hv7
 go_wp2_with fail
 refine(ZnY _ 5 (show _=(⟨#[71,50,45,105,116,101,109]⟩:ByteArray) from rfl)).mono ?_;rintro e q8 ⟨rfl,rfl⟩
 go_wp2_with fail
 refine(ZnY _ 0 (show _=(⟨#[]⟩:ByteArray) from rfl)).mono ?_;rintro e q8 ⟨rfl,rfl⟩
 go_wp2_with fail
 refine(ZnZ _ 5 (show _=(⟨#[103,50]⟩:ByteArray) from rfl)).mono ?_;rintro e q8 ⟨rfl,rfl⟩
 go_wp2_with fail
 refine(Zhm _ ⟨#[103,49,99]⟩ ps1).mono ?_;rintro e q8 ⟨rfl,hv8⟩;have uu8:=uu7.trans hv8
 go_wp2_with fail
 refine(Zhm _ ⟨#[71,48]⟩ ps2).mono ?_;rintro e q9 ⟨rfl,hv9⟩;have uu9:=uu8.trans hv9
 go_wp2_with fail
 refine(Zhm _ ⟨#[]⟩ ps3).mono ?_;rintro e q10 ⟨rfl,hv10⟩;have uu10:=uu9.trans hv10;go_wp2
 go_ret
 exact⟨rfl,HU.out.trans uu10⟩
end
end Go.Proofs.YtklmahmfmbppkaaGreat
