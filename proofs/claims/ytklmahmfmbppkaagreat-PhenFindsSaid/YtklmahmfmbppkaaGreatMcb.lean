/- Witnesses, plain: how many edges there are, what a witness is. -/
import Derived.Test.YtklmahmfmbppkaaGreatMao
import Derived.Test.YtklmahmfmbppkaaGreatMbd
import Derived.Test.YtklmahmfmbppkaaGreatMbg
import Derived.Test.YtklmahmfmbppkaaGreatMbh
import Derived.Test.YtklmahmfmbppkaaGreatMbi
import Derived.Test.YtklmahmfmbppkaaGreatMbo
import Derived.Test.YtklmahmfmbppkaaGreatMbr
import Derived.Test.YtklmahmfmbppkaaGreatMbt
import Derived.Test.YtklmahmfmbppkaaGreatMbv
import Derived.Test.YtklmahmfmbppkaaGreatMby
import Derived.Test.YtklmahmfmbppkaaGreatMca
namespace Go.Proofs.YtklmahmfmbppkaaGreat
set_option linter.unusedSimpArgs false
set_option linter.unusedVariables false
open Go.RowKit
theorem Zem {α:Type} [DecidableEq α]:∀(l m:List α),l.Nodup→(∀x∈l,x∈m)→l.length≤m.length
 |[],_,_,_=>Nat.zero_le _
 |x::l,m,hn,hs=>by
  obtain⟨h1,h2⟩:=List.nodup_cons.1 hn
  have hx:=hs x (List.mem_cons_self ..)
  have:=Zem l (m.erase x) h2 fun y hy=>(List.mem_erase_of_ne (fun e:y=x=>h1 (by rw[←e];exact hy))).2 (hs y (List.mem_cons_of_mem _ hy))
  rw[List.length_erase_of_mem hx]at this
  have:=List.length_pos_of_mem hx
  rw[List.length_cons];omega
theorem Zmw (key:Int):∀l:List Int,(wwO key l).length≤l.length
 |[]=>by simp[wwO]
 |[a]=>by simp[wwO]
 |a::b::l=>by
  have:=Zmw key (b::l)
  show(⟨a,b,1,key⟩::wwO key (b::l)).length≤_
  rw[List.length_cons]
  simp only[List.length_cons]at*;omega
theorem ZfR {α β:Type} (f:α→List β) (K:Nat):∀l:List α,(∀x∈l,(f x).length≤K)→(l.flatMap f).length≤K*l.length
 |[],_=>by simp
 |x::l,h=>by
  have h1:=h x (List.mem_cons_self ..)
  have h2:=ZfR f K l fun y hy=>h y (List.mem_cons_of_mem _ hy)
  rw[List.flatMap_cons,List.length_append,List.length_cons,Nat.mul_succ]
  omega
theorem ZlX {h:Hist} (hl:Zcy h=true):h.ords.length≤24∧∀o∈h.ords,o.txs.length≤24:=by
 unfold Zcy at hl
 simp only[Bool.and_eq_true,decide_eq_true_eq,List.all_eq_true]at hl
 exact⟨hl.1.1.2,fun t ht=>hl.2 t ht⟩
theorem ZnF {h:Hist} (hl:Zcy h=true):(Zau h).length≤1152:=by
 by_cases hr:Zc h=true
 ·obtain⟨n1,n2⟩:=ZiJ hl
  obtain⟨n3,n4⟩:=ZlX hl
  have h1:((Zau h).map (·.e)).length≤(wwL (fun _=>true) h.ords++rdL (fun _=>true) (ZI h.txs) (Zh h.txs) (Zz h.ords) h.txs).length:=by
   refine Zem _ _ ?_ fun e he=> ?_
   ·rw[List.nodup_iff_pairwise_ne,List.pairwise_map]
    exact ZnH
   ·obtain⟨x,hx,rfl⟩:=List.mem_map.1 he
    have hc:=((Zcx hr).1 hx).1
    have hg:=Zlp hr (fun _=>true) x.e
    rw[if_pos rfl]at hg
    rw[←hg]at hc
    unfold Zl2 at hc
    rw[List.mem_append]
    apply Classical.byContradiction
    intro hn
    rw[not_or]at hn
    apply hc
    unfold ZaU
    rw[if_neg hn.1,Nat.zero_add]
    unfold Zr
    rw[List.length_eq_zero_iff,List.filter_eq_nil_iff]
    intro y hy
    simp only[decide_eq_true_eq]
    intro e
    rw[e]at hy
    exact hn.2 hy
  rw[List.length_map,List.length_append]at h1
  have h2:(wwL (fun _=>true) h.ords).length≤24*h.ords.length:=ZfR _ 24 _ fun o ho=>by
   unfold wwC
   rw[if_pos rfl]
   exact Nat.le_trans (Zmw _ _) (n4 o ho)
  have h3:(rdL (fun _=>true) (ZI h.txs) (Zh h.txs) (Zz h.ords) h.txs).length≤48*(h.txs.filter (·.done)).length:=ZfR _ 48 _ fun t ht=>by
   have h4:(rdO (fun _=>true) (ZI h.txs) (Zh h.txs) (Zz h.ords) t.id t.ops).length≤2*(t.ops.filter fun o=>o.read&&true).length:=ZfR _ 2 _ fun o _=>Zio _ _ _ _ _
   have h5:=List.length_filter_le (fun o:HOp=>o.read&&true) t.ops
   have h6:=n2 t (List.mem_filter.1 ht).1
   exact Nat.le_trans h4 (by omega)
  have h7:=List.length_filter_le (fun t:HTx=>t.done) h.txs
  omega
 ·unfold Zau
  rw[if_neg hr]
  simp
structure HWit where
 p:Int
 walk:List Edge
 read:HBad
deriving DecidableEq
def HWit.at_ (x:HWit) (A:Option Addr) (c:Nat):List Value:=[.int .i64 x.p,.slice A x.walk.length c,.int .i64 x.read.tx,.int .i64 x.read.place,.int .i64 x.read.of.tx,.int .i64 x.read.of.key,.int .i64 x.read.of.nth]
theorem EdX.nil {w:World} {A:Option Addr}:EdX w A []:=⟨fun _=>True,fun h=>absurd rfl h⟩
end Go.Proofs.YtklmahmfmbppkaaGreat
/- Phenomena:which a history has (phen.Has,phen.All,tenterref30.Has). -/
namespace Go.Proofs.YtklmahmfmbppkaaGreat
set_option linter.unusedSimpArgs false
set_option linter.unusedVariables false
open Go.RowKit
def Zaf (h:Hist) (p:Int):Bool:=if p=2∨p=3 then decide (0<(Ze0 h p).length) else Zaj (Zbx (Zau h)) (ZdV p) (ZdT p)
theorem Znr (l:List Edge):Ze l 0=[]:=by
 unfold Ze
 rw[List.filter_eq_nil_iff]
 intro e _ h
 unfold Zs Zm at h
 simp at h
theorem ZlN (l:List Edge) (must:Int):Zaj l 0 must=false:=by
 have h:=Znr l
 unfold Ze at h
 unfold Zaj
 simp only[h]
 split<;>rfl
set_option maxRecDepth 100000 in
set_option maxHeartbeats 2000000 in
theorem ZoE (F:Nat→Prop) (w:World) (txs:List HTx) (ords:List HOrd) (A:Option Addr) (c:Nat) (B:Option Addr) (d:Nat) (p:Int) (H:Hist.lies F w ⟨txs,ords,A,c,B,d⟩) (hl:Zcy ⟨txs,ords,A,c,B,d⟩=true):
  Calls Tryz.prog 13 #[.agg #[.slice A txs.length c,.slice B ords.length d],.int .i64 p] w fun e w'=>e= .returned (.bool (Zaf ⟨txs,ords,A,c,B,d⟩ p))∧Upd No w w':=by
 obtain⟨wb,hwb⟩:∃wb,w.alloc (.cells #[.slice A txs.length c,.slice B ords.length d] 25)=wb:=⟨_,rfl⟩
 have u0:Upd No w wb:=by rw[←hwb];exact(Upd.refl No w).alloc _
 have bH:Blk wb w.heap.size 25 [.slice A txs.length c,.slice B ords.length d]:=by rw[←hwb];exact Blk.new w _ _
 have h0:∀W,Upd No wb W→W.cell? ⟨w.heap.size,0,none⟩=some (.slice A txs.length c):=fun W u=>(bH.upd u id).cell 0
 have h1:∀W,Upd No wb W→W.cell? ⟨w.heap.size,1,none⟩=some (.slice B ords.length d):=fun W u=>(bH.upd u id).cell 1
 have HH:=Lib.hid (H.upd u0 (fun _ _=>id))
 have U0:=Lib.hid u0
 have hr:Upd No wb wb:=Upd.refl _ _
 clear bH u0 H
 by_cases p2:p=2
 ·subst p2
  have CB:=Lib.hid (oOf F wb txs ords A c B d 2 HH.out)
  obtain⟨bl,hbl⟩:∃bl,Ze0 ⟨txs,ords,A,c,B,d⟩ 2=bl:=⟨_,rfl⟩
  have HV:=Lib.hid (show Zaf ⟨txs,ords,A,c,B,d⟩ 2=decide (0<bl.length) by unfold Zaf;rw[if_pos (by decide),hbl])
  rw[hbl]at CB
  rw[HV.out]
  clear hbl
  go_enter Tryz.func13,Tryz.ntmps13
  go_wp2_with fail
  refine(CB.out).mono ?_
  rintro e w1 ⟨A1,c1,rfl,_,hu1⟩
  go_wp2
  go_ret
  exact⟨rfl,U0.out.trans hu1⟩
 by_cases p3:p=3
 ·subst p3
  have CB:=Lib.hid (oOf F wb txs ords A c B d 3 HH.out)
  obtain⟨bl,hbl⟩:∃bl,Ze0 ⟨txs,ords,A,c,B,d⟩ 3=bl:=⟨_,rfl⟩
  have HV:=Lib.hid (show Zaf ⟨txs,ords,A,c,B,d⟩ 3=decide (0<bl.length) by unfold Zaf;rw[if_pos (by decide),hbl])
  rw[hbl]at CB
  rw[HV.out]
  clear hbl
  go_enter Tryz.func13,Tryz.ntmps13
  go_wp2_with fail
  refine(CB.out).mono ?_
  rintro e w1 ⟨A1,c1,rfl,_,hu1⟩
  go_wp2
  go_ret
  exact⟨rfl,U0.out.trans hu1⟩
 have q2:(p==2)=false:=by simpa using p2
 have q3:(p==3)=false:=by simpa using p3
 have hv:Zaf ⟨txs,ords,A,c,B,d⟩ p=Zaj (Zbx (Zau ⟨txs,ords,A,c,B,d⟩)) (ZdV p) (ZdT p):=by unfold Zaf;rw[if_neg (by omega)]
 rw[hv]
 clear hv
 obtain⟨l,hll⟩:∃l,Zau ⟨txs,ords,A,c,B,d⟩=l:=⟨_,rfl⟩
 have hfew:=ZnF hl
 obtain⟨n1,n2⟩:=ZiJ hl
 have CE:=Lib.hid (ZqQ HH.out n1 n2 rfl rfl hll rfl)
 rw[hll]at hfew ⊢
 obtain⟨pl,hpl⟩:∃pl,Zbx l=pl:=⟨_,rfl⟩
 have hpn:pl.length=l.length:=by rw[←hpl];unfold Zbx;rw[List.length_map]
 have HPL:=Lib.hid hpl
 rw[hpl]
 have HPN:=Lib.hid hpn
 have HF:=Lib.hid hfew
 obtain⟨M,hM⟩:∃M,ZdV p=M:=⟨_,rfl⟩
 obtain⟨T,hT⟩:∃T,ZdT p=T:=⟨_,rfl⟩
 have PM:=Lib.hid (fun W=>Zfe W p)
 rw[hM,hT]at PM ⊢
 clear hM hT hll hpl hpn p2 p3 n1 n2 hfew
 by_cases hm:M=0
 ·subst hm
  rw[ZlN]
  go_enter Tryz.func13,Tryz.ntmps13
  go_wp2_with fail
  refine(PM.out _).mono ?_
  rintro e w1 ⟨rfl,rfl⟩
  go_wp2
  go_ret
  exact⟨rfl,U0.out⟩
 ·have hmb:(M != 0)=true:=by simpa using hm
  clear hm
  go_enter Tryz.func13,Tryz.ntmps13
  go_wp2_with fail
  refine(PM.out _).mono ?_
  rintro e w1 ⟨rfl,rfl⟩
  go_wp2_with fail
  refine(CE.out).mono ?_
  rintro e w1 ⟨A1,c1,rfl,hx1,hu1⟩
  have C2:=Lib.hid (ZqP (c:=c1) hx1 (by have:=HF.out;omega) rfl HPL.out rfl)
  go_wp2_with fail
  refine(C2.out).mono ?_
  rintro e w2 ⟨A2,c2,rfl,⟨G,hx2⟩,hu2⟩
  have hu12:=hu1.trans hu2
  have C3:=Lib.hid (ZjQ G w2 A2 c2 pl M T hx2 (by have:=HF.out;have:=HPN.out;omega))
  clear hx1 hx2 hu1 hu2
  go_wp2_with fail
  refine(C3.out).mono ?_
  rintro e w3 ⟨rfl,hu3⟩
  go_wp2
  go_ret
  exact⟨rfl,U0.out.trans (hu12.trans hu3)⟩
end Go.Proofs.YtklmahmfmbppkaaGreat
/- Phenomena:all that a history has (phen.All). -/
namespace Go.Proofs.YtklmahmfmbppkaaGreat
set_option linter.unusedSimpArgs false
set_option linter.unusedVariables false
open Go.RowKit
def Zmp (h:Hist):Value:= .agg #[.bool (Zaf h 0),.bool (Zaf h 1),.bool (Zaf h 2),.bool (Zaf h 3),.bool (Zaf h 4),.bool (Zaf h 5)]
set_option maxRecDepth 100000 in
set_option maxHeartbeats 2000000 in
theorem ZsC (F:Nat→Prop) (w:World) (txs:List HTx) (ords:List HOrd) (A:Option Addr) (c:Nat) (B:Option Addr) (d:Nat) (H:Hist.lies F w ⟨txs,ords,A,c,B,d⟩) (hl:Zcy ⟨txs,ords,A,c,B,d⟩=true):
  Calls Tryz.prog 11 #[.agg #[.slice A txs.length c,.slice B ords.length d]] w fun e w'=>e= .returned (Zmp ⟨txs,ords,A,c,B,d⟩)∧Upd No w w':=by
 obtain⟨z,hz⟩:∃z,w.heap.size=z:=⟨_,rfl⟩
 obtain⟨wh,hwh⟩:∃wh,w.alloc (.cells #[.slice A txs.length c,.slice B ords.length d] 25)=wh:=⟨_,rfl⟩
 have sh:wh.heap.size=z+1:=by rw[←hwh,←hz];simp
 obtain⟨wr1,hwr1⟩:∃wr1,wh.alloc (.cells #[.bool false,.bool false,.bool false,.bool false,.bool false,.bool false] 31)=wr1:=⟨_,rfl⟩
 have sr:wr1.heap.size=z+2:=by rw[←hwr1];simp[sh]
 obtain⟨wb,hwb⟩:∃wb,wr1.alloc (.cells #[.bool false,.bool false,.bool false,.bool false,.bool false,.bool false] 31)=wb:=⟨_,rfl⟩
 have u1:Upd No w wh:=by rw[←hwh];exact(Upd.refl No w).alloc _
 have u2:Upd No wh wr1:=by rw[←hwr1];exact(Upd.refl No wh).alloc _
 have u3:Upd No wr1 wb:=by rw[←hwb];exact(Upd.refl No wr1).alloc _
 have bH:Blk wb z 25 [.slice A txs.length c,.slice B ords.length d]:=by
  have:Blk wh z 25 [.slice A txs.length c,.slice B ords.length d]:=by rw[←hwh,←hz];exact Blk.new w _ _
  exact(this.upd u2 id).upd u3 id
 have bR:Blk wb (z+1) 31 [.bool false,.bool false,.bool false,.bool false,.bool false,.bool false]:=by
  have:Blk wr1 (z+1) 31 [.bool false,.bool false,.bool false,.bool false,.bool false,.bool false]:=by rw[←hwr1,←sh];exact Blk.new wh _ _
  exact this.upd u3 id
 have bA:Blk wb (z+2) 31 (Zd6 (Zaf ⟨txs,ords,A,c,B,d⟩) 0):=by rw[ZmN,←hwb,←sr];exact Blk.new wr1 _ _
 have h0:∀W,Upd (One (z+2)) wb W→W.cell? ⟨z,0,none⟩=some (.slice A txs.length c):=fun W u=>(bH.upd u (by unfold One;omega)).cell 0
 have h1:∀W,Upd (One (z+2)) wb W→W.cell? ⟨z,1,none⟩=some (.slice B ords.length d):=fun W u=>(bH.upd u (by unfold One;omega)).cell 1
 have BR:=Lib.hid bR
 have BA:=Lib.hid bA
 have U0:=Lib.hid ((u1.trans u2).trans u3)
 have HZ:=Lib.hid hz
 have HP:=Lib.hid (fun W (u:Upd (One (z+2)) wb W) (p:Int)=>ZoE _ W txs ords A c B d p (H.upd (U0.out.then_ u (fun i e=>Or.inr (by unfold One at e;omega))) (fun _ _=>id)) hl)
 clear bH bR bA u1 u2 u3 H hl
 go_enter Tryz.func11,Tryz.ntmps11
 go_wp2
 clear hwh hwr1 hwb sh sr hz
 go_loopg [5] 6 (fun gk i wr=>∃k:Nat,k+gk=6∧i= .int .i64 (k:Int)∧Hid (Blk wr (z+2) 31 (Zd6 (Zaf ⟨txs,ords,A,c,B,d⟩) k))∧Hid (Upd (One (z+2)) wb wr))
 case atStart=>exact⟨0,by omega,rfl,BA,Lib.hid (Upd.refl _ _)⟩
 case round=>
  clear BA
  obtain⟨k,hgk,rfl,hb,hu⟩:=hrel
  by_cases hk:k<6
  ·have b1:(0:Int)≤(k:Int):=Int.natCast_nonneg _
   have b2:(k:Int)<6:=by omega
   have jw:IntKind.i64.wrap ((k:Int)+1)=(k:Int)+1:=IntWalk.i64_in _ (by omega)
   have CP:=Lib.hid (HP.out wr hu.out (k:Int))
   have hur:=hu.out
   go_wp2_with fail
   refine(CP.out).mono ?_
   rintro e w3 ⟨rfl,hu3⟩
   have b3:=hb.out.upd hu3 id
   have f3:∀i,w3.frozen? ⟨z+2,i,none⟩=false:=fun i=>b3.free i
   have c3:=b3.cell k
   have hcell:∃v,w3.cell? ⟨z+2,k,none⟩=some v:=by
    rw[c3,List.getElem?_eq_getElem (by rw[Zon];exact hk)]
    exact⟨_,rfl⟩
   obtain⟨v0,hv0⟩:=hcell
   have HB3:=Lib.hid (Zom (Zaf ⟨txs,ords,A,c,B,d⟩) k hk▸b3.set_ k (.bool (Zaf ⟨txs,ords,A,c,B,d⟩ (k:Int))))
   have HU3:=Lib.hid ((hu.out.trans (hu3.mono (fun _ _ e=>e.elim))).setOne k (.bool (Zaf ⟨txs,ords,A,c,B,d⟩ (k:Int))))
   clear b3 c3 hu3 hb hu CP
   go_wp2
   go_roundg (gk-1)
   case measure=>omega
   case rel=>exact⟨k+1,by omega,by simp,HB3,HU3⟩
  ·obtain rfl:k=6:=by omega
   have b6:=hb.out
   rw[Zol]at b6
   have a0:=b6.cell 0
   have a1:=b6.cell 1
   have a2:=b6.cell 2
   have a3:=b6.cell 3
   have a4:=b6.cell 4
   have a5:=b6.cell 5
   simp only[List.getElem?_cons_zero,List.getElem?_cons_succ]at a0 a1 a2 a3 a4 a5
   have bR:=BR.out.upd hu.out (by unfold One;omega)
   have k0:=bR.free 0
   have k1:=bR.free 1
   have k2:=bR.free 2
   have k3:=bR.free 3
   have k4:=bR.free 4
   have k5:=bR.free 5
   have d0:=bR.cell 0
   have d1:=bR.cell 1
   have d2:=bR.cell 2
   have d3:=bR.cell 3
   have d4:=bR.cell 4
   have d5:=bR.cell 5
   simp only[List.getElem?_cons_zero,List.getElem?_cons_succ]at d0 d1 d2 d3 d4 d5
   have HBR:=Lib.hid bR
   have HU:=Lib.hid hu.out
   obtain⟨v0,hv0⟩:∃v,Zaf ⟨txs,ords,A,c,B,d⟩ 0=v:=⟨_,rfl⟩
   obtain⟨v1,hv1⟩:∃v,Zaf ⟨txs,ords,A,c,B,d⟩ 1=v:=⟨_,rfl⟩
   obtain⟨v2,hv2⟩:∃v,Zaf ⟨txs,ords,A,c,B,d⟩ 2=v:=⟨_,rfl⟩
   obtain⟨v3,hv3⟩:∃v,Zaf ⟨txs,ords,A,c,B,d⟩ 3=v:=⟨_,rfl⟩
   obtain⟨v4,hv4⟩:∃v,Zaf ⟨txs,ords,A,c,B,d⟩ 4=v:=⟨_,rfl⟩
   obtain⟨v5,hv5⟩:∃v,Zaf ⟨txs,ords,A,c,B,d⟩ 5=v:=⟨_,rfl⟩
   have HAV:=Lib.hid (show Zmp ⟨txs,ords,A,c,B,d⟩= .agg #[.bool v0,.bool v1,.bool v2,.bool v3,.bool v4,.bool v5] by unfold Zmp;rw[hv0,hv1,hv2,hv3,hv4,hv5])
   rw[hv0]at a0
   rw[hv1]at a1
   rw[hv2]at a2
   rw[hv3]at a3
   rw[hv4]at a4
   rw[hv5]at a5
   clear bR hb hu b6 hv0 hv1 hv2 hv3 hv4 hv5
   go_wp2
   obtain⟨b7,u7⟩:=Zsx HBR.out (.bool v0) (.bool v1) (.bool v2) (.bool v3) (.bool v4) (.bool v5)
   have r0:=b7.cell 0
   have r1:=b7.cell 1
   have r2:=b7.cell 2
   have r3:=b7.cell 3
   have r4:=b7.cell 4
   have r5:=b7.cell 5
   simp only[List.getElem?_cons_zero,List.getElem?_cons_succ]at r0 r1 r2 r3 r4 r5
   refine bodyPost_ret (v:= .agg #[.bool v0,.bool v1,.bool v2,.bool v3,.bool v4,.bool v5]) (by simp[results,Tryz.results11,go_sem,r0,r1,r2,r3,r4,r5]) rfl ⟨by rw[HAV.out],?_⟩
   exact(U0.out.then_ HU.out (fun i e=>Or.inr (by unfold One at e;have:=HZ.out;omega))).then_ u7 (fun i e=>Or.inr (by unfold One at e;have:=HZ.out;omega))
end Go.Proofs.YtklmahmfmbppkaaGreat
/- Phenomena:the answers that the document gives. -/
namespace Go.Proofs.YtklmahmfmbppkaaGreat
set_option linter.unusedSimpArgs false
set_option linter.unusedVariables false
open Go.RowKit
theorem ZgU (w:World):Calls Tryz.prog 37 #[] w fun e w'=>∃N,e= .returned (.agg #[.slice (some ⟨N+1+1+1,0,none⟩) 2 2,.slice (some ⟨N+1+1+1+1+1+1,0,none⟩) 2 2])∧(Zx N).lies (fun _=>True) w'∧Upd No w w':=
 (ZrJ w).mono fun e w' h=>⟨_,h⟩
theorem ph0 (n:Nat):Zcy (Zx n)=true:=by kernel_rfl
theorem ZsB (n:Nat):Zcy ⟨(Zx n).txs,[],(Zx n).A,(Zx n).c,none,0⟩=true:=by kernel_rfl
theorem ph1 (n:Nat):Zaf (Zx n) 5=true:=by kernel_rfl
theorem ph2 (n:Nat):Zaf (Zx n) 4=false:=by kernel_rfl
theorem ph3 (n:Nat):Zaf (Zx n) 9=false:=by kernel_rfl
theorem ph4 (n:Nat):Zaf ⟨(Zx n).txs,[],(Zx n).A,(Zx n).c,none,0⟩ 5=false:=by kernel_rfl
theorem phA (n:Nat):Zmp (Zx n)= .agg #[.bool false,.bool false,.bool false,.bool false,.bool false,.bool true]:=by kernel_rfl
def f1:Edge:=⟨1,2,1,0⟩
def f2:Edge:=⟨2,1,3,-1⟩
theorem pr1:Zaj [f1,f2] 14 8=true:=by kernel_rfl
theorem pr2:Zaj [f1,f2] 14 4=false:=by kernel_rfl
theorem pr3:Zaj [f1,f2] 2 0=false:=by kernel_rfl
theorem pr4:Zaj [f1,f2] 14 0=true:=by kernel_rfl
section
variable {F:Nat→Prop} {w:World} {N:Nat} {p:Int} {b:Bool}
theorem ZlK (H:(Zx N).lies F w) (hb:Zaf (Zx N) p=b):Calls Tryz.prog 13 #[.agg #[.slice (some ⟨N+1+1+1,0,none⟩) 2 2,.slice (some ⟨N+1+1+1+1+1+1,0,none⟩) 2 2],.int .i64 p] w fun e w'=>e= .returned (.bool b)∧Upd No w w':=by
 subst hb
 exact ZoE F w (Zx N).txs (Zx N).ords _ 2 _ 2 p H (ph0 N)
theorem ZqU (H:(Zx N).lies F w) (hb:Zaf ⟨(Zx N).txs,[],(Zx N).A,(Zx N).c,none,0⟩ p=b):Calls Tryz.prog 13 #[.agg #[.slice (some ⟨N+1+1+1,0,none⟩) 2 2,.slice none 0 0],.int .i64 p] w fun e w'=>e= .returned (.bool b)∧Upd No w w':=by
 subst hb
 exact ZoE F w (Zx N).txs [] _ 2 none 0 p (ZoT H) (ZsB N)
theorem ZrM (H:(Zx N).lies F w):Calls Tryz.prog 11 #[.agg #[.slice (some ⟨N+1+1+1,0,none⟩) 2 2,.slice (some ⟨N+1+1+1+1+1+1,0,none⟩) 2 2]] w fun e w'=>e= .returned (.agg #[.bool false,.bool false,.bool false,.bool false,.bool false,.bool true])∧Upd No w w':=by
 rw[←phA N]
 exact ZsC F w (Zx N).txs (Zx N).ords _ 2 _ 2 H (ph0 N)
theorem ZgX {A:Option Addr} {c:Nat} {mask must:Int} (h:EdX w A [f1,f2]) (hb:Zaj [f1,f2] mask must=b):Calls Tryz.prog 16 #[.slice A 2 c,.int .i64 mask,.int .i64 must] w fun e w'=>e= .returned (.bool b)∧Upd No w w':=by
 subst hb
 obtain⟨G,h⟩:=h
 exact ZjQ G w A c [f1,f2] mask must h (by decide)
end
set_option maxRecDepth 100000 in
set_option maxHeartbeats 8000000 in
theorem Zqk (w:World):Calls Tryz.prog 9 #[] w fun e w'=>e= .returned (.bool true)∧Upd No w w':=by
 have M5:=Lib.hid (show∀W,Calls Tryz.prog 10 #[.int .i64 5] W fun e w'=>e= .returned (.tuple #[.int .i64 14,.int .i64 8])∧W=w' from fun W=>Zfe W 5)
 have M4:=Lib.hid (show∀W,Calls Tryz.prog 10 #[.int .i64 4] W fun e w'=>e= .returned (.tuple #[.int .i64 6,.int .i64 0])∧W=w' from fun W=>Zfe W 4)
 have M2:=Lib.hid (show∀W,Calls Tryz.prog 10 #[.int .i64 2] W fun e w'=>e= .returned (.tuple #[.int .i64 0,.int .i64 0])∧W=w' from fun W=>Zfe W 2)
 have M1:=Lib.hid (show∀W,Calls Tryz.prog 10 #[.int .i64 1] W fun e w'=>e= .returned (.tuple #[.int .i64 2,.int .i64 0])∧W=w' from fun W=>Zfe W 1)
 obtain⟨wb,hwb⟩:∃wb,w.alloc (.cells #[.int .i64 1,.int .i64 2,.int .i64 1,.int .i64 0,.int .i64 2,.int .i64 1,.int .i64 3,.int .i64 (-1)] 61)=wb:=⟨_,rfl⟩
 have u0:Upd No w wb:=by rw[←hwb];exact(Upd.refl No w).alloc _
 have bL:Blk wb w.heap.size 61 [.int .i64 1,.int .i64 2,.int .i64 1,.int .i64 0,.int .i64 2,.int .i64 1,.int .i64 3,.int .i64 (-1)]:=by rw[←hwb];exact Blk.new w _ _
 have HL:=Lib.hid (show EdX wb (some ⟨w.heap.size,0,none⟩) [f1,f2] from ZqC bL rfl)
 have HU:=Lib.hid u0
 have h6:= @Zmm
 have h5:∀(W:World) (A B:Option Addr) (n m c d:Nat),(Instr.field 25 (.agg #[.slice A n c,.slice B m d]) 0).run Tryz.prog W= .ok (.slice A n c) W:=fun W A B n m c d=>by kernel_rfl
 clear u0 bL
 go_enter Tryz.func9,Tryz.ntmps9
 go_wp2_with fail
 refine(M5.out _).mono ?_
 rintro e w1 ⟨rfl,rfl⟩
 go_wp2_with fail
 refine(M4.out _).mono ?_
 rintro e w1 ⟨rfl,rfl⟩
 go_wp2_with fail
 refine(M2.out _).mono ?_
 rintro e w1 ⟨rfl,rfl⟩
 go_wp2_with fail
 refine(M1.out _).mono ?_
 rintro e w1 ⟨rfl,rfl⟩
 have hx:Upd No wb wb:=Upd.refl _ _
 go_wp2_with fail
 refine(ZgU _).mono ?_
 rintro e s1 ⟨N1,rfl,hs1,hu1⟩
 have uu1:=hx.trans hu1
 go_wp2_with fail
 refine(ZrM hs1).mono ?_
 rintro e q1 ⟨rfl,hv1⟩
 have uu2:=uu1.trans hv1
 go_wp2_with fail
 refine(ZgU _).mono ?_
 rintro e s2 ⟨N2,rfl,hs2,hu2⟩
 have uu3:=uu2.trans hu2
 go_wp2_with fail
 refine(ZlK hs2 (ph1 _)).mono ?_
 rintro e q2 ⟨rfl,hv2⟩
 have uu4:=uu3.trans hv2
 go_wp2_with fail
 refine(ZgU _).mono ?_
 rintro e s3 ⟨N3,rfl,hs3,hu3⟩
 have uu5:=uu4.trans hu3
 go_wp2_with fail
 refine(ZlK hs3 (ph2 _)).mono ?_
 rintro e q3 ⟨rfl,hv3⟩
 have uu6:=uu5.trans hv3
 go_wp2_with fail
 refine(ZgU _).mono ?_
 rintro e s4 ⟨N4,rfl,hs4,hu4⟩
 have uu7:=uu6.trans hu4
 go_wp2_with fail
 refine(ZlK hs4 (ph3 _)).mono ?_
 rintro e q4 ⟨rfl,hv4⟩
 have uu8:=uu7.trans hv4
 go_wp2_with fail
 refine(ZgU _).mono ?_
 rintro e s5 ⟨N5,rfl,hs5,hu5⟩
 have uu9:=uu8.trans hu5
 go_wp2_with fail
 refine(ZqU hs5 (ph4 _)).mono ?_
 rintro e q5 ⟨rfl,hv5⟩
 have uu10:=uu9.trans hv5
 go_wp2_with fail
 refine(ZgX (HL.out.upd uu10) pr1).mono ?_
 rintro e q6 ⟨rfl,hv6⟩
 have uu11:=uu10.trans hv6
 go_wp2_with fail
 refine(ZgX (HL.out.upd uu11) pr2).mono ?_
 rintro e q7 ⟨rfl,hv7⟩
 have uu12:=uu11.trans hv7
 go_wp2_with fail
 refine(ZgX (HL.out.upd uu12) pr3).mono ?_
 rintro e q8 ⟨rfl,hv8⟩
 have uu13:=uu12.trans hv8
 go_wp2_with fail
 refine(ZgX (HL.out.upd uu13) pr4).mono ?_
 rintro e q9 ⟨rfl,hv9⟩
 have uu14:=uu13.trans hv9
 go_wp2
 go_ret
 exact⟨rfl,HU.out.trans uu14⟩
end Go.Proofs.YtklmahmfmbppkaaGreat
/- Witnesses:of edges,of reads,of a history:the program's and the document's. -/
namespace Go.Proofs.YtklmahmfmbppkaaGreat
set_option linter.unusedSimpArgs false
set_option linter.unusedVariables false
open Go.RowKit
theorem ToldC.no {w:World} {d:List Edge} {e:Ending} {w':World} (h:ToldC w d e w') (hd:d=[]):∃A c,e= .returned (.tuple #[.slice A 0 c,.int .i64 3])∧Upd No w w':=by
 obtain⟨A,c,rfl,_,hu⟩:=h
 subst hd
 exact⟨A,c,rfl,hu⟩
theorem ToldC.yes {w:World} {d:List Edge} {e:Ending} {w':World} (h:ToldC w d e w') (hd:d≠[]):∃A c,e= .returned (.tuple #[.slice A d.length c,.int .i64 0])∧Walk (fun i=>w.heap.size≤i) w' A d∧Upd No w w':=by
 obtain⟨A,c,rfl,ho,hu⟩:=h
 rw[if_neg (by rw[List.length_eq_zero_iff];exact hd)]
 exact⟨A,c,rfl,Recs.weak (Recs.of_own ZaD (by omega) ho) (fun i _ e=>(ho.lt i e).1),hu⟩
end Go.Proofs.YtklmahmfmbppkaaGreat
/- Phenomena:the laws that they are what the document says,and that a walk is found just if there is one:the walks. -/
namespace Go.Proofs.YtklmahmfmbppkaaGreat
set_option linter.unusedSimpArgs false
set_option linter.unusedVariables false
open Go.RowKit
def Zn2:Prop:=∀w:World,Calls Tryz.prog 9 #[] w fun e w'=>e= .returned (.bool true)∧Upd No w w'
set_option maxRecDepth 100000 in
set_option maxHeartbeats 4000000 in
theorem ZqA (F:Nat→Prop) (w:World) (A:Option Addr) (c:Nat) (l:List Edge) (mask must:Int) (h:Walk F w A l) (L:Hid Zn2):
  Calls Tryz.prog 5 #[.slice A l.length c,.int .i64 mask,.int .i64 must] w fun e w'=>e= .returned (.bool true)∧Upd No w w':=by
 by_cases h1:80<l.length
 ·have i1:(80:Int)<(l.length:Int):=by omega
  go_enter Tryz.func5,Tryz.ntmps5
  go_wp2_with fail
  refine(L.out _).mono ?_
  rintro e w1 ⟨rfl,hu1⟩
  go_wp2
  go_ret
  exact⟨rfl,hu1⟩
 have i1:¬(80:Int)<(l.length:Int):=by omega
 have HA:=Lib.hid (fun W (u:Upd No w W)=>Recs.upd h u (fun _ _=>id))
 have hl:l.length≤2000:=by omega
 have CS:=Lib.hid (fun W (u:Upd No w W)=>ZnP F W A c l mask must (HA.out W u) hl)
 have CR:=Lib.hid (fun W (u:Upd No w W)=>ZjQ F W A c l mask must (HA.out W u) hl)
 have hrd:=ZmP l mask must (by omega)
 clear h h1
 by_cases hd:ZcM l mask must=[]
 ·have hr:Zaj l mask must=false:=by
   cases hq:Zaj l mask must with
   |false=>rfl
   |true=>exact absurd hd (hrd.1 hq)
  have HD:=Lib.hid hd
  rw[hr]at CR
  clear hrd hd hr
  go_enter Tryz.func5,Tryz.ntmps5
  go_wp2_with fail
  refine(L.out _).mono ?_
  rintro e w1 ⟨rfl,hu1⟩
  go_wp2_with fail
  refine(CS.out _ hu1).mono ?_
  rintro e w2 h2
  obtain⟨A2,c2,rfl,hu2⟩:=h2.no HD.out
  have hu12:=hu1.trans hu2
  clear h2
  go_wp2_with fail
  refine(CR.out _ hu12).mono ?_
  rintro e w3 ⟨rfl,hu3⟩
  go_wp2
  go_ret
  exact⟨rfl,hu12.trans hu3⟩
 ·have hr:Zaj l mask must=true:=hrd.2 hd
  have HD:=Lib.hid hd
  rw[hr]at CR
  clear hrd hd hr
  go_enter Tryz.func5,Tryz.ntmps5
  go_wp2_with fail
  refine(L.out _).mono ?_
  rintro e w1 ⟨rfl,hu1⟩
  go_wp2_with fail
  refine(CS.out _ hu1).mono ?_
  rintro e w2 h2
  obtain⟨A2,c2,rfl,_,hu2⟩:=h2.yes HD.out
  have hu12:=hu1.trans hu2
  clear h2
  go_wp2_with fail
  refine(CR.out _ hu12).mono ?_
  rintro e w3 ⟨rfl,hu3⟩
  go_wp2
  go_ret
  exact⟨rfl,hu12.trans hu3⟩
end Go.Proofs.YtklmahmfmbppkaaGreat
