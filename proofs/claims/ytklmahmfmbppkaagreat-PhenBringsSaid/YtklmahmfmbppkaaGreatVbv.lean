/- Edges of a history: dsg.list. -/
import Derived.Test.YtklmahmfmbppkaaGreatVbe
import Derived.Test.YtklmahmfmbppkaaGreatVbi
import Derived.Test.YtklmahmfmbppkaaGreatVbj
import Derived.Test.YtklmahmfmbppkaaGreatVbm
namespace Go.Proofs.YtklmahmfmbppkaaGreat
set_option linter.unusedVariables false
set_option linter.unusedSimpArgs false
section
open Go.RowKit
structure Hvy where
 e:Edge
 n:Int
deriving DecidableEq
def Hvy.cells (h:Hvy):List Value:=[.int .i64 h.e.f,.int .i64 h.e.t,.int .i64 h.e.k,.int .i64 h.e.key,.int .i64 h.n]
def Zc2 (l:List Hvy):List Value:=(l.map Hvy.cells).flatten
theorem Zrs {l:List Hvy}:∀r∈l.map Hvy.cells,r.length=5:=fun r hr=>by
 obtain⟨e,_,rfl⟩:=List.mem_map.1 hr;rfl
theorem ZiM (l:List Hvy) (x:Hvy):Zc2 (l++[x])=Zc2 l++x.cells:=by unfold Zc2;simp
def Hvys (F:Nat→Prop) (w:World) (A:Option Addr) (l:List Hvy):Prop:=Recs F w A 5 (l.map Hvy.cells)
theorem Hvys.upd {F S:Nat→Prop} {w w':World} {A:Option Addr} {l:List Hvy} (h:Hvys F w A l) (k:Upd S w w') (hn:∀i,F i→¬S i):Hvys F w' A l:=Recs.upd h k hn
theorem Zk8:SlT Tryz.prog 45 89 5 40:=SlT.mk_ Tryz.underlying45 (z:= .agg #[.int .i64 0,.int .i64 0,.int .i64 0,.int .i64 0,.int .i64 0]) (by kernel_rfl) rfl (by omega)
def ZmT (w:World) (l:List Hvy) (e:Ending) (w':World):Prop:=∃A c,e= .returned (.slice A l.length c)∧w'.ownsRow w.heap.size 89 5 (.slice A l.length c) l.length (Zc2 l)∧Upd No w w'
def hvL (g:Edge→Nat) (l:List Edge):List Hvy:=l.map fun e=>⟨e,(g e:Int)⟩
theorem ZpH {g:Edge→Nat} {l:List Edge} {k:Nat} {x:Edge} (hk:k<l.length) (hx:l[k]=x):hvL g (l.take (k+1))=hvL g (l.take k)++[⟨x,(g x:Int)⟩]:=by
 subst hx;unfold hvL;rw[List.take_succ_eq_append_getElem hk,List.map_append];rfl
set_option maxRecDepth 100000 in
set_option maxHeartbeats 8000000 in
theorem ZtL (w:World) (bc:Nat) (mc:List (Edge×Value)) (g:Edge→Nat) (hm:MapE w bc ZU mc) (hg:CntM mc g) (hl:mc.length≤1000000):
  Calls Tryz.prog 56 #[.map (some bc)] w (ZmT w (hvL g (ddE (mc.map (·.1))))):=by
 obtain⟨es,hes⟩:∃es,ddE (mc.map (·.1))=es:=⟨_,rfl⟩;rw[hes];have HES:=Qh hes;clear hes;obtain⟨w1,hw1⟩:∃w1,w.alloc (.cells #[.map (some bc)] 91)=w1:=⟨_,rfl⟩;have u1:Upd No w w1:=by rw[←hw1];exact(Upd.refl No w).alloc _
 have b1:Blk w1 w.heap.size 91 [.map (some bc)]:=by rw[←hw1];exact Blk.new w _ _
 have HK:=Qh (ZtC w (some bc));rw[hw1]at HK;have HC:=Qh (ZpX w1 w.heap.size bc mc (by simpa using b1.cell 0) (hm.upd u1 id) hl);have HM:=Qh hm;have HG:=Qh hg;have HU1:=Qh u1;have HKL:=Qh (show(mc.map (·.1)).length≤1000000 by rw[List.length_map];exact hl);clear hm hg hw1 u1 b1
 go_enter Tryz.func56,Tryz.ntmps56
 go_wp2_with fail
 refine(HK.out).mono ?_;rintro e w2 ⟨rfl,rfl⟩
 go_wp2_with fail
 refine(HC.out).mono ?_;rintro e w3 ⟨A3,c3,ks,rfl,hpm,ho3,hu3⟩;have HP:=Qh (Zto (Own (.slice A3 ks.length c3)) w3 A3 c3 ks (Recs.of_own Zai (by omega) ho3) (by have:=hpm.length_eq;have:=HKL.out;omega));rw[Zky hpm]at HP;have hv3:=HU1.out.trans hu3;clear hpm ho3 hu3
 have hel:es.length≤1000000:=by
  rw[←HES.out];have h1:=ZlM (ZaZ (mc.map (·.1))) (mc.map (·.1)).length;have h2:=HKL.out;unfold ddE;omega
 rw[HES.out]at HP
 go_wp2_with fail
 refine(HP.out).mono ?_;rintro e w4 ⟨A4,c4,rfl,hx4,hu4⟩;have HV4:=Qh (hv3.trans hu4);obtain⟨G4,hx4⟩:=hx4;have HX4:=Qh hx4;clear hx4 hu4 hv3;go_wp2
 go_loopg [3,11] es.length (fun gk s i wr=>∃(k:Nat) (A5:Option Addr) (c5:Nat) (xs:List Hvy),k+gk=es.length∧i= .int .i64 k∧s= .slice A5 xs.length c5∧Hid (xs=hvL g (es.take k))∧Hid (wr.ownsRow w4.heap.size 89 5 (.slice A5 xs.length c5) xs.length (Zc2 xs))∧Upd No w4 wr)
 case atStart=>exact⟨0,none,0,[],by omega,rfl,rfl,Qh rfl,Qh (World.ownsRow_nil _ _ _ _),Upd.refl _ _⟩
 case round=>
  obtain⟨k,A5,c5,xs,hgk,rfl,rfl,hs,hown,hu⟩:=hrel;have hxl:xs.length≤1000000:=by rw[hs.out];unfold hvL;rw[List.length_map,List.length_take];omega
  by_cases hlt:k<es.length
  ·obtain⟨ax,rfl,q0,q1,q2,q3⟩:=Walk.at_ (Walk.upd HX4.out hu (fun _ _=>id)) hlt;obtain⟨x,hxx⟩:∃x,es[k]=x:=⟨_,rfl⟩;rw[hxx]at q0 q1 q2 q3;have HS:=Qh (show xs++[⟨x,(g x:Int)⟩]=hvL g (es.take (k+1)) by rw[hs.out];exact(ZpH hlt hxx).symm);have i1:(0:Int)≤(k:Int):=Qn _;have i2:(k:Int)<(es.length:Int):=by omega
   obtain⟨wx,hwx⟩:∃wx,wr.alloc (.cells #[.int .i64 x.f,.int .i64 x.t,.int .i64 x.k,.int .i64 x.key] 61)=wx:=⟨_,rfl⟩;have ux:Upd No wr wx:=by rw[←hwx];exact(Upd.refl No wr).alloc _
   have bo:Blk wx wr.heap.size 61 [.int .i64 x.f,.int .i64 x.t,.int .i64 x.k,.int .i64 x.key]:=by rw[←hwx];exact Blk.new wr _ _
   have d0:∀W,Upd (Own (.slice A5 xs.length c5)) wx W→W.cell? ⟨wr.heap.size,0,none⟩=some (.int .i64 x.f):=fun W u=>by have:=(bo.upd u (fun e=>by have:=(hown.out.lt _ e).2;omega)).cell 0;simpa using this
   have d1:∀W,Upd (Own (.slice A5 xs.length c5)) wx W→W.cell? ⟨wr.heap.size,1,none⟩=some (.int .i64 x.t):=fun W u=>by have:=(bo.upd u (fun e=>by have:=(hown.out.lt _ e).2;omega)).cell 1;simpa using this
   have d2:∀W,Upd (Own (.slice A5 xs.length c5)) wx W→W.cell? ⟨wr.heap.size,2,none⟩=some (.int .i64 x.k):=fun W u=>by have:=(bo.upd u (fun e=>by have:=(hown.out.lt _ e).2;omega)).cell 2;simpa using this
   have d3:∀W,Upd (Own (.slice A5 xs.length c5)) wx W→W.cell? ⟨wr.heap.size,3,none⟩=some (.int .i64 x.key):=fun W u=>by have:=(bo.upd u (fun e=>by have:=(hown.out.lt _ e).2;omega)).cell 3;simpa using this
   obtain⟨N,hN⟩:∃N,g x=N:=⟨_,rfl⟩;rw[hN]at HS;have HWX:=Qh ((HV4.out.trans hu).trans ux)
   have L1:∀W,Upd (Own (.slice A5 xs.length c5)) wx W→(Instr.lookup 91 (.map (some bc)) (.agg #[.int .i64 x.f,.int .i64 x.t,.int .i64 x.k,.int .i64 x.key]) false).run Tryz.prog W= .ok (.int .i64 (N:Int)) W:=fun W u=>by
    have:=Zm Zbd Tryz.underlying91 Zah ((HM.out.upd (S:=No) HWX.out id).upd u (fun e=>by have h1:=(hown.out.lt _ e).1;have h2:=HM.out.lt;have h3:=HV4.out.size;omega)).is x
    rwa [HG.out.val,hN]at this
   have HO:=Qh (Za hown.out ux (fun _ _=>id));have HUX:=Qh (hu.trans ux);have HSZ:=Qh (show w4.heap.size≤wx.heap.size from(hu.trans ux).size);have hxz:Upd (Own (.slice A5 xs.length c5)) wx wx:=Upd.refl _ _;have hzd:Upd No wx (wx.alloc (.cells #[.int .i64 x.f,.int .i64 x.t,.int .i64 x.k,.int .i64 x.key,.int .i64 (N:Int)] 89)).drew:=((Upd.refl No wx).alloc _).drew;clear hxx bo ux hN hown;go_wp2;refine wp_region_noPanic ?_;refine wp_region_held_drew (S:=(fun W'=>Upd (Own (.slice A5 xs.length c5)) wx W')) (by kernel_rfl) ?_ (fun hHeld=> ?_)
   ·(first|exact(Upd.refl _ wx).drew|exact hHeld|exact hHeld.alloc _|exact hU6)
   refine wpK 0 rfl ?_;refine wpK 1 rfl ?_;refine wpK 2 rfl ?_;refine wpK 3 rfl ?_;refine wpR [4] ?_;refine wpC rfl (fun K hK=> ?_) AllReadyH.nil;go_simp;refine hK.out _ _ ?_ (fun hHeld=> ?_)
   ·(first|exact(Upd.refl _ wx).drew|exact hHeld|exact hHeld.alloc _|exact hU6)
   clear hK K
   try simp only[Act.put,sT,sS,sZ]
   refine wpK 5 rfl ?_;refine wpR [6] ?_;refine wpC rfl (fun K hK=> ?_) AllReadyH.nil;go_simp;refine hK.out _ _ ?_ (fun hHeld=> ?_)
   ·(first|exact(Upd.refl _ wx).drew|exact hHeld|exact hHeld.alloc _|exact hU6)
   clear hK K
   try simp only[Act.put,sT,sS,sZ]
   refine wpR [7] ?_;refine wpC rfl (fun K hK=> ?_) AllReadyH.nil
   (first
  |(refine ZbC (by rfl) (by rfl) Zk8 (v:= .slice A5 xs.length c5) (n:=xs.length) (xs:=Zc2 xs) (cells:=[.int .i64 x.f,.int .i64 x.t,.int .i64 x.k,.int .i64 x.key,.int .i64 (N:Int)]) (by rfl) (by rfl) (by exact Za HO.out hzd (fun _ _=>id)) rfl (by exact ZbG) (by rfl) (by omega) (by omega) (by have:=HSZ.out;simp;omega) ?_;intro g6 c6 w6 hown6 hu6 hg6 hlt6;have hU6:Upd (Own (.slice A5 xs.length c5)) wx w6:=hHeld.trans hu6))
   refine hK.out _ _ ?_ (fun hHeld=> ?_)
   ·(first|exact(Upd.refl _ wx).drew|exact hHeld|exact hHeld.alloc _|exact hU6)
   clear hK K
   try simp only[Act.put,sT,sS,sZ]
   refine wpK 8 rfl ?_;refine wpD (NoPanic.normal ?_);have HU6:=Qh hHeld;clear hHeld;go_wp2
   go_roundg (gk-1)
   case measure=>omega
   case rel=>
    have hl1:(xs++[(⟨x,(N:Int)⟩:Hvy)]).length=xs.length+1:=by simp
    exact⟨k+1,some ⟨g6,0,none⟩,c6,xs++[⟨x,(N:Int)⟩],by omega,by go_num,by rw[hl1],HS,Qh (by rw[hl1,ZiM];exact hown6),HUX.out.then_ HU6.out (fun i e=>Or.inr (HO.out.lt i e).1)⟩
  ·obtain rfl:k=es.length:=by omega
   go_wp2
   go_ret
   have h1:=hs.out;rw[List.take_length]at h1;subst h1;exact⟨A5,c5,rfl,ZY hown.out HV4.out.size,HV4.out.trans hu⟩
end
/- Edges of a history:dsg.Edges,Of,Count,Plain. -/
section
open Go.RowKit
def ZpU (g:Edge→Nat):Prop:=∀mc:List (Edge×Value),CntM mc g→mc.length≤1000000
def ZmV (g:Edge→Nat) (l:List Hvy):Prop:=∀mc:List (Edge×Value),CntM mc g→hvL g (ddE (mc.map (·.1)))=l
section
variable {F:Nat→Prop} {w:World} {txs:List HTx} {ords:List HOrd} {A:Option Addr} {c:Nat} {B:Option Addr} {d:Nat} {l:List Hvy}
set_option maxRecDepth 100000 in
set_option maxHeartbeats 4000000 in
theorem ZsM (H:Hist.lies F w ⟨txs,ords,A,c,B,d⟩) (hf:ZpU (Zc3 (fun _=>true) ⟨txs,ords,A,c,B,d⟩)) (he:ZmV (Zc3 (fun _=>true) ⟨txs,ords,A,c,B,d⟩) l):
  Calls Tryz.prog 20 #[.agg #[.slice A txs.length c,.slice B ords.length d]] w (ZmT w l):=by
 obtain⟨w1,hw1⟩:∃w1,w.alloc (.cells #[.slice A txs.length c,.slice B ords.length d] 25)=w1:=⟨_,rfl⟩;have u1:Upd No w w1:=by rw[←hw1];exact(Upd.refl No w).alloc _
 have b1:Blk w1 w.heap.size 25 [.slice A txs.length c,.slice B ords.length d]:=by rw[←hw1];exact Blk.new w _ _
 have HC:=Qh (Zom F w1 txs ords A c B d (fun _=>true) (H.upd u1 (fun _ _=>id)) (Qh (fun W key _=>ZrK W key)));have d0:=b1.cell 0;have d1:=b1.cell 1;simp only[Qz,Qs]at d0 d1;have HU1:=Qh u1;have HF:=Qh hf;have HE:=Qh he;clear b1 u1 hf he H
 go_enter Tryz.func20,Tryz.ntmps20
 go_wp2_with fail
 refine(HC.out).mono ?_;rintro e w2 ⟨bc,mc,rfl,hbc,hm,hg,hu2⟩;have HL:=Qh (ZtL w2 bc mc _ hm hg (HF.out mc hg));rw[HE.out mc hg]at HL;have hv2:=HU1.out.trans hu2;clear hbc hm hg hu2
 go_wp2_with fail
 refine(HL.out).mono ?_;rintro e w3 ⟨A3,c3,rfl,ho3,hu3⟩;go_wp2
 go_ret
 exact⟨A3,c3,rfl,ZY ho3 hv2.size,hv2.trans hu3⟩
end
end
/- Edges of a history,the document's:those of a key,without counts;whether two lists are one. -/
section
open Go.RowKit
theorem Hvys.at_ {F:Nat→Prop} {w:World} {A:Option Addr} {l:List Hvy} (h:Hvys F w A l) {k:Nat} (hk:k<l.length):∃ad,A=some ad∧
  w.cell? (ad.add (k*5))=some (.int .i64 l[k].e.f)∧w.cell? ⟨(ad.add (k*5)).block,(ad.add (k*5)).off+1,none⟩=some (.int .i64 l[k].e.t)∧
  w.cell? ⟨(ad.add (k*5)).block,(ad.add (k*5)).off+2,none⟩=some (.int .i64 l[k].e.k)∧w.cell? ⟨(ad.add (k*5)).block,(ad.add (k*5)).off+3,none⟩=some (.int .i64 l[k].e.key)∧
  w.cell? ⟨(ad.add (k*5)).block,(ad.add (k*5)).off+4,none⟩=some (.int .i64 l[k].n):=by
 have hk':k<(l.map Hvy.cells).length:=by simpa using hk
 obtain⟨ad,e,_,_,hc⟩:=Recs.at_ h hk';rw[List.getElem_map]at hc;exact⟨ad,e,by simpa using hc 0 _ rfl,by simpa using hc 1 _ rfl,by simpa using hc 2 _ rfl,by simpa using hc 3 _ rfl,by simpa using hc 4 _ rfl⟩
def Zw (l:List Hvy):List Edge:=l.map (·.e)
theorem Zf5 {l:List Hvy} {k:Nat} {x:Hvy} (hk:k<l.length) (hx:l[k]=x):Zw (l.take (k+1))=Zw (l.take k)++[x.e]:=by
 subst hx;unfold Zw;rw[List.take_succ_eq_append_getElem hk,List.map_append];rfl
def ZdP (l:List Edge):List Value:=(l.map Edge.cells).flatten
theorem ZgS (xs:List Edge) (e:Edge):ZdP (xs++[e])=ZdP xs++e.cells:=by unfold ZdP;simp
def ZqJ (w:World) (l:List Edge) (e:Ending) (w':World):Prop:=∃A c,e= .returned (.slice A l.length c)∧w'.ownsRow w.heap.size 61 4 (.slice A l.length c) l.length (ZdP l)∧Upd No w w'
set_option maxRecDepth 100000 in
set_option maxHeartbeats 4000000 in
theorem ZsL (F:Nat→Prop) (w:World) (A:Option Addr) (c:Nat) (l:List Hvy) (h:Hvys F w A l) (hl:l.length≤1000000):Calls Tryz.prog 19 #[.slice A l.length c] w (ZqJ w (Zw l)):=by
 go_enter Tryz.func19,Tryz.ntmps19
 go_wp2
 go_loopg [3,8] l.length (fun gk s i wr=>∃(k:Nat) (A5:Option Addr) (c5:Nat) (xs:List Edge),k+gk=l.length∧i= .int .i64 k∧s= .slice A5 xs.length c5∧Hid (xs=Zw (l.take k))∧Hid (wr.ownsRow w.heap.size 61 4 (.slice A5 xs.length c5) xs.length (ZdP xs))∧Upd No w wr)
 case atStart=>exact⟨0,none,0,[],by omega,rfl,rfl,Qh rfl,Qh (World.ownsRow_nil _ _ _ _),Upd.refl _ _⟩
 case round=>
  obtain⟨k,A5,c5,xs,hgk,rfl,rfl,hs,hown,hu⟩:=hrel;have hxl:xs.length≤1000000:=by rw[hs.out];unfold Zw;rw[List.length_map,List.length_take];omega
  by_cases hlt:k<l.length
  ·obtain⟨ax,rfl,q0,q1,q2,q3,q4⟩:=(h.upd hu (fun _ _=>id)).at_ hlt;obtain⟨⟨⟨xf,xt,xk,xy⟩,xn⟩,hxx⟩:∃x,l[k]=x:=⟨_,rfl⟩;rw[hxx]at q0 q1 q2 q3 q4;simp only at q0 q1 q2 q3 q4;have i1:(0:Int)≤(k:Int):=Qn _;have i2:(k:Int)<(l.length:Int):=by omega
   obtain⟨wx,hwx⟩:∃wx,wr.alloc (.cells #[.int .i64 xf,.int .i64 xt,.int .i64 xk,.int .i64 xy,.int .i64 xn] 89)=wx:=⟨_,rfl⟩;have ux:Upd No wr wx:=by rw[←hwx];exact(Upd.refl No wr).alloc _
   have bo:Blk wx wr.heap.size 89 [.int .i64 xf,.int .i64 xt,.int .i64 xk,.int .i64 xy,.int .i64 xn]:=by rw[←hwx];exact Blk.new wr _ _
   have d0:=bo.cell 0;have d1:=bo.cell 1;have d2:=bo.cell 2;have d3:=bo.cell 3;have d4:=bo.cell 4;simp only[Qz,Qs]at d0 d1 d2 d3 d4;have HUX:=Qh (hu.trans ux);have HO:=Qh (Za hown.out ux (fun _ _=>id));have hsz:=(hu.trans ux).size;have HS:=Qh (show xs++[⟨xf,xt,xk,xy⟩]=Zw (l.take (k+1)) by rw[hs.out];exact(Zf5 hlt hxx).symm);clear hxx bo ux hown
   go_wp2_with (at_builtin;refine Z0 rfl rfl ZcQ (base:=w.heap.size) (v:= .slice A5 xs.length c5) (n:=xs.length) (xs:=ZdP xs) (cells:=[.int .i64 xf,.int .i64 xt,.int .i64 xk,.int .i64 xy]) (by rfl) (by rfl) HO.out rfl rfl (by omega) (by omega) (by omega) ?_;intro g9 c9 w9 hown9 hu9 hg9 hlt9)
   go_roundg (gk-1)
   case measure=>omega
   case rel=>
    have hl1:(xs++[(⟨xf,xt,xk,xy⟩:Edge)]).length=xs.length+1:=by simp
    exact⟨k+1,some ⟨g9,0,none⟩,c9,xs++[⟨xf,xt,xk,xy⟩],by omega,by go_num,by rw[hl1],HS,Qh (by rw[hl1,ZgS];exact hown9),HUX.out.then_ hu9 (fun i e=>Or.inr (HO.out.lt i e).1)⟩
  ·obtain rfl:k=l.length:=by omega
   go_wp2
   go_ret
   have h1:=hs.out;rw[List.take_length]at h1;subst h1;exact⟨A5,c5,rfl,hown.out,hu⟩
set_option maxRecDepth 100000 in
set_option maxHeartbeats 4000000 in
theorem Zo5 (F:Nat→Prop) (w:World) (A:Option Addr) (c:Nat) (l:List Hvy) (h:Hvys F w A l) (hl:l.length≤1000000):Calls Tryz.prog 39 #[.slice A l.length c] w (ZqJ w (Zw l)):=by
 go_enter Tryz.func39,Tryz.ntmps39
 go_wp2
 go_loopg [3,8] l.length (fun gk s i wr=>∃(k:Nat) (A5:Option Addr) (c5:Nat) (xs:List Edge),k+gk=l.length∧i= .int .i64 k∧s= .slice A5 xs.length c5∧Hid (xs=Zw (l.take k))∧Hid (wr.ownsRow w.heap.size 61 4 (.slice A5 xs.length c5) xs.length (ZdP xs))∧Upd No w wr)
 case atStart=>exact⟨0,none,0,[],by omega,rfl,rfl,Qh rfl,Qh (World.ownsRow_nil _ _ _ _),Upd.refl _ _⟩
 case round=>
  obtain⟨k,A5,c5,xs,hgk,rfl,rfl,hs,hown,hu⟩:=hrel;have hxl:xs.length≤1000000:=by rw[hs.out];unfold Zw;rw[List.length_map,List.length_take];omega
  by_cases hlt:k<l.length
  ·obtain⟨ax,rfl,q0,q1,q2,q3,q4⟩:=(h.upd hu (fun _ _=>id)).at_ hlt;obtain⟨⟨⟨xf,xt,xk,xy⟩,xn⟩,hxx⟩:∃x,l[k]=x:=⟨_,rfl⟩;rw[hxx]at q0 q1 q2 q3 q4;simp only at q0 q1 q2 q3 q4;have i1:(0:Int)≤(k:Int):=Qn _;have i2:(k:Int)<(l.length:Int):=by omega
   obtain⟨wx,hwx⟩:∃wx,wr.alloc (.cells #[.int .i64 xf,.int .i64 xt,.int .i64 xk,.int .i64 xy,.int .i64 xn] 89)=wx:=⟨_,rfl⟩;have ux:Upd No wr wx:=by rw[←hwx];exact(Upd.refl No wr).alloc _
   have bo:Blk wx wr.heap.size 89 [.int .i64 xf,.int .i64 xt,.int .i64 xk,.int .i64 xy,.int .i64 xn]:=by rw[←hwx];exact Blk.new wr _ _
   have d0:=bo.cell 0;have d1:=bo.cell 1;have d2:=bo.cell 2;have d3:=bo.cell 3;have d4:=bo.cell 4;simp only[Qz,Qs]at d0 d1 d2 d3 d4;have HUX:=Qh (hu.trans ux);have HO:=Qh (Za hown.out ux (fun _ _=>id));have hsz:=(hu.trans ux).size;have HS:=Qh (show xs++[⟨xf,xt,xk,xy⟩]=Zw (l.take (k+1)) by rw[hs.out];exact(Zf5 hlt hxx).symm);clear hxx bo ux hown
   go_wp2_with (at_builtin;refine Z0 rfl rfl ZcQ (base:=w.heap.size) (v:= .slice A5 xs.length c5) (n:=xs.length) (xs:=ZdP xs) (cells:=[.int .i64 xf,.int .i64 xt,.int .i64 xk,.int .i64 xy]) (by rfl) (by rfl) HO.out rfl rfl (by omega) (by omega) (by omega) ?_;intro g9 c9 w9 hown9 hu9 hg9 hlt9)
   go_roundg (gk-1)
   case measure=>omega
   case rel=>
    have hl1:(xs++[(⟨xf,xt,xk,xy⟩:Edge)]).length=xs.length+1:=by simp
    exact⟨k+1,some ⟨g9,0,none⟩,c9,xs++[⟨xf,xt,xk,xy⟩],by omega,by go_num,by rw[hl1],HS,Qh (by rw[hl1,ZgS];exact hown9),HUX.out.then_ hu9 (fun i e=>Or.inr (HO.out.lt i e).1)⟩
  ·obtain rfl:k=l.length:=by omega
   go_wp2
   go_ret
   have h1:=hs.out;rw[List.take_length]at h1;subst h1;exact⟨A5,c5,rfl,hown.out,hu⟩
end
/- Edges of a history,the document's:all keys;all edges. -/
section
open Go.RowKit
def opK (l:List HOp):List Int:=l.map (·.key)
def txK (txs:List HTx):List Int:=txs.flatMap fun t=>opK t.ops
def Zbv (txs:List HTx):List Int:=ZM [] (txK txs)
theorem ZeR (s a b:List Int):ZM s (a++b)=ZM (ZM s a) b:=by
 induction a generalizing s with
 |nil=>rfl
 |cons x a ih=>exact ih _
theorem ZoL {txs:List HTx} {k:Nat} {x:HTx} (hk:k<txs.length) (hx:txs[k]=x):txK (txs.take (k+1))=txK (txs.take k)++opK x.ops:=by
 subst hx;unfold txK;rw[List.take_succ_eq_append_getElem hk,List.flatMap_append];simp
theorem Zpn {l:List HOp} {k:Nat} {x:HOp} (hk:k<l.length) (hx:l[k]=x):opK (l.take (k+1))=opK (l.take k)++[x.key]:=by
 subst hx;unfold opK;rw[List.take_succ_eq_append_getElem hk,List.map_append];rfl
def ZuH (w:World) (l:List Int) (e:Ending) (w':World):Prop:=∃A c,e= .returned (.slice A l.length c)∧Ints (fun i=>w.heap.size≤i) w' A l∧Upd No w w'
set_option maxRecDepth 100000 in
set_option maxHeartbeats 4000000 in
theorem Zq3 (F:Nat→Prop) (w:World) (txs:List HTx) (ords:List HOrd) (A:Option Addr) (c:Nat) (B:Option Addr) (d:Nat) (H:Hist.lies F w ⟨txs,ords,A,c,B,d⟩) (n1:txs.length≤4096) (n2:∀t∈txs,t.ops.length≤4095):
  Calls Tryz.prog 72 #[.agg #[.slice A txs.length c,.slice B ords.length d]] w (ZuH w (Zbv txs)):=by
 have HH:=Qh H;obtain⟨wb,hwb⟩:∃wb,w.alloc (.cells #[.slice A txs.length c,.slice B ords.length d] 25)=wb:=⟨_,rfl⟩;have u1:Upd No w wb:=by rw[←hwb];exact(Upd.refl No w).alloc _
 have b1:Blk wb w.heap.size 25 [.slice A txs.length c,.slice B ords.length d]:=by rw[←hwb];exact Blk.new w _ _
 have d0:=b1.cell 0;simp only[Qz]at d0;have HU:=Qh u1;clear b1 u1 H
 go_enter Tryz.func72,Tryz.ntmps72
 go_wp2
 go_loopg [3,11] txs.length (fun gk s i wr=>∃(k:Nat) (A5:Option Addr) (c5:Nat) (xs:List Int),k+gk=txs.length∧i= .int .i64 k∧s= .slice A5 xs.length c5∧Hid (xs=ZM [] (txK (txs.take k)))∧Hid (xs.length≤4095*k)∧Hid (Ints (fun i=>w.heap.size≤i) wr A5 xs)∧Upd No w wr)
 case atStart=>exact⟨0,none,0,[],by omega,rfl,rfl,Qh rfl,Qh (by simp),Qh Ints.nil_,HU.out⟩
 case round=>
  obtain⟨k,A5,c5,xs,hgk,rfl,rfl,hs,hln,hi,hu⟩:=hrel
  by_cases hlt:k<txs.length
  ·obtain⟨ad,hAd,q0,q1,q2⟩:=(HH.out.upd hu (fun _ _=>id)).tx_at hlt;simp only at hAd q0 q1 q2;have hx2:=n2 _ (List.getElem_mem hlt);have hx0:=HH.out.tx txs[k] (List.getElem_mem hlt);obtain⟨⟨xi,xd,xo,xA,xc⟩,hx⟩:∃x,txs[k]=x:=⟨_,rfl⟩;rw[hx]at q0 q1 q2 hx2 hx0;simp only at q0 q1 q2 hx2;subst hAd;have HX0:=Qh (show HOps F w xA xo from hx0.1);have b1:(0:Int)≤(k:Int):=Qn _;have b2:(k:Int)<(txs.length:Int):=by omega
   obtain⟨wx,hwx⟩:∃wx,wr.alloc (.cells #[.int .i64 xi,.bool xd,.slice xA xo.length xc] 40)=wx:=⟨_,rfl⟩;have ux:Upd No wr wx:=by rw[←hwx];exact(Upd.refl No wr).alloc _
   have bo:Blk wx wr.heap.size 40 [.int .i64 xi,.bool xd,.slice xA xo.length xc]:=by rw[←hwx];exact Blk.new wr _ _
   have t2:=bo.cell 2;simp only[Qz,Qs]at t2;have HUX:=Qh (hu.trans ux);have HIX:=Qh (hi.out.upd ux (fun _ _=>id));have HT:=Qh (ZoL hlt hx);simp only at HT;have HP:=Qh hs.out;clear hx bo ux hx0 hs hi;obtain⟨wo,hwo⟩:∃wo,wo=wr:=⟨_,rfl⟩;subst hwo
   generalize gk=GK at*
   go_wp2
   go_loopg [3,18] xo.length (fun gj s i wr=>∃(j:Nat) (A5:Option Addr) (c5:Nat) (ys:List Int),j+gj=xo.length∧i= .int .i64 j∧s= .slice A5 ys.length c5∧Hid (ys=ZM xs (opK (xo.take j)))∧Hid (ys.length≤4095*k+j)∧Hid (Ints (fun i=>w.heap.size≤i) wr A5 ys)∧Upd No w wr)
   case atStart=>exact⟨0,A5,c5,xs,by omega,rfl,rfl,Qh rfl,Qh (by have:=hln.out;omega),HIX,HUX.out⟩
   case round=>
    obtain⟨j,A6,c6,ys,hgj,rfl,rfl,hs2,hl2,hi2,hu2⟩:=hrel
    by_cases hltj:j<xo.length
    ·obtain⟨ad2,hAd2,p0,p1,p2,p3⟩:=(HX0.out.upd hu2 (fun _ _=>id)).at_ hltj;obtain⟨⟨yr,yk,yt,yn⟩,hy⟩:∃y,xo[j]=y:=⟨_,rfl⟩;rw[hy]at p0 p1 p2 p3;simp only at p0 p1 p2 p3;subst hAd2;have c1:(0:Int)≤(j:Int):=Qn _;have c2:(j:Int)<(xo.length:Int):=by omega
     obtain⟨wy,hwy⟩:∃wy,wr.alloc (.cells #[.bool yr,.int .i64 yk,.int .i64 yt,.int .i64 yn] 113)=wy:=⟨_,rfl⟩;have uy:Upd No wr wy:=by rw[←hwy];exact(Upd.refl No wr).alloc _
     have bo:Blk wy wr.heap.size 113 [.bool yr,.int .i64 yk,.int .i64 yt,.int .i64 yn]:=by rw[←hwy];exact Blk.new wr _ _
     have o1:=bo.cell 1;simp only[Qz,Qs]at o1;have hys:ys.length≤100000000:=by have:=hl2.out;omega
     have HPT:=Qh (Zsh _ wy A6 c6 ys yk (hi2.out.upd uy (fun _ _=>id)) hys);have HUY:=Qh (hu2.trans uy);have HO:=Qh (show ZL yk ys=ZM xs (opK (xo.take (j+1))) by rw[Zpn hltj hy,ZeR,←hs2.out];rfl);have HLN:=Qh (Zdw yk ys);clear hy bo uy
     go_wp2_with fail
     refine(HPT.out).mono ?_;rintro e w5 ⟨A7,c7,rfl,ho7,hu7⟩;have HI7:=Qh ((Ints.of_owned ho7).weak (G:=fun i=>w.heap.size≤i) (fun i _ h=>Nat.le_trans HUY.out.size h));have HU7:=Qh (HUY.out.trans hu7);clear ho7 hu7;go_wp2
     go_roundg (gk-1)
     case measure=>omega
     case rel=>exact⟨j+1,A7,c7,_,by omega,by go_num,rfl,HO,Qh (by have:=HLN.out;have:=hl2.out;omega),HI7,HU7.out⟩
    ·obtain rfl:j=xo.length:=by omega
     have HN:=Qh (show ys=ZM [] (txK (txs.take (k+1))) by rw[HT.out,ZeR,←HP.out];have:=hs2.out;rwa [List.take_length]at this);go_wp2
     go_roundg (GK-1)
     case measure=>omega
     case rel=>exact⟨k+1,A6,c6,ys,by omega,by go_num,rfl,HN,Qh (by have:=hl2.out;omega),hi2,hu2⟩
  ·obtain rfl:k=txs.length:=by omega
   go_wp2
   go_ret
   have h1:=hs.out;rw[List.take_length]at h1;subst h1;exact⟨A5,c5,rfl,hi.out,hu⟩
/-! all edges -/
def hrB (h:Hist) (a kind key:Int) (bs:List HTx):List Hvy:=bs.flatMap fun b=>if 0<ZB h ⟨a,b.id,kind,key⟩ then [⟨⟨a,b.id,kind,key⟩,(ZB h ⟨a,b.id,kind,key⟩:Int)⟩] else []
def hrK (h:Hist) (a kind:Int) (ks:List Int):List Hvy:=ks.flatMap fun key=>hrB h a kind key h.txs
def hrN (h:Hist) (a:Int):Nat→List Hvy
 |0=>[]
 |n+1=>hrN h a n++hrK h a ((n:Int)+1) (Zbv h.txs)
def hrA (h:Hist) (ts:List HTx):List Hvy:=ts.flatMap fun t=>hrN h t.id 3
def Zl (h:Hist):List Hvy:=if Zb h=true then hrA h h.txs else []
theorem ZpK {h:Hist} {a kind key:Int} {bs:List HTx} {k:Nat} {x:HTx} (hk:k<bs.length) (hx:bs[k]=x):hrB h a kind key (bs.take (k+1))=hrB h a kind key (bs.take k)++if 0<ZB h ⟨a,x.id,kind,key⟩ then [⟨⟨a,x.id,kind,key⟩,(ZB h ⟨a,x.id,kind,key⟩:Int)⟩] else []:=by
 subst hx;unfold hrB;rw[List.take_succ_eq_append_getElem hk,List.flatMap_append];simp
theorem ZpJ {h:Hist} {a kind:Int} {ks:List Int} {k:Nat} {x:Int} (hk:k<ks.length) (hx:ks[k]=x):hrK h a kind (ks.take (k+1))=hrK h a kind (ks.take k)++hrB h a kind x h.txs:=by
 subst hx;unfold hrK;rw[List.take_succ_eq_append_getElem hk,List.flatMap_append];simp
theorem ZpL {h:Hist} {ts:List HTx} {k:Nat} {x:HTx} (hk:k<ts.length) (hx:ts[k]=x):hrA h (ts.take (k+1))=hrA h (ts.take k)++hrN h x.id 3:=by
 subst hx;unfold hrA;rw[List.take_succ_eq_append_getElem hk,List.flatMap_append];simp
end
/- Edges of a history,in plain words:what is counted is what the document counts. -/
section
open Go.RowKit
theorem ZhV (key:Int) (e:Edge):∀l:List Int,e∈wwO key l↔e.k=1∧e.key=key∧∃i:Nat,l[i]? =some e.f∧l[i+1]? =some e.t
 |[]=>by simp[wwO]
 |[a]=>by
  simp[wwO]
 |a::b::l=>by
  have ih:=ZhV key e (b::l)
  show e∈[⟨a,b,1,key⟩]++wwO key (b::l)↔_
  rw[List.mem_append,List.mem_singleton,ih]
  constructor
  ·rintro(rfl|⟨h1,h2,i,h3,h4⟩)
   ·exact⟨rfl,rfl,0,rfl,rfl⟩
   ·exact⟨h1,h2,i+1,h3,h4⟩
  ·rintro⟨h1,h2,i,h3,h4⟩
   cases i with
   |zero=>
    left
    simp at h3 h4;obtain⟨ef,et,ek,ey⟩:=e;simp only at h1 h2 h3 h4;subst h1 h2 h3 h4;rfl
   |succ i=>exact Or.inr ⟨h1,h2,i,h3,h4⟩
theorem Zrk (cnt:Int→Bool) (ords:List HOrd) (e:Edge):e∈wwL cnt ords↔e.k=1∧cnt e.key=true∧∃o∈ords,o.key=e.key∧∃i:Nat,o.txs[i]? =some e.f∧o.txs[i+1]? =some e.t:=by
 unfold wwL;rw[List.mem_flatMap]
 constructor
 ·rintro⟨o,ho,h⟩;unfold wwC at h
  split at h
  ·rename_i hc
   obtain⟨h1,h2,h3⟩:=(ZhV _ _ _).1 h;exact⟨h1,by rw[h2];exact hc,o,ho,h2.symm,h3⟩
  ·cases h
 ·rintro⟨h1,h2,o,ho,h3,h4⟩;refine⟨o,ho,?_⟩;unfold wwC;rw[if_pos (by rw[h3];exact h2)];exact(ZhV _ _ _).2 ⟨h1,h3.symm,h4⟩
/-! what was laid last -/
theorem Zhj (p:Int×Int):∀(L:List ((Int×Int)×Int)) (a:Int),(∀e∈L,e.1≠p)→L.foldl (fun a e=>if e.1=p then e.2 else a) a=a
 |[],_,_=>rfl
 |e::L,a,h=>by
  rw[List.foldl_cons,if_neg (h e (List.mem_cons_self ..))];exact Zhj p L a fun x hx=>h x (List.mem_cons_of_mem _ hx)
theorem ZiF (p:Int×Int) (v:Int):∀(L:List ((Int×Int)×Int)) (a:Int),(∀e∈L,e.1=p→e.2=v)→(a=v∨∃e∈L,e.1=p)→L.foldl (fun a e=>if e.1=p then e.2 else a) a=v
 |[],a,_,h=>by
  rcases h with h|⟨e,he,_⟩
  ·exact h
  ·cases he
 |e::L,a,h,h2=>by
  rw[List.foldl_cons];refine ZiF p v L _ (fun x hx=>h x (List.mem_cons_of_mem _ hx)) ?_
  by_cases hp:e.1=p
  ·rw[if_pos hp];exact Or.inl (h e (List.mem_cons_self ..) hp)
  ·rw[if_neg hp];rcases h2 with h2|⟨x,hx,hxp⟩
   ·exact Or.inl h2
   ·rcases List.mem_cons.1 hx with rfl|hx
    ·exact absurd hxp hp
    ·exact Or.inr ⟨x,hx,hxp⟩
theorem Ze5 (key:Int) (e:(Int×Int)×Int):∀(l:List Int) (a:Int),e∈ZaC key a l↔e.1.1=key∧∃i:Nat,(a::l)[i]? =some e.1.2∧l[i]? =some e.2
 |[],a=>by simp[ZaC]
 |x::l,a=>by
  show e∈((key,a),x)::ZaC key x l↔_
  rw[List.mem_cons,Ze5 key e l x]
  constructor
  ·rintro(rfl|⟨h1,i,h2,h3⟩)
   ·exact⟨rfl,0,rfl,rfl⟩
   ·exact⟨h1,i+1,h2,h3⟩
  ·rintro⟨h1,i,h2,h3⟩
   cases i with
   |zero=>
    left
    obtain⟨⟨e1,e2⟩,e3⟩:=e;simp at h1 h2 h3;subst h1 h2 h3;rfl
   |succ i=>exact Or.inr ⟨h1,i,h2,h3⟩
def Nx (ords:List HOrd) (key x y:Int):Prop:=∃o∈ords,o.key=key∧∃i:Nat,(0::o.txs)[i]? =some x∧o.txs[i]? =some y
theorem Ze6 (ords:List HOrd) (key x y:Int):((key,x),y)∈Zx ords↔Nx ords key x y:=by
 unfold Zx Nx;rw[List.mem_flatMap]
 constructor
 ·rintro⟨o,ho,h⟩;obtain⟨h1,h2⟩:=(Ze5 _ _ _ _).1 h;exact⟨o,ho,h1.symm,h2⟩
 ·rintro⟨o,ho,h1,h2⟩;exact⟨o,ho,(Ze5 _ _ _ _).2 ⟨h1.symm,h2⟩⟩
section
variable {h:Hist}
theorem Zf3 (hr:Zb h=true) {i:Nat} (hi:i<h.ords.length):ZcI h.txs h.ords i=true:=by
 unfold Zb at hr;simp only[Bool.and_eq_true,List.all_eq_true,List.mem_range]at hr;exact hr.2 i hi
theorem ZeQ (hr:Zb h=true):(h.ords.map (·.key)).Pairwise (·<·):=ZhS fun j hj=>by
 rw[List.length_map]at hj;have:=((Zer hj).1 (Zf3 hr hj)).1 j rfl;rw[show(h.ords.map (·.key)).getD (j+1) 0=h.ords[j+1].key by rw[List.getD_eq_getElem?_getD,List.getElem?_map,Qg hj];rfl];exact this
theorem ZcA (hr:Zb h=true) {o:HOrd} (ho:o∈h.ords):o.txs.Perm (Ze h.txs o.key):=by
 obtain⟨j,hj,rfl⟩:=List.mem_iff_getElem.1 ho;have:=((Zer hj).1 (Zf3 hr hj)).2.2;rw[Zep,beq_iff_eq]at this;exact(Z4 _).symm.trans (this▸Z4 _)
theorem ZdV (hr:Zb h=true):(h.txs.map (·.id)).Nodup:=Zap (Zc9 hr)
theorem ZgZ (hr:Zb h=true) {o:HOrd} (ho:o∈h.ords):o.txs.Nodup:=by
 refine(ZcA hr ho).nodup_iff.2 ?_;unfold Ze;exact(ZdV hr).sublist (List.filter_sublist.map _)
theorem Zb4 (hr:Zb h=true) {o:HOrd} (ho:o∈h.ords) {x:Int} (hx:x∈o.txs):∃t,ZG h.txs x=some t∧1≤x:=by
 have h1:=(ZcA hr ho).mem_iff.1 hx;unfold Ze at h1;obtain⟨t,ht,rfl⟩:=List.mem_map.1 h1;rw[List.mem_filter,Bool.and_eq_true]at ht;refine⟨t,?_,ZjI hr ht.1⟩;unfold ZG;rw[Zg1 hr ht.1];simp[ht.2.1]
theorem ZeP (hr:Zb h=true) {o u:HOrd} (ho:o∈h.ords) (hu:u∈h.ords) (hk:o.key=u.key):o=u:=by
 obtain⟨i,hi,rfl⟩:=List.mem_iff_getElem.1 ho;obtain⟨j,hj,rfl⟩:=List.mem_iff_getElem.1 hu;have hp:=List.pairwise_iff_getElem.1 (ZeQ hr);rcases Nat.lt_trichotomy i j with h1|h1|h1
 ·have:=hp i j (by simpa using hi) (by simpa using hj) h1;simp only[List.getElem_map]at this;omega
 ·subst h1;rfl
 ·have:=hp j i (by simpa using hj) (by simpa using hi) h1;simp only[List.getElem_map]at this;omega
theorem ZdQ {l:List Int} (hn:l.Nodup) {i j:Nat} {x:Int} (h1:l[i]? =some x) (h2:l[j]? =some x):i=j:=by
 obtain⟨hi,e1⟩:=List.getElem?_eq_some_iff.1 h1;obtain⟨hj,e2⟩:=List.getElem?_eq_some_iff.1 h2;exact(List.getElem_inj hn).1 (e1.trans e2.symm)
theorem Zca (hr:Zb h=true) {o:HOrd} (ho:o∈h.ords):(0::o.txs).Nodup:=by
 refine List.nodup_cons.2 ⟨fun hm=> ?_,ZgZ hr ho⟩;obtain⟨_,_,h1⟩:=Zb4 hr ho hm;omega
theorem Nx.one (hr:Zb h=true) {key x y z:Int} (h1:Nx h.ords key x y) (h2:Nx h.ords key x z):y=z:=by
 obtain⟨o,ho,hk,i,hi,hy⟩:=h1;obtain⟨u,hu,hk2,j,hj,hz⟩:=h2;obtain rfl:=ZeP hr ho hu (hk.trans hk2.symm);obtain rfl:=ZdQ (Zca hr ho) hi hj;rw[hy]at hz;exact Option.some.inj hz
theorem Nx.ids (hr:Zb h=true) {key x y:Int} (h1:Nx h.ords key x y):(∃t,ZG h.txs y=some t)∧1≤y∧x≠y∧(x=0∨∃t,ZG h.txs x=some t):=by
 obtain⟨o,ho,hk,i,hi,hy⟩:=h1;obtain⟨t,ht,h2⟩:=Zb4 hr ho (List.mem_of_getElem? hy);refine⟨⟨t,ht⟩,h2,fun e=> ?_,?_⟩
 ·subst e;have h3:(0::o.txs)[i+1]? =some x:=hy;have:=ZdQ (Zca hr ho) hi h3;omega
 ·cases i with
  |zero=>left;simpa using hi.symm
  |succ i=>
   right
   obtain⟨t2,ht2,_⟩:=Zb4 hr ho (List.mem_of_getElem? (show o.txs[i]? =some x from hi));exact⟨t2,ht2⟩
theorem Zls (hr:Zb h=true) (key x:Int):(ZX (Zx h.ords) (key,x)=0∧∀y,¬Nx h.ords key x y)∨Nx h.ords key x (ZX (Zx h.ords) (key,x)):=by
 by_cases hx:∃y,Nx h.ords key x y
 ·obtain⟨y,hy⟩:=hx
  right
  have:ZX (Zx h.ords) (key,x)=y:=by
   unfold ZX;refine ZiF (key,x) y _ 0 (fun e he hp=> ?_) (Or.inr ⟨((key,x),y),(Ze6 _ _ _ _).2 hy,rfl⟩);obtain⟨p,v⟩:=e;simp only at hp;subst hp;exact Nx.one hr ((Ze6 _ _ _ _).1 he) hy
  rw[this];exact hy
 ·left
  refine⟨?_,fun y hy=>hx ⟨y,hy⟩⟩;unfold ZX;refine Zhj (key,x) _ 0 fun e he hp=>hx ⟨e.2,?_⟩
  obtain⟨p,v⟩:=e;simp only at hp;subst hp;exact(Ze6 _ _ _ _).1 he
theorem Zkg (hr:Zb h=true) (key x y:Int) (hy:y≠0):ZX (Zx h.ords) (key,x)=y↔Nx h.ords key x y:=by
 rcases Zls hr key x with ⟨h1,h2⟩|h1
 ·rw[h1];exact⟨fun e=>absurd e.symm hy,fun e=>absurd e (h2 y)⟩
 ·constructor
  ·intro e;rw[←e];exact h1
  ·intro e;exact Nx.one hr h1 e
theorem ZjT (hr:Zb h=true) {o:HOrd} (ho:o∈h.ords):ZcC h.ords o.key=o.txs:=by
 obtain⟨k,hk,rfl⟩:=List.mem_iff_getElem.1 ho;have hp:=List.pairwise_iff_getElem.1 (ZeQ hr)
 have:Zgj h.ords h.ords[k].key=k:=Zpc hk (fun j hj=>by
  have:=hp j k (by simp;omega) (by simpa using hk) hj;simp only[List.getElem_map]at this;rw[beq_eq_false_iff_ne];omega) (by simp)
 unfold ZcC;rw[this,Qg hk]
theorem ZjU {key:Int} (hn:∀o∈h.ords,o.key≠key):ZcC h.ords key=[]:=by
 have:Zgj h.ords key=h.ords.length:=by
  unfold Zgj;rw[List.findIdx_eq_length];intro o ho
  simpa using hn o ho
 unfold ZcC;rw[this,List.getElem?_eq_none (Nat.le_refl _)]
theorem ZnM {l:List Int} (hn:(0::l).Nodup) (x y:Int):Zae l x=some y↔∃i:Nat,(0::l)[i]? =some x∧l[i]? =some y:=by
 unfold Zae
 by_cases h0:x=0
 ·subst h0;rw[if_pos rfl]
  constructor
  ·intro h;exact⟨0,rfl,h⟩
  ·rintro⟨i,h1,h2⟩;obtain rfl:=ZdQ hn h1 (show(0::l)[0]? =some 0 from rfl);exact h2
 ·rw[if_neg h0]
  by_cases hm:x∈l
  ·obtain⟨k,hk,hx⟩:=List.mem_iff_getElem.1 hm
   have hpos:Zg l x<l.length:=by
    unfold Zg;rw[List.findIdx_lt_length];exact⟨x,hm,by simp⟩
   have hget:l[Zg l x]? =some x:=by
    have:=List.findIdx_getElem (p:=(·==x)) (xs:=l) (w:=hpos);rw[beq_iff_eq]at this;rw[Qg hpos];exact congrArg some this
   rw[if_pos hpos]
   constructor
   ·intro h;exact⟨Zg l x+1,hget,h⟩
   ·rintro⟨i,h1,h2⟩;have:=ZdQ hn h1 (show(0::l)[Zg l x+1]? =some x from hget);rw[←this];exact h2
  ·have hpos:¬Zg l x<l.length:=by
    unfold Zg;rw[List.findIdx_lt_length];rintro⟨z,hz,e⟩;simp at e;subst e;exact hm hz
   rw[if_neg hpos]
   constructor
   ·intro h;cases h
   ·rintro⟨i,h1,h2⟩
    cases i with
    |zero=>exact absurd (by simpa using h1.symm) h0
    |succ i=>exact absurd (List.mem_of_getElem? (show l[i]? =some x from h1)) hm
theorem ZcU (hr:Zb h=true) (key x y:Int):Zct h.ords key x y=true↔Nx h.ords key x y:=by
 unfold Zct;rw[beq_iff_eq]
 by_cases hk:∃o∈h.ords,o.key=key
 ·obtain⟨o,ho,rfl⟩:=hk;rw[ZjT hr ho,ZnM (Zca hr ho)]
  constructor
  ·intro h1;exact⟨o,ho,rfl,h1⟩
  ·rintro⟨u,hu,hk,h1⟩;obtain rfl:=ZeP hr hu ho hk;exact h1
 ·rw[ZjU (fun o ho e=>hk ⟨o,ho,e⟩)]
  constructor
  ·intro h1;unfold Zae Zg at h1;simp at h1
  ·rintro⟨u,hu,hk2,_⟩;exact absurd ⟨u,hu,hk2⟩ hk
end
end
/- Edges of a history,in plain words:each is counted as often as the document counts it. -/
section
open Go.RowKit
section
variable {β:Type} [DecidableEq β]
theorem Zfv (f:HTx→List β) (a:β):∀ts:List HTx,(∀u∈ts,Zp (f u) a=0)→Zp (ts.flatMap f) a=0
 |[],_=>rfl
 |u::ts,h=>by
  rw[List.flatMap_cons,Zaq,h u (List.mem_cons_self ..),Zfv f a ts fun x hx=>h x (List.mem_cons_of_mem _ hx)]
theorem Zfw (f:HTx→List β) (a:β):∀ts:List HTx,(ts.map (·.id)).Nodup→∀t∈ts,(∀u∈ts,u.id≠t.id→Zp (f u) a=0)→Zp (ts.flatMap f) a=Zp (f t) a
 |[],_,_,ht,_=>by cases ht
 |u::ts,hn,t,ht,h=>by
  rw[List.map_cons,List.nodup_cons]at hn;rw[List.flatMap_cons,Zaq];rcases List.mem_cons.1 ht with rfl|ht
  ·rw[Zfv f a ts fun x hx=>h x (List.mem_cons_of_mem _ hx) fun e=>hn.1 (e▸List.mem_map.2 ⟨x,hx,rfl⟩)];rfl
  ·rw[h u (List.mem_cons_self ..) fun e=>hn.1 (e▸List.mem_map.2 ⟨t,ht,rfl⟩),Zfw f a ts hn.2 t ht fun x hx=>h x (List.mem_cons_of_mem _ hx)];omega
end
theorem Zi2 (id key:Int):∀l:List HOp,Zp (Za5 id l) (id,key)=(l.filter (isW key)).length
 |[]=>rfl
 |o::l=>by
  have ih:=Zi2 id key l;unfold Za5 at ih ⊢
  by_cases h:isW key o=true
  ·have h2:(!o.read)=true∧o.key=key:=by unfold isW at h;simpa using h
   rw[List.filter_cons_of_pos (p:=fun o:HOp=> !o.read) h2.1,List.filter_cons_of_pos h,List.map_cons,List.length_cons,←ih];have:=Zaq [(id,o.key)] ((l.filter fun o=> !o.read).map fun o=>(id,o.key)) (id,key);rw[List.singleton_append]at this;rw[this,ZdH,if_pos (by rw[h2.2])];omega
  ·rw[List.filter_cons_of_neg h,←ih]
   by_cases hr:(!o.read)=true
   ·rw[List.filter_cons_of_pos (p:=fun o:HOp=> !o.read) hr,List.map_cons];have:=Zaq [(id,o.key)] ((l.filter fun o=> !o.read).map fun o=>(id,o.key)) (id,key);rw[List.singleton_append]at this;rw[this,ZdH,if_neg (fun e=>h (by unfold isW;rw[hr];simp[(Prod.mk.inj e).2]))];omega
   ·rw[List.filter_cons_of_neg (p:=fun o:HOp=> !o.read) hr]
theorem Zkz (id i key:Int) (hne:id≠i) (l:List HOp):Zp (Za5 id l) (i,key)=0:=by
 unfold Zp Za5;rw[List.length_eq_zero_iff,List.filter_eq_nil_iff];intro x hx;obtain⟨o,_,rfl⟩:=List.mem_map.1 hx;simp[hne]
section
variable {h:Hist}
theorem ZdG (hr:Zb h=true) (i:Int):i∈ZI h.txs↔∃t,ZG h.txs i=some t:=by
 unfold ZI;rw[List.mem_map]
 constructor
 ·rintro⟨t,ht,rfl⟩;rw[List.mem_filter]at ht;refine⟨t,?_⟩;unfold ZG;rw[Zg1 hr ht.1];simp[ht.2]
 ·rintro⟨t,ht⟩;have h1:=Zbp ht;have h2:=Zee h1.1;exact⟨t,List.mem_filter.2 ⟨h2.1,h1.2⟩,h2.2⟩
theorem Zfp {i:Int} {t:HTx} (ht:ZG h.txs i=some t):t∈h.txs.filter (·.done)∧t.id=i:=by
 have h1:=Zbp ht;have h2:=Zee h1.1;exact⟨List.mem_filter.2 ⟨h2.1,h1.2⟩,h2.2⟩
theorem Zhy (hr:Zb h=true):((h.txs.filter (·.done)).map (·.id)).Nodup:=(ZdV hr).sublist (List.filter_sublist.map _)
theorem Zeh (hr:Zb h=true) {i:Int} {t:HTx} (ht:ZG h.txs i=some t) (key:Int):Zp (Zf h.txs) (i,key)=Zc t.ops key:=by
 obtain⟨h1,rfl⟩:=Zfp ht;unfold Zf;rw[Zfw (fun t=>Za5 t.id t.ops) (t.id,key) _ (Zhy hr) t h1 (fun u _ hne=>Zkz _ _ _ hne _),Zi2];unfold Zc wrN;rw[List.take_length]
def Zec (h:Hist) (o:HOp):Prop:=o.tx=0∨(o.tx∈ZI h.txs∧(Zp (Zf h.txs) (o.tx,o.key):Int)=o.nth)
instance (o:HOp):Decidable (Zec h o):=inferInstanceAs (Decidable (_∨_))
theorem Zhk (hr:Zb h=true) (o:HOp):Zec h o↔Zbx h.txs ⟨o.tx,o.key,o.nth⟩=true:=by
 unfold Zec Zbx
 by_cases h0:o.tx=0
 ·simp[h0]
 ·rw[if_neg h0,ZdG hr]
  cases hd:ZG h.txs o.tx with
  |none=>simp[h0]
  |some t=>
   have:=Zeh hr hd o.key;rw[this];simp[h0];exact eq_comm
theorem Znv (ti:Int) (o:HOp) (e:Edge):Zp (ZN (ZI h.txs) (Zf h.txs) (Zx h.ords) ti o) e=
  (if (o.tx≠ti∧Zec h o)∧o.tx≠0∧e=⟨o.tx,ti,2,o.key⟩ then 1 else 0)+if (o.tx≠ti∧Zec h o)∧(ZX (Zx h.ords) (o.key,o.tx)≠0∧ZX (Zx h.ords) (o.key,o.tx)≠ti)∧e=⟨ti,ZX (Zx h.ords) (o.key,o.tx),3,o.key⟩ then 1 else 0:=by
 unfold ZN Zec
 by_cases h1:o.tx=ti
 ·rw[if_pos h1,if_neg (fun h=>h.1.1 h1),if_neg (fun h=>h.1.1 h1),ZbJ]
 ·rw[if_neg h1]
  by_cases h2:o.tx≠0∧o.tx∉ZI h.txs
  ·rw[if_pos h2,ZbJ,if_neg,if_neg]
   ·rintro⟨⟨_,h3|h3⟩,_⟩
    ·exact h2.1 h3
    ·exact h2.2 h3.1
   ·rintro⟨⟨_,h3|h3⟩,_⟩
    ·exact h2.1 h3
    ·exact h2.2 h3.1
  ·rw[if_neg h2]
   by_cases h3:o.tx≠0∧(Zp (Zf h.txs) (o.tx,o.key):Int)≠o.nth
   ·rw[if_pos h3,ZbJ,if_neg,if_neg]
    ·rintro⟨⟨_,h4|h4⟩,_⟩
     ·exact h3.1 h4
     ·exact h3.2 h4.2
    ·rintro⟨⟨_,h4|h4⟩,_⟩
     ·exact h3.1 h4
     ·exact h3.2 h4.2
   ·rw[if_neg h3,Zaq]
    have hL:o.tx=0∨(o.tx∈ZI h.txs∧(Zp (Zf h.txs) (o.tx,o.key):Int)=o.nth):=by
     by_cases h0:o.tx=0
     ·exact Or.inl h0
     ·exact Or.inr ⟨Classical.byContradiction fun hh=>h2 ⟨h0,hh⟩,Classical.byContradiction fun hh=>h3 ⟨h0,hh⟩⟩
    congr 1
    ·by_cases h0:o.tx≠0
     ·rw[if_pos h0,ZdH]
      by_cases he:e=⟨o.tx,ti,2,o.key⟩
      ·rw[if_pos he,if_pos ⟨⟨h1,hL⟩,h0,he⟩]
      ·rw[if_neg he,if_neg (fun hh=>he hh.2.2)]
     ·rw[if_neg h0,ZbJ,if_neg (fun hh=>h0 hh.2.1)]
    ·by_cases h0:ZX (Zx h.ords) (o.key,o.tx)≠0∧ZX (Zx h.ords) (o.key,o.tx)≠ti
     ·rw[if_pos h0,ZdH]
      by_cases he:e=⟨ti,ZX (Zx h.ords) (o.key,o.tx),3,o.key⟩
      ·rw[if_pos he,if_pos ⟨⟨h1,hL⟩,h0,he⟩]
      ·rw[if_neg he,if_neg (fun hh=>he hh.2.2)]
     ·rw[if_neg h0,ZbJ,if_neg (fun hh=>h0 hh.2.1)]
theorem ZgD (f:HOp→List Edge) (e:Edge) (p q:HOp→Bool):∀l:List HOp,(∀o∈l,(if q o=true then Zp (f o) e else 0)=if p o=true then 1 else 0)→Zp ((l.filter q).flatMap f) e=l.countP p
 |[],_=>rfl
 |o::l,hh=>by
  have ih:=ZgD f e p q l fun x hx=>hh x (List.mem_cons_of_mem _ hx)
  have h1:=hh o (List.mem_cons_self ..);rw[List.countP_cons]
  by_cases hq:q o=true
  ·rw[List.filter_cons_of_pos hq,List.flatMap_cons,Zaq,ih];rw[if_pos hq]at h1;omega
  ·rw[List.filter_cons_of_neg hq,ih];rw[if_neg hq]at h1;omega
theorem Zfx (f:HOp→List Edge) (e:Edge) (q:HOp→Bool) (l:List HOp) (hh:∀o∈l,q o=true→Zp (f o) e=0):Zp ((l.filter q).flatMap f) e=0:=by
 rw[ZgD f e (fun _=>false) q l (fun o ho=>by
  by_cases hq:q o=true
  ·rw[if_pos hq,hh o ho hq];rfl
  ·rw[if_neg hq];rfl)]
 simp
theorem ZbE (cnt:Int→Bool) (LD:List Int) (LW:List (Int×Int)) (LN:List ((Int×Int)×Int)) (e:Edge) (hh:∀u∈h.txs.filter (·.done),∀o∈u.ops,Zp (ZN LD LW LN u.id o) e=0):Zp (rdL cnt LD LW LN h.txs) e=0:=by
 unfold rdL;exact Zfv _ _ _ fun u hu=>Zfx _ _ _ _ fun o ho _=>hh u hu o ho
theorem ZfF (hr:Zb h=true) (cnt:Int→Bool) (LD:List Int) (LW:List (Int×Int)) (LN:List ((Int×Int)×Int)) (e:Edge) {t:HTx} (ht:t∈h.txs.filter (·.done)) (hh:∀u∈h.txs.filter (·.done),u.id≠t.id→∀o∈u.ops,Zp (ZN LD LW LN u.id o) e=0)
  (p:HOp→Bool) (hp:∀o∈t.ops,(if (o.read&&cnt o.key)=true then Zp (ZN LD LW LN t.id o) e else 0)=if p o=true then 1 else 0):Zp (rdL cnt LD LW LN h.txs) e=t.ops.countP p:=by
 unfold rdL;rw[Zfw (fun t=>rdO cnt LD LW LN t.id t.ops) e _ (Zhy hr) t ht (fun u hu hne=>Zfx _ _ _ _ fun o ho _=>hh u hu hne o ho)];exact ZgD _ _ _ _ _ hp
theorem Zdc (cnt:Int→Bool) (e:Edge) (hr:Zb h=true):e∈wwL cnt h.ords↔e.k=1∧cnt e.key=true∧e.f≠0∧Nx h.ords e.key e.f e.t:=by
 rw[Zrk]
 constructor
 ·rintro⟨h1,h2,o,ho,hk,i,h3,h4⟩;refine⟨h1,h2,fun e0=> ?_,o,ho,hk,i+1,h3,h4⟩;obtain⟨_,_,h5⟩:=Zb4 hr ho (List.mem_of_getElem? h3);omega
 ·rintro⟨h1,h2,h0,o,ho,hk,i,h3,h4⟩;refine⟨h1,h2,o,ho,hk,?_⟩
  cases i with
  |zero=>exact absurd (by simpa using h3.symm) h0
  |succ i=>exact⟨i,h3,h4⟩
theorem Zfk (hr:Zb h=true) {t:HTx} (ht:ZG h.txs 0=some t):False:=by
 have h1:=Zee (Zbp ht).1;have:=ZjI hr h1.1;omega
theorem ZlF (hr:Zb h=true) (cnt:Int→Bool) (e:Edge):Zmr cnt h.txs h.ords e=if cnt e.key=true then ZB h e else 0:=by
 obtain⟨ef,et,ek,ey⟩:=e;unfold Zmr;have hro:=Znv (h:=h)
 by_cases k1:ek=1
 ·subst k1;rw[ZbE (h:=h) cnt _ _ _ _ (fun u _ o _=>by rw[hro,if_neg (fun hh=>by have:=congrArg Edge.k hh.2.2;simp at this),if_neg (fun hh=>by have:=congrArg Edge.k hh.2.2;simp at this)])];unfold ZaP;rw[Nat.add_zero]
  by_cases hc:cnt ey=true
  ·rw[if_pos hc]
   by_cases hm:(⟨ef,et,1,ey⟩:Edge)∈wwL cnt h.ords
   ·rw[if_pos hm];obtain⟨_,_,h0,hx⟩:=(Zdc cnt _ hr).1 hm;simp only at h0 hx;obtain⟨⟨t,ht⟩,h2,h3,h4⟩:=Nx.ids hr hx;obtain⟨a,ha⟩:=h4.resolve_left h0;unfold ZB;simp only[ha,ht,if_neg h3,if_true,(ZcU hr ey ef et).2 hx]
   ·rw[if_neg hm]
    symm
    unfold ZB
    cases ha:ZG h.txs ef with
    |none=>rfl
    |some a=>
     cases hb:ZG h.txs et with
     |none=>rfl
     |some b=>
      simp only
      split
      ·rfl
      ·simp only[if_true];rw[if_neg];intro hn;have hx:=(ZcU hr ey ef et).1 hn;refine hm ((Zdc cnt _ hr).2 ⟨rfl,hc,fun e0=> ?_,hx⟩);simp only at e0;subst e0;exact Zfk hr ha
  ·rw[if_neg hc,if_neg (fun hm=>hc ((Zdc cnt _ hr).1 hm).2.1)]
 ·have hw:ZaP (wwL cnt h.ords) ⟨ef,et,ek,ey⟩=0:=by
   unfold ZaP;rw[if_neg (fun hm=>k1 ((Zdc cnt _ hr).1 hm).1)]
  rw[hw,Nat.zero_add]
  by_cases k2:ek=2
  ·subst k2
   have hz:∀u∈h.txs.filter (·.done),u.id≠et→∀o∈u.ops,Zp (ZN (ZI h.txs) (Zf h.txs) (Zx h.ords) u.id o) (⟨ef,et,2,ey⟩:Edge)=0:=fun u _ hne o _=>by
    rw[hro,if_neg (fun hh=>hne (congrArg Edge.t hh.2.2).symm),if_neg (fun hh=>by have:=congrArg Edge.k hh.2.2;simp at this)]
   cases hb:ZG h.txs et with
   |none=>
    rw[ZbE (h:=h) cnt _ _ _ _ (fun u hu o ho=>hz u hu (fun e=>by
     have:=(ZdG hr et).1 (by unfold ZI;exact List.mem_map.2 ⟨u,hu,e⟩);rw[hb]at this;obtain⟨_,h9⟩:=this
     cases h9) o ho)]
    unfold ZB;simp only[hb]
    cases ZG h.txs ef<;>simp
   |some b=>
    obtain⟨hbm,hbi⟩:=Zfp hb;have hz2:∀u∈h.txs.filter (·.done),u.id≠b.id→∀o∈u.ops,Zp (ZN (ZI h.txs) (Zf h.txs) (Zx h.ords) u.id o) (⟨ef,et,2,ey⟩:Edge)=0:=fun u hu hne=>hz u hu (by rw[←hbi];exact hne)
    cases ha:ZG h.txs ef with
    |none=>
     rw[ZbE (h:=h) cnt _ _ _ _ (fun u hu o ho=>by
      rw[hro,if_neg (c:=_∧o.tx≠0∧_),if_neg (fun hh=>by have:=congrArg Edge.k hh.2.2;simp at this)];rintro⟨⟨_,h3⟩,h4,h5⟩;rcases h3 with h3|h3
      ·exact h4 h3
      ·obtain⟨_,h6⟩:=(ZdG hr _).1 h3.1;have e1:=congrArg Edge.f h5;simp only at e1;rw[←e1,ha]at h6
       cases h6)]
     unfold ZB;simp[ha]
    |some a=>
     by_cases hft:ef=et
     ·rw[ZbE (h:=h) cnt _ _ _ _ (fun u hu o ho=>by
       rw[hro,if_neg (c:=_∧o.tx≠0∧_),if_neg (fun hh=>by have:=congrArg Edge.k hh.2.2;simp at this)];rintro⟨⟨h3,_⟩,h4,h5⟩;have e1:=congrArg Edge.f h5;have e2:=congrArg Edge.t h5;simp only at e1 e2;exact h3 (by rw[←e1,←e2,hft]))]
      unfold ZB;simp[hb,hft]
     ·by_cases hc:cnt ey=true
      ·rw[if_pos hc,ZfF (h:=h) hr cnt _ _ _ _ hbm hz2 (p2 ef ey (Zc a.ops ey)) (fun o ho=> ?_)]
       ·unfold ZB;simp only[ha,hb,if_neg hft];rfl
       ·rw[hro,if_neg (c:=_∧(_∧_)∧_) (fun hh=>by have:=congrArg Edge.k hh.2.2;simp at this),Nat.add_zero]
        by_cases hp:p2 ef ey (Zc a.ops ey) o=true
        ·rw[if_pos hp];unfold p2 at hp;simp only[Bool.and_eq_true,beq_iff_eq]at hp;obtain⟨⟨⟨q1,q2⟩,q3⟩,q4⟩:=hp;rw[if_pos (by rw[q1,q2,hc];rfl),if_pos];refine⟨⟨by rw[q3,hbi];exact hft,Or.inr ⟨by rw[q3];exact(ZdG hr _).2 ⟨a,ha⟩,?_⟩⟩,fun e0=> ?_,by rw[q3,q2,hbi]⟩
         ·rw[q3,q2,Zeh hr ha];exact q4.symm
         ·rw[q3]at e0;subst e0;exact Zfk hr ha
        ·rw[if_neg hp]
         split
         ·rename_i hrd
          rw[if_neg];rintro⟨⟨h3,h4⟩,h5,h6⟩;have e1:=congrArg Edge.f h6;have e2:=congrArg Edge.key h6;simp only at e1 e2
          apply hp
          unfold p2;rcases h4 with h4|⟨h4,h7⟩
          ·exact absurd h4 h5
          ·rw[←e1,←e2,Zeh hr ha]at h7;rw[Bool.and_eq_true]at hrd;simp[hrd.1,←e1,←e2,h7]
         ·rfl
      ·rw[if_neg hc,ZfF (h:=h) hr cnt _ _ _ _ hbm hz2 (fun _=>false) (fun o ho=>by
        by_cases hq:(o.read&&cnt o.key)=true
        ·rw[if_pos hq,hro,if_neg,if_neg (fun hh=>by have:=congrArg Edge.k hh.2.2;simp at this)]
         ·rfl
         ·rintro⟨_,_,h6⟩;have e2:=congrArg Edge.key h6;simp only at e2;rw[Bool.and_eq_true,←e2]at hq;exact hc hq.2
        ·rw[if_neg hq];rfl)]
       simp
  ·by_cases k3:ek=3
   ·subst k3
    have hz:∀u∈h.txs.filter (·.done),u.id≠ef→∀o∈u.ops,Zp (ZN (ZI h.txs) (Zf h.txs) (Zx h.ords) u.id o) (⟨ef,et,3,ey⟩:Edge)=0:=fun u _ hne o _=>by
     rw[hro,if_neg (c:=_∧o.tx≠0∧_) (fun hh=>by have:=congrArg Edge.k hh.2.2;simp at this),if_neg (fun hh=>hne (congrArg Edge.f hh.2.2).symm)]
    cases ha:ZG h.txs ef with
    |none=>
     rw[ZbE (h:=h) cnt _ _ _ _ (fun u hu o ho=>hz u hu (fun e=>by
      have:=(ZdG hr ef).1 (by unfold ZI;exact List.mem_map.2 ⟨u,hu,e⟩);rw[ha]at this;obtain⟨_,h9⟩:=this
      cases h9) o ho)]
     unfold ZB;simp[ha]
    |some a=>
     obtain⟨ham,hai⟩:=Zfp ha;have hz2:∀u∈h.txs.filter (·.done),u.id≠a.id→∀o∈u.ops,Zp (ZN (ZI h.txs) (Zf h.txs) (Zx h.ords) u.id o) (⟨ef,et,3,ey⟩:Edge)=0:=fun u hu hne=>hz u hu (by rw[←hai];exact hne)
     cases hb:ZG h.txs et with
     |none=>
      rw[ZbE (h:=h) cnt _ _ _ _ (fun u hu o ho=>by
       rw[hro,if_neg (c:=_∧o.tx≠0∧_) (fun hh=>by have:=congrArg Edge.k hh.2.2;simp at this),if_neg];rintro⟨_,⟨h3,h4⟩,h5⟩;have e1:=congrArg Edge.t h5;simp only at e1;rcases Zls hr o.key o.tx with h6|h6
       ·exact h3 h6.1
       ·obtain⟨⟨_,h7⟩,_⟩:=Nx.ids hr h6;rw[←e1,hb]at h7
        cases h7)]
      unfold ZB;simp[ha,hb]
     |some b=>
      by_cases hft:ef=et
      ·rw[ZbE (h:=h) cnt _ _ _ _ (fun u hu o ho=>by
        rw[hro,if_neg (c:=_∧o.tx≠0∧_) (fun hh=>by have:=congrArg Edge.k hh.2.2;simp at this),if_neg];rintro⟨_,⟨h3,h4⟩,h5⟩;have e1:=congrArg Edge.t h5;have e2:=congrArg Edge.f h5;simp only at e1 e2;exact h4 (by rw[←e1,←e2,hft]))]
       unfold ZB;simp[hb,hft]
      ·by_cases hc:cnt ey=true
       ·rw[if_pos hc,ZfF (h:=h) hr cnt _ _ _ _ ham hz2 (p3 h a.id ey et) (fun o ho=> ?_)]
        ·unfold ZB;simp only[ha,hb,if_neg hft];rfl
        ·rw[hro,if_neg (c:=_∧o.tx≠0∧_) (fun hh=>by have:=congrArg Edge.k hh.2.2;simp at this),Nat.zero_add];have het:et≠0:=fun e0=>by subst e0;exact Zfk hr hb
         by_cases hp:p3 h a.id ey et o=true
         ·rw[if_pos hp];unfold p3 at hp;simp only[Bool.and_eq_true,beq_iff_eq,Bool.not_eq_true',beq_eq_false_iff_ne]at hp;obtain⟨⟨⟨⟨q1,q2⟩,q3⟩,q4⟩,q5⟩:=hp;have hl:=(Zkg hr ey o.tx et het).2 ((ZcU hr _ _ _).1 q5);rw[if_pos (by rw[q1,q2,hc];rfl),if_pos];refine⟨⟨q3,(Zhk hr o).2 q4⟩,⟨by rw[q2,hl];exact het,by rw[q2,hl,hai];exact fun e=>hft e.symm⟩,by rw[q2,hl,hai]⟩
         ·rw[if_neg hp]
          split
          ·rename_i hrd
           rw[if_neg];rintro⟨⟨h3,h4⟩,⟨h5,h6⟩,h7⟩;have e1:=congrArg Edge.t h7;have e2:=congrArg Edge.key h7;simp only at e1 e2
           apply hp
           unfold p3;rw[Bool.and_eq_true]at hrd;have h8:=(Zhk hr o).1 h4;have h9:Zct h.ords ey o.tx et=true:=(ZcU hr _ _ _).2 ((Zkg hr ey o.tx et het).1 (by rw[e2];exact e1.symm));simp[hrd.1,←e2,h3,h9];rw[e2];exact h8
          ·rfl
       ·rw[if_neg hc,ZfF (h:=h) hr cnt _ _ _ _ ham hz2 (fun _=>false) (fun o ho=>by
         by_cases hq:(o.read&&cnt o.key)=true
         ·rw[if_pos hq,hro,if_neg (c:=_∧o.tx≠0∧_) (fun hh=>by have:=congrArg Edge.k hh.2.2;simp at this),if_neg]
          ·rfl
          ·rintro⟨_,_,h6⟩;have e2:=congrArg Edge.key h6;simp only at e2;rw[Bool.and_eq_true,←e2]at hq;exact hc hq.2
         ·rw[if_neg hq];rfl)]
        simp
   ·rw[ZbE (h:=h) cnt _ _ _ _ (fun u _ o _=>by rw[hro,if_neg (fun hh=>k2 (congrArg Edge.k hh.2.2)),if_neg (fun hh=>k3 (congrArg Edge.k hh.2.2))])];unfold ZB
    cases ZG h.txs ef<;>cases ZG h.txs et<;>simp[k1,k2,k3]
end
end
/- Edges of a history,the document's:all edges are walked. -/
section
open Go.RowKit
theorem Zk5:∀(txs:List HTx),(∀t∈txs,t.ops.length≤24)→(txK txs).length≤24*txs.length
 |[],_=>by simp[txK]
 |x::l,h=>by
  have h1:=Zk5 l fun t ht=>h t (List.mem_cons_of_mem _ ht)
  have h2:=h x (List.mem_cons_self ..);unfold txK at h1 ⊢;rw[List.flatMap_cons,List.length_append,List.length_cons];unfold opK at h1 ⊢;rw[List.length_map];omega
theorem ZkF (txs:List HTx) (h:∀t∈txs,t.ops.length≤24):(Zbv txs).length≤24*txs.length:=by
 have h1:=Zg5 (txK txs) [];have h2:=Zk5 txs h;unfold Zbv;simp at h1;omega
set_option maxRecDepth 100000 in
set_option maxHeartbeats 8000000 in
theorem Zo6 (F:Nat→Prop) (w:World) (txs:List HTx) (ords:List HOrd) (A:Option Addr) (c:Nat) (B:Option Addr) (d:Nat) (H:Hist.lies F w ⟨txs,ords,A,c,B,d⟩) (n1:txs.length≤12) (n2:∀t∈txs,t.ops.length≤24):
  Calls Tryz.prog 40 #[.agg #[.slice A txs.length c,.slice B ords.length d]] w (ZmT w (Zl ⟨txs,ords,A,c,B,d⟩)):=by
 have HH:=Qh H;obtain⟨z,hz⟩:∃z,w.heap.size=z:=⟨_,rfl⟩;obtain⟨wb,hwb⟩:∃wb,w.alloc (.cells #[.slice A txs.length c,.slice B ords.length d] 25)=wb:=⟨_,rfl⟩;have u1:Upd No w wb:=by rw[←hwb];exact(Upd.refl No w).alloc _
 have bH:Blk wb z 25 [.slice A txs.length c,.slice B ords.length d]:=by rw[←hwb,←hz];exact Blk.new w _ _
 have g0:∀W,Upd No wb W→W.cell? ⟨z,0,none⟩=some (.slice A txs.length c):=fun W u=>by have:=(bH.upd u id).cell 0;simpa using this
 have g1:∀W,Upd No wb W→W.cell? ⟨z,1,none⟩=some (.slice B ords.length d):=fun W u=>by have:=(bH.upd u id).cell 1;simpa using this
 have hbz:Upd No wb wb:=Upd.refl _ _;have HU:=Qh u1;have HR:=Qh (fun W (u:Upd No w W)=>Zlf F W txs ords A c B d (H.upd u (fun _ _=>id)));have HKY:=Qh (fun W (u:Upd No w W)=>Zq3 F W txs ords A c B d (H.upd u (fun _ _=>id)) (by omega) (fun t ht=>by have:=n2 t ht;omega));have HCT:=Qh (fun W (u:Upd No w W) e=>Zo1 F W txs ords A c B d e (H.upd u (fun _ _=>id)));unfold Edge.cells at HCT;have HKL:=Qh (ZkF txs n2);have HZ:=Qh hz;clear bH u1 H;obtain⟨ks,hks⟩:∃ks,Zbv txs=ks:=⟨_,rfl⟩;rw[hks]at HKY HKL;have HKS:=Qh hks;have hkl:ks.length≤288:=by have:=HKL.out;omega
 cases hr:Zb ⟨txs,ords,A,c,B,d⟩
 ·rw[hr]at HR;have HE:=Qh (show Zl ⟨txs,ords,A,c,B,d⟩=[] by unfold Zl;rw[hr];rfl);clear hr hks
  go_enter Tryz.func40,Tryz.ntmps40
  go_wp2_with fail
  refine(HR.out _ HU.out).mono ?_;rintro e w2 ⟨rfl,hu2⟩;go_wp2
  go_ret
  exact⟨none,0,by rw[HE.out];rfl,by rw[HE.out];exact World.ownsRow_nil _ _ _ _,HU.out.trans hu2⟩
 ·rw[hr]at HR;have HE:=Qh (show hrA ⟨txs,ords,A,c,B,d⟩ txs=Zl ⟨txs,ords,A,c,B,d⟩ by unfold Zl;rw[hr];rfl);obtain⟨hh,hhh⟩:∃hh,(⟨txs,ords,A,c,B,d⟩:Hist)=hh:=⟨_,rfl⟩;have hht:hh.txs=txs:=by rw[←hhh]
  rw[hhh]at HE HCT;rw[hhh];have HHT:=Qh hht;clear hr hks hhh hht
  go_enter Tryz.func40,Tryz.ntmps40
  go_wp2_with fail
  refine(HR.out _ HU.out).mono ?_;rintro e w2 ⟨rfl,hu2⟩;have hv2:=HU.out.trans hu2
  go_wp2_with fail
  refine(HKY.out _ hv2).mono ?_;rintro e w3 ⟨AK,cK,rfl,hik,hu3⟩;have hb3:=hu2.trans hu3;have HV3:=Qh (hv2.trans hu3);have HIK:=Qh hik;have g0:∀W,Upd No w3 W→W.cell? ⟨z,0,none⟩=some (.slice A txs.length c):=fun W u=>g0 W (hb3.trans u)
  have g1:∀W,Upd No w3 W→W.cell? ⟨z,1,none⟩=some (.slice B ords.length d):=fun W u=>g1 W (hb3.trans u)
  have hz3:Upd No w3 w3:=Upd.refl _ _;clear hik hu2 hu3 hv2 hb3 hbz hwb hz;go_wp2
  go_loopg [4,22] txs.length (fun gk s i wr=>∃(k:Nat) (A5:Option Addr) (c5:Nat) (xs:List Hvy),k+gk=txs.length∧i= .int .i64 k∧s= .slice A5 xs.length c5∧Hid (xs=hrA hh (txs.take k))∧Hid (xs.length≤10368*k)∧Hid (wr.ownsRow w3.heap.size 89 5 (.slice A5 xs.length c5) xs.length (Zc2 xs))∧Upd No w3 wr)
  case atStart=>exact⟨0,none,0,[],by omega,rfl,rfl,Qh rfl,Qh (by simp),Qh (World.ownsRow_nil _ _ _ _),hz3⟩
  case round=>
   obtain⟨k,A5,c5,xs,hgk,rfl,rfl,hs,hln,hown,hu⟩:=hrel
   by_cases hlt:k<txs.length
   ·obtain⟨ad,hAd,q0,q1,q2⟩:=(HH.out.upd (HV3.out.trans hu) (fun _ _=>id)).tx_at hlt;simp only at hAd q0 q1 q2;obtain⟨⟨xi,xd,xo,xA,xc⟩,hx⟩:∃x,txs[k]=x:=⟨_,rfl⟩;rw[hx]at q0 q1 q2;simp only at q0 q1 q2;subst hAd;have b1:(0:Int)≤(k:Int):=Qn _;have b2:(k:Int)<(txs.length:Int):=by omega
    obtain⟨wx,hwx⟩:∃wx,wr.alloc (.cells #[.int .i64 xi,.bool xd,.slice xA xo.length xc] 40)=wx:=⟨_,rfl⟩;have ux:Upd No wr wx:=by rw[←hwx];exact(Upd.refl No wr).alloc _
    have bo:Blk wx wr.heap.size 40 [.int .i64 xi,.bool xd,.slice xA xo.length xc]:=by rw[←hwx];exact Blk.new wr _ _
    have HBO:=Qh bo;have HUX:=Qh (hu.trans ux);have HOX:=Qh (Za hown.out ux (fun _ _=>id));have HAP:=Qh (show∀i,Own (.slice A5 xs.length c5) i→i≠wr.heap.size from fun i e=>by have:=(hown.out.lt i e).2;omega);have HT:=Qh (ZpL (h:=hh) hlt hx);simp only at HT;have HS:=Qh hs.out;clear hx bo ux hs hown;obtain⟨wo,hwo⟩:∃wo,wo=wr:=⟨_,rfl⟩;subst hwo
    generalize gk=GK at*
    go_wp2
    go_loopg [4,7] 3 (fun gn s i wr=>∃(n:Nat) (A6:Option Addr) (c6:Nat) (ys:List Hvy),n+gn=3∧i= .int .i64 ((n:Int)+1)∧s= .slice A6 ys.length c6∧Hid (ys=xs++hrN hh xi n)∧Hid (ys.length≤10368*k+3456*n)∧Hid (wr.ownsRow w3.heap.size 89 5 (.slice A6 ys.length c6) ys.length (Zc2 ys))∧Hid (Blk wr wo.heap.size 40 [.int .i64 xi,.bool xd,.slice xA xo.length xc])∧Hid (∀i,Own (.slice A6 ys.length c6) i→i≠wo.heap.size)∧Upd No w3 wr)
    case atStart=>exact⟨0,A5,c5,xs,by omega,rfl,rfl,Qh (by simp[hrN]),Qh (by have:=hln.out;omega),HOX,HBO,HAP,HUX.out⟩
    case round=>
     clear HOX HBO HAP;obtain⟨n,A6,c6,ys,hgn,rfl,rfl,hs2,hl2,ho2,hbo,hap,hu2⟩:=hrel
     by_cases hn3:n<3
     ·have e1:(n:Int)+1≤3:=by omega
      have e2:(0:Int)≤(n:Int):=Qn _
      generalize gk=GN at*
      go_wp2
      go_loopg [4,32] ks.length (fun gj s i wr=>∃(j:Nat) (A7:Option Addr) (c7:Nat) (vs:List Hvy),j+gj=ks.length∧i= .int .i64 j∧s= .slice A7 vs.length c7∧Hid (vs=ys++hrK hh xi ((n:Int)+1) (ks.take j))∧Hid (vs.length≤10368*k+3456*n+12*j)∧Hid (wr.ownsRow w3.heap.size 89 5 (.slice A7 vs.length c7) vs.length (Zc2 vs))∧Hid (Blk wr wo.heap.size 40 [.int .i64 xi,.bool xd,.slice xA xo.length xc])∧Hid (∀i,Own (.slice A7 vs.length c7) i→i≠wo.heap.size)∧Upd No w3 wr)
      case atStart=>exact⟨0,A6,c6,ys,by omega,rfl,rfl,Qh (by simp[hrK]),Qh (by have:=hl2.out;omega),ho2,hbo,hap,hu2⟩
      case round=>
       obtain⟨j,A7,c7,vs,hgj,rfl,rfl,hs3,hl3,ho3,hbo3,hap3,hu3⟩:=hrel
       by_cases hltj:j<ks.length
       ·obtain⟨adk,hAk,_,_,pk⟩:=(HIK.out.upd hu3 (fun _ _=>id)).at_ hltj;obtain⟨ky,hky⟩:∃ky,ks[j]=ky:=⟨_,rfl⟩;rw[hky]at pk;subst hAk;have c1:(0:Int)≤(j:Int):=Qn _;have c2:(j:Int)<(ks.length:Int):=by omega
        have HKT:=Qh (ZpJ (h:=hh) (a:=xi) (kind:=(n:Int)+1) hltj hky);rw[HHT.out]at HKT;clear hky
        generalize gk=GJ at*
        go_wp2
        go_loopg [4,39] txs.length (fun gi s i wr=>∃(m:Nat) (A8:Option Addr) (c8:Nat) (us:List Hvy),m+gi=txs.length∧i= .int .i64 m∧s= .slice A8 us.length c8∧Hid (us=vs++hrB hh xi ((n:Int)+1) ky (txs.take m))∧Hid (us.length≤10368*k+3456*n+12*j+m)∧Hid (wr.ownsRow w3.heap.size 89 5 (.slice A8 us.length c8) us.length (Zc2 us))∧Hid (Blk wr wo.heap.size 40 [.int .i64 xi,.bool xd,.slice xA xo.length xc])∧Hid (∀i,Own (.slice A8 us.length c8) i→i≠wo.heap.size)∧Upd No w3 wr)
        case atStart=>exact⟨0,A7,c7,vs,by omega,rfl,rfl,Qh (by simp[hrB]),Qh (by have:=hl3.out;omega),ho3,hbo3,hap3,hu3⟩
        case round=>
         obtain⟨m,A8,c8,us,hgi,rfl,rfl,hs4,hl4,ho4,hbo4,hap4,hu4⟩:=hrel
         by_cases hltm:m<txs.length
         ·obtain⟨ad2,hAd2,r0,r1,r2⟩:=(HH.out.upd (HV3.out.trans hu4) (fun _ _=>id)).tx_at hltm;simp only at hAd2 r0 r1 r2;obtain rfl:ad=ad2:=Option.some.inj hAd2;obtain⟨⟨yi,yd,yo,yA,yc⟩,hy⟩:∃y,txs[m]=y:=⟨_,rfl⟩;rw[hy]at r0 r1 r2;simp only at r0 r1 r2;have f1:(0:Int)≤(m:Int):=Qn _;have f2:(m:Int)<(txs.length:Int):=by omega
          obtain⟨wy,hwy⟩:∃wy,wr.alloc (.cells #[.int .i64 yi,.bool yd,.slice yA yo.length yc] 40)=wy:=⟨_,rfl⟩;have uy:Upd No wr wy:=by rw[←hwy];exact(Upd.refl No wr).alloc _
          have bY:Blk wy wr.heap.size 40 [.int .i64 yi,.bool yd,.slice yA yo.length yc]:=by rw[←hwy];exact Blk.new wr _ _
          have sy:wy.heap.size=wr.heap.size+1:=by rw[←hwy];simp
          obtain⟨wz,hwz⟩:∃wz,wy.alloc (.cells #[.int .i64 xi,.int .i64 yi,.int .i64 ((n:Int)+1),.int .i64 ky] 61)=wz:=⟨_,rfl⟩;have uz:Upd No wy wz:=by rw[←hwz];exact(Upd.refl No wy).alloc _
          have bZ:Blk wz (wr.heap.size+1) 61 [.int .i64 xi,.int .i64 yi,.int .i64 ((n:Int)+1),.int .i64 ky]:=by rw[←hwz,←sy];exact Blk.new wy _ _
          have x0:∀W,Upd No wr W→W.cell? ⟨wo.heap.size,0,none⟩=some (.int .i64 xi):=fun W u=>by have:=(hbo4.out.upd u id).cell 0;simpa using this
          have y0:∀W,Upd No wy W→W.cell? ⟨wr.heap.size,0,none⟩=some (.int .i64 yi):=fun W u=>by have:=(bY.upd u id).cell 0;simpa using this
          have z0:∀W,Upd No wz W→W.cell? ⟨wr.heap.size+1,0,none⟩=some (.int .i64 xi):=fun W u=>by have:=(bZ.upd u id).cell 0;simpa using this
          have z1:∀W,Upd No wz W→W.cell? ⟨wr.heap.size+1,1,none⟩=some (.int .i64 yi):=fun W u=>by have:=(bZ.upd u id).cell 1;simpa using this
          have z2:∀W,Upd No wz W→W.cell? ⟨wr.heap.size+1,2,none⟩=some (.int .i64 ((n:Int)+1)):=fun W u=>by have:=(bZ.upd u id).cell 2;simpa using this
          have z3:∀W,Upd No wz W→W.cell? ⟨wr.heap.size+1,3,none⟩=some (.int .i64 ky):=fun W u=>by have:=(bZ.upd u id).cell 3;simpa using this
          have x0y:=x0 wy uy;have hyy:Upd No wy wy:=Upd.refl _ _;have hzz:Upd No wz wz:=Upd.refl _ _;have huz:=hu4.trans (uy.trans uz);have g0z:=g0 wz huz;have g1z:=g1 wz huz;have HRZ:=Qh (uy.trans uz);have HUZ:=Qh huz;obtain⟨N,hN⟩:∃N,ZB hh ⟨xi,yi,(n:Int)+1,ky⟩=N:=⟨_,rfl⟩;have hct:=HCT.out wz (HV3.out.trans huz) ⟨xi,yi,(n:Int)+1,ky⟩;rw[hN]at hct;have HC:=Qh hct;have HBT:=Qh (ZpK (h:=hh) (a:=xi) (kind:=(n:Int)+1) (key:=ky) hltm hy);simp only at HBT;rw[hN]at HBT;clear hy bY bZ uy uz hN hct huz x0
          go_wp2_with fail
          refine(HC.out).mono ?_;rintro e w5 ⟨rfl,hu5⟩;have HU5:=Qh (HUZ.out.trans hu5);have HR5:=Qh (HRZ.out.trans hu5);have HO5:=Qh (Za ho4.out (HRZ.out.trans hu5) (fun _ _=>id));have HB5:=Qh (hbo4.out.upd (HRZ.out.trans hu5) id);have hsz5:=(HUZ.out.trans hu5).size;have hul:us.length≤200000:=by have:=hl4.out;have:=HKL.out;omega
          by_cases hN0:N=0
          ·have HN:=Qh (show us=vs++hrB hh xi ((n:Int)+1) ky (txs.take (m+1)) by rw[HBT.out,if_neg (by omega),List.append_nil];exact hs4.out);subst hN0;go_wp2
           go_roundg (gk-1)
           case measure=>omega
           case rel=>exact⟨m+1,A8,c8,us,by omega,by go_num,rfl,HN,Qh (by have:=hl4.out;omega),HO5,HB5,hap4,HU5.out⟩
          ·have hNp:(0:Int)<(N:Int):=by omega
           have HN:=Qh (show us++[⟨⟨xi,yi,(n:Int)+1,ky⟩,(N:Int)⟩]=vs++hrB hh xi ((n:Int)+1) ky (txs.take (m+1)) by rw[HBT.out,if_pos (by omega),←List.append_assoc,←hs4.out]);clear hN0
           go_wp2_with (at_builtin;refine Z0 rfl rfl Zk8 (base:=w3.heap.size) (v:= .slice A8 us.length c8) (n:=us.length) (xs:=Zc2 us) (cells:=[.int .i64 xi,.int .i64 yi,.int .i64 ((n:Int)+1),.int .i64 ky,.int .i64 (N:Int)]) (by rfl) (by rfl) HO5.out rfl rfl (by omega) (by omega) (by omega) ?_;intro g9 c9 w9 hown9 hu9 hg9 hlt9)
           go_roundg (gk-1)
           case measure=>omega
           case rel=>
            have hl1:(us++[(⟨⟨xi,yi,(n:Int)+1,ky⟩,(N:Int)⟩:Hvy)]).length=us.length+1:=by simp
            refine⟨m+1,some ⟨g9,0,none⟩,c9,us++[⟨⟨xi,yi,(n:Int)+1,ky⟩,(N:Int)⟩],by omega,by go_num,by rw[hl1],HN,Qh (by rw[hl1];have:=hl4.out;omega),Qh (by rw[hl1,ZiM];exact hown9),Qh (HB5.out.upd hu9 (fun e=>hap4.out _ e rfl)),Qh (fun i e=> ?_),HU5.out.then_ hu9 (fun i e=>Or.inr (HO5.out.lt i e).1)⟩;have e2:g9=i:=by simpa[Own,Value.ownBlock]using e
            rcases hg9 with h1|h1
            ·exact hap4.out i (show _=some i by rw[←e2];exact h1)
            ·have:=HB5.out.lt;omega
         ·obtain rfl:m=txs.length:=by omega
          have HN:=Qh (show us=ys++hrK hh xi ((n:Int)+1) (ks.take (j+1)) by rw[HKT.out,←List.append_assoc,←hs3.out];have:=hs4.out;rwa [List.take_length]at this);go_wp2
          go_roundg (GJ-1)
          case measure=>omega
          case rel=>exact⟨j+1,A8,c8,us,by omega,by go_num,rfl,HN,Qh (by have:=hl4.out;omega),ho4,hbo4,hap4,hu4⟩
       ·obtain rfl:j=ks.length:=by omega
        have HN:=Qh (show vs=xs++hrN hh xi (n+1) by
         have h1:=hs3.out;rw[List.take_length]at h1
         show vs=xs++(hrN hh xi n++hrK hh xi ((n:Int)+1) (Zbv hh.txs))
         rw[HHT.out,HKS.out,←List.append_assoc,←hs2.out];exact h1)
        go_wp2
        go_roundg (GN-1)
        case measure=>omega
        case rel=>exact⟨n+1,A7,c7,vs,by omega,by go_num,rfl,HN,Qh (by have:=hl3.out;have:=HKL.out;omega),ho3,hbo3,hap3,hu3⟩
     ·obtain rfl:n=3:=by omega
      have HN:=Qh (show ys=hrA hh (txs.take (k+1)) by rw[HT.out,←HS.out];exact hs2.out);clear hgn;go_wp2
      go_roundg (GK-1)
      case measure=>omega
      case rel=>exact⟨k+1,A6,c6,ys,by omega,by go_num,rfl,HN,Qh (by have:=hl2.out;omega),ho2,hu2⟩
   ·obtain rfl:k=txs.length:=by omega
    have hxs:xs=Zl hh:=by rw[←HE.out];have:=hs.out;rwa [List.take_length]at this
    subst hxs;go_wp2
    go_ret
    exact⟨A5,c5,rfl,ZY hown.out HV3.out.size,HV3.out.trans hu⟩
end
end Go.Proofs.YtklmahmfmbppkaaGreat
