/- Edges of a history: dsg.list. -/
import Derived.Test.YtonblekdfinpkaaGreatWrbe
import Derived.Test.YtonblekdfinpkaaGreatWrbf
import Derived.Test.YtonblekdfinpkaaGreatWrbi
import Derived.Test.YtonblekdfinpkaaGreatWrbj
import Derived.Test.YtonblekdfinpkaaGreatWrbm
namespace Go.Proofs.YtonblekdfinpkaaGreat
set_option linter.unusedVariables false
set_option linter.unusedSimpArgs false
section
open Go.RowKit
structure Hvy where
 e:Edge
 n:Int
deriving DecidableEq
def Hvy.cells (h:Hvy):List Value:=[.int .i64 h.e.f,.int .i64 h.e.t,.int .i64 h.e.k,.int .i64 h.e.key,.int .i64 h.n]
def Zhz (l:List Hvy):List Value:=(l.map Hvy.cells).flatten
theorem ZsC {l:List Hvy}:∀r∈l.map Hvy.cells,r.length=5:=fun r hr=>by
 obtain⟨e,_,rfl⟩:=List.mem_map.1 hr;rfl
theorem Zpl (l:List Hvy) (x:Hvy):Zhz (l++[x])=Zhz l++x.cells:=by unfold Zhz;simp
def Hvys (F:Nat→Prop) (w:World) (A:Option Addr) (l:List Hvy):Prop:=Recs F w A 5 (l.map Hvy.cells)
theorem Hvys.upd {F S:Nat→Prop} {w w':World} {A:Option Addr} {l:List Hvy} (h:Hvys F w A l) (k:Upd S w w') (hn:∀i,F i→¬S i):Hvys F w' A l:=Recs.upd h k hn
theorem Zsg:SlT Tryz.prog 78 148 5 40:=SlT.mk_ Tryz.underlying78 (z:= .agg #[.int .i64 0,.int .i64 0,.int .i64 0,.int .i64 0,.int .i64 0]) (by kernel_rfl) rfl (by omega)
def ZrV (w:World) (l:List Hvy) (e:Ending) (w':World):Prop:=∃A c,e= .returned (.slice A l.length c)∧w'.ownsRow w.heap.size 148 5 (.slice A l.length c) l.length (Zhz l)∧Upd No w w'
def hvL (g:Edge→Nat) (l:List Edge):List Hvy:=l.map fun e=>⟨e,(g e:Int)⟩
theorem ZqX {g:Edge→Nat} {l:List Edge} {k:Nat} {x:Edge} (hk:k<l.length) (hx:l[k]=x):hvL g (l.take (k+1))=hvL g (l.take k)++[⟨x,(g x:Int)⟩]:=by
 subst hx;unfold hvL;rw[List.take_succ_eq_append_getElem hk,List.map_append];rfl
set_option maxRecDepth 100000 in
set_option maxHeartbeats 8000000 in
theorem ZuS (w:World) (bc:Nat) (mc:List (Edge×Value)) (g:Edge→Nat) (hm:MapE w bc Z2 mc) (hg:CntM mc g) (hl:mc.length≤1000000):
  Calls Tryz.prog 95 #[.map (some bc)] w (ZrV w (hvL g (ddE (mc.map (·.1))))):=by
 obtain⟨es,hes⟩:∃es,ddE (mc.map (·.1))=es:=⟨_,rfl⟩;rw[hes];have HES:=Qh hes;clear hes;obtain⟨w1,hw1⟩:∃w1,w.alloc (.cells #[.map (some bc)] 111)=w1:=⟨_,rfl⟩;have u1:Upd No w w1:=by rw[←hw1];exact(Upd.refl No w).alloc _
 have b1:Blk w1 w.heap.size 111 [.map (some bc)]:=by rw[←hw1];exact Blk.new w _ _
 have HK:=Qh (ZuI w (some bc));rw[hw1]at HK;have HC:=Qh (Zra w1 w.heap.size bc mc (by simpa using b1.cell 0) (hm.upd u1 id) hl);have HM:=Qh hm;have HG:=Qh hg;have HU1:=Qh u1;have HKL:=Qh (show(mc.map (·.1)).length≤1000000 by rw[List.length_map];exact hl);clear hm hg hw1 u1 b1
 go_enter Tryz.func95,Tryz.ntmps95
 go_wp2_with fail
 refine(HK.out).mono ?_;rintro e w2 ⟨rfl,rfl⟩
 go_wp2_with fail
 refine(HC.out).mono ?_;rintro e w3 ⟨A3,c3,ks,rfl,hpm,ho3,hu3⟩;have HP:=Qh (Zur (Own (.slice A3 ks.length c3)) w3 A3 c3 ks (Recs.of_own Zas (by omega) ho3) (by have:=hpm.length_eq;have:=HKL.out;omega));rw[ZlM hpm]at HP;have hv3:=HU1.out.trans hu3;clear hpm ho3 hu3
 have hel:es.length≤1000000:=by
  rw[←HES.out];have h1:=Zm0 (Zbu (mc.map (·.1))) (mc.map (·.1)).length;have h2:=HKL.out;unfold ddE;omega
 rw[HES.out]at HP
 go_wp2_with fail
 refine(HP.out).mono ?_;rintro e w4 ⟨A4,c4,rfl,hx4,hu4⟩;have HV4:=Qh (hv3.trans hu4);obtain⟨G4,hx4⟩:=hx4;have HX4:=Qh hx4;clear hx4 hu4 hv3;go_wp2
 go_loopg [3,11] es.length (fun gk s i wr=>∃(k:Nat) (A5:Option Addr) (c5:Nat) (xs:List Hvy),k+gk=es.length∧i= .int .i64 k∧s= .slice A5 xs.length c5∧Hid (xs=hvL g (es.take k))∧Hid (wr.ownsRow w4.heap.size 148 5 (.slice A5 xs.length c5) xs.length (Zhz xs))∧Upd No w4 wr)
 case atStart=>exact⟨0,none,0,[],by omega,rfl,rfl,Qh rfl,Qh (World.ownsRow_nil _ _ _ _),Upd.refl _ _⟩
 case round=>
  obtain⟨k,A5,c5,xs,hgk,rfl,rfl,hs,hown,hu⟩:=hrel;have hxl:xs.length≤1000000:=by rw[hs.out];unfold hvL;rw[List.length_map,List.length_take];omega
  by_cases hlt:k<es.length
  ·obtain⟨ax,rfl,q0,q1,q2,q3⟩:=Walk.at_ (Walk.upd HX4.out hu (fun _ _=>id)) hlt;obtain⟨x,hxx⟩:∃x,es[k]=x:=⟨_,rfl⟩;rw[hxx]at q0 q1 q2 q3;have HS:=Qh (show xs++[⟨x,(g x:Int)⟩]=hvL g (es.take (k+1)) by rw[hs.out];exact(ZqX hlt hxx).symm);have i1:(0:Int)≤(k:Int):=Qn _;have i2:(k:Int)<(es.length:Int):=by omega
   obtain⟨wx,hwx⟩:∃wx,wr.alloc (.cells #[.int .i64 x.f,.int .i64 x.t,.int .i64 x.k,.int .i64 x.key] 26)=wx:=⟨_,rfl⟩;have ux:Upd No wr wx:=by rw[←hwx];exact(Upd.refl No wr).alloc _
   have bo:Blk wx wr.heap.size 26 [.int .i64 x.f,.int .i64 x.t,.int .i64 x.k,.int .i64 x.key]:=by rw[←hwx];exact Blk.new wr _ _
   have d0:∀W,Upd (Own (.slice A5 xs.length c5)) wx W→W.cell? ⟨wr.heap.size,0,none⟩=some (.int .i64 x.f):=fun W u=>by have:=(bo.upd u (fun e=>by have:=(hown.out.lt _ e).2;omega)).cell 0;simpa using this
   have d1:∀W,Upd (Own (.slice A5 xs.length c5)) wx W→W.cell? ⟨wr.heap.size,1,none⟩=some (.int .i64 x.t):=fun W u=>by have:=(bo.upd u (fun e=>by have:=(hown.out.lt _ e).2;omega)).cell 1;simpa using this
   have d2:∀W,Upd (Own (.slice A5 xs.length c5)) wx W→W.cell? ⟨wr.heap.size,2,none⟩=some (.int .i64 x.k):=fun W u=>by have:=(bo.upd u (fun e=>by have:=(hown.out.lt _ e).2;omega)).cell 2;simpa using this
   have d3:∀W,Upd (Own (.slice A5 xs.length c5)) wx W→W.cell? ⟨wr.heap.size,3,none⟩=some (.int .i64 x.key):=fun W u=>by have:=(bo.upd u (fun e=>by have:=(hown.out.lt _ e).2;omega)).cell 3;simpa using this
   obtain⟨N,hN⟩:∃N,g x=N:=⟨_,rfl⟩;rw[hN]at HS;have HWX:=Qh ((HV4.out.trans hu).trans ux)
   have L1:∀W,Upd (Own (.slice A5 xs.length c5)) wx W→(Instr.lookup 111 (.map (some bc)) (.agg #[.int .i64 x.f,.int .i64 x.t,.int .i64 x.k,.int .i64 x.key]) false).run Tryz.prog W= .ok (.int .i64 (N:Int)) W:=fun W u=>by
    have:=ZG ZbG Tryz.underlying111 ZaF ((HM.out.upd (S:=No) HWX.out id).upd u (fun e=>by have h1:=(hown.out.lt _ e).1;have h2:=HM.out.lt;have h3:=HV4.out.size;omega)).is x
    rwa [HG.out.val,hN]at this
   have HO:=Qh (Za hown.out ux (fun _ _=>id));have HUX:=Qh (hu.trans ux);have HSZ:=Qh (show w4.heap.size≤wx.heap.size from(hu.trans ux).size);have hxz:Upd (Own (.slice A5 xs.length c5)) wx wx:=Upd.refl _ _;have hzd:Upd No wx (wx.alloc (.cells #[.int .i64 x.f,.int .i64 x.t,.int .i64 x.k,.int .i64 x.key,.int .i64 (N:Int)] 148)).drew:=((Upd.refl No wx).alloc _).drew;clear hxx bo ux hN hown;go_wp2;refine wp_region_noPanic ?_;refine wp_region_held_drew (S:=(fun W'=>Upd (Own (.slice A5 xs.length c5)) wx W')) (by kernel_rfl) ?_ (fun hHeld=> ?_)
   ·(first|exact(Upd.refl _ wx).drew|exact hHeld|exact hHeld.alloc _|exact hU6)
   refine wpK 0 rfl ?_;refine wpK 1 rfl ?_;refine wpK 2 rfl ?_;refine wpK 3 rfl ?_;refine wpR [4] ?_;refine wpC rfl (fun K hK=> ?_) AllReadyH.nil;go_simp;refine hK.out _ _ ?_ (fun hHeld=> ?_)
   ·(first|exact(Upd.refl _ wx).drew|exact hHeld|exact hHeld.alloc _|exact hU6)
   clear hK K
   try simp only[Act.put,sT,sS,sZ]
   refine wpK 5 rfl ?_;refine wpR [6] ?_;refine wpC rfl (fun K hK=> ?_) AllReadyH.nil;go_simp;refine hK.out _ _ ?_ (fun hHeld=> ?_)
   ·(first|exact(Upd.refl _ wx).drew|exact hHeld|exact hHeld.alloc _|exact hU6)
   clear hK K
   try simp only[Act.put,sT,sS,sZ]
   refine wpR [7] ?_;refine wpC rfl (fun K hK=> ?_) AllReadyH.nil
   (first
  |(refine ZeG (by rfl) (by rfl) Zsg (v:= .slice A5 xs.length c5) (n:=xs.length) (xs:=Zhz xs) (cells:=[.int .i64 x.f,.int .i64 x.t,.int .i64 x.k,.int .i64 x.key,.int .i64 (N:Int)]) (by rfl) (by rfl) (by exact Za HO.out hzd (fun _ _=>id)) rfl (by exact Zdt) (by rfl) (by omega) (by omega) (by have:=HSZ.out;simp;omega) ?_;intro g6 c6 w6 hown6 hu6 hg6 hlt6;have hU6:Upd (Own (.slice A5 xs.length c5)) wx w6:=hHeld.trans hu6))
   refine hK.out _ _ ?_ (fun hHeld=> ?_)
   ·(first|exact(Upd.refl _ wx).drew|exact hHeld|exact hHeld.alloc _|exact hU6)
   clear hK K
   try simp only[Act.put,sT,sS,sZ]
   refine wpK 8 rfl ?_;refine wpD (NoPanic.normal ?_);have HU6:=Qh hHeld;clear hHeld;go_wp2
   go_roundg (gk-1)
   case measure=>omega
   case rel=>
    have hl1:(xs++[(⟨x,(N:Int)⟩:Hvy)]).length=xs.length+1:=by simp
    exact⟨k+1,some ⟨g6,0,none⟩,c6,xs++[⟨x,(N:Int)⟩],by omega,by go_num,by rw[hl1],HS,Qh (by rw[hl1,Zpl];exact hown6),HUX.out.then_ HU6.out (fun i e=>Or.inr (HO.out.lt i e).1)⟩
  ·obtain rfl:k=es.length:=by omega
   go_wp2
   go_ret
   have h1:=hs.out;rw[List.take_length]at h1;subst h1;exact⟨A5,c5,rfl,Zah hown.out HV4.out.size,HV4.out.trans hu⟩
end
/- Edges of a history:dsg.Edges,Of,Count,Plain. -/
section
open Go.RowKit
def Zq5 (g:Edge→Nat):Prop:=∀mc:List (Edge×Value),CntM mc g→mc.length≤1000000
def Zoc (g:Edge→Nat) (l:List Hvy):Prop:=∀mc:List (Edge×Value),CntM mc g→hvL g (ddE (mc.map (·.1)))=l
section
variable {F:Nat→Prop} {w:World} {txs:List HTx} {ords:List HOrd} {A:Option Addr} {c:Nat} {B:Option Addr} {d:Nat} {l:List Hvy}
set_option maxRecDepth 100000 in
set_option maxHeartbeats 4000000 in
theorem ZtM (H:Hist.lies F w ⟨txs,ords,A,c,B,d⟩) (hf:Zq5 (ZdV (fun _=>true) ⟨txs,ords,A,c,B,d⟩)) (he:Zoc (ZdV (fun _=>true) ⟨txs,ords,A,c,B,d⟩) l):
  Calls Tryz.prog 45 #[.agg #[.slice A txs.length c,.slice B ords.length d]] w (ZrV w l):=by
 obtain⟨w1,hw1⟩:∃w1,w.alloc (.cells #[.slice A txs.length c,.slice B ords.length d] 50)=w1:=⟨_,rfl⟩;have u1:Upd No w w1:=by rw[←hw1];exact(Upd.refl No w).alloc _
 have b1:Blk w1 w.heap.size 50 [.slice A txs.length c,.slice B ords.length d]:=by rw[←hw1];exact Blk.new w _ _
 have HC:=Qh (ZpC F w1 txs ords A c B d (fun _=>true) (H.upd u1 (fun _ _=>id)) (Qh (fun W key _=>ZsQ W key)));have d0:=b1.cell 0;have d1:=b1.cell 1;simp only[Qz,Qs]at d0 d1;have HU1:=Qh u1;have HF:=Qh hf;have HE:=Qh he;clear b1 u1 hf he H
 go_enter Tryz.func45,Tryz.ntmps45
 go_wp2_with fail
 refine(HC.out).mono ?_;rintro e w2 ⟨bc,mc,rfl,hbc,hm,hg,hu2⟩;have HL:=Qh (ZuS w2 bc mc _ hm hg (HF.out mc hg));rw[HE.out mc hg]at HL;have hv2:=HU1.out.trans hu2;clear hbc hm hg hu2
 go_wp2_with fail
 refine(HL.out).mono ?_;rintro e w3 ⟨A3,c3,rfl,ho3,hu3⟩;go_wp2
 go_ret
 exact⟨A3,c3,rfl,Zah ho3 hv2.size,hv2.trans hu3⟩
end
end
/- Edges of a history,the document's:those of a key,without counts;whether two lists are one. -/
section
open Go.RowKit
theorem Hvys.at_ {F:Nat→Prop} {w:World} {A:Option Addr} {l:List Hvy} (h:Hvys F w A l) {k:Nat} (hk:k<l.length):∃ad,A=some ad∧
  w.cell? (ad.add (k*5))=some (.int .i64 l[k].e.f)∧w.cell? ⟨(ad.add (k*5)).block,(ad.add (k*5)).off+1,none⟩=some (.int .i64 l[k].e.t)∧
  w.cell? ⟨(ad.add (k*5)).block,(ad.add (k*5)).off+2,none⟩=some (.int .i64 l[k].e.k)∧w.cell? ⟨(ad.add (k*5)).block,(ad.add (k*5)).off+3,none⟩=some (.int .i64 l[k].e.key)∧
  w.cell? ⟨(ad.add (k*5)).block,(ad.add (k*5)).off+4,none⟩=some (.int .i64 l[k].n):=by
 have hk':k<(l.map Hvy.cells).length:=by simpa using hk
 obtain⟨ad,e,_,_,hc⟩:=Recs.at_ h hk';rw[List.getElem_map]at hc;exact⟨ad,e,by simpa using hc 0 _ rfl,by simpa using hc 1 _ rfl,by simpa using hc 2 _ rfl,by simpa using hc 3 _ rfl,by simpa using hc 4 _ rfl⟩
def ZS (l:List Hvy):List Edge:=l.map (·.e)
theorem Zl9 {l:List Hvy} {k:Nat} {x:Hvy} (hk:k<l.length) (hx:l[k]=x):ZS (l.take (k+1))=ZS (l.take k)++[x.e]:=by
 subst hx;unfold ZS;rw[List.take_succ_eq_append_getElem hk,List.map_append];rfl
def ZgH (l:List Edge):List Value:=(l.map Edge.cells).flatten
theorem Zng (xs:List Edge) (e:Edge):ZgH (xs++[e])=ZgH xs++e.cells:=by unfold ZgH;simp
def Zu4 (w:World) (l:List Edge) (e:Ending) (w':World):Prop:=∃A c,e= .returned (.slice A l.length c)∧w'.ownsRow w.heap.size 26 4 (.slice A l.length c) l.length (ZgH l)∧Upd No w w'
set_option maxRecDepth 100000 in
set_option maxHeartbeats 4000000 in
theorem ZtL (F:Nat→Prop) (w:World) (A:Option Addr) (c:Nat) (l:List Hvy) (h:Hvys F w A l) (hl:l.length≤1000000):Calls Tryz.prog 44 #[.slice A l.length c] w (Zu4 w (ZS l)):=by
 go_enter Tryz.func44,Tryz.ntmps44
 go_wp2
 go_loopg [3,8] l.length (fun gk s i wr=>∃(k:Nat) (A5:Option Addr) (c5:Nat) (xs:List Edge),k+gk=l.length∧i= .int .i64 k∧s= .slice A5 xs.length c5∧Hid (xs=ZS (l.take k))∧Hid (wr.ownsRow w.heap.size 26 4 (.slice A5 xs.length c5) xs.length (ZgH xs))∧Upd No w wr)
 case atStart=>exact⟨0,none,0,[],by omega,rfl,rfl,Qh rfl,Qh (World.ownsRow_nil _ _ _ _),Upd.refl _ _⟩
 case round=>
  obtain⟨k,A5,c5,xs,hgk,rfl,rfl,hs,hown,hu⟩:=hrel;have hxl:xs.length≤1000000:=by rw[hs.out];unfold ZS;rw[List.length_map,List.length_take];omega
  by_cases hlt:k<l.length
  ·obtain⟨ax,rfl,q0,q1,q2,q3,q4⟩:=(h.upd hu (fun _ _=>id)).at_ hlt;obtain⟨⟨⟨xf,xt,xk,xy⟩,xn⟩,hxx⟩:∃x,l[k]=x:=⟨_,rfl⟩;rw[hxx]at q0 q1 q2 q3 q4;simp only at q0 q1 q2 q3 q4;have i1:(0:Int)≤(k:Int):=Qn _;have i2:(k:Int)<(l.length:Int):=by omega
   obtain⟨wx,hwx⟩:∃wx,wr.alloc (.cells #[.int .i64 xf,.int .i64 xt,.int .i64 xk,.int .i64 xy,.int .i64 xn] 148)=wx:=⟨_,rfl⟩;have ux:Upd No wr wx:=by rw[←hwx];exact(Upd.refl No wr).alloc _
   have bo:Blk wx wr.heap.size 148 [.int .i64 xf,.int .i64 xt,.int .i64 xk,.int .i64 xy,.int .i64 xn]:=by rw[←hwx];exact Blk.new wr _ _
   have d0:=bo.cell 0;have d1:=bo.cell 1;have d2:=bo.cell 2;have d3:=bo.cell 3;have d4:=bo.cell 4;simp only[Qz,Qs]at d0 d1 d2 d3 d4;have HUX:=Qh (hu.trans ux);have HO:=Qh (Za hown.out ux (fun _ _=>id));have hsz:=(hu.trans ux).size;have HS:=Qh (show xs++[⟨xf,xt,xk,xy⟩]=ZS (l.take (k+1)) by rw[hs.out];exact(Zl9 hlt hxx).symm);clear hxx bo ux hown
   go_wp2_with (at_builtin;refine Zb1 rfl rfl Za7 (base:=w.heap.size) (v:= .slice A5 xs.length c5) (n:=xs.length) (xs:=ZgH xs) (cells:=[.int .i64 xf,.int .i64 xt,.int .i64 xk,.int .i64 xy]) (by rfl) (by rfl) HO.out rfl rfl (by omega) (by omega) (by omega) ?_;intro g9 c9 w9 hown9 hu9 hg9 hlt9)
   go_roundg (gk-1)
   case measure=>omega
   case rel=>
    have hl1:(xs++[(⟨xf,xt,xk,xy⟩:Edge)]).length=xs.length+1:=by simp
    exact⟨k+1,some ⟨g9,0,none⟩,c9,xs++[⟨xf,xt,xk,xy⟩],by omega,by go_num,by rw[hl1],HS,Qh (by rw[hl1,Zng];exact hown9),HUX.out.then_ hu9 (fun i e=>Or.inr (HO.out.lt i e).1)⟩
  ·obtain rfl:k=l.length:=by omega
   go_wp2
   go_ret
   have h1:=hs.out;rw[List.take_length]at h1;subst h1;exact⟨A5,c5,rfl,hown.out,hu⟩
end
/- Edges of a history,the document's:all keys;all edges. -/
section
open Go.RowKit
def opK (l:List HOp):List Int:=l.map (·.key)
def txK (txs:List HTx):List Int:=txs.flatMap fun t=>opK t.ops
def ZcX (txs:List HTx):List Int:=Zde [] (txK txs)
/-! all edges -/
def hrB (h:Hist) (a kind key:Int) (bs:List HTx):List Hvy:=bs.flatMap fun b=>if 0<Zax h ⟨a,b.id,kind,key⟩ then [⟨⟨a,b.id,kind,key⟩,(Zax h ⟨a,b.id,kind,key⟩:Int)⟩] else []
def hrK (h:Hist) (a kind:Int) (ks:List Int):List Hvy:=ks.flatMap fun key=>hrB h a kind key h.txs
def hrN (h:Hist) (a:Int):Nat→List Hvy
 |0=>[]
 |n+1=>hrN h a n++hrK h a ((n:Int)+1) (ZcX h.txs)
def hrA (h:Hist) (ts:List HTx):List Hvy:=ts.flatMap fun t=>hrN h t.id 3
def ZD (h:Hist):List Hvy:=if Zb h=true then hrA h h.txs else []
end
/- Edges of a history,in plain words:what is counted is what the document counts. -/
section
open Go.RowKit
theorem Zi3 (key:Int) (e:Edge):∀l:List Int,e∈wwO key l↔e.k=1∧e.key=key∧∃i:Nat,l[i]? =some e.f∧l[i+1]? =some e.t
 |[]=>by simp[wwO]
 |[a]=>by
  simp[wwO]
 |a::b::l=>by
  have ih:=Zi3 key e (b::l)
  show e∈[⟨a,b,1,key⟩]++wwO key (b::l)↔_
  rw[List.mem_append,List.mem_singleton,ih]
  constructor
  ·rintro(rfl|⟨h1,h2,i,h3,h4⟩)
   ·exact⟨rfl,rfl,0,rfl,rfl⟩
   ·exact⟨h1,h2,i+1,h3,h4⟩
  ·rintro⟨h1,h2,i,h3,h4⟩
   cases i with
   |zero=>
    left
    simp at h3 h4;obtain⟨ef,et,ek,ey⟩:=e;simp only at h1 h2 h3 h4;subst h1 h2 h3 h4;rfl
   |succ i=>exact Or.inr ⟨h1,h2,i,h3,h4⟩
theorem Zsv (cnt:Int→Bool) (ords:List HOrd) (e:Edge):e∈wwL cnt ords↔e.k=1∧cnt e.key=true∧∃o∈ords,o.key=e.key∧∃i:Nat,o.txs[i]? =some e.f∧o.txs[i+1]? =some e.t:=by
 unfold wwL;rw[List.mem_flatMap]
 constructor
 ·rintro⟨o,ho,h⟩;unfold wwC at h
  split at h
  ·rename_i hc
   obtain⟨h1,h2,h3⟩:=(Zi3 _ _ _).1 h;exact⟨h1,by rw[h2];exact hc,o,ho,h2.symm,h3⟩
  ·cases h
 ·rintro⟨h1,h2,o,ho,h3,h4⟩;refine⟨o,ho,?_⟩;unfold wwC;rw[if_pos (by rw[h3];exact h2)];exact(Zi3 _ _ _).2 ⟨h1,h3.symm,h4⟩
/-! what was laid last -/
theorem Zio (p:Int×Int):∀(L:List ((Int×Int)×Int)) (a:Int),(∀e∈L,e.1≠p)→L.foldl (fun a e=>if e.1=p then e.2 else a) a=a
 |[],_,_=>rfl
 |e::L,a,h=>by
  rw[List.foldl_cons,if_neg (h e (List.mem_cons_self ..))];exact Zio p L a fun x hx=>h x (List.mem_cons_of_mem _ hx)
theorem ZjX (p:Int×Int) (v:Int):∀(L:List ((Int×Int)×Int)) (a:Int),(∀e∈L,e.1=p→e.2=v)→(a=v∨∃e∈L,e.1=p)→L.foldl (fun a e=>if e.1=p then e.2 else a) a=v
 |[],a,_,h=>by
  rcases h with h|⟨e,he,_⟩
  ·exact h
  ·cases he
 |e::L,a,h,h2=>by
  rw[List.foldl_cons];refine ZjX p v L _ (fun x hx=>h x (List.mem_cons_of_mem _ hx)) ?_
  by_cases hp:e.1=p
  ·rw[if_pos hp];exact Or.inl (h e (List.mem_cons_self ..) hp)
  ·rw[if_neg hp];rcases h2 with h2|⟨x,hx,hxp⟩
   ·exact Or.inl h2
   ·rcases List.mem_cons.1 hx with rfl|hx
    ·exact absurd hxp hp
    ·exact Or.inr ⟨x,hx,hxp⟩
theorem Zgc (key:Int) (e:(Int×Int)×Int):∀(l:List Int) (a:Int),e∈Za4 key a l↔e.1.1=key∧∃i:Nat,(a::l)[i]? =some e.1.2∧l[i]? =some e.2
 |[],a=>by simp[Za4]
 |x::l,a=>by
  show e∈((key,a),x)::Za4 key x l↔_
  rw[List.mem_cons,Zgc key e l x]
  constructor
  ·rintro(rfl|⟨h1,i,h2,h3⟩)
   ·exact⟨rfl,0,rfl,rfl⟩
   ·exact⟨h1,i+1,h2,h3⟩
  ·rintro⟨h1,i,h2,h3⟩
   cases i with
   |zero=>
    left
    obtain⟨⟨e1,e2⟩,e3⟩:=e;simp at h1 h2 h3;subst h1 h2 h3;rfl
   |succ i=>exact Or.inr ⟨h1,i,h2,h3⟩
def Nx (ords:List HOrd) (key x y:Int):Prop:=∃o∈ords,o.key=key∧∃i:Nat,(0::o.txs)[i]? =some x∧o.txs[i]? =some y
theorem Zgd (ords:List HOrd) (key x y:Int):((key,x),y)∈ZC ords↔Nx ords key x y:=by
 unfold ZC Nx;rw[List.mem_flatMap]
 constructor
 ·rintro⟨o,ho,h⟩;obtain⟨h1,h2⟩:=(Zgc _ _ _ _).1 h;exact⟨o,ho,h1.symm,h2⟩
 ·rintro⟨o,ho,h1,h2⟩;exact⟨o,ho,(Zgc _ _ _ _).2 ⟨h1.symm,h2⟩⟩
section
variable {h:Hist}
theorem Zg0 (hr:Zb h=true) {i:Nat} (hi:i<h.ords.length):ZdE h.txs h.ords i=true:=by
 unfold Zb at hr;simp only[Bool.and_eq_true,List.all_eq_true,List.mem_range]at hr;exact hr.2 i hi
theorem ZfY (hr:Zb h=true):(h.ords.map (·.key)).Pairwise (·<·):=Zmw fun j hj=>by
 rw[List.length_map]at hj;have:=((Zk7 hj).1 (Zg0 hr hj)).1 j rfl;rw[show(h.ords.map (·.key)).getD (j+1) 0=h.ords[j+1].key by rw[List.getD_eq_getElem?_getD,List.getElem?_map,Qg hj];rfl];exact this
theorem Zdp (hr:Zb h=true) {o:HOrd} (ho:o∈h.ords):o.txs.Perm (Zy h.txs o.key):=by
 obtain⟨j,hj,rfl⟩:=List.mem_iff_getElem.1 ho;have:=((Zk7 hj).1 (Zg0 hr hj)).2.2;rw[Zk1,beq_iff_eq]at this;exact(ZaR _).symm.trans (this▸ZaR _)
theorem ZeV (hr:Zb h=true):(h.txs.map (·.id)).Nodup:=Zd1 (Zdd hr)
theorem Zh4 (hr:Zb h=true) {o:HOrd} (ho:o∈h.ords):o.txs.Nodup:=by
 refine(Zdp hr ho).nodup_iff.2 ?_;unfold Zy;exact(ZeV hr).sublist (List.filter_sublist.map _)
theorem ZcN (hr:Zb h=true) {o:HOrd} (ho:o∈h.ords) {x:Int} (hx:x∈o.txs):∃t,Zk h.txs x=some t∧1≤x:=by
 have h1:=(Zdp hr ho).mem_iff.1 hx;unfold Zy at h1;obtain⟨t,ht,rfl⟩:=List.mem_map.1 h1;rw[List.mem_filter,Bool.and_eq_true]at ht;refine⟨t,?_,Zhg hr ht.1⟩;unfold Zk;rw[Zfv hr ht.1];simp[ht.2.1]
theorem ZfX (hr:Zb h=true) {o u:HOrd} (ho:o∈h.ords) (hu:u∈h.ords) (hk:o.key=u.key):o=u:=by
 obtain⟨i,hi,rfl⟩:=List.mem_iff_getElem.1 ho;obtain⟨j,hj,rfl⟩:=List.mem_iff_getElem.1 hu;have hp:=List.pairwise_iff_getElem.1 (ZfY hr);rcases Nat.lt_trichotomy i j with h1|h1|h1
 ·have:=hp i j (by simpa using hi) (by simpa using hj) h1;simp only[List.getElem_map]at this;omega
 ·subst h1;rfl
 ·have:=hp j i (by simpa using hj) (by simpa using hi) h1;simp only[List.getElem_map]at this;omega
theorem ZeI {l:List Int} (hn:l.Nodup) {i j:Nat} {x:Int} (h1:l[i]? =some x) (h2:l[j]? =some x):i=j:=by
 obtain⟨hi,e1⟩:=List.getElem?_eq_some_iff.1 h1;obtain⟨hj,e2⟩:=List.getElem?_eq_some_iff.1 h2;exact(List.getElem_inj hn).1 (e1.trans e2.symm)
theorem ZcQ (hr:Zb h=true) {o:HOrd} (ho:o∈h.ords):(0::o.txs).Nodup:=by
 refine List.nodup_cons.2 ⟨fun hm=> ?_,Zh4 hr ho⟩;obtain⟨_,_,h1⟩:=ZcN hr ho hm;omega
theorem Nx.one (hr:Zb h=true) {key x y z:Int} (h1:Nx h.ords key x y) (h2:Nx h.ords key x z):y=z:=by
 obtain⟨o,ho,hk,i,hi,hy⟩:=h1;obtain⟨u,hu,hk2,j,hj,hz⟩:=h2;obtain rfl:=ZfX hr ho hu (hk.trans hk2.symm);obtain rfl:=ZeI (ZcQ hr ho) hi hj;rw[hy]at hz;exact Option.some.inj hz
theorem Nx.ids (hr:Zb h=true) {key x y:Int} (h1:Nx h.ords key x y):(∃t,Zk h.txs y=some t)∧1≤y∧x≠y∧(x=0∨∃t,Zk h.txs x=some t):=by
 obtain⟨o,ho,hk,i,hi,hy⟩:=h1;obtain⟨t,ht,h2⟩:=ZcN hr ho (List.mem_of_getElem? hy);refine⟨⟨t,ht⟩,h2,fun e=> ?_,?_⟩
 ·subst e;have h3:(0::o.txs)[i+1]? =some x:=hy;have:=ZeI (ZcQ hr ho) hi h3;omega
 ·cases i with
  |zero=>left;simpa using hi.symm
  |succ i=>
   right
   obtain⟨t2,ht2,_⟩:=ZcN hr ho (List.mem_of_getElem? (show o.txs[i]? =some x from hi));exact⟨t2,ht2⟩
theorem ZmI (hr:Zb h=true) (key x:Int):(Z9 (ZC h.ords) (key,x)=0∧∀y,¬Nx h.ords key x y)∨Nx h.ords key x (Z9 (ZC h.ords) (key,x)):=by
 by_cases hx:∃y,Nx h.ords key x y
 ·obtain⟨y,hy⟩:=hx
  right
  have:Z9 (ZC h.ords) (key,x)=y:=by
   unfold Z9;refine ZjX (key,x) y _ 0 (fun e he hp=> ?_) (Or.inr ⟨((key,x),y),(Zgd _ _ _ _).2 hy,rfl⟩);obtain⟨p,v⟩:=e;simp only at hp;subst hp;exact Nx.one hr ((Zgd _ _ _ _).1 he) hy
  rw[this];exact hy
 ·left
  refine⟨?_,fun y hy=>hx ⟨y,hy⟩⟩;unfold Z9;refine Zio (key,x) _ 0 fun e he hp=>hx ⟨e.2,?_⟩
  obtain⟨p,v⟩:=e;simp only at hp;subst hp;exact(Zgd _ _ _ _).1 he
theorem Zlr (hr:Zb h=true) (key x y:Int) (hy:y≠0):Z9 (ZC h.ords) (key,x)=y↔Nx h.ords key x y:=by
 rcases ZmI hr key x with ⟨h1,h2⟩|h1
 ·rw[h1];exact⟨fun e=>absurd e.symm hy,fun e=>absurd e (h2 y)⟩
 ·constructor
  ·intro e;rw[←e];exact h1
  ·intro e;exact Nx.one hr h1 e
theorem Zk5 (hr:Zb h=true) {o:HOrd} (ho:o∈h.ords):ZaZ h.ords o.key=o.txs:=by
 obtain⟨k,hk,rfl⟩:=List.mem_iff_getElem.1 ho;have hp:=List.pairwise_iff_getElem.1 (ZfY hr)
 have:Zdf h.ords h.ords[k].key=k:=ZkX hk (fun j hj=>by
  have:=hp j k (by simp;omega) (by simpa using hk) hj;simp only[List.getElem_map]at this;rw[beq_eq_false_iff_ne];omega) (by simp)
 unfold ZaZ;rw[this,Qg hk]
theorem Zk6 {key:Int} (hn:∀o∈h.ords,o.key≠key):ZaZ h.ords key=[]:=by
 have:Zdf h.ords key=h.ords.length:=by
  unfold Zdf;rw[List.findIdx_eq_length];intro o ho
  simpa using hn o ho
 unfold ZaZ;rw[this,List.getElem?_eq_none (Nat.le_refl _)]
theorem ZoX {l:List Int} (hn:(0::l).Nodup) (x y:Int):Zbw l x=some y↔∃i:Nat,(0::l)[i]? =some x∧l[i]? =some y:=by
 unfold Zbw
 by_cases h0:x=0
 ·subst h0;rw[if_pos rfl]
  constructor
  ·intro h;exact⟨0,rfl,h⟩
  ·rintro⟨i,h1,h2⟩;obtain rfl:=ZeI hn h1 (show(0::l)[0]? =some 0 from rfl);exact h2
 ·rw[if_neg h0]
  by_cases hm:x∈l
  ·obtain⟨k,hk,hx⟩:=List.mem_iff_getElem.1 hm
   have hpos:Zm l x<l.length:=by
    unfold Zm;rw[List.findIdx_lt_length];exact⟨x,hm,by simp⟩
   have hget:l[Zm l x]? =some x:=by
    have:=List.findIdx_getElem (p:=(·==x)) (xs:=l) (w:=hpos);rw[beq_iff_eq]at this;rw[Qg hpos];exact congrArg some this
   rw[if_pos hpos]
   constructor
   ·intro h;exact⟨Zm l x+1,hget,h⟩
   ·rintro⟨i,h1,h2⟩;have:=ZeI hn h1 (show(0::l)[Zm l x+1]? =some x from hget);rw[←this];exact h2
  ·have hpos:¬Zm l x<l.length:=by
    unfold Zm;rw[List.findIdx_lt_length];rintro⟨z,hz,e⟩;simp at e;subst e;exact hm hz
   rw[if_neg hpos]
   constructor
   ·intro h;cases h
   ·rintro⟨i,h1,h2⟩
    cases i with
    |zero=>exact absurd (by simpa using h1.symm) h0
    |succ i=>exact absurd (List.mem_of_getElem? (show l[i]? =some x from h1)) hm
theorem ZdO (hr:Zb h=true) (key x y:Int):Za0 h.ords key x y=true↔Nx h.ords key x y:=by
 unfold Za0;rw[beq_iff_eq]
 by_cases hk:∃o∈h.ords,o.key=key
 ·obtain⟨o,ho,rfl⟩:=hk;rw[Zk5 hr ho,ZoX (ZcQ hr ho)]
  constructor
  ·intro h1;exact⟨o,ho,rfl,h1⟩
  ·rintro⟨u,hu,hk,h1⟩;obtain rfl:=ZfX hr hu ho hk;exact h1
 ·rw[Zk6 (fun o ho e=>hk ⟨o,ho,e⟩)]
  constructor
  ·intro h1;unfold Zbw Zm at h1;simp at h1
  ·rintro⟨u,hu,hk2,_⟩;exact absurd ⟨u,hu,hk2⟩ hk
end
end
/- Edges of a history,in plain words:each is counted as often as the document counts it. -/
section
open Go.RowKit
section
variable {β:Type} [DecidableEq β]
theorem Zgw (f:HTx→List β) (a:β):∀ts:List HTx,(∀u∈ts,Zx (f u) a=0)→Zx (ts.flatMap f) a=0
 |[],_=>rfl
 |u::ts,h=>by
  rw[List.flatMap_cons,ZaU,h u (List.mem_cons_self ..),Zgw f a ts fun x hx=>h x (List.mem_cons_of_mem _ hx)]
theorem Zgx (f:HTx→List β) (a:β):∀ts:List HTx,(ts.map (·.id)).Nodup→∀t∈ts,(∀u∈ts,u.id≠t.id→Zx (f u) a=0)→Zx (ts.flatMap f) a=Zx (f t) a
 |[],_,_,ht,_=>by cases ht
 |u::ts,hn,t,ht,h=>by
  rw[List.map_cons,List.nodup_cons]at hn;rw[List.flatMap_cons,ZaU];rcases List.mem_cons.1 ht with rfl|ht
  ·rw[Zgw f a ts fun x hx=>h x (List.mem_cons_of_mem _ hx) fun e=>hn.1 (e▸List.mem_map.2 ⟨x,hx,rfl⟩)];rfl
  ·rw[h u (List.mem_cons_self ..) fun e=>hn.1 (e▸List.mem_map.2 ⟨t,ht,rfl⟩),Zgx f a ts hn.2 t ht fun x hx=>h x (List.mem_cons_of_mem _ hx)];omega
end
theorem Zkg (id key:Int):∀l:List HOp,Zx (Zby id l) (id,key)=(l.filter (isW key)).length
 |[]=>rfl
 |o::l=>by
  have ih:=Zkg id key l;unfold Zby at ih ⊢
  by_cases h:isW key o=true
  ·have h2:(!o.read)=true∧o.key=key:=by unfold isW at h;simpa using h
   rw[List.filter_cons_of_pos (p:=fun o:HOp=> !o.read) h2.1,List.filter_cons_of_pos h,List.map_cons,List.length_cons,←ih];have:=ZaU [(id,o.key)] ((l.filter fun o=> !o.read).map fun o=>(id,o.key)) (id,key);rw[List.singleton_append]at this;rw[this,ZeA,if_pos (by rw[h2.2])];omega
  ·rw[List.filter_cons_of_neg h,←ih]
   by_cases hr:(!o.read)=true
   ·rw[List.filter_cons_of_pos (p:=fun o:HOp=> !o.read) hr,List.map_cons];have:=ZaU [(id,o.key)] ((l.filter fun o=> !o.read).map fun o=>(id,o.key)) (id,key);rw[List.singleton_append]at this;rw[this,ZeA,if_neg (fun e=>h (by unfold isW;rw[hr];simp[(Prod.mk.inj e).2]))];omega
   ·rw[List.filter_cons_of_neg (p:=fun o:HOp=> !o.read) hr]
theorem ZlO (id i key:Int) (hne:id≠i) (l:List HOp):Zx (Zby id l) (i,key)=0:=by
 unfold Zx Zby;rw[List.length_eq_zero_iff,List.filter_eq_nil_iff];intro x hx;obtain⟨o,_,rfl⟩:=List.mem_map.1 hx;simp[hne]
section
variable {h:Hist}
theorem Zez (hr:Zb h=true) (i:Int):i∈ZO h.txs↔∃t,Zk h.txs i=some t:=by
 unfold ZO;rw[List.mem_map]
 constructor
 ·rintro⟨t,ht,rfl⟩;rw[List.mem_filter]at ht;refine⟨t,?_⟩;unfold Zk;rw[Zfv hr ht.1];simp[ht.2]
 ·rintro⟨t,ht⟩;have h1:=Zbq ht;have h2:=Zc6 h1.1;exact⟨t,List.mem_filter.2 ⟨h2.1,h1.2⟩,h2.2⟩
theorem Zgs {i:Int} {t:HTx} (ht:Zk h.txs i=some t):t∈h.txs.filter (·.done)∧t.id=i:=by
 have h1:=Zbq ht;have h2:=Zc6 h1.1;exact⟨List.mem_filter.2 ⟨h2.1,h1.2⟩,h2.2⟩
theorem ZiF (hr:Zb h=true):((h.txs.filter (·.done)).map (·.id)).Nodup:=(ZeV hr).sublist (List.filter_sublist.map _)
theorem Zfl (hr:Zb h=true) {i:Int} {t:HTx} (ht:Zk h.txs i=some t) (key:Int):Zx (Zh h.txs) (i,key)=Z1 t.ops key:=by
 obtain⟨h1,rfl⟩:=Zgs ht;unfold Zh;rw[Zgx (fun t=>Zby t.id t.ops) (t.id,key) _ (ZiF hr) t h1 (fun u _ hne=>ZlO _ _ _ hne _),Zkg];unfold Z1 wrN;rw[List.take_length]
def Zfd (h:Hist) (o:HOp):Prop:=o.tx=0∨(o.tx∈ZO h.txs∧(Zx (Zh h.txs) (o.tx,o.key):Int)=o.nth)
instance (o:HOp):Decidable (Zfd h o):=inferInstanceAs (Decidable (_∨_))
theorem Zip (hr:Zb h=true) (o:HOp):Zfd h o↔Zao h.txs ⟨o.tx,o.key,o.nth⟩=true:=by
 unfold Zfd Zao
 by_cases h0:o.tx=0
 ·simp[h0]
 ·rw[if_neg h0,Zez hr]
  cases hd:Zk h.txs o.tx with
  |none=>simp[h0]
  |some t=>
   have:=Zfl hr hd o.key;rw[this];simp[h0];exact eq_comm
theorem ZoK (ti:Int) (o:HOp) (e:Edge):Zx (ZT (ZO h.txs) (Zh h.txs) (ZC h.ords) ti o) e=
  (if (o.tx≠ti∧Zfd h o)∧o.tx≠0∧e=⟨o.tx,ti,2,o.key⟩ then 1 else 0)+if (o.tx≠ti∧Zfd h o)∧(Z9 (ZC h.ords) (o.key,o.tx)≠0∧Z9 (ZC h.ords) (o.key,o.tx)≠ti)∧e=⟨ti,Z9 (ZC h.ords) (o.key,o.tx),3,o.key⟩ then 1 else 0:=by
 unfold ZT Zfd
 by_cases h1:o.tx=ti
 ·rw[if_pos h1,if_neg (fun h=>h.1.1 h1),if_neg (fun h=>h.1.1 h1),Zcl]
 ·rw[if_neg h1]
  by_cases h2:o.tx≠0∧o.tx∉ZO h.txs
  ·rw[if_pos h2,Zcl,if_neg,if_neg]
   ·rintro⟨⟨_,h3|h3⟩,_⟩
    ·exact h2.1 h3
    ·exact h2.2 h3.1
   ·rintro⟨⟨_,h3|h3⟩,_⟩
    ·exact h2.1 h3
    ·exact h2.2 h3.1
  ·rw[if_neg h2]
   by_cases h3:o.tx≠0∧(Zx (Zh h.txs) (o.tx,o.key):Int)≠o.nth
   ·rw[if_pos h3,Zcl,if_neg,if_neg]
    ·rintro⟨⟨_,h4|h4⟩,_⟩
     ·exact h3.1 h4
     ·exact h3.2 h4.2
    ·rintro⟨⟨_,h4|h4⟩,_⟩
     ·exact h3.1 h4
     ·exact h3.2 h4.2
   ·rw[if_neg h3,ZaU]
    have hL:o.tx=0∨(o.tx∈ZO h.txs∧(Zx (Zh h.txs) (o.tx,o.key):Int)=o.nth):=by
     by_cases h0:o.tx=0
     ·exact Or.inl h0
     ·exact Or.inr ⟨Classical.byContradiction fun hh=>h2 ⟨h0,hh⟩,Classical.byContradiction fun hh=>h3 ⟨h0,hh⟩⟩
    congr 1
    ·by_cases h0:o.tx≠0
     ·rw[if_pos h0,ZeA]
      by_cases he:e=⟨o.tx,ti,2,o.key⟩
      ·rw[if_pos he,if_pos ⟨⟨h1,hL⟩,h0,he⟩]
      ·rw[if_neg he,if_neg (fun hh=>he hh.2.2)]
     ·rw[if_neg h0,Zcl,if_neg (fun hh=>h0 hh.2.1)]
    ·by_cases h0:Z9 (ZC h.ords) (o.key,o.tx)≠0∧Z9 (ZC h.ords) (o.key,o.tx)≠ti
     ·rw[if_pos h0,ZeA]
      by_cases he:e=⟨ti,Z9 (ZC h.ords) (o.key,o.tx),3,o.key⟩
      ·rw[if_pos he,if_pos ⟨⟨h1,hL⟩,h0,he⟩]
      ·rw[if_neg he,if_neg (fun hh=>he hh.2.2)]
     ·rw[if_neg h0,Zcl,if_neg (fun hh=>h0 hh.2.1)]
theorem ZhI (f:HOp→List Edge) (e:Edge) (p q:HOp→Bool):∀l:List HOp,(∀o∈l,(if q o=true then Zx (f o) e else 0)=if p o=true then 1 else 0)→Zx ((l.filter q).flatMap f) e=l.countP p
 |[],_=>rfl
 |o::l,hh=>by
  have ih:=ZhI f e p q l fun x hx=>hh x (List.mem_cons_of_mem _ hx)
  have h1:=hh o (List.mem_cons_self ..);rw[List.countP_cons]
  by_cases hq:q o=true
  ·rw[List.filter_cons_of_pos hq,List.flatMap_cons,ZaU,ih];rw[if_pos hq]at h1;omega
  ·rw[List.filter_cons_of_neg hq,ih];rw[if_neg hq]at h1;omega
theorem Zgy (f:HOp→List Edge) (e:Edge) (q:HOp→Bool) (l:List HOp) (hh:∀o∈l,q o=true→Zx (f o) e=0):Zx ((l.filter q).flatMap f) e=0:=by
 rw[ZhI f e (fun _=>false) q l (fun o ho=>by
  by_cases hq:q o=true
  ·rw[if_pos hq,hh o ho hq];rfl
  ·rw[if_neg hq];rfl)]
 simp
theorem Zcj (cnt:Int→Bool) (LD:List Int) (LW:List (Int×Int)) (LN:List ((Int×Int)×Int)) (e:Edge) (hh:∀u∈h.txs.filter (·.done),∀o∈u.ops,Zx (ZT LD LW LN u.id o) e=0):Zx (rdL cnt LD LW LN h.txs) e=0:=by
 unfold rdL;exact Zgw _ _ _ fun u hu=>Zgy _ _ _ _ fun o ho _=>hh u hu o ho
theorem ZgJ (hr:Zb h=true) (cnt:Int→Bool) (LD:List Int) (LW:List (Int×Int)) (LN:List ((Int×Int)×Int)) (e:Edge) {t:HTx} (ht:t∈h.txs.filter (·.done)) (hh:∀u∈h.txs.filter (·.done),u.id≠t.id→∀o∈u.ops,Zx (ZT LD LW LN u.id o) e=0)
  (p:HOp→Bool) (hp:∀o∈t.ops,(if (o.read&&cnt o.key)=true then Zx (ZT LD LW LN t.id o) e else 0)=if p o=true then 1 else 0):Zx (rdL cnt LD LW LN h.txs) e=t.ops.countP p:=by
 unfold rdL;rw[Zgx (fun t=>rdO cnt LD LW LN t.id t.ops) e _ (ZiF hr) t ht (fun u hu hne=>Zgy _ _ _ _ fun o ho _=>hh u hu hne o ho)];exact ZhI _ _ _ _ _ hp
theorem Zd4 (cnt:Int→Bool) (e:Edge) (hr:Zb h=true):e∈wwL cnt h.ords↔e.k=1∧cnt e.key=true∧e.f≠0∧Nx h.ords e.key e.f e.t:=by
 rw[Zsv]
 constructor
 ·rintro⟨h1,h2,o,ho,hk,i,h3,h4⟩;refine⟨h1,h2,fun e0=> ?_,o,ho,hk,i+1,h3,h4⟩;obtain⟨_,_,h5⟩:=ZcN hr ho (List.mem_of_getElem? h3);omega
 ·rintro⟨h1,h2,h0,o,ho,hk,i,h3,h4⟩;refine⟨h1,h2,o,ho,hk,?_⟩
  cases i with
  |zero=>exact absurd (by simpa using h3.symm) h0
  |succ i=>exact⟨i,h3,h4⟩
theorem Zgo (hr:Zb h=true) {t:HTx} (ht:Zk h.txs 0=some t):False:=by
 have h1:=Zc6 (Zbq ht).1;have:=Zhg hr h1.1;omega
theorem ZmU (hr:Zb h=true) (cnt:Int→Bool) (e:Edge):ZnB cnt h.txs h.ords e=if cnt e.key=true then Zax h e else 0:=by
 obtain⟨ef,et,ek,ey⟩:=e;unfold ZnB;have hro:=ZoK (h:=h)
 by_cases k1:ek=1
 ·subst k1;rw[Zcj (h:=h) cnt _ _ _ _ (fun u _ o _=>by rw[hro,if_neg (fun hh=>by have:=congrArg Edge.k hh.2.2;simp at this),if_neg (fun hh=>by have:=congrArg Edge.k hh.2.2;simp at this)])];unfold Zbh;rw[Nat.add_zero]
  by_cases hc:cnt ey=true
  ·rw[if_pos hc]
   by_cases hm:(⟨ef,et,1,ey⟩:Edge)∈wwL cnt h.ords
   ·rw[if_pos hm];obtain⟨_,_,h0,hx⟩:=(Zd4 cnt _ hr).1 hm;simp only at h0 hx;obtain⟨⟨t,ht⟩,h2,h3,h4⟩:=Nx.ids hr hx;obtain⟨a,ha⟩:=h4.resolve_left h0;unfold Zax;simp only[ha,ht,if_neg h3,if_true,(ZdO hr ey ef et).2 hx]
   ·rw[if_neg hm]
    symm
    unfold Zax
    cases ha:Zk h.txs ef with
    |none=>rfl
    |some a=>
     cases hb:Zk h.txs et with
     |none=>rfl
     |some b=>
      simp only
      split
      ·rfl
      ·simp only[if_true];rw[if_neg];intro hn;have hx:=(ZdO hr ey ef et).1 hn;refine hm ((Zd4 cnt _ hr).2 ⟨rfl,hc,fun e0=> ?_,hx⟩);simp only at e0;subst e0;exact Zgo hr ha
  ·rw[if_neg hc,if_neg (fun hm=>hc ((Zd4 cnt _ hr).1 hm).2.1)]
 ·have hw:Zbh (wwL cnt h.ords) ⟨ef,et,ek,ey⟩=0:=by
   unfold Zbh;rw[if_neg (fun hm=>k1 ((Zd4 cnt _ hr).1 hm).1)]
  rw[hw,Nat.zero_add]
  by_cases k2:ek=2
  ·subst k2
   have hz:∀u∈h.txs.filter (·.done),u.id≠et→∀o∈u.ops,Zx (ZT (ZO h.txs) (Zh h.txs) (ZC h.ords) u.id o) (⟨ef,et,2,ey⟩:Edge)=0:=fun u _ hne o _=>by
    rw[hro,if_neg (fun hh=>hne (congrArg Edge.t hh.2.2).symm),if_neg (fun hh=>by have:=congrArg Edge.k hh.2.2;simp at this)]
   cases hb:Zk h.txs et with
   |none=>
    rw[Zcj (h:=h) cnt _ _ _ _ (fun u hu o ho=>hz u hu (fun e=>by
     have:=(Zez hr et).1 (by unfold ZO;exact List.mem_map.2 ⟨u,hu,e⟩);rw[hb]at this;obtain⟨_,h9⟩:=this
     cases h9) o ho)]
    unfold Zax;simp only[hb]
    cases Zk h.txs ef<;>simp
   |some b=>
    obtain⟨hbm,hbi⟩:=Zgs hb;have hz2:∀u∈h.txs.filter (·.done),u.id≠b.id→∀o∈u.ops,Zx (ZT (ZO h.txs) (Zh h.txs) (ZC h.ords) u.id o) (⟨ef,et,2,ey⟩:Edge)=0:=fun u hu hne=>hz u hu (by rw[←hbi];exact hne)
    cases ha:Zk h.txs ef with
    |none=>
     rw[Zcj (h:=h) cnt _ _ _ _ (fun u hu o ho=>by
      rw[hro,if_neg (c:=_∧o.tx≠0∧_),if_neg (fun hh=>by have:=congrArg Edge.k hh.2.2;simp at this)];rintro⟨⟨_,h3⟩,h4,h5⟩;rcases h3 with h3|h3
      ·exact h4 h3
      ·obtain⟨_,h6⟩:=(Zez hr _).1 h3.1;have e1:=congrArg Edge.f h5;simp only at e1;rw[←e1,ha]at h6
       cases h6)]
     unfold Zax;simp[ha]
    |some a=>
     by_cases hft:ef=et
     ·rw[Zcj (h:=h) cnt _ _ _ _ (fun u hu o ho=>by
       rw[hro,if_neg (c:=_∧o.tx≠0∧_),if_neg (fun hh=>by have:=congrArg Edge.k hh.2.2;simp at this)];rintro⟨⟨h3,_⟩,h4,h5⟩;have e1:=congrArg Edge.f h5;have e2:=congrArg Edge.t h5;simp only at e1 e2;exact h3 (by rw[←e1,←e2,hft]))]
      unfold Zax;simp[hb,hft]
     ·by_cases hc:cnt ey=true
      ·rw[if_pos hc,ZgJ (h:=h) hr cnt _ _ _ _ hbm hz2 (p2 ef ey (Z1 a.ops ey)) (fun o ho=> ?_)]
       ·unfold Zax;simp only[ha,hb,if_neg hft];rfl
       ·rw[hro,if_neg (c:=_∧(_∧_)∧_) (fun hh=>by have:=congrArg Edge.k hh.2.2;simp at this),Nat.add_zero]
        by_cases hp:p2 ef ey (Z1 a.ops ey) o=true
        ·rw[if_pos hp];unfold p2 at hp;simp only[Bool.and_eq_true,beq_iff_eq]at hp;obtain⟨⟨⟨q1,q2⟩,q3⟩,q4⟩:=hp;rw[if_pos (by rw[q1,q2,hc];rfl),if_pos];refine⟨⟨by rw[q3,hbi];exact hft,Or.inr ⟨by rw[q3];exact(Zez hr _).2 ⟨a,ha⟩,?_⟩⟩,fun e0=> ?_,by rw[q3,q2,hbi]⟩
         ·rw[q3,q2,Zfl hr ha];exact q4.symm
         ·rw[q3]at e0;subst e0;exact Zgo hr ha
        ·rw[if_neg hp]
         split
         ·rename_i hrd
          rw[if_neg];rintro⟨⟨h3,h4⟩,h5,h6⟩;have e1:=congrArg Edge.f h6;have e2:=congrArg Edge.key h6;simp only at e1 e2
          apply hp
          unfold p2;rcases h4 with h4|⟨h4,h7⟩
          ·exact absurd h4 h5
          ·rw[←e1,←e2,Zfl hr ha]at h7;rw[Bool.and_eq_true]at hrd;simp[hrd.1,←e1,←e2,h7]
         ·rfl
      ·rw[if_neg hc,ZgJ (h:=h) hr cnt _ _ _ _ hbm hz2 (fun _=>false) (fun o ho=>by
        by_cases hq:(o.read&&cnt o.key)=true
        ·rw[if_pos hq,hro,if_neg,if_neg (fun hh=>by have:=congrArg Edge.k hh.2.2;simp at this)]
         ·rfl
         ·rintro⟨_,_,h6⟩;have e2:=congrArg Edge.key h6;simp only at e2;rw[Bool.and_eq_true,←e2]at hq;exact hc hq.2
        ·rw[if_neg hq];rfl)]
       simp
  ·by_cases k3:ek=3
   ·subst k3
    have hz:∀u∈h.txs.filter (·.done),u.id≠ef→∀o∈u.ops,Zx (ZT (ZO h.txs) (Zh h.txs) (ZC h.ords) u.id o) (⟨ef,et,3,ey⟩:Edge)=0:=fun u _ hne o _=>by
     rw[hro,if_neg (c:=_∧o.tx≠0∧_) (fun hh=>by have:=congrArg Edge.k hh.2.2;simp at this),if_neg (fun hh=>hne (congrArg Edge.f hh.2.2).symm)]
    cases ha:Zk h.txs ef with
    |none=>
     rw[Zcj (h:=h) cnt _ _ _ _ (fun u hu o ho=>hz u hu (fun e=>by
      have:=(Zez hr ef).1 (by unfold ZO;exact List.mem_map.2 ⟨u,hu,e⟩);rw[ha]at this;obtain⟨_,h9⟩:=this
      cases h9) o ho)]
     unfold Zax;simp[ha]
    |some a=>
     obtain⟨ham,hai⟩:=Zgs ha;have hz2:∀u∈h.txs.filter (·.done),u.id≠a.id→∀o∈u.ops,Zx (ZT (ZO h.txs) (Zh h.txs) (ZC h.ords) u.id o) (⟨ef,et,3,ey⟩:Edge)=0:=fun u hu hne=>hz u hu (by rw[←hai];exact hne)
     cases hb:Zk h.txs et with
     |none=>
      rw[Zcj (h:=h) cnt _ _ _ _ (fun u hu o ho=>by
       rw[hro,if_neg (c:=_∧o.tx≠0∧_) (fun hh=>by have:=congrArg Edge.k hh.2.2;simp at this),if_neg];rintro⟨_,⟨h3,h4⟩,h5⟩;have e1:=congrArg Edge.t h5;simp only at e1;rcases ZmI hr o.key o.tx with h6|h6
       ·exact h3 h6.1
       ·obtain⟨⟨_,h7⟩,_⟩:=Nx.ids hr h6;rw[←e1,hb]at h7
        cases h7)]
      unfold Zax;simp[ha,hb]
     |some b=>
      by_cases hft:ef=et
      ·rw[Zcj (h:=h) cnt _ _ _ _ (fun u hu o ho=>by
        rw[hro,if_neg (c:=_∧o.tx≠0∧_) (fun hh=>by have:=congrArg Edge.k hh.2.2;simp at this),if_neg];rintro⟨_,⟨h3,h4⟩,h5⟩;have e1:=congrArg Edge.t h5;have e2:=congrArg Edge.f h5;simp only at e1 e2;exact h4 (by rw[←e1,←e2,hft]))]
       unfold Zax;simp[hb,hft]
      ·by_cases hc:cnt ey=true
       ·rw[if_pos hc,ZgJ (h:=h) hr cnt _ _ _ _ ham hz2 (p3 h a.id ey et) (fun o ho=> ?_)]
        ·unfold Zax;simp only[ha,hb,if_neg hft];rfl
        ·rw[hro,if_neg (c:=_∧o.tx≠0∧_) (fun hh=>by have:=congrArg Edge.k hh.2.2;simp at this),Nat.zero_add];have het:et≠0:=fun e0=>by subst e0;exact Zgo hr hb
         by_cases hp:p3 h a.id ey et o=true
         ·rw[if_pos hp];unfold p3 at hp;simp only[Bool.and_eq_true,beq_iff_eq,Bool.not_eq_true',beq_eq_false_iff_ne]at hp;obtain⟨⟨⟨⟨q1,q2⟩,q3⟩,q4⟩,q5⟩:=hp;have hl:=(Zlr hr ey o.tx et het).2 ((ZdO hr _ _ _).1 q5);rw[if_pos (by rw[q1,q2,hc];rfl),if_pos];refine⟨⟨q3,(Zip hr o).2 q4⟩,⟨by rw[q2,hl];exact het,by rw[q2,hl,hai];exact fun e=>hft e.symm⟩,by rw[q2,hl,hai]⟩
         ·rw[if_neg hp]
          split
          ·rename_i hrd
           rw[if_neg];rintro⟨⟨h3,h4⟩,⟨h5,h6⟩,h7⟩;have e1:=congrArg Edge.t h7;have e2:=congrArg Edge.key h7;simp only at e1 e2
           apply hp
           unfold p3;rw[Bool.and_eq_true]at hrd;have h8:=(Zip hr o).1 h4;have h9:Za0 h.ords ey o.tx et=true:=(ZdO hr _ _ _).2 ((Zlr hr ey o.tx et het).1 (by rw[e2];exact e1.symm));simp[hrd.1,←e2,h3,h9];rw[e2];exact h8
          ·rfl
       ·rw[if_neg hc,ZgJ (h:=h) hr cnt _ _ _ _ ham hz2 (fun _=>false) (fun o ho=>by
         by_cases hq:(o.read&&cnt o.key)=true
         ·rw[if_pos hq,hro,if_neg (c:=_∧o.tx≠0∧_) (fun hh=>by have:=congrArg Edge.k hh.2.2;simp at this),if_neg]
          ·rfl
          ·rintro⟨_,_,h6⟩;have e2:=congrArg Edge.key h6;simp only at e2;rw[Bool.and_eq_true,←e2]at hq;exact hc hq.2
         ·rw[if_neg hq];rfl)]
        simp
   ·rw[Zcj (h:=h) cnt _ _ _ _ (fun u _ o _=>by rw[hro,if_neg (fun hh=>k2 (congrArg Edge.k hh.2.2)),if_neg (fun hh=>k3 (congrArg Edge.k hh.2.2))])];unfold Zax
    cases Zk h.txs ef<;>cases Zk h.txs et<;>simp[k1,k2,k3]
end
end
/- Edges of a history,the document's:all edges are walked. -/
section
open Go.RowKit
theorem Zmp:∀(txs:List HTx),(∀t∈txs,t.ops.length≤24)→(txK txs).length≤24*txs.length
 |[],_=>by simp[txK]
 |x::l,h=>by
  have h1:=Zmp l fun t ht=>h t (List.mem_cons_of_mem _ ht)
  have h2:=h x (List.mem_cons_self ..);unfold txK at h1 ⊢;rw[List.flatMap_cons,List.length_append,List.length_cons];unfold opK at h1 ⊢;rw[List.length_map];omega
theorem Zrt (txs:List HTx) (h:∀t∈txs,t.ops.length≤24):(ZcX txs).length≤24*txs.length:=by
 have h1:=Zh6 (txK txs) [];have h2:=Zmp txs h;unfold ZcX;simp at h1;omega
end
/- Edges of a history,in plain words:the lists. -/
section
open Go.RowKit
theorem ZiI {s:List Edge} (h:s.Pairwise fun a b=>ltE a b=true):∀k,k≤s.length→ddF s k=s.take k
 |0,_=>by simp[ddF]
 |k+1,hk=>by
  have ih:=ZiI h k (by omega);rw[Zji (by omega),ih,List.take_succ_eq_append_getElem (by omega)]
  cases k with
  |zero=>exact Or.inl rfl
  |succ k=>
   right
   rw[Nat.add_sub_cancel,Qg (by omega),Qg (by omega)];intro e;have:=List.pairwise_iff_getElem.1 h k (k+1) (by omega) (by omega) (by omega);rw[Option.some.inj e,ZgM]at this
   cases this
theorem ZkH {s:List Edge} (h:s.Pairwise fun a b=>ltE a b=true):Zbu s=s:=by
 unfold Zbu;refine List.Perm.eq_of_pairwise (le:=fun a b=>(!ltOf ZaX b a)=true) (fun a b _ _ h1 h2=> ?_) (List.pairwise_mergeSort Zgi Zgj s) (h.imp fun {a b} hab=> ?_) (List.mergeSort_perm _ _)
 ·simp only[Za9,Bool.not_eq_true']at h1 h2;exact Zi5 h2 h1
 ·simp only[Za9,Bool.not_eq_true']
  cases hba:ltE b a with
  |false=>rfl
  |true=>have:=ZjU hab hba;rw[ZgM]at this;cases this
theorem ZnX {s:List Edge} (h:s.Pairwise fun a b=>ltE a b=true):ddE s=s:=by
 unfold ddE;rw[ZkH h,ZiI h _ (Nat.le_refl _),List.take_length]
theorem ZkE {s:List Edge} (h:s.Pairwise fun a b=>ltE a b=true):s.Nodup:=h.imp fun {a b} hab e=>by subst e;rw[ZgM]at hab;cases hab
theorem ZuJ {g:Edge→Nat} {l:List Hvy} (h1:(l.map (·.e)).Pairwise fun a b=>ltE a b=true) (h2:∀e,e∈l.map (·.e)↔g e≠0) (h3:∀x∈l,x.n=(g x.e:Int)):Zoc g l:=fun mc hm=>by
 have hp:(mc.map (·.1)).Perm (l.map (·.e)):=(List.perm_ext_iff_of_nodup hm.nd (ZkE h1)).2 fun a=>by rw[hm.mem,h2]
 rw[ZlM hp,ZnX h1];unfold hvL;rw[List.map_map]
 conv=>rhs;rw[←List.map_id l]
 refine List.map_congr_left fun x hx=> ?_
 have:=h3 x hx;obtain⟨e,n⟩:=x;simp only at this;simp[this]
theorem ZuG {g:Edge→Nat} {l:List Edge} (h:∀e,g e≠0→e∈l) (hl:l.length≤1000000):Zq5 g:=fun mc hm=>by
 have h1:=hm.nd.length_le_of_subset (l₂:=l) fun a ha=>h a ((hm.mem a).1 ha)
 rw[List.length_map]at h1;omega
section
variable {h:Hist}
theorem mem_hrB {a kind key:Int} {bs:List HTx} {x:Hvy}:x∈hrB h a kind key bs↔∃b∈bs,0<Zax h ⟨a,b.id,kind,key⟩∧x=⟨⟨a,b.id,kind,key⟩,(Zax h ⟨a,b.id,kind,key⟩:Int)⟩:=by
 unfold hrB;rw[List.mem_flatMap]
 constructor
 ·rintro⟨b,hb,hx⟩
  split at hx
  ·rename_i hp;exact⟨b,hb,hp,by simpa using hx⟩
  ·cases hx
 ·rintro⟨b,hb,hp,rfl⟩;exact⟨b,hb,by rw[if_pos hp];simp⟩
theorem mem_hrK {a kind:Int} {ks:List Int} {x:Hvy}:x∈hrK h a kind ks↔∃key∈ks,∃b∈h.txs,0<Zax h ⟨a,b.id,kind,key⟩∧x=⟨⟨a,b.id,kind,key⟩,(Zax h ⟨a,b.id,kind,key⟩:Int)⟩:=by
 unfold hrK;rw[List.mem_flatMap];simp only[mem_hrB]
theorem ZqY (a:Int):hrN h a 3=hrK h a 1 (ZcX h.txs)++hrK h a 2 (ZcX h.txs)++hrK h a 3 (ZcX h.txs):=rfl
theorem mem_hrA {ts:List HTx} {x:Hvy}:x∈hrA h ts↔∃t∈ts,∃kind,(kind=1∨kind=2∨kind=3)∧x∈hrK h t.id kind (ZcX h.txs):=by
 unfold hrA;rw[List.mem_flatMap];simp only[ZqY,List.mem_append]
 constructor
 ·rintro⟨t,ht,(h1|h1)|h1⟩
  ·exact⟨t,ht,1,Or.inl rfl,h1⟩
  ·exact⟨t,ht,2,Or.inr (Or.inl rfl),h1⟩
  ·exact⟨t,ht,3,Or.inr (Or.inr rfl),h1⟩
 ·rintro⟨t,ht,kind,rfl|rfl|rfl,h1⟩
  ·exact⟨t,ht,Or.inl (Or.inl h1)⟩
  ·exact⟨t,ht,Or.inl (Or.inr h1)⟩
  ·exact⟨t,ht,Or.inr h1⟩
theorem Ziw {a kind key:Int}:∀{bs:List HTx},(bs.map (·.id)).Pairwise (·<·)→((hrB h a kind key bs).map (·.e)).Pairwise fun a b=>ltE a b=true
 |[],_=>List.Pairwise.nil
 |b::bs,hp=>by
  rw[List.map_cons,List.pairwise_cons]at hp;have ih:=Ziw (a:=a) (kind:=kind) (key:=key) hp.2
  show((((if 0<Zax h ⟨a,b.id,kind,key⟩ then [_] else []):List Hvy)++hrB h a kind key bs).map (·.e)).Pairwise _
  rw[List.map_append]
  split
  ·refine List.pairwise_cons.2 ⟨fun y hy=> ?_,ih⟩;obtain⟨x,hx,rfl⟩:=List.mem_map.1 hy;obtain⟨u,hu,_,rfl⟩:=mem_hrB.1 hx;have:=hp.1 u.id (List.mem_map.2 ⟨u,hu,rfl⟩);exact(ZbD _ _).2 (Or.inr ⟨rfl,Or.inr ⟨rfl,Or.inr ⟨rfl,this⟩⟩⟩)
  ·exact ih
theorem Ziv (hr:(h.txs.map (·.id)).Pairwise (·<·)) {a kind:Int}:∀{ks:List Int},ks.Pairwise (·<·)→((hrK h a kind ks).map (·.e)).Pairwise fun a b=>ltE a b=true
 |[],_=>List.Pairwise.nil
 |k::ks,hp=>by
  rw[List.pairwise_cons]at hp;have ih:=Ziv hr (a:=a) (kind:=kind) hp.2
  show((hrB h a kind k h.txs++hrK h a kind ks).map (·.e)).Pairwise _
  rw[List.map_append,List.pairwise_append];refine⟨Ziw hr,ih,fun y hy z hz=> ?_⟩;obtain⟨x,hx,rfl⟩:=List.mem_map.1 hy;obtain⟨v,hv,rfl⟩:=List.mem_map.1 hz;obtain⟨u,hu,_,rfl⟩:=mem_hrB.1 hx;obtain⟨k2,hk2,u2,hu2,_,rfl⟩:=mem_hrK.1 hv;have:=hp.1 k2 hk2;exact(ZbD _ _).2 (Or.inr ⟨rfl,Or.inr ⟨rfl,Or.inl this⟩⟩)
theorem Zs0 (txs:List HTx):(ZcX txs).Pairwise (·<·):=ZjD _ _ List.Pairwise.nil
theorem Zix (hr:(h.txs.map (·.id)).Pairwise (·<·)):∀{ts:List HTx},(ts.map (·.id)).Pairwise (·<·)→((hrA h ts).map (·.e)).Pairwise fun a b=>ltE a b=true
 |[],_=>List.Pairwise.nil
 |t::ts,hp=>by
  rw[List.map_cons,List.pairwise_cons]at hp;have ih:=Zix hr hp.2
  show((hrN h t.id 3++hrA h ts).map (·.e)).Pairwise _
  have hkk:=fun kind=>Ziv hr (a:=t.id) (kind:=kind) (Zs0 h.txs)
  rw[ZqY,List.map_append,List.map_append,List.map_append,List.pairwise_append,List.pairwise_append,List.pairwise_append];refine⟨⟨⟨hkk 1,hkk 2,fun y hy z hz=> ?_⟩,hkk 3,fun y hy z hz=> ?_⟩,ih,fun y hy z hz=> ?_⟩
  ·obtain⟨x,hx,rfl⟩:=List.mem_map.1 hy;obtain⟨v,hv,rfl⟩:=List.mem_map.1 hz;obtain⟨k2,_,u,_,_,rfl⟩:=mem_hrK.1 hx;obtain⟨k3,_,u3,_,_,rfl⟩:=mem_hrK.1 hv;exact(ZbD _ _).2 (Or.inr ⟨rfl,Or.inl (show(1:Int)<2 by decide)⟩)
  ·obtain⟨v,hv,rfl⟩:=List.mem_map.1 hz;obtain⟨k3,_,u3,_,_,rfl⟩:=mem_hrK.1 hv;rcases List.mem_append.1 hy with hy|hy
   ·obtain⟨x,hx,rfl⟩:=List.mem_map.1 hy;obtain⟨k2,_,u,_,_,rfl⟩:=mem_hrK.1 hx;exact(ZbD _ _).2 (Or.inr ⟨rfl,Or.inl (show(1:Int)<3 by decide)⟩)
   ·obtain⟨x,hx,rfl⟩:=List.mem_map.1 hy;obtain⟨k2,_,u,_,_,rfl⟩:=mem_hrK.1 hx;exact(ZbD _ _).2 (Or.inr ⟨rfl,Or.inl (show(2:Int)<3 by decide)⟩)
  ·obtain⟨v,hv,rfl⟩:=List.mem_map.1 hz;obtain⟨t2,ht2,kind,_,hx2⟩:=mem_hrA.1 hv;obtain⟨k3,_,u3,_,_,rfl⟩:=mem_hrK.1 hx2;have:=hp.1 t2.id (List.mem_map.2 ⟨t2,ht2,rfl⟩)
   have hy2:y.f=t.id:=by
    rcases List.mem_append.1 hy with hy|hy
    ·rcases List.mem_append.1 hy with hy|hy
     ·obtain⟨x,hx,rfl⟩:=List.mem_map.1 hy;obtain⟨k2,_,u,_,_,rfl⟩:=mem_hrK.1 hx;rfl
     ·obtain⟨x,hx,rfl⟩:=List.mem_map.1 hy;obtain⟨k2,_,u,_,_,rfl⟩:=mem_hrK.1 hx;rfl
    ·obtain⟨x,hx,rfl⟩:=List.mem_map.1 hy;obtain⟨k2,_,u,_,_,rfl⟩:=mem_hrK.1 hx;rfl
   exact(ZbD _ _).2 (Or.inl (by rw[hy2];exact this))
theorem ZqM (txs:List HTx) (key:Int):key∈ZcX txs↔∃t∈txs,∃o∈t.ops,o.key=key:=by
 unfold ZcX txK opK;rw[Zik,List.mem_flatMap];simp only[List.mem_map,List.not_mem_nil,false_or]
theorem ZpF (hr:Zb h=true) {e:Edge} (hc:Zax h e≠0):(∃a∈h.txs,a.id=e.f)∧(∃b∈h.txs,b.id=e.t)∧(e.k=1∨e.k=2∨e.k=3)∧e.key∈ZcX h.txs:=by
 unfold Zax at hc
 cases ha:Zk h.txs e.f with
 |none=>rw[ha]at hc;exact absurd rfl hc
 |some a=>
  cases hb:Zk h.txs e.t with
  |none=>rw[ha,hb]at hc;exact absurd rfl hc
  |some b=>
   rw[ha,hb]at hc;simp only at hc;obtain⟨ha1,ha2⟩:=Zc6 (Zbq ha).1;obtain⟨hb1,hb2⟩:=Zc6 (Zbq hb).1;refine⟨⟨a,ha1,ha2⟩,⟨b,hb1,hb2⟩,?_⟩;rw[ZqM]
   split at hc
   ·exact absurd rfl hc
   ·split at hc
    ·rename_i hk
     refine⟨Or.inl hk,?_⟩
     split at hc
     ·rename_i hn
      obtain⟨o,ho,hok,i,hi,hy⟩:=(ZdO hr _ _ _).1 hn;have hw:=(Zdp hr ho).mem_iff.1 (List.mem_of_getElem? hy);unfold Zy at hw;obtain⟨t,ht,_⟩:=List.mem_map.1 hw;rw[List.mem_filter,Bool.and_eq_true,List.contains_iff_mem]at ht;have hk2:=ht.2.2;unfold ZcO at hk2;rw[Zeq]at hk2;unfold ZbF at hk2;obtain⟨op,hop,hopk⟩:=List.mem_map.1 hk2;rw[List.mem_filter]at hop;exact⟨t,ht.1,op,hop.1,hopk.trans hok⟩
     ·exact absurd rfl hc
    ·split at hc
     ·rename_i hk
      refine⟨Or.inr (Or.inl hk),?_⟩;obtain⟨o,ho,hp⟩:=List.countP_pos_iff.1 (Nat.pos_of_ne_zero hc);unfold p2 at hp;simp only[Bool.and_eq_true,beq_iff_eq]at hp;exact⟨b,hb1,o,ho,hp.1.1.2⟩
     ·split at hc
      ·rename_i hk
       refine⟨Or.inr (Or.inr hk),?_⟩;obtain⟨o,ho,hp⟩:=List.countP_pos_iff.1 (Nat.pos_of_ne_zero hc);unfold p3 at hp;simp only[Bool.and_eq_true,beq_iff_eq]at hp;exact⟨a,ha1,o,ho,hp.1.1.1.2⟩
      ·exact absurd rfl hc
theorem ZbT (hr:Zb h=true) {x:Hvy}:x∈ZD h↔Zax h x.e≠0∧x.n=(Zax h x.e:Int):=by
 unfold ZD;rw[if_pos hr,mem_hrA]
 constructor
 ·rintro⟨t,_,kind,_,hx⟩;obtain⟨key,_,b,_,h1,rfl⟩:=mem_hrK.1 hx;exact⟨by simp only;omega,rfl⟩
 ·rintro⟨h1,h2⟩;obtain⟨⟨a,ha,hae⟩,⟨b,hb,hbe⟩,hk,hkey⟩:=ZpF hr h1;refine⟨a,ha,x.e.k,hk,mem_hrK.2 ⟨x.e.key,hkey,b,hb,?_⟩⟩;obtain⟨⟨ef,et,ek,ey⟩,n⟩:=x;simp only at*;subst hae hbe h2;exact⟨by omega,rfl⟩
theorem Zf0:((ZD h).map (·.e)).Pairwise fun a b=>ltE a b=true:=by
 unfold ZD
 split
 ·rename_i hr;exact Zix (Zdd hr) (Zdd hr)
 ·exact List.Pairwise.nil
theorem Zjd (cnt:Int→Bool) (e:Edge):ZdV cnt h e=if Zb h=true then (if cnt e.key=true then Zax h e else 0) else 0:=by
 unfold ZdV
 split
 ·rename_i hr;exact ZmU hr cnt e
 ·rfl
theorem ZnM:Zoc (ZdV (fun _=>true) h) (ZD h):=by
 refine ZuJ Zf0 (fun e=> ?_) fun x hx=> ?_
 ·rw[Zjd]
  by_cases hr:Zb h=true
  ·rw[if_pos hr,if_pos rfl,List.mem_map]
   constructor
   ·rintro⟨x,hx,rfl⟩;exact((ZbT hr).1 hx).1
   ·intro hc;exact⟨⟨e,(Zax h e:Int)⟩,(ZbT hr).2 ⟨hc,rfl⟩,rfl⟩
  ·rw[if_neg hr];unfold ZD;rw[if_neg hr];simp
 ·by_cases hr:Zb h=true
  ·rw[Zjd,if_pos hr,if_pos rfl];exact((ZbT hr).1 hx).2
  ·unfold ZD at hx;rw[if_neg hr]at hx;cases hx
theorem ZmR (a kind key:Int):∀bs:List HTx,(hrB h a kind key bs).length≤bs.length
 |[]=>Nat.le_refl _
 |b::bs=>by
  have:=ZmR a kind key bs
  show((((if 0<Zax h ⟨a,b.id,kind,key⟩ then [_] else []):List Hvy)++hrB h a kind key bs)).length≤_
  rw[List.length_append,List.length_cons]
  split<;>simp<;>omega
theorem ZgO (a kind:Int) (n:h.txs.length≤12):∀ks:List Int,(hrK h a kind ks).length≤12*ks.length
 |[]=>Nat.le_refl _
 |k::ks=>by
  have h1:=ZgO a kind n ks;have h2:=ZmR (h:=h) a kind k h.txs
  show(hrB h a kind k h.txs++hrK h a kind ks).length≤_
  rw[List.length_append,List.length_cons];omega
theorem ZmS (n:h.txs.length≤12) (n2:(ZcX h.txs).length≤288):∀ts:List HTx,(hrA h ts).length≤10368*ts.length
 |[]=>Nat.le_refl _
 |t::ts=>by
  have h1:=ZmS n n2 ts;have h2:=ZgO (h:=h) t.id 1 n (ZcX h.txs);have h3:=ZgO (h:=h) t.id 2 n (ZcX h.txs);have h4:=ZgO (h:=h) t.id 3 n (ZcX h.txs)
  show(hrN h t.id 3++hrA h ts).length≤_
  rw[ZqY,List.length_append,List.length_append,List.length_append,List.length_cons];omega
theorem ZnL (n:h.txs.length≤12) (n2:∀t∈h.txs,t.ops.length≤24):(ZD h).length≤200000:=by
 unfold ZD
 split
 ·have h1:=Zrt h.txs n2;have:=ZmS n (by omega) h.txs;omega
 ·simp
theorem ZsM (n:h.txs.length≤12) (n2:∀t∈h.txs,t.ops.length≤24) (cnt:Int→Bool):Zq5 (ZdV cnt h):=by
 refine ZuG (l:=(ZD h).map (·.e)) (fun e hg=> ?_) (by rw[List.length_map];have:=ZnL n n2;omega);rw[Zjd]at hg
 by_cases hr:Zb h=true
 ·rw[if_pos hr]at hg
  by_cases hc:cnt e.key=true
  ·rw[if_pos hc]at hg;exact List.mem_map.2 ⟨⟨e,(Zax h e:Int)⟩,(ZbT hr).2 ⟨hg,rfl⟩,rfl⟩
  ·rw[if_neg hc]at hg;exact absurd rfl hg
 ·rw[if_neg hr]at hg;exact absurd rfl hg
end
end
end Go.Proofs.YtonblekdfinpkaaGreat
