/- Edges of a history: dsg.list. -/
import Derived.Test.YtonblekdfinpkaaGreatSxbc
import Derived.Test.YtonblekdfinpkaaGreatSxbe
import Derived.Test.YtonblekdfinpkaaGreatSxbh
import Derived.Test.YtonblekdfinpkaaGreatSxbk
import Derived.Test.YtonblekdfinpkaaGreatSxbl
namespace Go.Proofs.YtonblekdfinpkaaGreat
set_option linter.unusedVariables false
set_option linter.unusedSimpArgs false
section
open Go.RowKit
structure Hvy where
 e:Edge
 n:Int
deriving DecidableEq
def Hvy.cells (h:Hvy):List Value:=[.int .i64 h.e.f,.int .i64 h.e.t,.int .i64 h.e.k,.int .i64 h.e.key,.int .i64 h.n]
def Zgq (l:List Hvy):List Value:=(l.map Hvy.cells).flatten
theorem Zql {l:List Hvy}:∀r∈l.map Hvy.cells,r.length=5:=fun r hr=>by
 obtain⟨e,_,rfl⟩:=List.mem_map.1 hr;rfl
theorem Znp (l:List Hvy) (x:Hvy):Zgq (l++[x])=Zgq l++x.cells:=by unfold Zgq;simp
def Hvys (F:Nat→Prop) (w:World) (A:Option Addr) (l:List Hvy):Prop:=Recs F w A 5 (l.map Hvy.cells)
theorem Hvys.upd {F S:Nat→Prop} {w w':World} {A:Option Addr} {l:List Hvy} (h:Hvys F w A l) (k:Upd S w w') (hn:∀i,F i→¬S i):Hvys F w' A l:=Recs.upd h k hn
theorem ZpW:SlT Tryz.prog 78 148 5 40:=SlT.mk_ Tryz.underlying78 (z:= .agg #[.int .i64 0,.int .i64 0,.int .i64 0,.int .i64 0,.int .i64 0]) (by kernel_rfl) rfl (by omega)
def ZpD (w:World) (l:List Hvy) (e:Ending) (w':World):Prop:=∃A c,e= .returned (.slice A l.length c)∧w'.ownsRow w.heap.size 148 5 (.slice A l.length c) l.length (Zgq l)∧Upd No w w'
def hvL (g:Edge→Nat) (l:List Edge):List Hvy:=l.map fun e=>⟨e,(g e:Int)⟩
theorem ZoO {g:Edge→Nat} {l:List Edge} {k:Nat} {x:Edge} (hk:k<l.length) (hx:l[k]=x):hvL g (l.take (k+1))=hvL g (l.take k)++[⟨x,(g x:Int)⟩]:=by
 subst hx;unfold hvL;rw[List.take_succ_eq_append_getElem hk,List.map_append];rfl
set_option maxRecDepth 100000 in
set_option maxHeartbeats 8000000 in
theorem Zst (w:World) (bc:Nat) (mc:List (Edge×Value)) (g:Edge→Nat) (hm:MapE w bc ZM mc) (hg:CntM mc g) (hl:mc.length≤1000000):
  Calls Tryz.prog 95 #[.map (some bc)] w (ZpD w (hvL g (ddE (mc.map (·.1))))):=by
 obtain⟨es,hes⟩:∃es,ddE (mc.map (·.1))=es:=⟨_,rfl⟩;rw[hes];have HES:=Qh hes;clear hes;obtain⟨w1,hw1⟩:∃w1,w.alloc (.cells #[.map (some bc)] 111)=w1:=⟨_,rfl⟩;have u1:Upd No w w1:=by rw[←hw1];exact(Upd.refl No w).alloc _
 have b1:Blk w1 w.heap.size 111 [.map (some bc)]:=by rw[←hw1];exact Blk.new w _ _
 have HK:=Qh (Zsl w (some bc));rw[hw1]at HK;have HC:=Qh (Zo3 w1 w.heap.size bc mc (by simpa using b1.cell 0) (hm.upd u1 id) hl);have HM:=Qh hm;have HG:=Qh hg;have HU1:=Qh u1;have HKL:=Qh (show(mc.map (·.1)).length≤1000000 by rw[List.length_map];exact hl);clear hm hg hw1 u1 b1
 go_enter Tryz.func95,Tryz.ntmps95
 go_wp2_with fail
 refine(HK.out).mono ?_;rintro e w2 ⟨rfl,rfl⟩
 go_wp2_with fail
 refine(HC.out).mono ?_;rintro e w3 ⟨A3,c3,ks,rfl,hpm,ho3,hu3⟩;have HP:=Qh (Zr7 (Own (.slice A3 ks.length c3)) w3 A3 c3 ks (Recs.of_own ZbH (by omega) ho3) (by have:=hpm.length_eq;have:=HKL.out;omega));rw[Zj4 hpm]at HP;have hv3:=HU1.out.trans hu3;clear hpm ho3 hu3
 have hel:es.length≤1000000:=by
  rw[←HES.out];have h1:=Zld (ZaX (mc.map (·.1))) (mc.map (·.1)).length;have h2:=HKL.out;unfold ddE;omega
 rw[HES.out]at HP
 go_wp2_with fail
 refine(HP.out).mono ?_;rintro e w4 ⟨A4,c4,rfl,hx4,hu4⟩;have HV4:=Qh (hv3.trans hu4);obtain⟨G4,hx4⟩:=hx4;have HX4:=Qh hx4;clear hx4 hu4 hv3;go_wp2
 go_loopg [3,11] es.length (fun gk s i wr=>∃(k:Nat) (A5:Option Addr) (c5:Nat) (xs:List Hvy),k+gk=es.length∧i= .int .i64 k∧s= .slice A5 xs.length c5∧Hid (xs=hvL g (es.take k))∧Hid (wr.ownsRow w4.heap.size 148 5 (.slice A5 xs.length c5) xs.length (Zgq xs))∧Upd No w4 wr)
 case atStart=>exact⟨0,none,0,[],by omega,rfl,rfl,Qh rfl,Qh (World.ownsRow_nil _ _ _ _),Upd.refl _ _⟩
 case round=>
  obtain⟨k,A5,c5,xs,hgk,rfl,rfl,hs,hown,hu⟩:=hrel;have hxl:xs.length≤1000000:=by rw[hs.out];unfold hvL;rw[List.length_map,List.length_take];omega
  by_cases hlt:k<es.length
  ·obtain⟨ax,rfl,q0,q1,q2,q3⟩:=Walk.at_ (Walk.upd HX4.out hu (fun _ _=>id)) hlt;obtain⟨x,hxx⟩:∃x,es[k]=x:=⟨_,rfl⟩;rw[hxx]at q0 q1 q2 q3;have HS:=Qh (show xs++[⟨x,(g x:Int)⟩]=hvL g (es.take (k+1)) by rw[hs.out];exact(ZoO hlt hxx).symm);have i1:(0:Int)≤(k:Int):=Qn _;have i2:(k:Int)<(es.length:Int):=by omega
   obtain⟨wx,hwx⟩:∃wx,wr.alloc (.cells #[.int .i64 x.f,.int .i64 x.t,.int .i64 x.k,.int .i64 x.key] 26)=wx:=⟨_,rfl⟩;have ux:Upd No wr wx:=by rw[←hwx];exact(Upd.refl No wr).alloc _
   have bo:Blk wx wr.heap.size 26 [.int .i64 x.f,.int .i64 x.t,.int .i64 x.k,.int .i64 x.key]:=by rw[←hwx];exact Blk.new wr _ _
   have d0:∀W,Upd (Own (.slice A5 xs.length c5)) wx W→W.cell? ⟨wr.heap.size,0,none⟩=some (.int .i64 x.f):=fun W u=>by have:=(bo.upd u (fun e=>by have:=(hown.out.lt _ e).2;omega)).cell 0;simpa using this
   have d1:∀W,Upd (Own (.slice A5 xs.length c5)) wx W→W.cell? ⟨wr.heap.size,1,none⟩=some (.int .i64 x.t):=fun W u=>by have:=(bo.upd u (fun e=>by have:=(hown.out.lt _ e).2;omega)).cell 1;simpa using this
   have d2:∀W,Upd (Own (.slice A5 xs.length c5)) wx W→W.cell? ⟨wr.heap.size,2,none⟩=some (.int .i64 x.k):=fun W u=>by have:=(bo.upd u (fun e=>by have:=(hown.out.lt _ e).2;omega)).cell 2;simpa using this
   have d3:∀W,Upd (Own (.slice A5 xs.length c5)) wx W→W.cell? ⟨wr.heap.size,3,none⟩=some (.int .i64 x.key):=fun W u=>by have:=(bo.upd u (fun e=>by have:=(hown.out.lt _ e).2;omega)).cell 3;simpa using this
   obtain⟨N,hN⟩:∃N,g x=N:=⟨_,rfl⟩;rw[hN]at HS;have HWX:=Qh ((HV4.out.trans hu).trans ux)
   have L1:∀W,Upd (Own (.slice A5 xs.length c5)) wx W→(Instr.lookup 111 (.map (some bc)) (.agg #[.int .i64 x.f,.int .i64 x.t,.int .i64 x.k,.int .i64 x.key]) false).run Tryz.prog W= .ok (.int .i64 (N:Int)) W:=fun W u=>by
    have:=Zf Za6 Tryz.underlying111 Zac ((HM.out.upd (S:=No) HWX.out id).upd u (fun e=>by have h1:=(hown.out.lt _ e).1;have h2:=HM.out.lt;have h3:=HV4.out.size;omega)).is x
    rwa [HG.out.val,hN]at this
   have HO:=Qh (Zb hown.out ux (fun _ _=>id));have HUX:=Qh (hu.trans ux);have HSZ:=Qh (show w4.heap.size≤wx.heap.size from(hu.trans ux).size);have hxz:Upd (Own (.slice A5 xs.length c5)) wx wx:=Upd.refl _ _;have hzd:Upd No wx (wx.alloc (.cells #[.int .i64 x.f,.int .i64 x.t,.int .i64 x.k,.int .i64 x.key,.int .i64 (N:Int)] 148)).drew:=((Upd.refl No wx).alloc _).drew;clear hxx bo ux hN hown;go_wp2;refine wp_region_noPanic ?_;refine wp_region_held_drew (S:=(fun W'=>Upd (Own (.slice A5 xs.length c5)) wx W')) (by kernel_rfl) ?_ (fun hHeld=> ?_)
   ·(first|exact(Upd.refl _ wx).drew|exact hHeld|exact hHeld.alloc _|exact hU6)
   refine wpK 0 rfl ?_;refine wpK 1 rfl ?_;refine wpK 2 rfl ?_;refine wpK 3 rfl ?_;refine wpR [4] ?_;refine wpC rfl (fun K hK=> ?_) AllReadyH.nil;go_simp;refine hK.out _ _ ?_ (fun hHeld=> ?_)
   ·(first|exact(Upd.refl _ wx).drew|exact hHeld|exact hHeld.alloc _|exact hU6)
   clear hK K
   try simp only[Act.put,sT,sS,sZ]
   refine wpK 5 rfl ?_;refine wpR [6] ?_;refine wpC rfl (fun K hK=> ?_) AllReadyH.nil;go_simp;refine hK.out _ _ ?_ (fun hHeld=> ?_)
   ·(first|exact(Upd.refl _ wx).drew|exact hHeld|exact hHeld.alloc _|exact hU6)
   clear hK K
   try simp only[Act.put,sT,sS,sZ]
   refine wpR [7] ?_;refine wpC rfl (fun K hK=> ?_) AllReadyH.nil
   (first
  |(refine Za9 (by rfl) (by rfl) ZpW (v:= .slice A5 xs.length c5) (n:=xs.length) (xs:=Zgq xs) (cells:=[.int .i64 x.f,.int .i64 x.t,.int .i64 x.k,.int .i64 x.key,.int .i64 (N:Int)]) (by rfl) (by rfl) (by exact Zb HO.out hzd (fun _ _=>id)) rfl (by exact ZaV) (by rfl) (by omega) (by omega) (by have:=HSZ.out;simp;omega) ?_;intro g6 c6 w6 hown6 hu6 hg6 hlt6;have hU6:Upd (Own (.slice A5 xs.length c5)) wx w6:=hHeld.trans hu6))
   refine hK.out _ _ ?_ (fun hHeld=> ?_)
   ·(first|exact(Upd.refl _ wx).drew|exact hHeld|exact hHeld.alloc _|exact hU6)
   clear hK K
   try simp only[Act.put,sT,sS,sZ]
   refine wpK 8 rfl ?_;refine wpD (NoPanic.normal ?_);have HU6:=Qh hHeld;clear hHeld;go_wp2
   go_roundg (gk-1)
   case measure=>omega
   case rel=>
    have hl1:(xs++[(⟨x,(N:Int)⟩:Hvy)]).length=xs.length+1:=by simp
    exact⟨k+1,some ⟨g6,0,none⟩,c6,xs++[⟨x,(N:Int)⟩],by omega,by go_num,by rw[hl1],HS,Qh (by rw[hl1,Znp];exact hown6),HUX.out.then_ HU6.out (fun i e=>Or.inr (HO.out.lt i e).1)⟩
  ·obtain rfl:k=es.length:=by omega
   go_wp2
   go_ret
   have h1:=hs.out;rw[List.take_length]at h1;subst h1;exact⟨A5,c5,rfl,Z6 hown.out HV4.out.size,HV4.out.trans hu⟩
end
/- Edges of a history:dsg.Edges,Of,Count,Plain. -/
section
open Go.RowKit
def Zo0 (g:Edge→Nat):Prop:=∀mc:List (Edge×Value),CntM mc g→mc.length≤1000000
def Zmj (g:Edge→Nat) (l:List Hvy):Prop:=∀mc:List (Edge×Value),CntM mc g→hvL g (ddE (mc.map (·.1)))=l
section
variable {F:Nat→Prop} {w:World} {txs:List HTx} {ords:List HOrd} {A:Option Addr} {c:Nat} {B:Option Addr} {d:Nat} {l:List Hvy}
set_option maxRecDepth 100000 in
set_option maxHeartbeats 4000000 in
theorem ZrB (H:Hist.lies F w ⟨txs,ords,A,c,B,d⟩) (hf:Zo0 (ZcY (fun _=>true) ⟨txs,ords,A,c,B,d⟩)) (he:Zmj (ZcY (fun _=>true) ⟨txs,ords,A,c,B,d⟩) l):
  Calls Tryz.prog 45 #[.agg #[.slice A txs.length c,.slice B ords.length d]] w (ZpD w l):=by
 obtain⟨w1,hw1⟩:∃w1,w.alloc (.cells #[.slice A txs.length c,.slice B ords.length d] 50)=w1:=⟨_,rfl⟩;have u1:Upd No w w1:=by rw[←hw1];exact(Upd.refl No w).alloc _
 have b1:Blk w1 w.heap.size 50 [.slice A txs.length c,.slice B ords.length d]:=by rw[←hw1];exact Blk.new w _ _
 have HC:=Qh (ZnE F w1 txs ords A c B d (fun _=>true) (H.upd u1 (fun _ _=>id)) (Qh (fun W key _=>ZqD W key)));have d0:=b1.cell 0;have d1:=b1.cell 1;simp only[Qz,Qs]at d0 d1;have HU1:=Qh u1;have HF:=Qh hf;have HE:=Qh he;clear b1 u1 hf he H
 go_enter Tryz.func45,Tryz.ntmps45
 go_wp2_with fail
 refine(HC.out).mono ?_;rintro e w2 ⟨bc,mc,rfl,hbc,hm,hg,hu2⟩;have HL:=Qh (Zst w2 bc mc _ hm hg (HF.out mc hg));rw[HE.out mc hg]at HL;have hv2:=HU1.out.trans hu2;clear hbc hm hg hu2
 go_wp2_with fail
 refine(HL.out).mono ?_;rintro e w3 ⟨A3,c3,rfl,ho3,hu3⟩;go_wp2
 go_ret
 exact⟨A3,c3,rfl,Z6 ho3 hv2.size,hv2.trans hu3⟩
end
end
/- Edges of a history,the document's:those of a key,without counts;whether two lists are one. -/
section
open Go.RowKit
theorem Hvys.at_ {F:Nat→Prop} {w:World} {A:Option Addr} {l:List Hvy} (h:Hvys F w A l) {k:Nat} (hk:k<l.length):∃ad,A=some ad∧
  w.cell? (ad.add (k*5))=some (.int .i64 l[k].e.f)∧w.cell? ⟨(ad.add (k*5)).block,(ad.add (k*5)).off+1,none⟩=some (.int .i64 l[k].e.t)∧
  w.cell? ⟨(ad.add (k*5)).block,(ad.add (k*5)).off+2,none⟩=some (.int .i64 l[k].e.k)∧w.cell? ⟨(ad.add (k*5)).block,(ad.add (k*5)).off+3,none⟩=some (.int .i64 l[k].e.key)∧
  w.cell? ⟨(ad.add (k*5)).block,(ad.add (k*5)).off+4,none⟩=some (.int .i64 l[k].n):=by
 have hk':k<(l.map Hvy.cells).length:=by simpa using hk
 obtain⟨ad,e,_,_,hc⟩:=Recs.at_ h hk';rw[List.getElem_map]at hc;exact⟨ad,e,by simpa using hc 0 _ rfl,by simpa using hc 1 _ rfl,by simpa using hc 2 _ rfl,by simpa using hc 3 _ rfl,by simpa using hc 4 _ rfl⟩
def Zl (l:List Hvy):List Edge:=l.map (·.e)
theorem Zko {l:List Hvy} {k:Nat} {x:Hvy} (hk:k<l.length) (hx:l[k]=x):Zl (l.take (k+1))=Zl (l.take k)++[x.e]:=by
 subst hx;unfold Zl;rw[List.take_succ_eq_append_getElem hk,List.map_append];rfl
def ZfD (l:List Edge):List Value:=(l.map Edge.cells).flatten
theorem Zlu (xs:List Edge) (e:Edge):ZfD (xs++[e])=ZfD xs++e.cells:=by unfold ZfD;simp
def ZsE (w:World) (l:List Edge) (e:Ending) (w':World):Prop:=∃A c,e= .returned (.slice A l.length c)∧w'.ownsRow w.heap.size 26 4 (.slice A l.length c) l.length (ZfD l)∧Upd No w w'
set_option maxRecDepth 100000 in
set_option maxHeartbeats 4000000 in
theorem ZrA (F:Nat→Prop) (w:World) (A:Option Addr) (c:Nat) (l:List Hvy) (h:Hvys F w A l) (hl:l.length≤1000000):Calls Tryz.prog 44 #[.slice A l.length c] w (ZsE w (Zl l)):=by
 go_enter Tryz.func44,Tryz.ntmps44
 go_wp2
 go_loopg [3,8] l.length (fun gk s i wr=>∃(k:Nat) (A5:Option Addr) (c5:Nat) (xs:List Edge),k+gk=l.length∧i= .int .i64 k∧s= .slice A5 xs.length c5∧Hid (xs=Zl (l.take k))∧Hid (wr.ownsRow w.heap.size 26 4 (.slice A5 xs.length c5) xs.length (ZfD xs))∧Upd No w wr)
 case atStart=>exact⟨0,none,0,[],by omega,rfl,rfl,Qh rfl,Qh (World.ownsRow_nil _ _ _ _),Upd.refl _ _⟩
 case round=>
  obtain⟨k,A5,c5,xs,hgk,rfl,rfl,hs,hown,hu⟩:=hrel;have hxl:xs.length≤1000000:=by rw[hs.out];unfold Zl;rw[List.length_map,List.length_take];omega
  by_cases hlt:k<l.length
  ·obtain⟨ax,rfl,q0,q1,q2,q3,q4⟩:=(h.upd hu (fun _ _=>id)).at_ hlt;obtain⟨⟨⟨xf,xt,xk,xy⟩,xn⟩,hxx⟩:∃x,l[k]=x:=⟨_,rfl⟩;rw[hxx]at q0 q1 q2 q3 q4;simp only at q0 q1 q2 q3 q4;have i1:(0:Int)≤(k:Int):=Qn _;have i2:(k:Int)<(l.length:Int):=by omega
   obtain⟨wx,hwx⟩:∃wx,wr.alloc (.cells #[.int .i64 xf,.int .i64 xt,.int .i64 xk,.int .i64 xy,.int .i64 xn] 148)=wx:=⟨_,rfl⟩;have ux:Upd No wr wx:=by rw[←hwx];exact(Upd.refl No wr).alloc _
   have bo:Blk wx wr.heap.size 148 [.int .i64 xf,.int .i64 xt,.int .i64 xk,.int .i64 xy,.int .i64 xn]:=by rw[←hwx];exact Blk.new wr _ _
   have d0:=bo.cell 0;have d1:=bo.cell 1;have d2:=bo.cell 2;have d3:=bo.cell 3;have d4:=bo.cell 4;simp only[Qz,Qs]at d0 d1 d2 d3 d4;have HUX:=Qh (hu.trans ux);have HO:=Qh (Zb hown.out ux (fun _ _=>id));have hsz:=(hu.trans ux).size;have HS:=Qh (show xs++[⟨xf,xt,xk,xy⟩]=Zl (l.take (k+1)) by rw[hs.out];exact(Zko hlt hxx).symm);clear hxx bo ux hown
   go_wp2_with (at_builtin;refine ZbT rfl rfl ZeT (base:=w.heap.size) (v:= .slice A5 xs.length c5) (n:=xs.length) (xs:=ZfD xs) (cells:=[.int .i64 xf,.int .i64 xt,.int .i64 xk,.int .i64 xy]) (by rfl) (by rfl) HO.out rfl rfl (by omega) (by omega) (by omega) ?_;intro g9 c9 w9 hown9 hu9 hg9 hlt9)
   go_roundg (gk-1)
   case measure=>omega
   case rel=>
    have hl1:(xs++[(⟨xf,xt,xk,xy⟩:Edge)]).length=xs.length+1:=by simp
    exact⟨k+1,some ⟨g9,0,none⟩,c9,xs++[⟨xf,xt,xk,xy⟩],by omega,by go_num,by rw[hl1],HS,Qh (by rw[hl1,Zlu];exact hown9),HUX.out.then_ hu9 (fun i e=>Or.inr (HO.out.lt i e).1)⟩
  ·obtain rfl:k=l.length:=by omega
   go_wp2
   go_ret
   have h1:=hs.out;rw[List.take_length]at h1;subst h1;exact⟨A5,c5,rfl,hown.out,hu⟩
end
/- Edges of a history,the document's:all keys;all edges. -/
section
open Go.RowKit
def opK (l:List HOp):List Int:=l.map (·.key)
def txK (txs:List HTx):List Int:=txs.flatMap fun t=>opK t.ops
def Zb9 (txs:List HTx):List Int:=Zcn [] (txK txs)
/-! all edges -/
def hrB (h:Hist) (a kind key:Int) (bs:List HTx):List Hvy:=bs.flatMap fun b=>if 0<Z0 h ⟨a,b.id,kind,key⟩ then [⟨⟨a,b.id,kind,key⟩,(Z0 h ⟨a,b.id,kind,key⟩:Int)⟩] else []
def hrK (h:Hist) (a kind:Int) (ks:List Int):List Hvy:=ks.flatMap fun key=>hrB h a kind key h.txs
def hrN (h:Hist) (a:Int):Nat→List Hvy
 |0=>[]
 |n+1=>hrN h a n++hrK h a ((n:Int)+1) (Zb9 h.txs)
def hrA (h:Hist) (ts:List HTx):List Hvy:=ts.flatMap fun t=>hrN h t.id 3
def Zh (h:Hist):List Hvy:=if Za h=true then hrA h h.txs else []
end
/- Edges of a history,in plain words:what is counted is what the document counts. -/
section
open Go.RowKit
theorem Zhz (key:Int) (e:Edge):∀l:List Int,e∈wwO key l↔e.k=1∧e.key=key∧∃i:Nat,l[i]? =some e.f∧l[i+1]? =some e.t
 |[]=>by simp[wwO]
 |[a]=>by
  simp[wwO]
 |a::b::l=>by
  have ih:=Zhz key e (b::l)
  show e∈[⟨a,b,1,key⟩]++wwO key (b::l)↔_
  rw[List.mem_append,List.mem_singleton,ih]
  constructor
  ·rintro(rfl|⟨h1,h2,i,h3,h4⟩)
   ·exact⟨rfl,rfl,0,rfl,rfl⟩
   ·exact⟨h1,h2,i+1,h3,h4⟩
  ·rintro⟨h1,h2,i,h3,h4⟩
   cases i with
   |zero=>
    left
    simp at h3 h4;obtain⟨ef,et,ek,ey⟩:=e;simp only at h1 h2 h3 h4;subst h1 h2 h3 h4;rfl
   |succ i=>exact Or.inr ⟨h1,h2,i,h3,h4⟩
theorem Zqe (cnt:Int→Bool) (ords:List HOrd) (e:Edge):e∈wwL cnt ords↔e.k=1∧cnt e.key=true∧∃o∈ords,o.key=e.key∧∃i:Nat,o.txs[i]? =some e.f∧o.txs[i+1]? =some e.t:=by
 unfold wwL;rw[List.mem_flatMap]
 constructor
 ·rintro⟨o,ho,h⟩;unfold wwC at h
  split at h
  ·rename_i hc
   obtain⟨h1,h2,h3⟩:=(Zhz _ _ _).1 h;exact⟨h1,by rw[h2];exact hc,o,ho,h2.symm,h3⟩
  ·cases h
 ·rintro⟨h1,h2,o,ho,h3,h4⟩;refine⟨o,ho,?_⟩;unfold wwC;rw[if_pos (by rw[h3];exact h2)];exact(Zhz _ _ _).2 ⟨h1,h3.symm,h4⟩
/-! what was laid last -/
theorem Zg2 (p:Int×Int):∀(L:List ((Int×Int)×Int)) (a:Int),(∀e∈L,e.1≠p)→L.foldl (fun a e=>if e.1=p then e.2 else a) a=a
 |[],_,_=>rfl
 |e::L,a,h=>by
  rw[List.foldl_cons,if_neg (h e (List.mem_cons_self ..))];exact Zg2 p L a fun x hx=>h x (List.mem_cons_of_mem _ hx)
theorem Zip (p:Int×Int) (v:Int):∀(L:List ((Int×Int)×Int)) (a:Int),(∀e∈L,e.1=p→e.2=v)→(a=v∨∃e∈L,e.1=p)→L.foldl (fun a e=>if e.1=p then e.2 else a) a=v
 |[],a,_,h=>by
  rcases h with h|⟨e,he,_⟩
  ·exact h
  ·cases he
 |e::L,a,h,h2=>by
  rw[List.foldl_cons];refine Zip p v L _ (fun x hx=>h x (List.mem_cons_of_mem _ hx)) ?_
  by_cases hp:e.1=p
  ·rw[if_pos hp];exact Or.inl (h e (List.mem_cons_self ..) hp)
  ·rw[if_neg hp];rcases h2 with h2|⟨x,hx,hxp⟩
   ·exact Or.inl h2
   ·rcases List.mem_cons.1 hx with rfl|hx
    ·exact absurd hxp hp
    ·exact Or.inr ⟨x,hx,hxp⟩
theorem Ze4 (key:Int) (e:(Int×Int)×Int):∀(l:List Int) (a:Int),e∈Zax key a l↔e.1.1=key∧∃i:Nat,(a::l)[i]? =some e.1.2∧l[i]? =some e.2
 |[],a=>by simp[Zax]
 |x::l,a=>by
  show e∈((key,a),x)::Zax key x l↔_
  rw[List.mem_cons,Ze4 key e l x]
  constructor
  ·rintro(rfl|⟨h1,i,h2,h3⟩)
   ·exact⟨rfl,0,rfl,rfl⟩
   ·exact⟨h1,i+1,h2,h3⟩
  ·rintro⟨h1,i,h2,h3⟩
   cases i with
   |zero=>
    left
    obtain⟨⟨e1,e2⟩,e3⟩:=e;simp at h1 h2 h3;subst h1 h2 h3;rfl
   |succ i=>exact Or.inr ⟨h1,i,h2,h3⟩
def Nx (ords:List HOrd) (key x y:Int):Prop:=∃o∈ords,o.key=key∧∃i:Nat,(0::o.txs)[i]? =some x∧o.txs[i]? =some y
theorem Ze5 (ords:List HOrd) (key x y:Int):((key,x),y)∈Zy ords↔Nx ords key x y:=by
 unfold Zy Nx;rw[List.mem_flatMap]
 constructor
 ·rintro⟨o,ho,h⟩;obtain⟨h1,h2⟩:=(Ze4 _ _ _ _).1 h;exact⟨o,ho,h1.symm,h2⟩
 ·rintro⟨o,ho,h1,h2⟩;exact⟨o,ho,(Ze4 _ _ _ _).2 ⟨h1.symm,h2⟩⟩
section
variable {h:Hist}
theorem ZdV (hr:Za h=true) {i:Nat} (hi:i<h.ords.length):ZcG h.txs h.ords i=true:=by
 unfold Za at hr;simp only[Bool.and_eq_true,List.all_eq_true,List.mem_range]at hr;exact hr.2 i hi
theorem ZcV (hr:Za h=true):(h.ords.map (·.key)).Pairwise (·<·):=ZkH fun j hj=>by
 rw[List.length_map]at hj;have:=((Zgg hj).1 (ZdV hr hj)).1 j rfl;rw[show(h.ords.map (·.key)).getD (j+1) 0=h.ords[j+1].key by rw[List.getD_eq_getElem?_getD,List.getElem?_map,Qg hj];rfl];exact this
theorem ZbO (hr:Za h=true) {o:HOrd} (ho:o∈h.ords):o.txs.Perm (Zq h.txs o.key):=by
 obtain⟨j,hj,rfl⟩:=List.mem_iff_getElem.1 ho;have:=((Zgg hj).1 (ZdV hr hj)).2.2;rw[Zer,beq_iff_eq]at this;exact(ZA _).symm.trans (this▸ZA _)
theorem ZcE (hr:Za h=true):(h.txs.map (·.id)).Nodup:=Zal (Zc5 hr)
theorem ZgL (hr:Za h=true) {o:HOrd} (ho:o∈h.ords):o.txs.Nodup:=by
 refine(ZbO hr ho).nodup_iff.2 ?_;unfold Zq;exact(ZcE hr).sublist (List.filter_sublist.map _)
theorem ZaN (hr:Za h=true) {o:HOrd} (ho:o∈h.ords) {x:Int} (hx:x∈o.txs):∃t,Zi h.txs x=some t∧1≤x:=by
 have h1:=(ZbO hr ho).mem_iff.1 hx;unfold Zq at h1;obtain⟨t,ht,rfl⟩:=List.mem_map.1 h1;rw[List.mem_filter,Bool.and_eq_true]at ht;refine⟨t,?_,Zb5 hr ht.1⟩;unfold Zi;rw[ZgN hr ht.1];simp[ht.2.1]
theorem ZeO (hr:Za h=true) {o u:HOrd} (ho:o∈h.ords) (hu:u∈h.ords) (hk:o.key=u.key):o=u:=by
 obtain⟨i,hi,rfl⟩:=List.mem_iff_getElem.1 ho;obtain⟨j,hj,rfl⟩:=List.mem_iff_getElem.1 hu;have hp:=List.pairwise_iff_getElem.1 (ZcV hr);rcases Nat.lt_trichotomy i j with h1|h1|h1
 ·have:=hp i j (by simpa using hi) (by simpa using hj) h1;simp only[List.getElem_map]at this;omega
 ·subst h1;rfl
 ·have:=hp j i (by simpa using hj) (by simpa using hi) h1;simp only[List.getElem_map]at this;omega
theorem ZdI {l:List Int} (hn:l.Nodup) {i j:Nat} {x:Int} (h1:l[i]? =some x) (h2:l[j]? =some x):i=j:=by
 obtain⟨hi,e1⟩:=List.getElem?_eq_some_iff.1 h1;obtain⟨hj,e2⟩:=List.getElem?_eq_some_iff.1 h2;exact(List.getElem_inj hn).1 (e1.trans e2.symm)
theorem Zb4 (hr:Za h=true) {o:HOrd} (ho:o∈h.ords):(0::o.txs).Nodup:=by
 refine List.nodup_cons.2 ⟨fun hm=> ?_,ZgL hr ho⟩;obtain⟨_,_,h1⟩:=ZaN hr ho hm;omega
theorem Nx.one (hr:Za h=true) {key x y z:Int} (h1:Nx h.ords key x y) (h2:Nx h.ords key x z):y=z:=by
 obtain⟨o,ho,hk,i,hi,hy⟩:=h1;obtain⟨u,hu,hk2,j,hj,hz⟩:=h2;obtain rfl:=ZeO hr ho hu (hk.trans hk2.symm);obtain rfl:=ZdI (Zb4 hr ho) hi hj;rw[hy]at hz;exact Option.some.inj hz
theorem Nx.ids (hr:Za h=true) {key x y:Int} (h1:Nx h.ords key x y):(∃t,Zi h.txs y=some t)∧1≤y∧x≠y∧(x=0∨∃t,Zi h.txs x=some t):=by
 obtain⟨o,ho,hk,i,hi,hy⟩:=h1;obtain⟨t,ht,h2⟩:=ZaN hr ho (List.mem_of_getElem? hy);refine⟨⟨t,ht⟩,h2,fun e=> ?_,?_⟩
 ·subst e;have h3:(0::o.txs)[i+1]? =some x:=hy;have:=ZdI (Zb4 hr ho) hi h3;omega
 ·cases i with
  |zero=>left;simpa using hi.symm
  |succ i=>
   right
   obtain⟨t2,ht2,_⟩:=ZaN hr ho (List.mem_of_getElem? (show o.txs[i]? =some x from hi));exact⟨t2,ht2⟩
theorem ZkU (hr:Za h=true) (key x:Int):(ZQ (Zy h.ords) (key,x)=0∧∀y,¬Nx h.ords key x y)∨Nx h.ords key x (ZQ (Zy h.ords) (key,x)):=by
 by_cases hx:∃y,Nx h.ords key x y
 ·obtain⟨y,hy⟩:=hx
  right
  have:ZQ (Zy h.ords) (key,x)=y:=by
   unfold ZQ;refine Zip (key,x) y _ 0 (fun e he hp=> ?_) (Or.inr ⟨((key,x),y),(Ze5 _ _ _ _).2 hy,rfl⟩);obtain⟨p,v⟩:=e;simp only at hp;subst hp;exact Nx.one hr ((Ze5 _ _ _ _).1 he) hy
  rw[this];exact hy
 ·left
  refine⟨?_,fun y hy=>hx ⟨y,hy⟩⟩;unfold ZQ;refine Zg2 (key,x) _ 0 fun e he hp=>hx ⟨e.2,?_⟩
  obtain⟨p,v⟩:=e;simp only at hp;subst hp;exact(Ze5 _ _ _ _).1 he
theorem ZjQ (hr:Za h=true) (key x y:Int) (hy:y≠0):ZQ (Zy h.ords) (key,x)=y↔Nx h.ords key x y:=by
 rcases ZkU hr key x with ⟨h1,h2⟩|h1
 ·rw[h1];exact⟨fun e=>absurd e.symm hy,fun e=>absurd e (h2 y)⟩
 ·constructor
  ·intro e;rw[←e];exact h1
  ·intro e;exact Nx.one hr h1 e
theorem Zjz (hr:Za h=true) {o:HOrd} (ho:o∈h.ords):Zd9 h.ords o.key=o.txs:=by
 obtain⟨k,hk,rfl⟩:=List.mem_iff_getElem.1 ho;have hp:=List.pairwise_iff_getElem.1 (ZcV hr)
 have:Zhx h.ords h.ords[k].key=k:=Zok hk (fun j hj=>by
  have:=hp j k (by simp;omega) (by simpa using hk) hj;simp only[List.getElem_map]at this;rw[beq_eq_false_iff_ne];omega) (by simp)
 unfold Zd9;rw[this,Qg hk]
theorem ZjA {key:Int} (hn:∀o∈h.ords,o.key≠key):Zd9 h.ords key=[]:=by
 have:Zhx h.ords key=h.ords.length:=by
  unfold Zhx;rw[List.findIdx_eq_length];intro o ho
  simpa using hn o ho
 unfold Zd9;rw[this,List.getElem?_eq_none (Nat.le_refl _)]
theorem Zm3 {l:List Int} (hn:(0::l).Nodup) (x y:Int):ZiU l x=some y↔∃i:Nat,(0::l)[i]? =some x∧l[i]? =some y:=by
 unfold ZiU
 by_cases h0:x=0
 ·subst h0;rw[if_pos rfl]
  constructor
  ·intro h;exact⟨0,rfl,h⟩
  ·rintro⟨i,h1,h2⟩;obtain rfl:=ZdI hn h1 (show(0::l)[0]? =some 0 from rfl);exact h2
 ·rw[if_neg h0]
  by_cases hm:x∈l
  ·obtain⟨k,hk,hx⟩:=List.mem_iff_getElem.1 hm
   have hpos:Zn l x<l.length:=by
    unfold Zn;rw[List.findIdx_lt_length];exact⟨x,hm,by simp⟩
   have hget:l[Zn l x]? =some x:=by
    have:=List.findIdx_getElem (p:=(·==x)) (xs:=l) (w:=hpos);rw[beq_iff_eq]at this;rw[Qg hpos];exact congrArg some this
   rw[if_pos hpos]
   constructor
   ·intro h;exact⟨Zn l x+1,hget,h⟩
   ·rintro⟨i,h1,h2⟩;have:=ZdI hn h1 (show(0::l)[Zn l x+1]? =some x from hget);rw[←this];exact h2
  ·have hpos:¬Zn l x<l.length:=by
    unfold Zn;rw[List.findIdx_lt_length];rintro⟨z,hz,e⟩;simp at e;subst e;exact hm hz
   rw[if_neg hpos]
   constructor
   ·intro h;cases h
   ·rintro⟨i,h1,h2⟩
    cases i with
    |zero=>exact absurd (by simpa using h1.symm) h0
    |succ i=>exact absurd (List.mem_of_getElem? (show l[i]? =some x from h1)) hm
theorem ZaP (hr:Za h=true) (key x y:Int):ZdJ h.ords key x y=true↔Nx h.ords key x y:=by
 unfold ZdJ;rw[beq_iff_eq]
 by_cases hk:∃o∈h.ords,o.key=key
 ·obtain⟨o,ho,rfl⟩:=hk;rw[Zjz hr ho,Zm3 (Zb4 hr ho)]
  constructor
  ·intro h1;exact⟨o,ho,rfl,h1⟩
  ·rintro⟨u,hu,hk,h1⟩;obtain rfl:=ZeO hr hu ho hk;exact h1
 ·rw[ZjA (fun o ho e=>hk ⟨o,ho,e⟩)]
  constructor
  ·intro h1;unfold ZiU Zn at h1;simp at h1
  ·rintro⟨u,hu,hk2,_⟩;exact absurd ⟨u,hu,hk2⟩ hk
end
end
/- Edges of a history,in plain words:each is counted as often as the document counts it. -/
section
open Go.RowKit
section
variable {β:Type} [DecidableEq β]
theorem Zfr (f:HTx→List β) (a:β):∀ts:List HTx,(∀u∈ts,Zs (f u) a=0)→Zs (ts.flatMap f) a=0
 |[],_=>rfl
 |u::ts,h=>by
  rw[List.flatMap_cons,Zao,h u (List.mem_cons_self ..),Zfr f a ts fun x hx=>h x (List.mem_cons_of_mem _ hx)]
theorem Zfs (f:HTx→List β) (a:β):∀ts:List HTx,(ts.map (·.id)).Nodup→∀t∈ts,(∀u∈ts,u.id≠t.id→Zs (f u) a=0)→Zs (ts.flatMap f) a=Zs (f t) a
 |[],_,_,ht,_=>by cases ht
 |u::ts,hn,t,ht,h=>by
  rw[List.map_cons,List.nodup_cons]at hn;rw[List.flatMap_cons,Zao];rcases List.mem_cons.1 ht with rfl|ht
  ·rw[Zfr f a ts fun x hx=>h x (List.mem_cons_of_mem _ hx) fun e=>hn.1 (e▸List.mem_map.2 ⟨x,hx,rfl⟩)];rfl
  ·rw[h u (List.mem_cons_self ..) fun e=>hn.1 (e▸List.mem_map.2 ⟨t,ht,rfl⟩),Zfs f a ts hn.2 t ht fun x hx=>h x (List.mem_cons_of_mem _ hx)];omega
end
theorem ZiI (id key:Int):∀l:List HOp,Zs (Za0 id l) (id,key)=(l.filter (isW key)).length
 |[]=>rfl
 |o::l=>by
  have ih:=ZiI id key l;unfold Za0 at ih ⊢
  by_cases h:isW key o=true
  ·have h2:(!o.read)=true∧o.key=key:=by unfold isW at h;simpa using h
   rw[List.filter_cons_of_pos (p:=fun o:HOp=> !o.read) h2.1,List.filter_cons_of_pos h,List.map_cons,List.length_cons,←ih];have:=Zao [(id,o.key)] ((l.filter fun o=> !o.read).map fun o=>(id,o.key)) (id,key);rw[List.singleton_append]at this;rw[this,ZdD,if_pos (by rw[h2.2])];omega
  ·rw[List.filter_cons_of_neg h,←ih]
   by_cases hr:(!o.read)=true
   ·rw[List.filter_cons_of_pos (p:=fun o:HOp=> !o.read) hr,List.map_cons];have:=Zao [(id,o.key)] ((l.filter fun o=> !o.read).map fun o=>(id,o.key)) (id,key);rw[List.singleton_append]at this;rw[this,ZdD,if_neg (fun e=>h (by unfold isW;rw[hr];simp[(Prod.mk.inj e).2]))];omega
   ·rw[List.filter_cons_of_neg (p:=fun o:HOp=> !o.read) hr]
theorem Zj6 (id i key:Int) (hne:id≠i) (l:List HOp):Zs (Za0 id l) (i,key)=0:=by
 unfold Zs Za0;rw[List.length_eq_zero_iff,List.filter_eq_nil_iff];intro x hx;obtain⟨o,_,rfl⟩:=List.mem_map.1 hx;simp[hne]
section
variable {h:Hist}
theorem ZaG (hr:Za h=true) (i:Int):i∈Zc h.txs↔∃t,Zi h.txs i=some t:=by
 unfold Zc;rw[List.mem_map]
 constructor
 ·rintro⟨t,ht,rfl⟩;rw[List.mem_filter]at ht;refine⟨t,?_⟩;unfold Zi;rw[ZgN hr ht.1];simp[ht.2]
 ·rintro⟨t,ht⟩;have h1:=ZO ht;have h2:=Zai h1.1;exact⟨t,List.mem_filter.2 ⟨h2.1,h1.2⟩,h2.2⟩
theorem ZaS {i:Int} {t:HTx} (ht:Zi h.txs i=some t):t∈h.txs.filter (·.done)∧t.id=i:=by
 have h1:=ZO ht;have h2:=Zai h1.1;exact⟨List.mem_filter.2 ⟨h2.1,h1.2⟩,h2.2⟩
theorem ZeF (hr:Za h=true):((h.txs.filter (·.done)).map (·.id)).Nodup:=(ZcE hr).sublist (List.filter_sublist.map _)
theorem Zei (hr:Za h=true) {i:Int} {t:HTx} (ht:Zi h.txs i=some t) (key:Int):Zs (Ze h.txs) (i,key)=Zg t.ops key:=by
 obtain⟨h1,rfl⟩:=ZaS ht;unfold Ze;rw[Zfs (fun t=>Za0 t.id t.ops) (t.id,key) _ (ZeF hr) t h1 (fun u _ hne=>Zj6 _ _ _ hne _),ZiI];unfold Zg wrN;rw[List.take_length]
def Zec (h:Hist) (o:HOp):Prop:=o.tx=0∨(o.tx∈Zc h.txs∧(Zs (Ze h.txs) (o.tx,o.key):Int)=o.nth)
instance (o:HOp):Decidable (Zec h o):=inferInstanceAs (Decidable (_∨_))
theorem Zg4 (hr:Za h=true) (o:HOp):Zec h o↔ZbS h.txs ⟨o.tx,o.key,o.nth⟩=true:=by
 unfold Zec ZbS
 by_cases h0:o.tx=0
 ·simp[h0]
 ·rw[if_neg h0,ZaG hr]
  cases hd:Zi h.txs o.tx with
  |none=>simp[h0]
  |some t=>
   have:=Zei hr hd o.key;rw[this];simp[h0];exact eq_comm
theorem ZmN (ti:Int) (o:HOp) (e:Edge):Zs (ZG (Zc h.txs) (Ze h.txs) (Zy h.ords) ti o) e=
  (if (o.tx≠ti∧Zec h o)∧o.tx≠0∧e=⟨o.tx,ti,2,o.key⟩ then 1 else 0)+if (o.tx≠ti∧Zec h o)∧(ZQ (Zy h.ords) (o.key,o.tx)≠0∧ZQ (Zy h.ords) (o.key,o.tx)≠ti)∧e=⟨ti,ZQ (Zy h.ords) (o.key,o.tx),3,o.key⟩ then 1 else 0:=by
 unfold ZG Zec
 by_cases h1:o.tx=ti
 ·rw[if_pos h1,if_neg (fun h=>h.1.1 h1),if_neg (fun h=>h.1.1 h1),ZbI]
 ·rw[if_neg h1]
  by_cases h2:o.tx≠0∧o.tx∉Zc h.txs
  ·rw[if_pos h2,ZbI,if_neg,if_neg]
   ·rintro⟨⟨_,h3|h3⟩,_⟩
    ·exact h2.1 h3
    ·exact h2.2 h3.1
   ·rintro⟨⟨_,h3|h3⟩,_⟩
    ·exact h2.1 h3
    ·exact h2.2 h3.1
  ·rw[if_neg h2]
   by_cases h3:o.tx≠0∧(Zs (Ze h.txs) (o.tx,o.key):Int)≠o.nth
   ·rw[if_pos h3,ZbI,if_neg,if_neg]
    ·rintro⟨⟨_,h4|h4⟩,_⟩
     ·exact h3.1 h4
     ·exact h3.2 h4.2
    ·rintro⟨⟨_,h4|h4⟩,_⟩
     ·exact h3.1 h4
     ·exact h3.2 h4.2
   ·rw[if_neg h3,Zao]
    have hL:o.tx=0∨(o.tx∈Zc h.txs∧(Zs (Ze h.txs) (o.tx,o.key):Int)=o.nth):=by
     by_cases h0:o.tx=0
     ·exact Or.inl h0
     ·exact Or.inr ⟨Classical.byContradiction fun hh=>h2 ⟨h0,hh⟩,Classical.byContradiction fun hh=>h3 ⟨h0,hh⟩⟩
    congr 1
    ·by_cases h0:o.tx≠0
     ·rw[if_pos h0,ZdD]
      by_cases he:e=⟨o.tx,ti,2,o.key⟩
      ·rw[if_pos he,if_pos ⟨⟨h1,hL⟩,h0,he⟩]
      ·rw[if_neg he,if_neg (fun hh=>he hh.2.2)]
     ·rw[if_neg h0,ZbI,if_neg (fun hh=>h0 hh.2.1)]
    ·by_cases h0:ZQ (Zy h.ords) (o.key,o.tx)≠0∧ZQ (Zy h.ords) (o.key,o.tx)≠ti
     ·rw[if_pos h0,ZdD]
      by_cases he:e=⟨ti,ZQ (Zy h.ords) (o.key,o.tx),3,o.key⟩
      ·rw[if_pos he,if_pos ⟨⟨h1,hL⟩,h0,he⟩]
      ·rw[if_neg he,if_neg (fun hh=>he hh.2.2)]
     ·rw[if_neg h0,ZbI,if_neg (fun hh=>h0 hh.2.1)]
theorem Zgw (f:HOp→List Edge) (e:Edge) (p q:HOp→Bool):∀l:List HOp,(∀o∈l,(if q o=true then Zs (f o) e else 0)=if p o=true then 1 else 0)→Zs ((l.filter q).flatMap f) e=l.countP p
 |[],_=>rfl
 |o::l,hh=>by
  have ih:=Zgw f e p q l fun x hx=>hh x (List.mem_cons_of_mem _ hx)
  have h1:=hh o (List.mem_cons_self ..);rw[List.countP_cons]
  by_cases hq:q o=true
  ·rw[List.filter_cons_of_pos hq,List.flatMap_cons,Zao,ih];rw[if_pos hq]at h1;omega
  ·rw[List.filter_cons_of_neg hq,ih];rw[if_neg hq]at h1;omega
theorem Zft (f:HOp→List Edge) (e:Edge) (q:HOp→Bool) (l:List HOp) (hh:∀o∈l,q o=true→Zs (f o) e=0):Zs ((l.filter q).flatMap f) e=0:=by
 rw[Zgw f e (fun _=>false) q l (fun o ho=>by
  by_cases hq:q o=true
  ·rw[if_pos hq,hh o ho hq];rfl
  ·rw[if_neg hq];rfl)]
 simp
theorem ZbC (cnt:Int→Bool) (LD:List Int) (LW:List (Int×Int)) (LN:List ((Int×Int)×Int)) (e:Edge) (hh:∀u∈h.txs.filter (·.done),∀o∈u.ops,Zs (ZG LD LW LN u.id o) e=0):Zs (rdL cnt LD LW LN h.txs) e=0:=by
 unfold rdL;exact Zfr _ _ _ fun u hu=>Zft _ _ _ _ fun o ho _=>hh u hu o ho
theorem ZfF (hr:Za h=true) (cnt:Int→Bool) (LD:List Int) (LW:List (Int×Int)) (LN:List ((Int×Int)×Int)) (e:Edge) {t:HTx} (ht:t∈h.txs.filter (·.done)) (hh:∀u∈h.txs.filter (·.done),u.id≠t.id→∀o∈u.ops,Zs (ZG LD LW LN u.id o) e=0)
  (p:HOp→Bool) (hp:∀o∈t.ops,(if (o.read&&cnt o.key)=true then Zs (ZG LD LW LN t.id o) e else 0)=if p o=true then 1 else 0):Zs (rdL cnt LD LW LN h.txs) e=t.ops.countP p:=by
 unfold rdL;rw[Zfs (fun t=>rdO cnt LD LW LN t.id t.ops) e _ (ZeF hr) t ht (fun u hu hne=>Zft _ _ _ _ fun o ho _=>hh u hu hne o ho)];exact Zgw _ _ _ _ _ hp
theorem Zc8 (cnt:Int→Bool) (e:Edge) (hr:Za h=true):e∈wwL cnt h.ords↔e.k=1∧cnt e.key=true∧e.f≠0∧Nx h.ords e.key e.f e.t:=by
 rw[Zqe]
 constructor
 ·rintro⟨h1,h2,o,ho,hk,i,h3,h4⟩;refine⟨h1,h2,fun e0=> ?_,o,ho,hk,i+1,h3,h4⟩;obtain⟨_,_,h5⟩:=ZaN hr ho (List.mem_of_getElem? h3);omega
 ·rintro⟨h1,h2,h0,o,ho,hk,i,h3,h4⟩;refine⟨h1,h2,o,ho,hk,?_⟩
  cases i with
  |zero=>exact absurd (by simpa using h3.symm) h0
  |succ i=>exact⟨i,h3,h4⟩
theorem Zfi (hr:Za h=true) {t:HTx} (ht:Zi h.txs 0=some t):False:=by
 have h1:=Zai (ZO ht).1;have:=Zb5 hr h1.1;omega
theorem Zk7 (hr:Za h=true) (cnt:Int→Bool) (e:Edge):ZlQ cnt h.txs h.ords e=if cnt e.key=true then Z0 h e else 0:=by
 obtain⟨ef,et,ek,ey⟩:=e;unfold ZlQ;have hro:=ZmN (h:=h)
 by_cases k1:ek=1
 ·subst k1;rw[ZbC (h:=h) cnt _ _ _ _ (fun u _ o _=>by rw[hro,if_neg (fun hh=>by have:=congrArg Edge.k hh.2.2;simp at this),if_neg (fun hh=>by have:=congrArg Edge.k hh.2.2;simp at this)])];unfold ZaL;rw[Nat.add_zero]
  by_cases hc:cnt ey=true
  ·rw[if_pos hc]
   by_cases hm:(⟨ef,et,1,ey⟩:Edge)∈wwL cnt h.ords
   ·rw[if_pos hm];obtain⟨_,_,h0,hx⟩:=(Zc8 cnt _ hr).1 hm;simp only at h0 hx;obtain⟨⟨t,ht⟩,h2,h3,h4⟩:=Nx.ids hr hx;obtain⟨a,ha⟩:=h4.resolve_left h0;unfold Z0;simp only[ha,ht,if_neg h3,if_true,(ZaP hr ey ef et).2 hx]
   ·rw[if_neg hm]
    symm
    unfold Z0
    cases ha:Zi h.txs ef with
    |none=>rfl
    |some a=>
     cases hb:Zi h.txs et with
     |none=>rfl
     |some b=>
      simp only
      split
      ·rfl
      ·simp only[if_true];rw[if_neg];intro hn;have hx:=(ZaP hr ey ef et).1 hn;refine hm ((Zc8 cnt _ hr).2 ⟨rfl,hc,fun e0=> ?_,hx⟩);simp only at e0;subst e0;exact Zfi hr ha
  ·rw[if_neg hc,if_neg (fun hm=>hc ((Zc8 cnt _ hr).1 hm).2.1)]
 ·have hw:ZaL (wwL cnt h.ords) ⟨ef,et,ek,ey⟩=0:=by
   unfold ZaL;rw[if_neg (fun hm=>k1 ((Zc8 cnt _ hr).1 hm).1)]
  rw[hw,Nat.zero_add]
  by_cases k2:ek=2
  ·subst k2
   have hz:∀u∈h.txs.filter (·.done),u.id≠et→∀o∈u.ops,Zs (ZG (Zc h.txs) (Ze h.txs) (Zy h.ords) u.id o) (⟨ef,et,2,ey⟩:Edge)=0:=fun u _ hne o _=>by
    rw[hro,if_neg (fun hh=>hne (congrArg Edge.t hh.2.2).symm),if_neg (fun hh=>by have:=congrArg Edge.k hh.2.2;simp at this)]
   cases hb:Zi h.txs et with
   |none=>
    rw[ZbC (h:=h) cnt _ _ _ _ (fun u hu o ho=>hz u hu (fun e=>by
     have:=(ZaG hr et).1 (by unfold Zc;exact List.mem_map.2 ⟨u,hu,e⟩);rw[hb]at this;obtain⟨_,h9⟩:=this
     cases h9) o ho)]
    unfold Z0;simp only[hb]
    cases Zi h.txs ef<;>simp
   |some b=>
    obtain⟨hbm,hbi⟩:=ZaS hb;have hz2:∀u∈h.txs.filter (·.done),u.id≠b.id→∀o∈u.ops,Zs (ZG (Zc h.txs) (Ze h.txs) (Zy h.ords) u.id o) (⟨ef,et,2,ey⟩:Edge)=0:=fun u hu hne=>hz u hu (by rw[←hbi];exact hne)
    cases ha:Zi h.txs ef with
    |none=>
     rw[ZbC (h:=h) cnt _ _ _ _ (fun u hu o ho=>by
      rw[hro,if_neg (c:=_∧o.tx≠0∧_),if_neg (fun hh=>by have:=congrArg Edge.k hh.2.2;simp at this)];rintro⟨⟨_,h3⟩,h4,h5⟩;rcases h3 with h3|h3
      ·exact h4 h3
      ·obtain⟨_,h6⟩:=(ZaG hr _).1 h3.1;have e1:=congrArg Edge.f h5;simp only at e1;rw[←e1,ha]at h6
       cases h6)]
     unfold Z0;simp[ha]
    |some a=>
     by_cases hft:ef=et
     ·rw[ZbC (h:=h) cnt _ _ _ _ (fun u hu o ho=>by
       rw[hro,if_neg (c:=_∧o.tx≠0∧_),if_neg (fun hh=>by have:=congrArg Edge.k hh.2.2;simp at this)];rintro⟨⟨h3,_⟩,h4,h5⟩;have e1:=congrArg Edge.f h5;have e2:=congrArg Edge.t h5;simp only at e1 e2;exact h3 (by rw[←e1,←e2,hft]))]
      unfold Z0;simp[hb,hft]
     ·by_cases hc:cnt ey=true
      ·rw[if_pos hc,ZfF (h:=h) hr cnt _ _ _ _ hbm hz2 (p2 ef ey (Zg a.ops ey)) (fun o ho=> ?_)]
       ·unfold Z0;simp only[ha,hb,if_neg hft];rfl
       ·rw[hro,if_neg (c:=_∧(_∧_)∧_) (fun hh=>by have:=congrArg Edge.k hh.2.2;simp at this),Nat.add_zero]
        by_cases hp:p2 ef ey (Zg a.ops ey) o=true
        ·rw[if_pos hp];unfold p2 at hp;simp only[Bool.and_eq_true,beq_iff_eq]at hp;obtain⟨⟨⟨q1,q2⟩,q3⟩,q4⟩:=hp;rw[if_pos (by rw[q1,q2,hc];rfl),if_pos];refine⟨⟨by rw[q3,hbi];exact hft,Or.inr ⟨by rw[q3];exact(ZaG hr _).2 ⟨a,ha⟩,?_⟩⟩,fun e0=> ?_,by rw[q3,q2,hbi]⟩
         ·rw[q3,q2,Zei hr ha];exact q4.symm
         ·rw[q3]at e0;subst e0;exact Zfi hr ha
        ·rw[if_neg hp]
         split
         ·rename_i hrd
          rw[if_neg];rintro⟨⟨h3,h4⟩,h5,h6⟩;have e1:=congrArg Edge.f h6;have e2:=congrArg Edge.key h6;simp only at e1 e2
          apply hp
          unfold p2;rcases h4 with h4|⟨h4,h7⟩
          ·exact absurd h4 h5
          ·rw[←e1,←e2,Zei hr ha]at h7;rw[Bool.and_eq_true]at hrd;simp[hrd.1,←e1,←e2,h7]
         ·rfl
      ·rw[if_neg hc,ZfF (h:=h) hr cnt _ _ _ _ hbm hz2 (fun _=>false) (fun o ho=>by
        by_cases hq:(o.read&&cnt o.key)=true
        ·rw[if_pos hq,hro,if_neg,if_neg (fun hh=>by have:=congrArg Edge.k hh.2.2;simp at this)]
         ·rfl
         ·rintro⟨_,_,h6⟩;have e2:=congrArg Edge.key h6;simp only at e2;rw[Bool.and_eq_true,←e2]at hq;exact hc hq.2
        ·rw[if_neg hq];rfl)]
       simp
  ·by_cases k3:ek=3
   ·subst k3
    have hz:∀u∈h.txs.filter (·.done),u.id≠ef→∀o∈u.ops,Zs (ZG (Zc h.txs) (Ze h.txs) (Zy h.ords) u.id o) (⟨ef,et,3,ey⟩:Edge)=0:=fun u _ hne o _=>by
     rw[hro,if_neg (c:=_∧o.tx≠0∧_) (fun hh=>by have:=congrArg Edge.k hh.2.2;simp at this),if_neg (fun hh=>hne (congrArg Edge.f hh.2.2).symm)]
    cases ha:Zi h.txs ef with
    |none=>
     rw[ZbC (h:=h) cnt _ _ _ _ (fun u hu o ho=>hz u hu (fun e=>by
      have:=(ZaG hr ef).1 (by unfold Zc;exact List.mem_map.2 ⟨u,hu,e⟩);rw[ha]at this;obtain⟨_,h9⟩:=this
      cases h9) o ho)]
     unfold Z0;simp[ha]
    |some a=>
     obtain⟨ham,hai⟩:=ZaS ha;have hz2:∀u∈h.txs.filter (·.done),u.id≠a.id→∀o∈u.ops,Zs (ZG (Zc h.txs) (Ze h.txs) (Zy h.ords) u.id o) (⟨ef,et,3,ey⟩:Edge)=0:=fun u hu hne=>hz u hu (by rw[←hai];exact hne)
     cases hb:Zi h.txs et with
     |none=>
      rw[ZbC (h:=h) cnt _ _ _ _ (fun u hu o ho=>by
       rw[hro,if_neg (c:=_∧o.tx≠0∧_) (fun hh=>by have:=congrArg Edge.k hh.2.2;simp at this),if_neg];rintro⟨_,⟨h3,h4⟩,h5⟩;have e1:=congrArg Edge.t h5;simp only at e1;rcases ZkU hr o.key o.tx with h6|h6
       ·exact h3 h6.1
       ·obtain⟨⟨_,h7⟩,_⟩:=Nx.ids hr h6;rw[←e1,hb]at h7
        cases h7)]
      unfold Z0;simp[ha,hb]
     |some b=>
      by_cases hft:ef=et
      ·rw[ZbC (h:=h) cnt _ _ _ _ (fun u hu o ho=>by
        rw[hro,if_neg (c:=_∧o.tx≠0∧_) (fun hh=>by have:=congrArg Edge.k hh.2.2;simp at this),if_neg];rintro⟨_,⟨h3,h4⟩,h5⟩;have e1:=congrArg Edge.t h5;have e2:=congrArg Edge.f h5;simp only at e1 e2;exact h4 (by rw[←e1,←e2,hft]))]
       unfold Z0;simp[hb,hft]
      ·by_cases hc:cnt ey=true
       ·rw[if_pos hc,ZfF (h:=h) hr cnt _ _ _ _ ham hz2 (p3 h a.id ey et) (fun o ho=> ?_)]
        ·unfold Z0;simp only[ha,hb,if_neg hft];rfl
        ·rw[hro,if_neg (c:=_∧o.tx≠0∧_) (fun hh=>by have:=congrArg Edge.k hh.2.2;simp at this),Nat.zero_add];have het:et≠0:=fun e0=>by subst e0;exact Zfi hr hb
         by_cases hp:p3 h a.id ey et o=true
         ·rw[if_pos hp];unfold p3 at hp;simp only[Bool.and_eq_true,beq_iff_eq,Bool.not_eq_true',beq_eq_false_iff_ne]at hp;obtain⟨⟨⟨⟨q1,q2⟩,q3⟩,q4⟩,q5⟩:=hp;have hl:=(ZjQ hr ey o.tx et het).2 ((ZaP hr _ _ _).1 q5);rw[if_pos (by rw[q1,q2,hc];rfl),if_pos];refine⟨⟨q3,(Zg4 hr o).2 q4⟩,⟨by rw[q2,hl];exact het,by rw[q2,hl,hai];exact fun e=>hft e.symm⟩,by rw[q2,hl,hai]⟩
         ·rw[if_neg hp]
          split
          ·rename_i hrd
           rw[if_neg];rintro⟨⟨h3,h4⟩,⟨h5,h6⟩,h7⟩;have e1:=congrArg Edge.t h7;have e2:=congrArg Edge.key h7;simp only at e1 e2
           apply hp
           unfold p3;rw[Bool.and_eq_true]at hrd;have h8:=(Zg4 hr o).1 h4;have h9:ZdJ h.ords ey o.tx et=true:=(ZaP hr _ _ _).2 ((ZjQ hr ey o.tx et het).1 (by rw[e2];exact e1.symm));simp[hrd.1,←e2,h3,h9];rw[e2];exact h8
          ·rfl
       ·rw[if_neg hc,ZfF (h:=h) hr cnt _ _ _ _ ham hz2 (fun _=>false) (fun o ho=>by
         by_cases hq:(o.read&&cnt o.key)=true
         ·rw[if_pos hq,hro,if_neg (c:=_∧o.tx≠0∧_) (fun hh=>by have:=congrArg Edge.k hh.2.2;simp at this),if_neg]
          ·rfl
          ·rintro⟨_,_,h6⟩;have e2:=congrArg Edge.key h6;simp only at e2;rw[Bool.and_eq_true,←e2]at hq;exact hc hq.2
         ·rw[if_neg hq];rfl)]
        simp
   ·rw[ZbC (h:=h) cnt _ _ _ _ (fun u _ o _=>by rw[hro,if_neg (fun hh=>k2 (congrArg Edge.k hh.2.2)),if_neg (fun hh=>k3 (congrArg Edge.k hh.2.2))])];unfold Z0
    cases Zi h.txs ef<;>cases Zi h.txs et<;>simp[k1,k2,k3]
end
end
/- Edges of a history,the document's:all edges are walked. -/
section
open Go.RowKit
theorem ZkB:∀(txs:List HTx),(∀t∈txs,t.ops.length≤24)→(txK txs).length≤24*txs.length
 |[],_=>by simp[txK]
 |x::l,h=>by
  have h1:=ZkB l fun t ht=>h t (List.mem_cons_of_mem _ ht)
  have h2:=h x (List.mem_cons_self ..);unfold txK at h1 ⊢;rw[List.flatMap_cons,List.length_append,List.length_cons];unfold opK at h1 ⊢;rw[List.length_map];omega
theorem Zpe (txs:List HTx) (h:∀t∈txs,t.ops.length≤24):(Zb9 txs).length≤24*txs.length:=by
 have h1:=ZgP (txK txs) [];have h2:=ZkB txs h;unfold Zb9;simp at h1;omega
end
/- Edges of a history,in plain words:the lists. -/
section
open Go.RowKit
theorem Zhi {s:List Edge} (h:s.Pairwise fun a b=>ltE a b=true):∀k,k≤s.length→ddF s k=s.take k
 |0,_=>by simp[ddF]
 |k+1,hk=>by
  have ih:=Zhi h k (by omega);rw[ZhP (by omega),ih,List.take_succ_eq_append_getElem (by omega)]
  cases k with
  |zero=>exact Or.inl rfl
  |succ k=>
   right
   rw[Nat.add_sub_cancel,Qg (by omega),Qg (by omega)];intro e;have:=List.pairwise_iff_getElem.1 h k (k+1) (by omega) (by omega) (by omega);rw[Option.some.inj e,ZfL]at this
   cases this
theorem Zjb {s:List Edge} (h:s.Pairwise fun a b=>ltE a b=true):ZaX s=s:=by
 unfold ZaX;refine List.Perm.eq_of_pairwise (le:=fun a b=>(!ltOf ZaA b a)=true) (fun a b _ _ h1 h2=> ?_) (List.pairwise_mergeSort Zfc Zfd s) (h.imp fun {a b} hab=> ?_) (List.mergeSort_perm _ _)
 ·simp only[ZaC,Bool.not_eq_true']at h1 h2;exact ZhD h2 h1
 ·simp only[ZaC,Bool.not_eq_true']
  cases hba:ltE b a with
  |false=>rfl
  |true=>have:=Zin hab hba;rw[ZfL]at this;cases this
theorem Zl9 {s:List Edge} (h:s.Pairwise fun a b=>ltE a b=true):ddE s=s:=by
 unfold ddE;rw[Zjb h,Zhi h _ (Nat.le_refl _),List.take_length]
theorem Zi9 {s:List Edge} (h:s.Pairwise fun a b=>ltE a b=true):s.Nodup:=h.imp fun {a b} hab e=>by subst e;rw[ZfL]at hab;cases hab
theorem Zsm {g:Edge→Nat} {l:List Hvy} (h1:(l.map (·.e)).Pairwise fun a b=>ltE a b=true) (h2:∀e,e∈l.map (·.e)↔g e≠0) (h3:∀x∈l,x.n=(g x.e:Int)):Zmj g l:=fun mc hm=>by
 have hp:(mc.map (·.1)).Perm (l.map (·.e)):=(List.perm_ext_iff_of_nodup hm.nd (Zi9 h1)).2 fun a=>by rw[hm.mem,h2]
 rw[Zj4 hp,Zl9 h1];unfold hvL;rw[List.map_map]
 conv=>rhs;rw[←List.map_id l]
 refine List.map_congr_left fun x hx=> ?_
 have:=h3 x hx;obtain⟨e,n⟩:=x;simp only at this;simp[this]
theorem Zsj {g:Edge→Nat} {l:List Edge} (h:∀e,g e≠0→e∈l) (hl:l.length≤1000000):Zo0 g:=fun mc hm=>by
 have h1:=hm.nd.length_le_of_subset (l₂:=l) fun a ha=>h a ((hm.mem a).1 ha)
 rw[List.length_map]at h1;omega
section
variable {h:Hist}
theorem mem_hrB {a kind key:Int} {bs:List HTx} {x:Hvy}:x∈hrB h a kind key bs↔∃b∈bs,0<Z0 h ⟨a,b.id,kind,key⟩∧x=⟨⟨a,b.id,kind,key⟩,(Z0 h ⟨a,b.id,kind,key⟩:Int)⟩:=by
 unfold hrB;rw[List.mem_flatMap]
 constructor
 ·rintro⟨b,hb,hx⟩
  split at hx
  ·rename_i hp;exact⟨b,hb,hp,by simpa using hx⟩
  ·cases hx
 ·rintro⟨b,hb,hp,rfl⟩;exact⟨b,hb,by rw[if_pos hp];simp⟩
theorem mem_hrK {a kind:Int} {ks:List Int} {x:Hvy}:x∈hrK h a kind ks↔∃key∈ks,∃b∈h.txs,0<Z0 h ⟨a,b.id,kind,key⟩∧x=⟨⟨a,b.id,kind,key⟩,(Z0 h ⟨a,b.id,kind,key⟩:Int)⟩:=by
 unfold hrK;rw[List.mem_flatMap];simp only[mem_hrB]
theorem ZoP (a:Int):hrN h a 3=hrK h a 1 (Zb9 h.txs)++hrK h a 2 (Zb9 h.txs)++hrK h a 3 (Zb9 h.txs):=rfl
theorem mem_hrA {ts:List HTx} {x:Hvy}:x∈hrA h ts↔∃t∈ts,∃kind,(kind=1∨kind=2∨kind=3)∧x∈hrK h t.id kind (Zb9 h.txs):=by
 unfold hrA;rw[List.mem_flatMap];simp only[ZoP,List.mem_append]
 constructor
 ·rintro⟨t,ht,(h1|h1)|h1⟩
  ·exact⟨t,ht,1,Or.inl rfl,h1⟩
  ·exact⟨t,ht,2,Or.inr (Or.inl rfl),h1⟩
  ·exact⟨t,ht,3,Or.inr (Or.inr rfl),h1⟩
 ·rintro⟨t,ht,kind,rfl|rfl|rfl,h1⟩
  ·exact⟨t,ht,Or.inl (Or.inl h1)⟩
  ·exact⟨t,ht,Or.inl (Or.inr h1)⟩
  ·exact⟨t,ht,Or.inr h1⟩
theorem Zha {a kind key:Int}:∀{bs:List HTx},(bs.map (·.id)).Pairwise (·<·)→((hrB h a kind key bs).map (·.e)).Pairwise fun a b=>ltE a b=true
 |[],_=>List.Pairwise.nil
 |b::bs,hp=>by
  rw[List.map_cons,List.pairwise_cons]at hp;have ih:=Zha (a:=a) (kind:=kind) (key:=key) hp.2
  show((((if 0<Z0 h ⟨a,b.id,kind,key⟩ then [_] else []):List Hvy)++hrB h a kind key bs).map (·.e)).Pairwise _
  rw[List.map_append]
  split
  ·refine List.pairwise_cons.2 ⟨fun y hy=> ?_,ih⟩;obtain⟨x,hx,rfl⟩:=List.mem_map.1 hy;obtain⟨u,hu,_,rfl⟩:=mem_hrB.1 hx;have:=hp.1 u.id (List.mem_map.2 ⟨u,hu,rfl⟩);exact(Za5 _ _).2 (Or.inr ⟨rfl,Or.inr ⟨rfl,Or.inr ⟨rfl,this⟩⟩⟩)
  ·exact ih
theorem Zg9 (hr:(h.txs.map (·.id)).Pairwise (·<·)) {a kind:Int}:∀{ks:List Int},ks.Pairwise (·<·)→((hrK h a kind ks).map (·.e)).Pairwise fun a b=>ltE a b=true
 |[],_=>List.Pairwise.nil
 |k::ks,hp=>by
  rw[List.pairwise_cons]at hp;have ih:=Zg9 hr (a:=a) (kind:=kind) hp.2
  show((hrB h a kind k h.txs++hrK h a kind ks).map (·.e)).Pairwise _
  rw[List.map_append,List.pairwise_append];refine⟨Zha hr,ih,fun y hy z hz=> ?_⟩;obtain⟨x,hx,rfl⟩:=List.mem_map.1 hy;obtain⟨v,hv,rfl⟩:=List.mem_map.1 hz;obtain⟨u,hu,_,rfl⟩:=mem_hrB.1 hx;obtain⟨k2,hk2,u2,hu2,_,rfl⟩:=mem_hrK.1 hv;have:=hp.1 k2 hk2;exact(Za5 _ _).2 (Or.inr ⟨rfl,Or.inr ⟨rfl,Or.inl this⟩⟩)
theorem ZqK (txs:List HTx):(Zb9 txs).Pairwise (·<·):=Zib _ _ List.Pairwise.nil
theorem Zhb (hr:(h.txs.map (·.id)).Pairwise (·<·)):∀{ts:List HTx},(ts.map (·.id)).Pairwise (·<·)→((hrA h ts).map (·.e)).Pairwise fun a b=>ltE a b=true
 |[],_=>List.Pairwise.nil
 |t::ts,hp=>by
  rw[List.map_cons,List.pairwise_cons]at hp;have ih:=Zhb hr hp.2
  show((hrN h t.id 3++hrA h ts).map (·.e)).Pairwise _
  have hkk:=fun kind=>Zg9 hr (a:=t.id) (kind:=kind) (ZqK h.txs)
  rw[ZoP,List.map_append,List.map_append,List.map_append,List.pairwise_append,List.pairwise_append,List.pairwise_append];refine⟨⟨⟨hkk 1,hkk 2,fun y hy z hz=> ?_⟩,hkk 3,fun y hy z hz=> ?_⟩,ih,fun y hy z hz=> ?_⟩
  ·obtain⟨x,hx,rfl⟩:=List.mem_map.1 hy;obtain⟨v,hv,rfl⟩:=List.mem_map.1 hz;obtain⟨k2,_,u,_,_,rfl⟩:=mem_hrK.1 hx;obtain⟨k3,_,u3,_,_,rfl⟩:=mem_hrK.1 hv;exact(Za5 _ _).2 (Or.inr ⟨rfl,Or.inl (show(1:Int)<2 by decide)⟩)
  ·obtain⟨v,hv,rfl⟩:=List.mem_map.1 hz;obtain⟨k3,_,u3,_,_,rfl⟩:=mem_hrK.1 hv;rcases List.mem_append.1 hy with hy|hy
   ·obtain⟨x,hx,rfl⟩:=List.mem_map.1 hy;obtain⟨k2,_,u,_,_,rfl⟩:=mem_hrK.1 hx;exact(Za5 _ _).2 (Or.inr ⟨rfl,Or.inl (show(1:Int)<3 by decide)⟩)
   ·obtain⟨x,hx,rfl⟩:=List.mem_map.1 hy;obtain⟨k2,_,u,_,_,rfl⟩:=mem_hrK.1 hx;exact(Za5 _ _).2 (Or.inr ⟨rfl,Or.inl (show(2:Int)<3 by decide)⟩)
  ·obtain⟨v,hv,rfl⟩:=List.mem_map.1 hz;obtain⟨t2,ht2,kind,_,hx2⟩:=mem_hrA.1 hv;obtain⟨k3,_,u3,_,_,rfl⟩:=mem_hrK.1 hx2;have:=hp.1 t2.id (List.mem_map.2 ⟨t2,ht2,rfl⟩)
   have hy2:y.f=t.id:=by
    rcases List.mem_append.1 hy with hy|hy
    ·rcases List.mem_append.1 hy with hy|hy
     ·obtain⟨x,hx,rfl⟩:=List.mem_map.1 hy;obtain⟨k2,_,u,_,_,rfl⟩:=mem_hrK.1 hx;rfl
     ·obtain⟨x,hx,rfl⟩:=List.mem_map.1 hy;obtain⟨k2,_,u,_,_,rfl⟩:=mem_hrK.1 hx;rfl
    ·obtain⟨x,hx,rfl⟩:=List.mem_map.1 hy;obtain⟨k2,_,u,_,_,rfl⟩:=mem_hrK.1 hx;rfl
   exact(Za5 _ _).2 (Or.inl (by rw[hy2];exact this))
theorem ZoB (txs:List HTx) (key:Int):key∈Zb9 txs↔∃t∈txs,∃o∈t.ops,o.key=key:=by
 unfold Zb9 txK opK;rw[ZgZ,List.mem_flatMap];simp only[List.mem_map,List.not_mem_nil,false_or]
theorem ZiG (hr:Za h=true) {e:Edge} (hc:Z0 h e≠0):(∃a∈h.txs,a.id=e.f)∧(∃b∈h.txs,b.id=e.t)∧(e.k=1∨e.k=2∨e.k=3)∧e.key∈Zb9 h.txs:=by
 unfold Z0 at hc
 cases ha:Zi h.txs e.f with
 |none=>rw[ha]at hc;exact absurd rfl hc
 |some a=>
  cases hb:Zi h.txs e.t with
  |none=>rw[ha,hb]at hc;exact absurd rfl hc
  |some b=>
   rw[ha,hb]at hc;simp only at hc;obtain⟨ha1,ha2⟩:=Zai (ZO ha).1;obtain⟨hb1,hb2⟩:=Zai (ZO hb).1;refine⟨⟨a,ha1,ha2⟩,⟨b,hb1,hb2⟩,?_⟩;rw[ZoB]
   split at hc
   ·exact absurd rfl hc
   ·split at hc
    ·rename_i hk
     refine⟨Or.inl hk,?_⟩
     split at hc
     ·rename_i hn
      obtain⟨o,ho,hok,i,hi,hy⟩:=(ZaP hr _ _ _).1 hn;have hw:=(ZbO hr ho).mem_iff.1 (List.mem_of_getElem? hy);unfold Zq at hw;obtain⟨t,ht,_⟩:=List.mem_map.1 hw;rw[List.mem_filter,Bool.and_eq_true,List.contains_iff_mem]at ht;have hk2:=ht.2.2;unfold ZI at hk2;rw[Zbh]at hk2;unfold ZaR at hk2;obtain⟨op,hop,hopk⟩:=List.mem_map.1 hk2;rw[List.mem_filter]at hop;exact⟨t,ht.1,op,hop.1,hopk.trans hok⟩
     ·exact absurd rfl hc
    ·split at hc
     ·rename_i hk
      refine⟨Or.inr (Or.inl hk),?_⟩;obtain⟨o,ho,hp⟩:=List.countP_pos_iff.1 (Nat.pos_of_ne_zero hc);unfold p2 at hp;simp only[Bool.and_eq_true,beq_iff_eq]at hp;exact⟨b,hb1,o,ho,hp.1.1.2⟩
     ·split at hc
      ·rename_i hk
       refine⟨Or.inr (Or.inr hk),?_⟩;obtain⟨o,ho,hp⟩:=List.countP_pos_iff.1 (Nat.pos_of_ne_zero hc);unfold p3 at hp;simp only[Bool.and_eq_true,beq_iff_eq]at hp;exact⟨a,ha1,o,ho,hp.1.1.1.2⟩
      ·exact absurd rfl hc
theorem Zay (hr:Za h=true) {x:Hvy}:x∈Zh h↔Z0 h x.e≠0∧x.n=(Z0 h x.e:Int):=by
 unfold Zh;rw[if_pos hr,mem_hrA]
 constructor
 ·rintro⟨t,_,kind,_,hx⟩;obtain⟨key,_,b,_,h1,rfl⟩:=mem_hrK.1 hx;exact⟨by simp only;omega,rfl⟩
 ·rintro⟨h1,h2⟩;obtain⟨⟨a,ha,hae⟩,⟨b,hb,hbe⟩,hk,hkey⟩:=ZiG hr h1;refine⟨a,ha,x.e.k,hk,mem_hrK.2 ⟨x.e.key,hkey,b,hb,?_⟩⟩;obtain⟨⟨ef,et,ek,ey⟩,n⟩:=x;simp only at*;subst hae hbe h2;exact⟨by omega,rfl⟩
theorem ZeQ:((Zh h).map (·.e)).Pairwise fun a b=>ltE a b=true:=by
 unfold Zh
 split
 ·rename_i hr;exact Zhb (Zc5 hr) (Zc5 hr)
 ·exact List.Pairwise.nil
theorem ZhK (cnt:Int→Bool) (e:Edge):ZcY cnt h e=if Za h=true then (if cnt e.key=true then Z0 h e else 0) else 0:=by
 unfold ZcY
 split
 ·rename_i hr;exact Zk7 hr cnt e
 ·rfl
theorem Zl1:Zmj (ZcY (fun _=>true) h) (Zh h):=by
 refine Zsm ZeQ (fun e=> ?_) fun x hx=> ?_
 ·rw[ZhK]
  by_cases hr:Za h=true
  ·rw[if_pos hr,if_pos rfl,List.mem_map]
   constructor
   ·rintro⟨x,hx,rfl⟩;exact((Zay hr).1 hx).1
   ·intro hc;exact⟨⟨e,(Z0 h e:Int)⟩,(Zay hr).2 ⟨hc,rfl⟩,rfl⟩
  ·rw[if_neg hr];unfold Zh;rw[if_neg hr];simp
 ·by_cases hr:Za h=true
  ·rw[ZhK,if_pos hr,if_pos rfl];exact((Zay hr).1 hx).2
  ·unfold Zh at hx;rw[if_neg hr]at hx;cases hx
theorem Zk3 (a kind key:Int):∀bs:List HTx,(hrB h a kind key bs).length≤bs.length
 |[]=>Nat.le_refl _
 |b::bs=>by
  have:=Zk3 a kind key bs
  show((((if 0<Z0 h ⟨a,b.id,kind,key⟩ then [_] else []):List Hvy)++hrB h a kind key bs)).length≤_
  rw[List.length_append,List.length_cons]
  split<;>simp<;>omega
theorem ZfO (a kind:Int) (n:h.txs.length≤12):∀ks:List Int,(hrK h a kind ks).length≤12*ks.length
 |[]=>Nat.le_refl _
 |k::ks=>by
  have h1:=ZfO a kind n ks;have h2:=Zk3 (h:=h) a kind k h.txs
  show(hrB h a kind k h.txs++hrK h a kind ks).length≤_
  rw[List.length_append,List.length_cons];omega
theorem Zk4 (n:h.txs.length≤12) (n2:(Zb9 h.txs).length≤288):∀ts:List HTx,(hrA h ts).length≤10368*ts.length
 |[]=>Nat.le_refl _
 |t::ts=>by
  have h1:=Zk4 n n2 ts;have h2:=ZfO (h:=h) t.id 1 n (Zb9 h.txs);have h3:=ZfO (h:=h) t.id 2 n (Zb9 h.txs);have h4:=ZfO (h:=h) t.id 3 n (Zb9 h.txs)
  show(hrN h t.id 3++hrA h ts).length≤_
  rw[ZoP,List.length_append,List.length_append,List.length_append,List.length_cons];omega
theorem Zl0 (n:h.txs.length≤12) (n2:∀t∈h.txs,t.ops.length≤24):(Zh h).length≤200000:=by
 unfold Zh
 split
 ·have h1:=Zpe h.txs n2;have:=Zk4 n (by omega) h.txs;omega
 ·simp
theorem Zqw (n:h.txs.length≤12) (n2:∀t∈h.txs,t.ops.length≤24) (cnt:Int→Bool):Zo0 (ZcY cnt h):=by
 refine Zsj (l:=(Zh h).map (·.e)) (fun e hg=> ?_) (by rw[List.length_map];have:=Zl0 n n2;omega);rw[ZhK]at hg
 by_cases hr:Za h=true
 ·rw[if_pos hr]at hg
  by_cases hc:cnt e.key=true
  ·rw[if_pos hc]at hg;exact List.mem_map.2 ⟨⟨e,(Z0 h e:Int)⟩,(Zay hr).2 ⟨hg,rfl⟩,rfl⟩
  ·rw[if_neg hc]at hg;exact absurd rfl hg
 ·rw[if_neg hr]at hg;exact absurd rfl hg
end
end
end Go.Proofs.YtonblekdfinpkaaGreat
