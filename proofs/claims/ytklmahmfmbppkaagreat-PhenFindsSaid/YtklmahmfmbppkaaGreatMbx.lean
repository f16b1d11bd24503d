/- Edges of a history: dsg.list. -/
import Derived.Test.YtklmahmfmbppkaaGreatMbc
import Derived.Test.YtklmahmfmbppkaaGreatMbd
import Derived.Test.YtklmahmfmbppkaaGreatMbg
import Derived.Test.YtklmahmfmbppkaaGreatMbj
import Derived.Test.YtklmahmfmbppkaaGreatMbk
namespace Go.Proofs.YtklmahmfmbppkaaGreat
set_option linter.unusedSimpArgs false
set_option linter.unusedVariables false
open Go.RowKit
structure Hvy where
 e:Edge
 n:Int
deriving DecidableEq
def Hvy.cells (h:Hvy):List Value:=[.int .i64 h.e.f,.int .i64 h.e.t,.int .i64 h.e.k,.int .i64 h.e.key,.int .i64 h.n]
def Zgy (l:List Hvy):List Value:=(l.map Hvy.cells).flatten
theorem Zqp {l:List Hvy}:∀r∈l.map Hvy.cells,r.length=5:=fun r hr=>by
 obtain⟨e,_,rfl⟩:=List.mem_map.1 hr;rfl
theorem Znx (l:List Hvy) (x:Hvy):Zgy (l++[x])=Zgy l++x.cells:=by unfold Zgy;simp
def Hvys (F:Nat→Prop) (w:World) (A:Option Addr) (l:List Hvy):Prop:=Recs F w A 5 (l.map Hvy.cells)
theorem Hvys.upd {F S:Nat→Prop} {w w':World} {A:Option Addr} {l:List Hvy} (h:Hvys F w A l) (k:Upd S w w') (hn:∀i,F i→¬S i):Hvys F w' A l:=Recs.upd h k hn
theorem Zp3:SlT Tryz.prog 45 89 5 40:=SlT.mk_ Tryz.underlying45 (z:= .agg #[.int .i64 0,.int .i64 0,.int .i64 0,.int .i64 0,.int .i64 0]) (by kernel_rfl) rfl (by omega)
def ZpO (w:World) (l:List Hvy) (e:Ending) (w':World):Prop:=∃A c,e= .returned (.slice A l.length c)∧w'.ownsRow w.heap.size 89 5 (.slice A l.length c) l.length (Zgy l)∧Upd No w w'
def hvL (g:Edge→Nat) (l:List Edge):List Hvy:=l.map fun e=>⟨e,(g e:Int)⟩
theorem Zo0 {g:Edge→Nat} {l:List Edge} {k:Nat} {x:Edge} (hk:k<l.length) (hx:l[k]=x):hvL g (l.take (k+1))=hvL g (l.take k)++[⟨x,(g x:Int)⟩]:=by
 subst hx
 unfold hvL
 rw[List.take_succ_eq_append_getElem hk,List.map_append];rfl
set_option maxRecDepth 100000 in
set_option maxHeartbeats 8000000 in
theorem Zse (w:World) (bc:Nat) (mc:List (Edge×Value)) (g:Edge→Nat) (hm:MapE w bc ZS mc) (hg:CntM mc g) (hl:mc.length≤1000000):
  Calls Tryz.prog 56 #[.map (some bc)] w (ZpO w (hvL g (ddE (mc.map (·.1))))):=by
 obtain⟨es,hes⟩:∃es,ddE (mc.map (·.1))=es:=⟨_,rfl⟩
 rw[hes]
 have HES:=Lib.hid hes
 clear hes
 obtain⟨w1,hw1⟩:∃w1,w.alloc (.cells #[.map (some bc)] 91)=w1:=⟨_,rfl⟩
 have u1:Upd No w w1:=by rw[←hw1];exact(Upd.refl No w).alloc _
 have b1:Blk w1 w.heap.size 91 [.map (some bc)]:=by rw[←hw1];exact Blk.new w _ _
 have HK:=Lib.hid (Zr3 w (some bc))
 rw[hw1]at HK
 have HC:=Lib.hid (Zpd w1 w.heap.size bc mc (by simpa using b1.cell 0) (hm.upd u1 id) hl)
 have HM:=Lib.hid hm
 have HG:=Lib.hid hg
 have HU1:=Lib.hid u1
 have HKL:=Lib.hid (show(mc.map (·.1)).length≤1000000 by rw[List.length_map];exact hl)
 clear hm hg hw1 u1 b1
 go_enter Tryz.func56,Tryz.ntmps56
 go_wp2_with fail
 refine(HK.out).mono ?_
 rintro e w2 ⟨rfl,rfl⟩
 go_wp2_with fail
 refine(HC.out).mono ?_
 rintro e w3 ⟨A3,c3,ks,rfl,hpm,ho3,hu3⟩
 have HP:=Lib.hid (ZrR (Own (.slice A3 ks.length c3)) w3 A3 c3 ks (Recs.of_own ZaD (by omega) ho3) (by have:=hpm.length_eq;have:=HKL.out;omega))
 rw[Zkr hpm]at HP
 have hv3:=HU1.out.trans hu3
 clear hpm ho3 hu3
 have hel:es.length≤1000000:=by
  rw[←HES.out]
  have h1:=Zlw (Za6 (mc.map (·.1))) (mc.map (·.1)).length
  have h2:=HKL.out
  unfold ddE
  omega
 rw[HES.out]at HP
 go_wp2_with fail
 refine(HP.out).mono ?_
 rintro e w4 ⟨A4,c4,rfl,hx4,hu4⟩
 have HV4:=Lib.hid (hv3.trans hu4)
 obtain⟨G4,hx4⟩:=hx4
 have HX4:=Lib.hid hx4
 clear hx4 hu4 hv3
 go_wp2
 go_loopg [3,11] es.length (fun gk s i wr=>∃(k:Nat) (A5:Option Addr) (c5:Nat) (xs:List Hvy),k+gk=es.length∧i= .int .i64 k∧s= .slice A5 xs.length c5∧Hid (xs=hvL g (es.take k))∧Hid (wr.ownsRow w4.heap.size 89 5 (.slice A5 xs.length c5) xs.length (Zgy xs))∧Upd No w4 wr)
 case atStart=>exact⟨0,none,0,[],by omega,rfl,rfl,Lib.hid rfl,Lib.hid (World.ownsRow_nil _ _ _ _),Upd.refl _ _⟩
 case round=>
  obtain⟨k,A5,c5,xs,hgk,rfl,rfl,hs,hown,hu⟩:=hrel
  have hxl:xs.length≤1000000:=by rw[hs.out];unfold hvL;rw[List.length_map,List.length_take];omega
  by_cases hlt:k<es.length
  ·obtain⟨ax,rfl,q0,q1,q2,q3⟩:=Walk.at_ (Walk.upd HX4.out hu (fun _ _=>id)) hlt
   obtain⟨x,hxx⟩:∃x,es[k]=x:=⟨_,rfl⟩
   rw[hxx]at q0 q1 q2 q3
   have HS:=Lib.hid (show xs++[⟨x,(g x:Int)⟩]=hvL g (es.take (k+1)) by rw[hs.out];exact(Zo0 hlt hxx).symm)
   have i1:(0:Int)≤(k:Int):=Int.natCast_nonneg _
   have i2:(k:Int)<(es.length:Int):=by omega
   obtain⟨wx,hwx⟩:∃wx,wr.alloc (.cells #[.int .i64 x.f,.int .i64 x.t,.int .i64 x.k,.int .i64 x.key] 61)=wx:=⟨_,rfl⟩
   have ux:Upd No wr wx:=by rw[←hwx];exact(Upd.refl No wr).alloc _
   have bo:Blk wx wr.heap.size 61 [.int .i64 x.f,.int .i64 x.t,.int .i64 x.k,.int .i64 x.key]:=by rw[←hwx];exact Blk.new wr _ _
   have d0:∀W,Upd (Own (.slice A5 xs.length c5)) wx W→W.cell? ⟨wr.heap.size,0,none⟩=some (.int .i64 x.f):=fun W u=>by have:=(bo.upd u (fun e=>by have:=(hown.out.lt _ e).2;omega)).cell 0;simpa using this
   have d1:∀W,Upd (Own (.slice A5 xs.length c5)) wx W→W.cell? ⟨wr.heap.size,1,none⟩=some (.int .i64 x.t):=fun W u=>by have:=(bo.upd u (fun e=>by have:=(hown.out.lt _ e).2;omega)).cell 1;simpa using this
   have d2:∀W,Upd (Own (.slice A5 xs.length c5)) wx W→W.cell? ⟨wr.heap.size,2,none⟩=some (.int .i64 x.k):=fun W u=>by have:=(bo.upd u (fun e=>by have:=(hown.out.lt _ e).2;omega)).cell 2;simpa using this
   have d3:∀W,Upd (Own (.slice A5 xs.length c5)) wx W→W.cell? ⟨wr.heap.size,3,none⟩=some (.int .i64 x.key):=fun W u=>by have:=(bo.upd u (fun e=>by have:=(hown.out.lt _ e).2;omega)).cell 3;simpa using this
   obtain⟨N,hN⟩:∃N,g x=N:=⟨_,rfl⟩
   rw[hN]at HS
   have HWX:=Lib.hid ((HV4.out.trans hu).trans ux)
   have L1:∀W,Upd (Own (.slice A5 xs.length c5)) wx W→(Instr.lookup 91 (.map (some bc)) (.agg #[.int .i64 x.f,.int .i64 x.t,.int .i64 x.k,.int .i64 x.key]) false).run Tryz.prog W= .ok (.int .i64 (N:Int)) W:=fun W u=>by
    have:=ZD Zbg Tryz.underlying91 Zao ((HM.out.upd (S:=No) HWX.out id).upd u (fun e=>by have h1:=(hown.out.lt _ e).1;have h2:=HM.out.lt;have h3:=HV4.out.size;omega)).is x
    rwa [HG.out.val,hN]at this
   have HO:=Lib.hid (Za hown.out ux (fun _ _=>id))
   have HUX:=Lib.hid (hu.trans ux)
   have HSZ:=Lib.hid (show w4.heap.size≤wx.heap.size from(hu.trans ux).size)
   have hxz:Upd (Own (.slice A5 xs.length c5)) wx wx:=Upd.refl _ _
   have hzd:Upd No wx (wx.alloc (.cells #[.int .i64 x.f,.int .i64 x.t,.int .i64 x.k,.int .i64 x.key,.int .i64 (N:Int)] 89)).drew:=((Upd.refl No wx).alloc _).drew
   clear hxx bo ux hN hown
   go_wp2
   refine wp_region_noPanic ?_
   refine wp_region_held_drew (S:=(fun W'=>Upd (Own (.slice A5 xs.length c5)) wx W')) (by kernel_rfl) ?_ (fun hHeld=> ?_)
   ·(first|exact(Upd.refl _ wx).drew|exact hHeld|exact hHeld.alloc _|exact hU6)
   refine wpK 0 rfl ?_
   refine wpK 1 rfl ?_
   refine wpK 2 rfl ?_
   refine wpK 3 rfl ?_
   refine wpR [4] ?_
   refine wpC rfl (fun K hK=> ?_) AllReadyH.nil
   go_simp
   refine hK.out _ _ ?_ (fun hHeld=> ?_)
   ·(first|exact(Upd.refl _ wx).drew|exact hHeld|exact hHeld.alloc _|exact hU6)
   clear hK K
   try simp only[Act.put,sT,sS,sZ]
   refine wpK 5 rfl ?_
   refine wpR [6] ?_
   refine wpC rfl (fun K hK=> ?_) AllReadyH.nil
   go_simp
   refine hK.out _ _ ?_ (fun hHeld=> ?_)
   ·(first|exact(Upd.refl _ wx).drew|exact hHeld|exact hHeld.alloc _|exact hU6)
   clear hK K
   try simp only[Act.put,sT,sS,sZ]
   refine wpR [7] ?_
   refine wpC rfl (fun K hK=> ?_) AllReadyH.nil
   (first
  |(refine ZdP (by rfl) (by rfl) Zp3 (v:= .slice A5 xs.length c5) (n:=xs.length) (xs:=Zgy xs) (cells:=[.int .i64 x.f,.int .i64 x.t,.int .i64 x.k,.int .i64 x.key,.int .i64 (N:Int)]) (by rfl) (by rfl) (by exact Za HO.out hzd (fun _ _=>id)) rfl (by exact ZcJ) (by rfl) (by omega) (by omega) (by have:=HSZ.out;simp;omega) ?_;intro g6 c6 w6 hown6 hu6 hg6 hlt6;have hU6:Upd (Own (.slice A5 xs.length c5)) wx w6:=hHeld.trans hu6))
   refine hK.out _ _ ?_ (fun hHeld=> ?_)
   ·(first|exact(Upd.refl _ wx).drew|exact hHeld|exact hHeld.alloc _|exact hU6)
   clear hK K
   try simp only[Act.put,sT,sS,sZ]
   refine wpK 8 rfl ?_
   refine wpD (NoPanic.normal ?_)
   have HU6:=Lib.hid hHeld
   clear hHeld
   go_wp2
   go_roundg (gk-1)
   case measure=>omega
   case rel=>
    have hl1:(xs++[(⟨x,(N:Int)⟩:Hvy)]).length=xs.length+1:=by simp
    exact⟨k+1,some ⟨g6,0,none⟩,c6,xs++[⟨x,(N:Int)⟩],by omega,by go_num,by rw[hl1],HS,Lib.hid (by rw[hl1,Znx];exact hown6),HUX.out.then_ HU6.out (fun i e=>Or.inr (HO.out.lt i e).1)⟩
  ·obtain rfl:k=es.length:=by omega
   go_wp2
   go_ret
   have h1:=hs.out
   rw[List.take_length]at h1
   subst h1
   exact⟨A5,c5,rfl,Z9 hown.out HV4.out.size,HV4.out.trans hu⟩
end Go.Proofs.YtklmahmfmbppkaaGreat
/- Edges of a history:dsg.Edges,Of,Count,Plain. -/
namespace Go.Proofs.YtklmahmfmbppkaaGreat
set_option linter.unusedSimpArgs false
set_option linter.unusedVariables false
open Go.RowKit
def Zo9 (g:Edge→Nat):Prop:=∀mc:List (Edge×Value),CntM mc g→mc.length≤1000000
def Zmu (g:Edge→Nat) (l:List Hvy):Prop:=∀mc:List (Edge×Value),CntM mc g→hvL g (ddE (mc.map (·.1)))=l
section
variable {F:Nat→Prop} {w:World} {txs:List HTx} {ords:List HOrd} {A:Option Addr} {c:Nat} {B:Option Addr} {d:Nat} {l:List Hvy}
set_option maxRecDepth 100000 in
set_option maxHeartbeats 4000000 in
theorem Zrq (H:Hist.lies F w ⟨txs,ords,A,c,B,d⟩) (hf:Zo9 (Zc4 (fun _=>true) ⟨txs,ords,A,c,B,d⟩)) (he:Zmu (Zc4 (fun _=>true) ⟨txs,ords,A,c,B,d⟩) l):
  Calls Tryz.prog 20 #[.agg #[.slice A txs.length c,.slice B ords.length d]] w (ZpO w l):=by
 obtain⟨w1,hw1⟩:∃w1,w.alloc (.cells #[.slice A txs.length c,.slice B ords.length d] 25)=w1:=⟨_,rfl⟩
 have u1:Upd No w w1:=by rw[←hw1];exact(Upd.refl No w).alloc _
 have b1:Blk w1 w.heap.size 25 [.slice A txs.length c,.slice B ords.length d]:=by rw[←hw1];exact Blk.new w _ _
 have HC:=Lib.hid (ZnL F w1 txs ords A c B d (fun _=>true) (H.upd u1 (fun _ _=>id)) (Lib.hid (fun W key _=>ZqE W key)))
 have d0:=b1.cell 0
 have d1:=b1.cell 1
 simp only[List.getElem?_cons_zero,List.getElem?_cons_succ]at d0 d1
 have HU1:=Lib.hid u1
 have HF:=Lib.hid hf
 have HE:=Lib.hid he
 clear b1 u1 hf he H
 go_enter Tryz.func20,Tryz.ntmps20
 go_wp2_with fail
 refine(HC.out).mono ?_
 rintro e w2 ⟨bc,mc,rfl,hbc,hm,hg,hu2⟩
 have HL:=Lib.hid (Zse w2 bc mc _ hm hg (HF.out mc hg))
 rw[HE.out mc hg]at HL
 have hv2:=HU1.out.trans hu2
 clear hbc hm hg hu2
 go_wp2_with fail
 refine(HL.out).mono ?_
 rintro e w3 ⟨A3,c3,rfl,ho3,hu3⟩
 go_wp2
 go_ret
 exact⟨A3,c3,rfl,Z9 ho3 hv2.size,hv2.trans hu3⟩
end
end Go.Proofs.YtklmahmfmbppkaaGreat
/- Edges of a history,the document's:those of a key,without counts;whether two lists are one. -/
namespace Go.Proofs.YtklmahmfmbppkaaGreat
set_option linter.unusedSimpArgs false
set_option linter.unusedVariables false
open Go.RowKit
theorem Hvys.at_ {F:Nat→Prop} {w:World} {A:Option Addr} {l:List Hvy} (h:Hvys F w A l) {k:Nat} (hk:k<l.length):∃ad,A=some ad∧
  w.cell? (ad.add (k*5))=some (.int .i64 l[k].e.f)∧w.cell? ⟨(ad.add (k*5)).block,(ad.add (k*5)).off+1,none⟩=some (.int .i64 l[k].e.t)∧
  w.cell? ⟨(ad.add (k*5)).block,(ad.add (k*5)).off+2,none⟩=some (.int .i64 l[k].e.k)∧w.cell? ⟨(ad.add (k*5)).block,(ad.add (k*5)).off+3,none⟩=some (.int .i64 l[k].e.key)∧
  w.cell? ⟨(ad.add (k*5)).block,(ad.add (k*5)).off+4,none⟩=some (.int .i64 l[k].n):=by
 have hk':k<(l.map Hvy.cells).length:=by simpa using hk
 obtain⟨ad,e,_,_,hc⟩:=Recs.at_ h hk'
 rw[List.getElem_map]at hc
 exact⟨ad,e,by simpa using hc 0 _ rfl,by simpa using hc 1 _ rfl,by simpa using hc 2 _ rfl,by simpa using hc 3 _ rfl,by simpa using hc 4 _ rfl⟩
def Zbx (l:List Hvy):List Edge:=l.map (·.e)
theorem ZkI {l:List Hvy} {k:Nat} {x:Hvy} (hk:k<l.length) (hx:l[k]=x):Zbx (l.take (k+1))=Zbx (l.take k)++[x.e]:=by
 subst hx
 unfold Zbx
 rw[List.take_succ_eq_append_getElem hk,List.map_append];rfl
def ZfJ (l:List Edge):List Value:=(l.map Edge.cells).flatten
theorem ZlM (xs:List Edge) (e:Edge):ZfJ (xs++[e])=ZfJ xs++e.cells:=by unfold ZfJ;simp
def Zsn (w:World) (l:List Edge) (e:Ending) (w':World):Prop:=∃A c,e= .returned (.slice A l.length c)∧w'.ownsRow w.heap.size 61 4 (.slice A l.length c) l.length (ZfJ l)∧Upd No w w'
set_option maxRecDepth 100000 in
set_option maxHeartbeats 4000000 in
theorem Zrp (F:Nat→Prop) (w:World) (A:Option Addr) (c:Nat) (l:List Hvy) (h:Hvys F w A l) (hl:l.length≤1000000):Calls Tryz.prog 19 #[.slice A l.length c] w (Zsn w (Zbx l)):=by
 go_enter Tryz.func19,Tryz.ntmps19
 go_wp2
 go_loopg [3,8] l.length (fun gk s i wr=>∃(k:Nat) (A5:Option Addr) (c5:Nat) (xs:List Edge),k+gk=l.length∧i= .int .i64 k∧s= .slice A5 xs.length c5∧Hid (xs=Zbx (l.take k))∧Hid (wr.ownsRow w.heap.size 61 4 (.slice A5 xs.length c5) xs.length (ZfJ xs))∧Upd No w wr)
 case atStart=>exact⟨0,none,0,[],by omega,rfl,rfl,Lib.hid rfl,Lib.hid (World.ownsRow_nil _ _ _ _),Upd.refl _ _⟩
 case round=>
  obtain⟨k,A5,c5,xs,hgk,rfl,rfl,hs,hown,hu⟩:=hrel
  have hxl:xs.length≤1000000:=by rw[hs.out];unfold Zbx;rw[List.length_map,List.length_take];omega
  by_cases hlt:k<l.length
  ·obtain⟨ax,rfl,q0,q1,q2,q3,q4⟩:=(h.upd hu (fun _ _=>id)).at_ hlt
   obtain⟨⟨⟨xf,xt,xk,xy⟩,xn⟩,hxx⟩:∃x,l[k]=x:=⟨_,rfl⟩
   rw[hxx]at q0 q1 q2 q3 q4
   simp only at q0 q1 q2 q3 q4
   have i1:(0:Int)≤(k:Int):=Int.natCast_nonneg _
   have i2:(k:Int)<(l.length:Int):=by omega
   obtain⟨wx,hwx⟩:∃wx,wr.alloc (.cells #[.int .i64 xf,.int .i64 xt,.int .i64 xk,.int .i64 xy,.int .i64 xn] 89)=wx:=⟨_,rfl⟩
   have ux:Upd No wr wx:=by rw[←hwx];exact(Upd.refl No wr).alloc _
   have bo:Blk wx wr.heap.size 89 [.int .i64 xf,.int .i64 xt,.int .i64 xk,.int .i64 xy,.int .i64 xn]:=by rw[←hwx];exact Blk.new wr _ _
   have d0:=bo.cell 0
   have d1:=bo.cell 1
   have d2:=bo.cell 2
   have d3:=bo.cell 3
   have d4:=bo.cell 4
   simp only[List.getElem?_cons_zero,List.getElem?_cons_succ]at d0 d1 d2 d3 d4
   have HUX:=Lib.hid (hu.trans ux)
   have HO:=Lib.hid (Za hown.out ux (fun _ _=>id))
   have hsz:=(hu.trans ux).size
   have HS:=Lib.hid (show xs++[⟨xf,xt,xk,xy⟩]=Zbx (l.take (k+1)) by rw[hs.out];exact(ZkI hlt hxx).symm)
   clear hxx bo ux hown
   go_wp2_with (at_builtin;refine Zbw rfl rfl Zbj (base:=w.heap.size) (v:= .slice A5 xs.length c5) (n:=xs.length) (xs:=ZfJ xs) (cells:=[.int .i64 xf,.int .i64 xt,.int .i64 xk,.int .i64 xy]) (by rfl) (by rfl) HO.out rfl rfl (by omega) (by omega) (by omega) ?_;intro g9 c9 w9 hown9 hu9 hg9 hlt9)
   go_roundg (gk-1)
   case measure=>omega
   case rel=>
    have hl1:(xs++[(⟨xf,xt,xk,xy⟩:Edge)]).length=xs.length+1:=by simp
    exact⟨k+1,some ⟨g9,0,none⟩,c9,xs++[⟨xf,xt,xk,xy⟩],by omega,by go_num,by rw[hl1],HS,Lib.hid (by rw[hl1,ZlM];exact hown9),HUX.out.then_ hu9 (fun i e=>Or.inr (HO.out.lt i e).1)⟩
  ·obtain rfl:k=l.length:=by omega
   go_wp2
   go_ret
   have h1:=hs.out
   rw[List.take_length]at h1
   subst h1
   exact⟨A5,c5,rfl,hown.out,hu⟩
end Go.Proofs.YtklmahmfmbppkaaGreat
/- Edges of a history,the document's:all keys;all edges. -/
namespace Go.Proofs.YtklmahmfmbppkaaGreat
set_option linter.unusedSimpArgs false
set_option linter.unusedVariables false
open Go.RowKit
def opK (l:List HOp):List Int:=l.map (·.key)
def txK (txs:List HTx):List Int:=txs.flatMap fun t=>opK t.ops
def Zcj (txs:List HTx):List Int:=Zcv [] (txK txs)
/-! all edges -/
def hrB (h:Hist) (a kind key:Int) (bs:List HTx):List Hvy:=bs.flatMap fun b=>if 0<Zax h ⟨a,b.id,kind,key⟩ then [⟨⟨a,b.id,kind,key⟩,(Zax h ⟨a,b.id,kind,key⟩:Int)⟩] else []
def hrK (h:Hist) (a kind:Int) (ks:List Int):List Hvy:=ks.flatMap fun key=>hrB h a kind key h.txs
def hrN (h:Hist) (a:Int):Nat→List Hvy
 |0=>[]
 |n+1=>hrN h a n++hrK h a ((n:Int)+1) (Zcj h.txs)
def hrA (h:Hist) (ts:List HTx):List Hvy:=ts.flatMap fun t=>hrN h t.id 3
def Zau (h:Hist):List Hvy:=if Zc h=true then hrA h h.txs else []
end Go.Proofs.YtklmahmfmbppkaaGreat
/- Edges of a history,in plain words:what is counted is what the document counts. -/
namespace Go.Proofs.YtklmahmfmbppkaaGreat
set_option linter.unusedSimpArgs false
set_option linter.unusedVariables false
open Go.RowKit
theorem ZhZ (key:Int) (e:Edge):∀l:List Int,e∈wwO key l↔e.k=1∧e.key=key∧∃i:Nat,l[i]? =some e.f∧l[i+1]? =some e.t
 |[]=>by simp[wwO]
 |[a]=>by
  simp[wwO]
 |a::b::l=>by
  have ih:=ZhZ key e (b::l)
  show e∈[⟨a,b,1,key⟩]++wwO key (b::l)↔_
  rw[List.mem_append,List.mem_singleton,ih]
  constructor
  ·rintro(rfl|⟨h1,h2,i,h3,h4⟩)
   ·exact⟨rfl,rfl,0,rfl,rfl⟩
   ·exact⟨h1,h2,i+1,h3,h4⟩
  ·rintro⟨h1,h2,i,h3,h4⟩
   cases i with
   |zero=>
    left
    simp at h3 h4
    obtain⟨ef,et,ek,ey⟩:=e
    simp only at h1 h2 h3 h4
    subst h1 h2 h3 h4
    rfl
   |succ i=>exact Or.inr ⟨h1,h2,i,h3,h4⟩
theorem Zqi (cnt:Int→Bool) (ords:List HOrd) (e:Edge):e∈wwL cnt ords↔e.k=1∧cnt e.key=true∧∃o∈ords,o.key=e.key∧∃i:Nat,o.txs[i]? =some e.f∧o.txs[i+1]? =some e.t:=by
 unfold wwL
 rw[List.mem_flatMap]
 constructor
 ·rintro⟨o,ho,h⟩
  unfold wwC at h
  split at h
  ·rename_i hc
   obtain⟨h1,h2,h3⟩:=(ZhZ _ _ _).1 h
   exact⟨h1,by rw[h2];exact hc,o,ho,h2.symm,h3⟩
  ·cases h
 ·rintro⟨h1,h2,o,ho,h3,h4⟩
  refine⟨o,ho,?_⟩
  unfold wwC
  rw[if_pos (by rw[h3];exact h2)]
  exact(ZhZ _ _ _).2 ⟨h1,h3.symm,h4⟩
/-! what was laid last -/
theorem Zhn (p:Int×Int):∀(L:List ((Int×Int)×Int)) (a:Int),(∀e∈L,e.1≠p)→L.foldl (fun a e=>if e.1=p then e.2 else a) a=a
 |[],_,_=>rfl
 |e::L,a,h=>by
  rw[List.foldl_cons,if_neg (h e (List.mem_cons_self ..))]
  exact Zhn p L a fun x hx=>h x (List.mem_cons_of_mem _ hx)
theorem ZiL (p:Int×Int) (v:Int):∀(L:List ((Int×Int)×Int)) (a:Int),(∀e∈L,e.1=p→e.2=v)→(a=v∨∃e∈L,e.1=p)→L.foldl (fun a e=>if e.1=p then e.2 else a) a=v
 |[],a,_,h=>by
  rcases h with h|⟨e,he,_⟩
  ·exact h
  ·cases he
 |e::L,a,h,h2=>by
  rw[List.foldl_cons]
  refine ZiL p v L _ (fun x hx=>h x (List.mem_cons_of_mem _ hx)) ?_
  by_cases hp:e.1=p
  ·rw[if_pos hp];exact Or.inl (h e (List.mem_cons_self ..) hp)
  ·rw[if_neg hp]
   rcases h2 with h2|⟨x,hx,hxp⟩
   ·exact Or.inl h2
   ·rcases List.mem_cons.1 hx with rfl|hx
    ·exact absurd hxp hp
    ·exact Or.inr ⟨x,hx,hxp⟩
theorem Zfi (key:Int) (e:(Int×Int)×Int):∀(l:List Int) (a:Int),e∈ZaH key a l↔e.1.1=key∧∃i:Nat,(a::l)[i]? =some e.1.2∧l[i]? =some e.2
 |[],a=>by simp[ZaH]
 |x::l,a=>by
  show e∈((key,a),x)::ZaH key x l↔_
  rw[List.mem_cons,Zfi key e l x]
  constructor
  ·rintro(rfl|⟨h1,i,h2,h3⟩)
   ·exact⟨rfl,0,rfl,rfl⟩
   ·exact⟨h1,i+1,h2,h3⟩
  ·rintro⟨h1,i,h2,h3⟩
   cases i with
   |zero=>
    left
    obtain⟨⟨e1,e2⟩,e3⟩:=e
    simp at h1 h2 h3
    subst h1 h2 h3
    rfl
   |succ i=>exact Or.inr ⟨h1,i,h2,h3⟩
def Nx (ords:List HOrd) (key x y:Int):Prop:=∃o∈ords,o.key=key∧∃i:Nat,(0::o.txs)[i]? =some x∧o.txs[i]? =some y
theorem Zfj (ords:List HOrd) (key x y:Int):((key,x),y)∈Zz ords↔Nx ords key x y:=by
 unfold Zz Nx
 rw[List.mem_flatMap]
 constructor
 ·rintro⟨o,ho,h⟩
  obtain⟨h1,h2⟩:=(Zfi _ _ _ _).1 h
  exact⟨o,ho,h1.symm,h2⟩
 ·rintro⟨o,ho,h1,h2⟩
  exact⟨o,ho,(Zfi _ _ _ _).2 ⟨h1.symm,h2⟩⟩
section
variable {h:Hist}
theorem Zf1 (hr:Zc h=true) {i:Nat} (hi:i<h.ords.length):ZcR h.txs h.ords i=true:=by
 unfold Zc at hr
 simp only[Bool.and_eq_true,List.all_eq_true,List.mem_range]at hr
 exact hr.2 i hi
theorem Ze8 (hr:Zc h=true):(h.ords.map (·.key)).Pairwise (·<·):=Zk2 fun j hj=>by
 rw[List.length_map]at hj
 have:=((ZjT hj).1 (Zf1 hr hj)).1 j rfl
 rw[show(h.ords.map (·.key)).getD (j+1) 0=h.ords[j+1].key by rw[List.getD_eq_getElem?_getD,List.getElem?_map,List.getElem?_eq_getElem hj];rfl]
 exact this
theorem ZcF (hr:Zc h=true) {o:HOrd} (ho:o∈h.ords):o.txs.Perm (Zt h.txs o.key):=by
 obtain⟨j,hj,rfl⟩:=List.mem_iff_getElem.1 ho
 have:=((ZjT hj).1 (Zf1 hr hj)).2.2
 rw[ZjM,beq_iff_eq]at this
 exact(Zaz _).symm.trans (this▸Zaz _)
theorem Zd7 (hr:Zc h=true):(h.txs.map (·.id)).Nodup:=Zda (Zdb hr)
theorem Zg0 (hr:Zc h=true) {o:HOrd} (ho:o∈h.ords):o.txs.Nodup:=by
 refine(ZcF hr ho).nodup_iff.2 ?_
 unfold Zt
 exact(Zd7 hr).sublist (List.filter_sublist.map _)
theorem Zcb (hr:Zc h=true) {o:HOrd} (ho:o∈h.ords) {x:Int} (hx:x∈o.txs):∃t,ZT h.txs x=some t∧1≤x:=by
 have h1:=(ZcF hr ho).mem_iff.1 hx
 unfold Zt at h1
 obtain⟨t,ht,rfl⟩:=List.mem_map.1 h1
 rw[List.mem_filter,Bool.and_eq_true]at ht
 refine⟨t,?_,ZjI hr ht.1⟩
 unfold ZT
 rw[Zg2 hr ht.1]
 simp[ht.2.1]
theorem Ze7 (hr:Zc h=true) {o u:HOrd} (ho:o∈h.ords) (hu:u∈h.ords) (hk:o.key=u.key):o=u:=by
 obtain⟨i,hi,rfl⟩:=List.mem_iff_getElem.1 ho
 obtain⟨j,hj,rfl⟩:=List.mem_iff_getElem.1 hu
 have hp:=List.pairwise_iff_getElem.1 (Ze8 hr)
 rcases Nat.lt_trichotomy i j with h1|h1|h1
 ·have:=hp i j (by simpa using hi) (by simpa using hj) h1
  simp only[List.getElem_map]at this
  omega
 ·subst h1;rfl
 ·have:=hp j i (by simpa using hj) (by simpa using hi) h1
  simp only[List.getElem_map]at this
  omega
theorem ZdS {l:List Int} (hn:l.Nodup) {i j:Nat} {x:Int} (h1:l[i]? =some x) (h2:l[j]? =some x):i=j:=by
 obtain⟨hi,e1⟩:=List.getElem?_eq_some_iff.1 h1
 obtain⟨hj,e2⟩:=List.getElem?_eq_some_iff.1 h2
 exact(List.getElem_inj hn).1 (e1.trans e2.symm)
theorem Zcd (hr:Zc h=true) {o:HOrd} (ho:o∈h.ords):(0::o.txs).Nodup:=by
 refine List.nodup_cons.2 ⟨fun hm=> ?_,Zg0 hr ho⟩
 obtain⟨_,_,h1⟩:=Zcb hr ho hm
 omega
theorem Nx.one (hr:Zc h=true) {key x y z:Int} (h1:Nx h.ords key x y) (h2:Nx h.ords key x z):y=z:=by
 obtain⟨o,ho,hk,i,hi,hy⟩:=h1
 obtain⟨u,hu,hk2,j,hj,hz⟩:=h2
 obtain rfl:=Ze7 hr ho hu (hk.trans hk2.symm)
 obtain rfl:=ZdS (Zcd hr ho) hi hj
 rw[hy]at hz
 exact Option.some.inj hz
theorem Nx.ids (hr:Zc h=true) {key x y:Int} (h1:Nx h.ords key x y):(∃t,ZT h.txs y=some t)∧1≤y∧x≠y∧(x=0∨∃t,ZT h.txs x=some t):=by
 obtain⟨o,ho,hk,i,hi,hy⟩:=h1
 obtain⟨t,ht,h2⟩:=Zcb hr ho (List.mem_of_getElem? hy)
 refine⟨⟨t,ht⟩,h2,fun e=> ?_,?_⟩
 ·subst e
  have h3:(0::o.txs)[i+1]? =some x:=hy
  have:=ZdS (Zcd hr ho) hi h3
  omega
 ·cases i with
  |zero=>left;simpa using hi.symm
  |succ i=>
   right
   obtain⟨t2,ht2,_⟩:=Zcb hr ho (List.mem_of_getElem? (show o.txs[i]? =some x from hi))
   exact⟨t2,ht2⟩
theorem Zld (hr:Zc h=true) (key x:Int):(Z0 (Zz h.ords) (key,x)=0∧∀y,¬Nx h.ords key x y)∨Nx h.ords key x (Z0 (Zz h.ords) (key,x)):=by
 by_cases hx:∃y,Nx h.ords key x y
 ·obtain⟨y,hy⟩:=hx
  right
  have:Z0 (Zz h.ords) (key,x)=y:=by
   unfold Z0
   refine ZiL (key,x) y _ 0 (fun e he hp=> ?_) (Or.inr ⟨((key,x),y),(Zfj _ _ _ _).2 hy,rfl⟩)
   obtain⟨p,v⟩:=e
   simp only at hp
   subst hp
   exact Nx.one hr ((Zfj _ _ _ _).1 he) hy
  rw[this];exact hy
 ·left
  refine⟨?_,fun y hy=>hx ⟨y,hy⟩⟩
  unfold Z0
  refine Zhn (key,x) _ 0 fun e he hp=>hx ⟨e.2,?_⟩
  obtain⟨p,v⟩:=e
  simp only at hp
  subst hp
  exact(Zfj _ _ _ _).1 he
theorem Zj9 (hr:Zc h=true) (key x y:Int) (hy:y≠0):Z0 (Zz h.ords) (key,x)=y↔Nx h.ords key x y:=by
 rcases Zld hr key x with ⟨h1,h2⟩|h1
 ·rw[h1]
  exact⟨fun e=>absurd e.symm hy,fun e=>absurd e (h2 y)⟩
 ·constructor
  ·intro e;rw[←e];exact h1
  ·intro e;exact Nx.one hr h1 e
theorem ZjR (hr:Zc h=true) {o:HOrd} (ho:o∈h.ords):Zek h.ords o.key=o.txs:=by
 obtain⟨k,hk,rfl⟩:=List.mem_iff_getElem.1 ho
 have hp:=List.pairwise_iff_getElem.1 (Ze8 hr)
 have:ZhV h.ords h.ords[k].key=k:=Zow hk (fun j hj=>by
  have:=hp j k (by simp;omega) (by simpa using hk) hj
  simp only[List.getElem_map]at this
  rw[beq_eq_false_iff_ne];omega) (by simp)
 unfold Zek
 rw[this,List.getElem?_eq_getElem hk]
theorem ZjS {key:Int} (hn:∀o∈h.ords,o.key≠key):Zek h.ords key=[]:=by
 have:ZhV h.ords key=h.ords.length:=by
  unfold ZhV
  rw[List.findIdx_eq_length]
  intro o ho
  simpa using hn o ho
 unfold Zek
 rw[this,List.getElem?_eq_none (Nat.le_refl _)]
theorem Zna {l:List Int} (hn:(0::l).Nodup) (x y:Int):Zjd l x=some y↔∃i:Nat,(0::l)[i]? =some x∧l[i]? =some y:=by
 unfold Zjd
 by_cases h0:x=0
 ·subst h0
  rw[if_pos rfl]
  constructor
  ·intro h;exact⟨0,rfl,h⟩
  ·rintro⟨i,h1,h2⟩
   obtain rfl:=ZdS hn h1 (show(0::l)[0]? =some 0 from rfl)
   exact h2
 ·rw[if_neg h0]
  by_cases hm:x∈l
  ·obtain⟨k,hk,hx⟩:=List.mem_iff_getElem.1 hm
   have hpos:Zo l x<l.length:=by
    unfold Zo
    rw[List.findIdx_lt_length]
    exact⟨x,hm,by simp⟩
   have hget:l[Zo l x]? =some x:=by
    have:=List.findIdx_getElem (p:=(·==x)) (xs:=l) (w:=hpos)
    rw[beq_iff_eq]at this
    rw[List.getElem?_eq_getElem hpos]
    exact congrArg some this
   rw[if_pos hpos]
   constructor
   ·intro h;exact⟨Zo l x+1,hget,h⟩
   ·rintro⟨i,h1,h2⟩
    have:=ZdS hn h1 (show(0::l)[Zo l x+1]? =some x from hget)
    rw[←this];exact h2
  ·have hpos:¬Zo l x<l.length:=by
    unfold Zo
    rw[List.findIdx_lt_length]
    rintro⟨z,hz,e⟩
    simp at e
    subst e
    exact hm hz
   rw[if_neg hpos]
   constructor
   ·intro h;cases h
   ·rintro⟨i,h1,h2⟩
    cases i with
    |zero=>exact absurd (by simpa using h1.symm) h0
    |succ i=>exact absurd (List.mem_of_getElem? (show l[i]? =some x from h1)) hm
theorem Zc0 (hr:Zc h=true) (key x y:Int):ZeK h.ords key x y=true↔Nx h.ords key x y:=by
 unfold ZeK
 rw[beq_iff_eq]
 by_cases hk:∃o∈h.ords,o.key=key
 ·obtain⟨o,ho,rfl⟩:=hk
  rw[ZjR hr ho,Zna (Zcd hr ho)]
  constructor
  ·intro h1;exact⟨o,ho,rfl,h1⟩
  ·rintro⟨u,hu,hk,h1⟩
   obtain rfl:=Ze7 hr hu ho hk
   exact h1
 ·rw[ZjS (fun o ho e=>hk ⟨o,ho,e⟩)]
  constructor
  ·intro h1
   unfold Zjd Zo at h1
   simp at h1
  ·rintro⟨u,hu,hk2,_⟩
   exact absurd ⟨u,hu,hk2⟩ hk
end
end Go.Proofs.YtklmahmfmbppkaaGreat
/- Edges of a history,in plain words:each is counted as often as the document counts it. -/
namespace Go.Proofs.YtklmahmfmbppkaaGreat
set_option linter.unusedSimpArgs false
set_option linter.unusedVariables false
open Go.RowKit
section
variable {β:Type} [DecidableEq β]
theorem ZfA (f:HTx→List β) (a:β):∀ts:List HTx,(∀u∈ts,Zr (f u) a=0)→Zr (ts.flatMap f) a=0
 |[],_=>rfl
 |u::ts,h=>by
  rw[List.flatMap_cons,ZaB,h u (List.mem_cons_self ..),ZfA f a ts fun x hx=>h x (List.mem_cons_of_mem _ hx)]
theorem ZfB (f:HTx→List β) (a:β):∀ts:List HTx,(ts.map (·.id)).Nodup→∀t∈ts,(∀u∈ts,u.id≠t.id→Zr (f u) a=0)→Zr (ts.flatMap f) a=Zr (f t) a
 |[],_,_,ht,_=>by cases ht
 |u::ts,hn,t,ht,h=>by
  rw[List.map_cons,List.nodup_cons]at hn
  rw[List.flatMap_cons,ZaB]
  rcases List.mem_cons.1 ht with rfl|ht
  ·rw[ZfA f a ts fun x hx=>h x (List.mem_cons_of_mem _ hx) fun e=>hn.1 (e▸List.mem_map.2 ⟨x,hx,rfl⟩)]
   rfl
  ·rw[h u (List.mem_cons_self ..) fun e=>hn.1 (e▸List.mem_map.2 ⟨t,ht,rfl⟩),ZfB f a ts hn.2 t ht fun x hx=>h x (List.mem_cons_of_mem _ hx)]
   omega
end
theorem Zi3 (id key:Int):∀l:List HOp,Zr (Za9 id l) (id,key)=(l.filter (isW key)).length
 |[]=>rfl
 |o::l=>by
  have ih:=Zi3 id key l
  unfold Za9 at ih ⊢
  by_cases h:isW key o=true
  ·have h2:(!o.read)=true∧o.key=key:=by unfold isW at h;simpa using h
   rw[List.filter_cons_of_pos (p:=fun o:HOp=> !o.read) h2.1,List.filter_cons_of_pos h,List.map_cons,List.length_cons,←ih]
   have:=ZaB [(id,o.key)] ((l.filter fun o=> !o.read).map fun o=>(id,o.key)) (id,key)
   rw[List.singleton_append]at this
   rw[this,ZdG,if_pos (by rw[h2.2])];omega
  ·rw[List.filter_cons_of_neg h,←ih]
   by_cases hr:(!o.read)=true
   ·rw[List.filter_cons_of_pos (p:=fun o:HOp=> !o.read) hr,List.map_cons]
    have:=ZaB [(id,o.key)] ((l.filter fun o=> !o.read).map fun o=>(id,o.key)) (id,key)
    rw[List.singleton_append]at this
    rw[this,ZdG,if_neg (fun e=>h (by unfold isW;rw[hr];simp[(Prod.mk.inj e).2]))];omega
   ·rw[List.filter_cons_of_neg (p:=fun o:HOp=> !o.read) hr]
theorem Zks (id i key:Int) (hne:id≠i) (l:List HOp):Zr (Za9 id l) (i,key)=0:=by
 unfold Zr Za9
 rw[List.length_eq_zero_iff,List.filter_eq_nil_iff]
 intro x hx
 obtain⟨o,_,rfl⟩:=List.mem_map.1 hx
 simp[hne]
section
variable {h:Hist}
theorem ZdF (hr:Zc h=true) (i:Int):i∈ZI h.txs↔∃t,ZT h.txs i=some t:=by
 unfold ZI
 rw[List.mem_map]
 constructor
 ·rintro⟨t,ht,rfl⟩
  rw[List.mem_filter]at ht
  refine⟨t,?_⟩
  unfold ZT
  rw[Zg2 hr ht.1]
  simp[ht.2]
 ·rintro⟨t,ht⟩
  have h1:=ZcC ht
  have h2:=Zep h1.1
  exact⟨t,List.mem_filter.2 ⟨h2.1,h1.2⟩,h2.2⟩
theorem Zfw {i:Int} {t:HTx} (ht:ZT h.txs i=some t):t∈h.txs.filter (·.done)∧t.id=i:=by
 have h1:=ZcC ht
 have h2:=Zep h1.1
 exact⟨List.mem_filter.2 ⟨h2.1,h1.2⟩,h2.2⟩
theorem ZhD (hr:Zc h=true):((h.txs.filter (·.done)).map (·.id)).Nodup:=(Zd7 hr).sublist (List.filter_sublist.map _)
theorem Zew (hr:Zc h=true) {i:Int} {t:HTx} (ht:ZT h.txs i=some t) (key:Int):Zr (Zh h.txs) (i,key)=Zaa t.ops key:=by
 obtain⟨h1,rfl⟩:=Zfw ht
 unfold Zh
 rw[ZfB (fun t=>Za9 t.id t.ops) (t.id,key) _ (ZhD hr) t h1 (fun u _ hne=>Zks _ _ _ hne _),Zi3]
 unfold Zaa wrN
 rw[List.take_length]
def Zen (h:Hist) (o:HOp):Prop:=o.tx=0∨(o.tx∈ZI h.txs∧(Zr (Zh h.txs) (o.tx,o.key):Int)=o.nth)
instance (o:HOp):Decidable (Zen h o):=inferInstanceAs (Decidable (_∨_))
theorem Zho (hr:Zc h=true) (o:HOp):Zen h o↔Zhq h.txs ⟨o.tx,o.key,o.nth⟩=true:=by
 unfold Zen Zhq
 by_cases h0:o.tx=0
 ·simp[h0]
 ·rw[if_neg h0,ZdF hr]
  cases hd:ZT h.txs o.tx with
  |none=>simp[h0]
  |some t=>
   have:=Zew hr hd o.key
   rw[this]
   simp[h0]
   exact eq_comm
theorem ZmY (ti:Int) (o:HOp) (e:Edge):Zr (ZL (ZI h.txs) (Zh h.txs) (Zz h.ords) ti o) e=
  (if (o.tx≠ti∧Zen h o)∧o.tx≠0∧e=⟨o.tx,ti,2,o.key⟩ then 1 else 0)+if (o.tx≠ti∧Zen h o)∧(Z0 (Zz h.ords) (o.key,o.tx)≠0∧Z0 (Zz h.ords) (o.key,o.tx)≠ti)∧e=⟨ti,Z0 (Zz h.ords) (o.key,o.tx),3,o.key⟩ then 1 else 0:=by
 unfold ZL Zen
 by_cases h1:o.tx=ti
 ·rw[if_pos h1,if_neg (fun h=>h.1.1 h1),if_neg (fun h=>h.1.1 h1),ZbP]
 ·rw[if_neg h1]
  by_cases h2:o.tx≠0∧o.tx∉ZI h.txs
  ·rw[if_pos h2,ZbP,if_neg,if_neg]
   ·rintro⟨⟨_,h3|h3⟩,_⟩
    ·exact h2.1 h3
    ·exact h2.2 h3.1
   ·rintro⟨⟨_,h3|h3⟩,_⟩
    ·exact h2.1 h3
    ·exact h2.2 h3.1
  ·rw[if_neg h2]
   by_cases h3:o.tx≠0∧(Zr (Zh h.txs) (o.tx,o.key):Int)≠o.nth
   ·rw[if_pos h3,ZbP,if_neg,if_neg]
    ·rintro⟨⟨_,h4|h4⟩,_⟩
     ·exact h3.1 h4
     ·exact h3.2 h4.2
    ·rintro⟨⟨_,h4|h4⟩,_⟩
     ·exact h3.1 h4
     ·exact h3.2 h4.2
   ·rw[if_neg h3,ZaB]
    have hL:o.tx=0∨(o.tx∈ZI h.txs∧(Zr (Zh h.txs) (o.tx,o.key):Int)=o.nth):=by
     by_cases h0:o.tx=0
     ·exact Or.inl h0
     ·exact Or.inr ⟨Classical.byContradiction fun hh=>h2 ⟨h0,hh⟩,Classical.byContradiction fun hh=>h3 ⟨h0,hh⟩⟩
    congr 1
    ·by_cases h0:o.tx≠0
     ·rw[if_pos h0,ZdG]
      by_cases he:e=⟨o.tx,ti,2,o.key⟩
      ·rw[if_pos he,if_pos ⟨⟨h1,hL⟩,h0,he⟩]
      ·rw[if_neg he,if_neg (fun hh=>he hh.2.2)]
     ·rw[if_neg h0,ZbP,if_neg (fun hh=>h0 hh.2.1)]
    ·by_cases h0:Z0 (Zz h.ords) (o.key,o.tx)≠0∧Z0 (Zz h.ords) (o.key,o.tx)≠ti
     ·rw[if_pos h0,ZdG]
      by_cases he:e=⟨ti,Z0 (Zz h.ords) (o.key,o.tx),3,o.key⟩
      ·rw[if_pos he,if_pos ⟨⟨h1,hL⟩,h0,he⟩]
      ·rw[if_neg he,if_neg (fun hh=>he hh.2.2)]
     ·rw[if_neg h0,ZbP,if_neg (fun hh=>h0 hh.2.1)]
theorem ZgG (f:HOp→List Edge) (e:Edge) (p q:HOp→Bool):∀l:List HOp,(∀o∈l,(if q o=true then Zr (f o) e else 0)=if p o=true then 1 else 0)→Zr ((l.filter q).flatMap f) e=l.countP p
 |[],_=>rfl
 |o::l,hh=>by
  have ih:=ZgG f e p q l fun x hx=>hh x (List.mem_cons_of_mem _ hx)
  have h1:=hh o (List.mem_cons_self ..)
  rw[List.countP_cons]
  by_cases hq:q o=true
  ·rw[List.filter_cons_of_pos hq,List.flatMap_cons,ZaB,ih]
   rw[if_pos hq]at h1
   omega
  ·rw[List.filter_cons_of_neg hq,ih]
   rw[if_neg hq]at h1
   omega
theorem ZfC (f:HOp→List Edge) (e:Edge) (q:HOp→Bool) (l:List HOp) (hh:∀o∈l,q o=true→Zr (f o) e=0):Zr ((l.filter q).flatMap f) e=0:=by
 rw[ZgG f e (fun _=>false) q l (fun o ho=>by
  by_cases hq:q o=true
  ·rw[if_pos hq,hh o ho hq];rfl
  ·rw[if_neg hq];rfl)]
 simp
theorem ZbN (cnt:Int→Bool) (LD:List Int) (LW:List (Int×Int)) (LN:List ((Int×Int)×Int)) (e:Edge) (hh:∀u∈h.txs.filter (·.done),∀o∈u.ops,Zr (ZL LD LW LN u.id o) e=0):Zr (rdL cnt LD LW LN h.txs) e=0:=by
 unfold rdL
 exact ZfA _ _ _ fun u hu=>ZfC _ _ _ _ fun o ho _=>hh u hu o ho
theorem ZfL (hr:Zc h=true) (cnt:Int→Bool) (LD:List Int) (LW:List (Int×Int)) (LN:List ((Int×Int)×Int)) (e:Edge) {t:HTx} (ht:t∈h.txs.filter (·.done)) (hh:∀u∈h.txs.filter (·.done),u.id≠t.id→∀o∈u.ops,Zr (ZL LD LW LN u.id o) e=0)
  (p:HOp→Bool) (hp:∀o∈t.ops,(if (o.read&&cnt o.key)=true then Zr (ZL LD LW LN t.id o) e else 0)=if p o=true then 1 else 0):Zr (rdL cnt LD LW LN h.txs) e=t.ops.countP p:=by
 unfold rdL
 rw[ZfB (fun t=>rdO cnt LD LW LN t.id t.ops) e _ (ZhD hr) t ht (fun u hu hne=>ZfC _ _ _ _ fun o ho _=>hh u hu hne o ho)]
 exact ZgG _ _ _ _ _ hp
theorem Zdf (cnt:Int→Bool) (e:Edge) (hr:Zc h=true):e∈wwL cnt h.ords↔e.k=1∧cnt e.key=true∧e.f≠0∧Nx h.ords e.key e.f e.t:=by
 rw[Zqi]
 constructor
 ·rintro⟨h1,h2,o,ho,hk,i,h3,h4⟩
  refine⟨h1,h2,fun e0=> ?_,o,ho,hk,i+1,h3,h4⟩
  obtain⟨_,_,h5⟩:=Zcb hr ho (List.mem_of_getElem? h3)
  omega
 ·rintro⟨h1,h2,h0,o,ho,hk,i,h3,h4⟩
  refine⟨h1,h2,o,ho,hk,?_⟩
  cases i with
  |zero=>exact absurd (by simpa using h3.symm) h0
  |succ i=>exact⟨i,h3,h4⟩
theorem Zfs (hr:Zc h=true) {t:HTx} (ht:ZT h.txs 0=some t):False:=by
 have h1:=Zep (ZcC ht).1
 have:=ZjI hr h1.1
 omega
theorem Zlp (hr:Zc h=true) (cnt:Int→Bool) (e:Edge):Zl2 cnt h.txs h.ords e=if cnt e.key=true then Zax h e else 0:=by
 obtain⟨ef,et,ek,ey⟩:=e
 unfold Zl2
 have hro:=ZmY (h:=h)
 by_cases k1:ek=1
 ·subst k1
  rw[ZbN (h:=h) cnt _ _ _ _ (fun u _ o _=>by rw[hro,if_neg (fun hh=>by have:=congrArg Edge.k hh.2.2;simp at this),if_neg (fun hh=>by have:=congrArg Edge.k hh.2.2;simp at this)])]
  unfold ZaU
  rw[Nat.add_zero]
  by_cases hc:cnt ey=true
  ·rw[if_pos hc]
   by_cases hm:(⟨ef,et,1,ey⟩:Edge)∈wwL cnt h.ords
   ·rw[if_pos hm]
    obtain⟨_,_,h0,hx⟩:=(Zdf cnt _ hr).1 hm
    simp only at h0 hx
    obtain⟨⟨t,ht⟩,h2,h3,h4⟩:=Nx.ids hr hx
    obtain⟨a,ha⟩:=h4.resolve_left h0
    unfold Zax
    simp only[ha,ht,if_neg h3,if_true,(Zc0 hr ey ef et).2 hx]
   ·rw[if_neg hm]
    symm
    unfold Zax
    cases ha:ZT h.txs ef with
    |none=>rfl
    |some a=>
     cases hb:ZT h.txs et with
     |none=>rfl
     |some b=>
      simp only
      split
      ·rfl
      ·simp only[if_true]
       rw[if_neg]
       intro hn
       have hx:=(Zc0 hr ey ef et).1 hn
       refine hm ((Zdf cnt _ hr).2 ⟨rfl,hc,fun e0=> ?_,hx⟩)
       simp only at e0
       subst e0
       exact Zfs hr ha
  ·rw[if_neg hc,if_neg (fun hm=>hc ((Zdf cnt _ hr).1 hm).2.1)]
 ·have hw:ZaU (wwL cnt h.ords) ⟨ef,et,ek,ey⟩=0:=by
   unfold ZaU
   rw[if_neg (fun hm=>k1 ((Zdf cnt _ hr).1 hm).1)]
  rw[hw,Nat.zero_add]
  by_cases k2:ek=2
  ·subst k2
   have hz:∀u∈h.txs.filter (·.done),u.id≠et→∀o∈u.ops,Zr (ZL (ZI h.txs) (Zh h.txs) (Zz h.ords) u.id o) (⟨ef,et,2,ey⟩:Edge)=0:=fun u _ hne o _=>by
    rw[hro,if_neg (fun hh=>hne (congrArg Edge.t hh.2.2).symm),if_neg (fun hh=>by have:=congrArg Edge.k hh.2.2;simp at this)]
   cases hb:ZT h.txs et with
   |none=>
    rw[ZbN (h:=h) cnt _ _ _ _ (fun u hu o ho=>hz u hu (fun e=>by
     have:=(ZdF hr et).1 (by unfold ZI;exact List.mem_map.2 ⟨u,hu,e⟩)
     rw[hb]at this
     obtain⟨_,h9⟩:=this
     cases h9) o ho)]
    unfold Zax
    simp only[hb]
    cases ZT h.txs ef<;>simp
   |some b=>
    obtain⟨hbm,hbi⟩:=Zfw hb
    have hz2:∀u∈h.txs.filter (·.done),u.id≠b.id→∀o∈u.ops,Zr (ZL (ZI h.txs) (Zh h.txs) (Zz h.ords) u.id o) (⟨ef,et,2,ey⟩:Edge)=0:=fun u hu hne=>hz u hu (by rw[←hbi];exact hne)
    cases ha:ZT h.txs ef with
    |none=>
     rw[ZbN (h:=h) cnt _ _ _ _ (fun u hu o ho=>by
      rw[hro,if_neg (c:=_∧o.tx≠0∧_),if_neg (fun hh=>by have:=congrArg Edge.k hh.2.2;simp at this)]
      rintro⟨⟨_,h3⟩,h4,h5⟩
      rcases h3 with h3|h3
      ·exact h4 h3
      ·obtain⟨_,h6⟩:=(ZdF hr _).1 h3.1
       have e1:=congrArg Edge.f h5
       simp only at e1
       rw[←e1,ha]at h6
       cases h6)]
     unfold Zax
     simp[ha]
    |some a=>
     by_cases hft:ef=et
     ·rw[ZbN (h:=h) cnt _ _ _ _ (fun u hu o ho=>by
       rw[hro,if_neg (c:=_∧o.tx≠0∧_),if_neg (fun hh=>by have:=congrArg Edge.k hh.2.2;simp at this)]
       rintro⟨⟨h3,_⟩,h4,h5⟩
       have e1:=congrArg Edge.f h5
       have e2:=congrArg Edge.t h5
       simp only at e1 e2
       exact h3 (by rw[←e1,←e2,hft]))]
      unfold Zax
      simp[hb,hft]
     ·by_cases hc:cnt ey=true
      ·rw[if_pos hc,ZfL (h:=h) hr cnt _ _ _ _ hbm hz2 (p2 ef ey (Zaa a.ops ey)) (fun o ho=> ?_)]
       ·unfold Zax
        simp only[ha,hb,if_neg hft]
        rfl
       ·rw[hro,if_neg (c:=_∧(_∧_)∧_) (fun hh=>by have:=congrArg Edge.k hh.2.2;simp at this),Nat.add_zero]
        by_cases hp:p2 ef ey (Zaa a.ops ey) o=true
        ·rw[if_pos hp]
         unfold p2 at hp
         simp only[Bool.and_eq_true,beq_iff_eq]at hp
         obtain⟨⟨⟨q1,q2⟩,q3⟩,q4⟩:=hp
         rw[if_pos (by rw[q1,q2,hc];rfl),if_pos]
         refine⟨⟨by rw[q3,hbi];exact hft,Or.inr ⟨by rw[q3];exact(ZdF hr _).2 ⟨a,ha⟩,?_⟩⟩,fun e0=> ?_,by rw[q3,q2,hbi]⟩
         ·rw[q3,q2,Zew hr ha];exact q4.symm
         ·rw[q3]at e0
          subst e0
          exact Zfs hr ha
        ·rw[if_neg hp]
         split
         ·rename_i hrd
          rw[if_neg]
          rintro⟨⟨h3,h4⟩,h5,h6⟩
          have e1:=congrArg Edge.f h6
          have e2:=congrArg Edge.key h6
          simp only at e1 e2
          apply hp
          unfold p2
          rcases h4 with h4|⟨h4,h7⟩
          ·exact absurd h4 h5
          ·rw[←e1,←e2,Zew hr ha]at h7
           rw[Bool.and_eq_true]at hrd
           simp[hrd.1,←e1,←e2,h7]
         ·rfl
      ·rw[if_neg hc,ZfL (h:=h) hr cnt _ _ _ _ hbm hz2 (fun _=>false) (fun o ho=>by
        by_cases hq:(o.read&&cnt o.key)=true
        ·rw[if_pos hq,hro,if_neg,if_neg (fun hh=>by have:=congrArg Edge.k hh.2.2;simp at this)]
         ·rfl
         ·rintro⟨_,_,h6⟩
          have e2:=congrArg Edge.key h6
          simp only at e2
          rw[Bool.and_eq_true,←e2]at hq
          exact hc hq.2
        ·rw[if_neg hq];rfl)]
       simp
  ·by_cases k3:ek=3
   ·subst k3
    have hz:∀u∈h.txs.filter (·.done),u.id≠ef→∀o∈u.ops,Zr (ZL (ZI h.txs) (Zh h.txs) (Zz h.ords) u.id o) (⟨ef,et,3,ey⟩:Edge)=0:=fun u _ hne o _=>by
     rw[hro,if_neg (c:=_∧o.tx≠0∧_) (fun hh=>by have:=congrArg Edge.k hh.2.2;simp at this),if_neg (fun hh=>hne (congrArg Edge.f hh.2.2).symm)]
    cases ha:ZT h.txs ef with
    |none=>
     rw[ZbN (h:=h) cnt _ _ _ _ (fun u hu o ho=>hz u hu (fun e=>by
      have:=(ZdF hr ef).1 (by unfold ZI;exact List.mem_map.2 ⟨u,hu,e⟩)
      rw[ha]at this
      obtain⟨_,h9⟩:=this
      cases h9) o ho)]
     unfold Zax
     simp[ha]
    |some a=>
     obtain⟨ham,hai⟩:=Zfw ha
     have hz2:∀u∈h.txs.filter (·.done),u.id≠a.id→∀o∈u.ops,Zr (ZL (ZI h.txs) (Zh h.txs) (Zz h.ords) u.id o) (⟨ef,et,3,ey⟩:Edge)=0:=fun u hu hne=>hz u hu (by rw[←hai];exact hne)
     cases hb:ZT h.txs et with
     |none=>
      rw[ZbN (h:=h) cnt _ _ _ _ (fun u hu o ho=>by
       rw[hro,if_neg (c:=_∧o.tx≠0∧_) (fun hh=>by have:=congrArg Edge.k hh.2.2;simp at this),if_neg]
       rintro⟨_,⟨h3,h4⟩,h5⟩
       have e1:=congrArg Edge.t h5
       simp only at e1
       rcases Zld hr o.key o.tx with h6|h6
       ·exact h3 h6.1
       ·obtain⟨⟨_,h7⟩,_⟩:=Nx.ids hr h6
        rw[←e1,hb]at h7
        cases h7)]
      unfold Zax
      simp[ha,hb]
     |some b=>
      by_cases hft:ef=et
      ·rw[ZbN (h:=h) cnt _ _ _ _ (fun u hu o ho=>by
        rw[hro,if_neg (c:=_∧o.tx≠0∧_) (fun hh=>by have:=congrArg Edge.k hh.2.2;simp at this),if_neg]
        rintro⟨_,⟨h3,h4⟩,h5⟩
        have e1:=congrArg Edge.t h5
        have e2:=congrArg Edge.f h5
        simp only at e1 e2
        exact h4 (by rw[←e1,←e2,hft]))]
       unfold Zax
       simp[hb,hft]
      ·by_cases hc:cnt ey=true
       ·rw[if_pos hc,ZfL (h:=h) hr cnt _ _ _ _ ham hz2 (p3 h a.id ey et) (fun o ho=> ?_)]
        ·unfold Zax
         simp only[ha,hb,if_neg hft]
         rfl
        ·rw[hro,if_neg (c:=_∧o.tx≠0∧_) (fun hh=>by have:=congrArg Edge.k hh.2.2;simp at this),Nat.zero_add]
         have het:et≠0:=fun e0=>by subst e0;exact Zfs hr hb
         by_cases hp:p3 h a.id ey et o=true
         ·rw[if_pos hp]
          unfold p3 at hp
          simp only[Bool.and_eq_true,beq_iff_eq,Bool.not_eq_true',beq_eq_false_iff_ne]at hp
          obtain⟨⟨⟨⟨q1,q2⟩,q3⟩,q4⟩,q5⟩:=hp
          have hl:=(Zj9 hr ey o.tx et het).2 ((Zc0 hr _ _ _).1 q5)
          rw[if_pos (by rw[q1,q2,hc];rfl),if_pos]
          refine⟨⟨q3,(Zho hr o).2 q4⟩,⟨by rw[q2,hl];exact het,by rw[q2,hl,hai];exact fun e=>hft e.symm⟩,by rw[q2,hl,hai]⟩
         ·rw[if_neg hp]
          split
          ·rename_i hrd
           rw[if_neg]
           rintro⟨⟨h3,h4⟩,⟨h5,h6⟩,h7⟩
           have e1:=congrArg Edge.t h7
           have e2:=congrArg Edge.key h7
           simp only at e1 e2
           apply hp
           unfold p3
           rw[Bool.and_eq_true]at hrd
           have h8:=(Zho hr o).1 h4
           have h9:ZeK h.ords ey o.tx et=true:=(Zc0 hr _ _ _).2 ((Zj9 hr ey o.tx et het).1 (by rw[e2];exact e1.symm))
           simp[hrd.1,←e2,h3,h9]
           rw[e2];exact h8
          ·rfl
       ·rw[if_neg hc,ZfL (h:=h) hr cnt _ _ _ _ ham hz2 (fun _=>false) (fun o ho=>by
         by_cases hq:(o.read&&cnt o.key)=true
         ·rw[if_pos hq,hro,if_neg (c:=_∧o.tx≠0∧_) (fun hh=>by have:=congrArg Edge.k hh.2.2;simp at this),if_neg]
          ·rfl
          ·rintro⟨_,_,h6⟩
           have e2:=congrArg Edge.key h6
           simp only at e2
           rw[Bool.and_eq_true,←e2]at hq
           exact hc hq.2
         ·rw[if_neg hq];rfl)]
        simp
   ·rw[ZbN (h:=h) cnt _ _ _ _ (fun u _ o _=>by rw[hro,if_neg (fun hh=>k2 (congrArg Edge.k hh.2.2)),if_neg (fun hh=>k3 (congrArg Edge.k hh.2.2))])]
    unfold Zax
    cases ZT h.txs ef<;>cases ZT h.txs et<;>simp[k1,k2,k3]
end
end Go.Proofs.YtklmahmfmbppkaaGreat
/- Edges of a history,the document's:all edges are walked. -/
namespace Go.Proofs.YtklmahmfmbppkaaGreat
set_option linter.unusedSimpArgs false
set_option linter.unusedVariables false
open Go.RowKit
theorem ZkX:∀(txs:List HTx),(∀t∈txs,t.ops.length≤24)→(txK txs).length≤24*txs.length
 |[],_=>by simp[txK]
 |x::l,h=>by
  have h1:=ZkX l fun t ht=>h t (List.mem_cons_of_mem _ ht)
  have h2:=h x (List.mem_cons_self ..)
  unfold txK at h1 ⊢
  rw[List.flatMap_cons,List.length_append,List.length_cons]
  unfold opK at h1 ⊢
  rw[List.length_map]
  omega
theorem Zpo (txs:List HTx) (h:∀t∈txs,t.ops.length≤24):(Zcj txs).length≤24*txs.length:=by
 have h1:=Zg3 (txK txs) []
 have h2:=ZkX txs h
 unfold Zcj
 simp at h1
 omega
end Go.Proofs.YtklmahmfmbppkaaGreat
/- Edges of a history,in plain words:the lists. -/
namespace Go.Proofs.YtklmahmfmbppkaaGreat
set_option linter.unusedSimpArgs false
set_option linter.unusedVariables false
open Go.RowKit
theorem ZhG {s:List Edge} (h:s.Pairwise fun a b=>ltE a b=true):∀k,k≤s.length→ddF s k=s.take k
 |0,_=>by simp[ddF]
 |k+1,hk=>by
  have ih:=ZhG h k (by omega)
  rw[Zic (by omega),ih,List.take_succ_eq_append_getElem (by omega)]
  cases k with
  |zero=>exact Or.inl rfl
  |succ k=>
   right
   rw[Nat.add_sub_cancel,List.getElem?_eq_getElem (by omega),List.getElem?_eq_getElem (by omega)]
   intro e
   have:=List.pairwise_iff_getElem.1 h k (k+1) (by omega) (by omega) (by omega)
   rw[Option.some.inj e,ZfO]at this
   cases this
theorem Zjx {s:List Edge} (h:s.Pairwise fun a b=>ltE a b=true):Za6 s=s:=by
 unfold Za6
 refine List.Perm.eq_of_pairwise (le:=fun a b=>(!ltOf ZaL b a)=true) (fun a b _ _ h1 h2=> ?_) (List.pairwise_mergeSort Zfm Zfn s) (h.imp fun {a b} hab=> ?_) (List.mergeSort_perm _ _)
 ·simp only[ZaN,Bool.not_eq_true']at h1 h2
  exact Zh1 h2 h1
 ·simp only[ZaN,Bool.not_eq_true']
  cases hba:ltE b a with
  |false=>rfl
  |true=>have:=ZiI hab hba;rw[ZfO]at this;cases this
theorem Zmj {s:List Edge} (h:s.Pairwise fun a b=>ltE a b=true):ddE s=s:=by
 unfold ddE
 rw[Zjx h,ZhG h _ (Nat.le_refl _),List.take_length]
theorem Zju {s:List Edge} (h:s.Pairwise fun a b=>ltE a b=true):s.Nodup:=h.imp fun {a b} hab e=>by subst e;rw[ZfO]at hab;cases hab
theorem Zr4 {g:Edge→Nat} {l:List Hvy} (h1:(l.map (·.e)).Pairwise fun a b=>ltE a b=true) (h2:∀e,e∈l.map (·.e)↔g e≠0) (h3:∀x∈l,x.n=(g x.e:Int)):Zmu g l:=fun mc hm=>by
 have hp:(mc.map (·.1)).Perm (l.map (·.e)):=(List.perm_ext_iff_of_nodup hm.nd (Zju h1)).2 fun a=>by rw[hm.mem,h2]
 rw[Zkr hp,Zmj h1]
 unfold hvL
 rw[List.map_map]
 conv=>rhs;rw[←List.map_id l]
 refine List.map_congr_left fun x hx=> ?_
 have:=h3 x hx
 obtain⟨e,n⟩:=x
 simp only at this
 simp[this]
theorem Zr1 {g:Edge→Nat} {l:List Edge} (h:∀e,g e≠0→e∈l) (hl:l.length≤1000000):Zo9 g:=fun mc hm=>by
 have h1:=hm.nd.length_le_of_subset (l₂:=l) fun a ha=>h a ((hm.mem a).1 ha)
 rw[List.length_map]at h1
 omega
section
variable {h:Hist}
theorem mem_hrB {a kind key:Int} {bs:List HTx} {x:Hvy}:x∈hrB h a kind key bs↔∃b∈bs,0<Zax h ⟨a,b.id,kind,key⟩∧x=⟨⟨a,b.id,kind,key⟩,(Zax h ⟨a,b.id,kind,key⟩:Int)⟩:=by
 unfold hrB
 rw[List.mem_flatMap]
 constructor
 ·rintro⟨b,hb,hx⟩
  split at hx
  ·rename_i hp;exact⟨b,hb,hp,by simpa using hx⟩
  ·cases hx
 ·rintro⟨b,hb,hp,rfl⟩
  exact⟨b,hb,by rw[if_pos hp];simp⟩
theorem mem_hrK {a kind:Int} {ks:List Int} {x:Hvy}:x∈hrK h a kind ks↔∃key∈ks,∃b∈h.txs,0<Zax h ⟨a,b.id,kind,key⟩∧x=⟨⟨a,b.id,kind,key⟩,(Zax h ⟨a,b.id,kind,key⟩:Int)⟩:=by
 unfold hrK
 rw[List.mem_flatMap]
 simp only[mem_hrB]
theorem Zo1 (a:Int):hrN h a 3=hrK h a 1 (Zcj h.txs)++hrK h a 2 (Zcj h.txs)++hrK h a 3 (Zcj h.txs):=rfl
theorem mem_hrA {ts:List HTx} {x:Hvy}:x∈hrA h ts↔∃t∈ts,∃kind,(kind=1∨kind=2∨kind=3)∧x∈hrK h t.id kind (Zcj h.txs):=by
 unfold hrA
 rw[List.mem_flatMap]
 simp only[Zo1,List.mem_append]
 constructor
 ·rintro⟨t,ht,(h1|h1)|h1⟩
  ·exact⟨t,ht,1,Or.inl rfl,h1⟩
  ·exact⟨t,ht,2,Or.inr (Or.inl rfl),h1⟩
  ·exact⟨t,ht,3,Or.inr (Or.inr rfl),h1⟩
 ·rintro⟨t,ht,kind,rfl|rfl|rfl,h1⟩
  ·exact⟨t,ht,Or.inl (Or.inl h1)⟩
  ·exact⟨t,ht,Or.inl (Or.inr h1)⟩
  ·exact⟨t,ht,Or.inr h1⟩
theorem Zhu {a kind key:Int}:∀{bs:List HTx},(bs.map (·.id)).Pairwise (·<·)→((hrB h a kind key bs).map (·.e)).Pairwise fun a b=>ltE a b=true
 |[],_=>List.Pairwise.nil
 |b::bs,hp=>by
  rw[List.map_cons,List.pairwise_cons]at hp
  have ih:=Zhu (a:=a) (kind:=kind) (key:=key) hp.2
  show((((if 0<Zax h ⟨a,b.id,kind,key⟩ then [_] else []):List Hvy)++hrB h a kind key bs).map (·.e)).Pairwise _
  rw[List.map_append]
  split
  ·refine List.pairwise_cons.2 ⟨fun y hy=> ?_,ih⟩
   obtain⟨x,hx,rfl⟩:=List.mem_map.1 hy
   obtain⟨u,hu,_,rfl⟩:=mem_hrB.1 hx
   have:=hp.1 u.id (List.mem_map.2 ⟨u,hu,rfl⟩)
   exact(Zbe _ _).2 (Or.inr ⟨rfl,Or.inr ⟨rfl,Or.inr ⟨rfl,this⟩⟩⟩)
  ·exact ih
theorem Zht (hr:(h.txs.map (·.id)).Pairwise (·<·)) {a kind:Int}:∀{ks:List Int},ks.Pairwise (·<·)→((hrK h a kind ks).map (·.e)).Pairwise fun a b=>ltE a b=true
 |[],_=>List.Pairwise.nil
 |k::ks,hp=>by
  rw[List.pairwise_cons]at hp
  have ih:=Zht hr (a:=a) (kind:=kind) hp.2
  show((hrB h a kind k h.txs++hrK h a kind ks).map (·.e)).Pairwise _
  rw[List.map_append,List.pairwise_append]
  refine⟨Zhu hr,ih,fun y hy z hz=> ?_⟩
  obtain⟨x,hx,rfl⟩:=List.mem_map.1 hy
  obtain⟨v,hv,rfl⟩:=List.mem_map.1 hz
  obtain⟨u,hu,_,rfl⟩:=mem_hrB.1 hx
  obtain⟨k2,hk2,u2,hu2,_,rfl⟩:=mem_hrK.1 hv
  have:=hp.1 k2 hk2
  exact(Zbe _ _).2 (Or.inr ⟨rfl,Or.inr ⟨rfl,Or.inl this⟩⟩)
theorem ZqL (txs:List HTx):(Zcj txs).Pairwise (·<·):=Zit _ _ List.Pairwise.nil
theorem Zhv (hr:(h.txs.map (·.id)).Pairwise (·<·)):∀{ts:List HTx},(ts.map (·.id)).Pairwise (·<·)→((hrA h ts).map (·.e)).Pairwise fun a b=>ltE a b=true
 |[],_=>List.Pairwise.nil
 |t::ts,hp=>by
  rw[List.map_cons,List.pairwise_cons]at hp
  have ih:=Zhv hr hp.2
  show((hrN h t.id 3++hrA h ts).map (·.e)).Pairwise _
  have hkk:=fun kind=>Zht hr (a:=t.id) (kind:=kind) (ZqL h.txs)
  rw[Zo1,List.map_append,List.map_append,List.map_append,List.pairwise_append,List.pairwise_append,List.pairwise_append]
  refine⟨⟨⟨hkk 1,hkk 2,fun y hy z hz=> ?_⟩,hkk 3,fun y hy z hz=> ?_⟩,ih,fun y hy z hz=> ?_⟩
  ·obtain⟨x,hx,rfl⟩:=List.mem_map.1 hy
   obtain⟨v,hv,rfl⟩:=List.mem_map.1 hz
   obtain⟨k2,_,u,_,_,rfl⟩:=mem_hrK.1 hx
   obtain⟨k3,_,u3,_,_,rfl⟩:=mem_hrK.1 hv
   exact(Zbe _ _).2 (Or.inr ⟨rfl,Or.inl (show(1:Int)<2 by decide)⟩)
  ·obtain⟨v,hv,rfl⟩:=List.mem_map.1 hz
   obtain⟨k3,_,u3,_,_,rfl⟩:=mem_hrK.1 hv
   rcases List.mem_append.1 hy with hy|hy
   ·obtain⟨x,hx,rfl⟩:=List.mem_map.1 hy
    obtain⟨k2,_,u,_,_,rfl⟩:=mem_hrK.1 hx
    exact(Zbe _ _).2 (Or.inr ⟨rfl,Or.inl (show(1:Int)<3 by decide)⟩)
   ·obtain⟨x,hx,rfl⟩:=List.mem_map.1 hy
    obtain⟨k2,_,u,_,_,rfl⟩:=mem_hrK.1 hx
    exact(Zbe _ _).2 (Or.inr ⟨rfl,Or.inl (show(2:Int)<3 by decide)⟩)
  ·obtain⟨v,hv,rfl⟩:=List.mem_map.1 hz
   obtain⟨t2,ht2,kind,_,hx2⟩:=mem_hrA.1 hv
   obtain⟨k3,_,u3,_,_,rfl⟩:=mem_hrK.1 hx2
   have:=hp.1 t2.id (List.mem_map.2 ⟨t2,ht2,rfl⟩)
   have hy2:y.f=t.id:=by
    rcases List.mem_append.1 hy with hy|hy
    ·rcases List.mem_append.1 hy with hy|hy
     ·obtain⟨x,hx,rfl⟩:=List.mem_map.1 hy
      obtain⟨k2,_,u,_,_,rfl⟩:=mem_hrK.1 hx
      rfl
     ·obtain⟨x,hx,rfl⟩:=List.mem_map.1 hy
      obtain⟨k2,_,u,_,_,rfl⟩:=mem_hrK.1 hx
      rfl
    ·obtain⟨x,hx,rfl⟩:=List.mem_map.1 hy
     obtain⟨k2,_,u,_,_,rfl⟩:=mem_hrK.1 hx
     rfl
   exact(Zbe _ _).2 (Or.inl (by rw[hy2];exact this))
theorem ZoP (txs:List HTx) (key:Int):key∈Zcj txs↔∃t∈txs,∃o∈t.ops,o.key=key:=by
 unfold Zcj txK opK
 rw[Zhk,List.mem_flatMap]
 simp only[List.mem_map,List.not_mem_nil,false_or]
theorem ZnO (hr:Zc h=true) {e:Edge} (hc:Zax h e≠0):(∃a∈h.txs,a.id=e.f)∧(∃b∈h.txs,b.id=e.t)∧(e.k=1∨e.k=2∨e.k=3)∧e.key∈Zcj h.txs:=by
 unfold Zax at hc
 cases ha:ZT h.txs e.f with
 |none=>rw[ha]at hc;exact absurd rfl hc
 |some a=>
  cases hb:ZT h.txs e.t with
  |none=>rw[ha,hb]at hc;exact absurd rfl hc
  |some b=>
   rw[ha,hb]at hc
   simp only at hc
   obtain⟨ha1,ha2⟩:=Zep (ZcC ha).1
   obtain⟨hb1,hb2⟩:=Zep (ZcC hb).1
   refine⟨⟨a,ha1,ha2⟩,⟨b,hb1,hb2⟩,?_⟩
   rw[ZoP]
   split at hc
   ·exact absurd rfl hc
   ·split at hc
    ·rename_i hk
     refine⟨Or.inl hk,?_⟩
     split at hc
     ·rename_i hn
      obtain⟨o,ho,hok,i,hi,hy⟩:=(Zc0 hr _ _ _).1 hn
      have hw:=(ZcF hr ho).mem_iff.1 (List.mem_of_getElem? hy)
      unfold Zt at hw
      obtain⟨t,ht,_⟩:=List.mem_map.1 hw
      rw[List.mem_filter,Bool.and_eq_true,List.contains_iff_mem]at ht
      have hk2:=ht.2.2
      unfold Zcc at hk2
      rw[Zdx]at hk2
      unfold Zbf at hk2
      obtain⟨op,hop,hopk⟩:=List.mem_map.1 hk2
      rw[List.mem_filter]at hop
      exact⟨t,ht.1,op,hop.1,hopk.trans hok⟩
     ·exact absurd rfl hc
    ·split at hc
     ·rename_i hk
      refine⟨Or.inr (Or.inl hk),?_⟩
      obtain⟨o,ho,hp⟩:=List.countP_pos_iff.1 (Nat.pos_of_ne_zero hc)
      unfold p2 at hp
      simp only[Bool.and_eq_true,beq_iff_eq]at hp
      exact⟨b,hb1,o,ho,hp.1.1.2⟩
     ·split at hc
      ·rename_i hk
       refine⟨Or.inr (Or.inr hk),?_⟩
       obtain⟨o,ho,hp⟩:=List.countP_pos_iff.1 (Nat.pos_of_ne_zero hc)
       unfold p3 at hp
       simp only[Bool.and_eq_true,beq_iff_eq]at hp
       exact⟨a,ha1,o,ho,hp.1.1.1.2⟩
      ·exact absurd rfl hc
theorem Zcx (hr:Zc h=true) {x:Hvy}:x∈Zau h↔Zax h x.e≠0∧x.n=(Zax h x.e:Int):=by
 unfold Zau
 rw[if_pos hr,mem_hrA]
 constructor
 ·rintro⟨t,_,kind,_,hx⟩
  obtain⟨key,_,b,_,h1,rfl⟩:=mem_hrK.1 hx
  exact⟨by simp only;omega,rfl⟩
 ·rintro⟨h1,h2⟩
  obtain⟨⟨a,ha,hae⟩,⟨b,hb,hbe⟩,hk,hkey⟩:=ZnO hr h1
  refine⟨a,ha,x.e.k,hk,mem_hrK.2 ⟨x.e.key,hkey,b,hb,?_⟩⟩
  obtain⟨⟨ef,et,ek,ey⟩,n⟩:=x
  simp only at*
  subst hae hbe h2
  exact⟨by omega,rfl⟩
theorem Zfa:((Zau h).map (·.e)).Pairwise fun a b=>ltE a b=true:=by
 unfold Zau
 split
 ·rename_i hr;exact Zhv (Zdb hr) (Zdb hr)
 ·exact List.Pairwise.nil
theorem Zh7 (cnt:Int→Bool) (e:Edge):Zc4 cnt h e=if Zc h=true then (if cnt e.key=true then Zax h e else 0) else 0:=by
 unfold Zc4
 split
 ·rename_i hr;exact Zlp hr cnt e
 ·rfl
theorem Zma:Zmu (Zc4 (fun _=>true) h) (Zau h):=by
 refine Zr4 Zfa (fun e=> ?_) fun x hx=> ?_
 ·rw[Zh7]
  by_cases hr:Zc h=true
  ·rw[if_pos hr,if_pos rfl,List.mem_map]
   constructor
   ·rintro⟨x,hx,rfl⟩;exact((Zcx hr).1 hx).1
   ·intro hc;exact⟨⟨e,(Zax h e:Int)⟩,(Zcx hr).2 ⟨hc,rfl⟩,rfl⟩
  ·rw[if_neg hr];unfold Zau;rw[if_neg hr];simp
 ·by_cases hr:Zc h=true
  ·rw[Zh7,if_pos hr,if_pos rfl];exact((Zcx hr).1 hx).2
  ·unfold Zau at hx;rw[if_neg hr]at hx;cases hx
theorem Zlm (a kind key:Int):∀bs:List HTx,(hrB h a kind key bs).length≤bs.length
 |[]=>Nat.le_refl _
 |b::bs=>by
  have:=Zlm a kind key bs
  show((((if 0<Zax h ⟨a,b.id,kind,key⟩ then [_] else []):List Hvy)++hrB h a kind key bs)).length≤_
  rw[List.length_append,List.length_cons]
  split<;>simp<;>omega
theorem ZfQ (a kind:Int) (n:h.txs.length≤12):∀ks:List Int,(hrK h a kind ks).length≤12*ks.length
 |[]=>Nat.le_refl _
 |k::ks=>by
  have h1:=ZfQ a kind n ks
  have h2:=Zlm (h:=h) a kind k h.txs
  show(hrB h a kind k h.txs++hrK h a kind ks).length≤_
  rw[List.length_append,List.length_cons];omega
theorem Zln (n:h.txs.length≤12) (n2:(Zcj h.txs).length≤288):∀ts:List HTx,(hrA h ts).length≤10368*ts.length
 |[]=>Nat.le_refl _
 |t::ts=>by
  have h1:=Zln n n2 ts
  have h2:=ZfQ (h:=h) t.id 1 n (Zcj h.txs)
  have h3:=ZfQ (h:=h) t.id 2 n (Zcj h.txs)
  have h4:=ZfQ (h:=h) t.id 3 n (Zcj h.txs)
  show(hrN h t.id 3++hrA h ts).length≤_
  rw[Zo1,List.length_append,List.length_append,List.length_append,List.length_cons];omega
theorem Zl9 (n:h.txs.length≤12) (n2:∀t∈h.txs,t.ops.length≤24):(Zau h).length≤200000:=by
 unfold Zau
 split
 ·have h1:=Zpo h.txs n2
  have:=Zln n (by omega) h.txs
  omega
 ·simp
theorem ZqB (n:h.txs.length≤12) (n2:∀t∈h.txs,t.ops.length≤24) (cnt:Int→Bool):Zo9 (Zc4 cnt h):=by
 refine Zr1 (l:=(Zau h).map (·.e)) (fun e hg=> ?_) (by rw[List.length_map];have:=Zl9 n n2;omega)
 rw[Zh7]at hg
 by_cases hr:Zc h=true
 ·rw[if_pos hr]at hg
  by_cases hc:cnt e.key=true
  ·rw[if_pos hc]at hg
   exact List.mem_map.2 ⟨⟨e,(Zax h e:Int)⟩,(Zcx hr).2 ⟨hg,rfl⟩,rfl⟩
  ·rw[if_neg hc]at hg;exact absurd rfl hg
 ·rw[if_neg hr]at hg;exact absurd rfl hg
end
end Go.Proofs.YtklmahmfmbppkaaGreat
