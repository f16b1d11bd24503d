/- Edges of a history: dsg.list. -/
import Derived.Test.YtblplapkdmhikaaGreatDbbe
import Derived.Test.YtblplapkdmhikaaGreatDbbi
import Derived.Test.YtblplapkdmhikaaGreatDbbk
import Derived.Test.YtblplapkdmhikaaGreatDbbl
namespace Go.Proofs.YtblplapkdmhikaaGreat
set_option linter.unusedVariables false
set_option linter.unusedSimpArgs false
section
open Go.RowKit
structure Hvy where
 e:Edge
 n:Int
deriving DecidableEq
def Hvy.cells (h:Hvy):List Value:=[.int .i64 h.e.f,.int .i64 h.e.t,.int .i64 h.e.k,.int .i64 h.e.key,.int .i64 h.n]
def Zbw (l:List Hvy):List Value:=(l.map Hvy.cells).flatten
theorem Zew {l:List Hvy}:∀r∈l.map Hvy.cells,r.length=5:=fun r hr=>by
 obtain⟨e,_,rfl⟩:=List.mem_map.1 hr;rfl
theorem Zd7 (l:List Hvy) (x:Hvy):Zbw (l++[x])=Zbw l++x.cells:=by unfold Zbw;simp
def Hvys (F:Nat→Prop) (w:World) (A:Option Addr) (l:List Hvy):Prop:=Recs F w A 5 (l.map Hvy.cells)
theorem Hvys.upd {F S:Nat→Prop} {w w':World} {A:Option Addr} {l:List Hvy} (h:Hvys F w A l) (k:Upd S w w') (hn:∀i,F i→¬S i):Hvys F w' A l:=Recs.upd h k hn
theorem Zgc:SlT Tryz.prog 46 55 5 40:=SlT.mk_ Tryz.underlying46 (z:= .agg #[.int .i64 0,.int .i64 0,.int .i64 0,.int .i64 0,.int .i64 0]) (by kernel_rfl) rfl (by omega)
def Zj4 (w:World) (l:List Hvy) (e:Ending) (w':World):Prop:=∃A c,e= .returned (.slice A l.length c)∧w'.ownsRow w.heap.size 55 5 (.slice A l.length c) l.length (Zbw l)∧Upd No w w'
def hvL (g:Edge→Nat) (l:List Edge):List Hvy:=l.map fun e=>⟨e,(g e:Int)⟩
theorem Zl2 {g:Edge→Nat} {l:List Edge} {k:Nat} {x:Edge} (hk:k<l.length) (hx:l[k]=x):hvL g (l.take (k+1))=hvL g (l.take k)++[⟨x,(g x:Int)⟩]:=by
 subst hx;unfold hvL;rw[List.take_succ_eq_append_getElem hk,List.map_append];rfl
set_option maxRecDepth 100000 in
set_option maxHeartbeats 8000000 in
theorem ZoO (w:World) (bc:Nat) (mc:List (Edge×Value)) (g:Edge→Nat) (hm:MapE w bc ZB mc) (hg:CntM mc g) (hl:mc.length≤1000000):
  Calls Tryz.prog 68 #[.map (some bc)] w (Zj4 w (hvL g (ddE (mc.map (·.1))))):=by
 obtain⟨es,hes⟩:∃es,ddE (mc.map (·.1))=es:=⟨_,rfl⟩;rw[hes];have HES:=Qh hes;clear hes;obtain⟨w1,hw1⟩:∃w1,w.alloc (.cells #[.map (some bc)] 109)=w1:=⟨_,rfl⟩;have u1:Upd No w w1:=by rw[←hw1];exact(Upd.refl No w).alloc _
 have b1:Blk w1 w.heap.size 109 [.map (some bc)]:=by rw[←hw1];exact Blk.new w _ _
 have HK:=Qh (ZmA w (some bc));rw[hw1]at HK;have HC:=Qh (Zh8 w1 w.heap.size bc mc (by simpa using b1.cell 0) (hm.upd u1 id) hl);have HM:=Qh hm;have HG:=Qh hg;have HU1:=Qh u1;have HKL:=Qh (show(mc.map (·.1)).length≤1000000 by rw[List.length_map];exact hl);clear hm hg hw1 u1 b1
 go_enter Tryz.func68,Tryz.ntmps68
 go_wp2_with fail
 refine(HK.out).mono ?_;rintro e w2 ⟨rfl,rfl⟩
 go_wp2_with fail
 refine(HC.out).mono ?_;rintro e w3 ⟨A3,c3,ks,rfl,hpm,ho3,hu3⟩;have HP:=Qh (Zmu (Own (.slice A3 ks.length c3)) w3 A3 c3 ks (Recs.of_own Zbb (by omega) ho3) (by have:=hpm.length_eq;have:=HKL.out;omega));rw[ZdD hpm]at HP;have hv3:=HU1.out.trans hu3;clear hpm ho3 hu3
 have hel:es.length≤1000000:=by
  rw[←HES.out];have h1:=Zgs (Zac (mc.map (·.1))) (mc.map (·.1)).length;have h2:=HKL.out;unfold ddE;omega
 rw[HES.out]at HP
 go_wp2_with fail
 refine(HP.out).mono ?_;rintro e w4 ⟨A4,c4,rfl,hx4,hu4⟩;have HV4:=Qh (hv3.trans hu4);obtain⟨G4,hx4⟩:=hx4;have HX4:=Qh hx4;clear hx4 hu4 hv3;go_wp2
 go_loopg [3,11] es.length (fun gk s i wr=>∃(k:Nat) (A5:Option Addr) (c5:Nat) (xs:List Hvy),k+gk=es.length∧i= .int .i64 k∧s= .slice A5 xs.length c5∧Hid (xs=hvL g (es.take k))∧Hid (wr.ownsRow w4.heap.size 55 5 (.slice A5 xs.length c5) xs.length (Zbw xs))∧Upd No w4 wr)
 case atStart=>exact⟨0,none,0,[],by omega,rfl,rfl,Qh rfl,Qh (World.ownsRow_nil _ _ _ _),Upd.refl _ _⟩
 case round=>
  obtain⟨k,A5,c5,xs,hgk,rfl,rfl,hs,hown,hu⟩:=hrel;have hxl:xs.length≤1000000:=by rw[hs.out];unfold hvL;rw[List.length_map,List.length_take];omega
  by_cases hlt:k<es.length
  ·obtain⟨ax,rfl,q0,q1,q2,q3⟩:=Walk.at_ (Walk.upd HX4.out hu (fun _ _=>id)) hlt;obtain⟨x,hxx⟩:∃x,es[k]=x:=⟨_,rfl⟩;rw[hxx]at q0 q1 q2 q3;have HS:=Qh (show xs++[⟨x,(g x:Int)⟩]=hvL g (es.take (k+1)) by rw[hs.out];exact(Zl2 hlt hxx).symm);have i1:(0:Int)≤(k:Int):=Qn _;have i2:(k:Int)<(es.length:Int):=by omega
   obtain⟨wx,hwx⟩:∃wx,wr.alloc (.cells #[.int .i64 x.f,.int .i64 x.t,.int .i64 x.k,.int .i64 x.key] 53)=wx:=⟨_,rfl⟩;have ux:Upd No wr wx:=by rw[←hwx];exact(Upd.refl No wr).alloc _
   have bo:Blk wx wr.heap.size 53 [.int .i64 x.f,.int .i64 x.t,.int .i64 x.k,.int .i64 x.key]:=by rw[←hwx];exact Blk.new wr _ _
   have d0:∀W,Upd (Own (.slice A5 xs.length c5)) wx W→W.cell? ⟨wr.heap.size,0,none⟩=some (.int .i64 x.f):=fun W u=>by have:=(bo.upd u (fun e=>by have:=(hown.out.lt _ e).2;omega)).cell 0;simpa using this
   have d1:∀W,Upd (Own (.slice A5 xs.length c5)) wx W→W.cell? ⟨wr.heap.size,1,none⟩=some (.int .i64 x.t):=fun W u=>by have:=(bo.upd u (fun e=>by have:=(hown.out.lt _ e).2;omega)).cell 1;simpa using this
   have d2:∀W,Upd (Own (.slice A5 xs.length c5)) wx W→W.cell? ⟨wr.heap.size,2,none⟩=some (.int .i64 x.k):=fun W u=>by have:=(bo.upd u (fun e=>by have:=(hown.out.lt _ e).2;omega)).cell 2;simpa using this
   have d3:∀W,Upd (Own (.slice A5 xs.length c5)) wx W→W.cell? ⟨wr.heap.size,3,none⟩=some (.int .i64 x.key):=fun W u=>by have:=(bo.upd u (fun e=>by have:=(hown.out.lt _ e).2;omega)).cell 3;simpa using this
   obtain⟨N,hN⟩:∃N,g x=N:=⟨_,rfl⟩;rw[hN]at HS;have HWX:=Qh ((HV4.out.trans hu).trans ux)
   have L1:∀W,Upd (Own (.slice A5 xs.length c5)) wx W→(Instr.lookup 109 (.map (some bc)) (.agg #[.int .i64 x.f,.int .i64 x.t,.int .i64 x.k,.int .i64 x.key]) false).run Tryz.prog W= .ok (.int .i64 (N:Int)) W:=fun W u=>by
    have:=Zm ZW Tryz.underlying109 ZE ((HM.out.upd (S:=No) HWX.out id).upd u (fun e=>by have h1:=(hown.out.lt _ e).1;have h2:=HM.out.lt;have h3:=HV4.out.size;omega)).is x
    rwa [HG.out.val,hN]at this
   have HO:=Qh (Zb hown.out ux (fun _ _=>id));have HUX:=Qh (hu.trans ux);have HSZ:=Qh (show w4.heap.size≤wx.heap.size from(hu.trans ux).size);have hxz:Upd (Own (.slice A5 xs.length c5)) wx wx:=Upd.refl _ _;have hzd:Upd No wx (wx.alloc (.cells #[.int .i64 x.f,.int .i64 x.t,.int .i64 x.k,.int .i64 x.key,.int .i64 (N:Int)] 55)).drew:=((Upd.refl No wx).alloc _).drew;clear hxx bo ux hN hown;go_wp2;refine wp_region_noPanic ?_;refine wp_region_held_drew (S:=(fun W'=>Upd (Own (.slice A5 xs.length c5)) wx W')) (by kernel_rfl) ?_ (fun hHeld=> ?_)
   ·(first|exact(Upd.refl _ wx).drew|exact hHeld|exact hHeld.alloc _|exact hU6)
   refine wpK 0 rfl ?_;refine wpK 1 rfl ?_;refine wpK 2 rfl ?_;refine wpK 3 rfl ?_;refine wpR [4] ?_;refine wpC rfl (fun K hK=> ?_) AllReadyH.nil;go_simp;refine hK.out _ _ ?_ (fun hHeld=> ?_)
   ·(first|exact(Upd.refl _ wx).drew|exact hHeld|exact hHeld.alloc _|exact hU6)
   clear hK K
   try simp only[Act.put,sT,sS,sZ]
   refine wpK 5 rfl ?_;refine wpR [6] ?_;refine wpC rfl (fun K hK=> ?_) AllReadyH.nil;go_simp;refine hK.out _ _ ?_ (fun hHeld=> ?_)
   ·(first|exact(Upd.refl _ wx).drew|exact hHeld|exact hHeld.alloc _|exact hU6)
   clear hK K
   try simp only[Act.put,sT,sS,sZ]
   refine wpR [7] ?_;refine wpC rfl (fun K hK=> ?_) AllReadyH.nil
   (first
  |(refine Zb1 (by rfl) (by rfl) Zgc (v:= .slice A5 xs.length c5) (n:=xs.length) (xs:=Zbw xs) (cells:=[.int .i64 x.f,.int .i64 x.t,.int .i64 x.k,.int .i64 x.key,.int .i64 (N:Int)]) (by rfl) (by rfl) (by exact Zb HO.out hzd (fun _ _=>id)) rfl (by exact ZbO) (by rfl) (by omega) (by omega) (by have:=HSZ.out;simp;omega) ?_;intro g6 c6 w6 hown6 hu6 hg6 hlt6;have hU6:Upd (Own (.slice A5 xs.length c5)) wx w6:=hHeld.trans hu6))
   refine hK.out _ _ ?_ (fun hHeld=> ?_)
   ·(first|exact(Upd.refl _ wx).drew|exact hHeld|exact hHeld.alloc _|exact hU6)
   clear hK K
   try simp only[Act.put,sT,sS,sZ]
   refine wpK 8 rfl ?_;refine wpD (NoPanic.normal ?_);have HU6:=Qh hHeld;clear hHeld;go_wp2
   go_roundg (gk-1)
   case measure=>omega
   case rel=>
    have hl1:(xs++[(⟨x,(N:Int)⟩:Hvy)]).length=xs.length+1:=by simp
    exact⟨k+1,some ⟨g6,0,none⟩,c6,xs++[⟨x,(N:Int)⟩],by omega,by go_num,by rw[hl1],HS,Qh (by rw[hl1,Zd7];exact hown6),HUX.out.then_ HU6.out (fun i e=>Or.inr (HO.out.lt i e).1)⟩
  ·obtain rfl:k=es.length:=by omega
   go_wp2
   go_ret
   have h1:=hs.out;rw[List.take_length]at h1;subst h1;exact⟨A5,c5,rfl,ZK hown.out HV4.out.size,HV4.out.trans hu⟩
end
/- Edges of a history:dsg.Edges,Of,Count,Plain. -/
section
open Go.RowKit
def Zmb (g:Edge→Nat):Prop:=∀mc:List (Edge×Value),CntM mc g→mc.length≤1000000
def Zj5 (g:Edge→Nat) (l:List Hvy):Prop:=∀mc:List (Edge×Value),CntM mc g→hvL g (ddE (mc.map (·.1)))=l
section
variable {F:Nat→Prop} {w:World} {txs:List HTx} {ords:List HOrd} {A:Option Addr} {c:Nat} {B:Option Addr} {d:Nat} {l:List Hvy}
set_option maxRecDepth 100000 in
set_option maxHeartbeats 4000000 in
theorem dOf (key:Int) (H:Hist.lies F w ⟨txs,ords,A,c,B,d⟩) (hf:Zmb (Zcc (fun k=>k==key) ⟨txs,ords,A,c,B,d⟩)) (he:Zj5 (Zcc (fun k=>k==key) ⟨txs,ords,A,c,B,d⟩) l):
  Calls Tryz.prog 59 #[.agg #[.slice A txs.length c,.slice B ords.length d],.int .i64 key] w (Zj4 w l):=by
 obtain⟨w1,hw1⟩:∃w1,(w.alloc (.cells #[.slice A txs.length c,.slice B ords.length d] 29)).alloc (.cells #[.int .i64 key] 3)=w1:=⟨_,rfl⟩;have u1:Upd No w w1:=by rw[←hw1];exact((Upd.refl No w).alloc _).alloc _
 have b1:Blk w1 w.heap.size 29 [.slice A txs.length c,.slice B ords.length d]:=by rw[←hw1];exact(Blk.new w _ _).alloc _
 have b2:Blk w1 (w.heap.size+1) 3 [.int .i64 key]:=by
  rw[←hw1];have:=Blk.new (w.alloc (.cells #[.slice A txs.length c,.slice B ords.length d] 29)) 3 [.int .i64 key]
  simpa using this
 have HC:=Qh (Zlb F w1 txs ords A c B d ⟨w.heap.size+1,0,none⟩ (fun k=>k==key) (H.upd u1 (fun _ _=>id)) (Qh (fun W k u=>Zpc W k key ⟨w.heap.size+1,0,none⟩ (by simpa using(b2.upd u id).cell 0))));have d0:=b1.cell 0;have d1:=b1.cell 1;simp only[Qz,Qs]at d0 d1;have HU1:=Qh u1;have HF:=Qh hf;have HE:=Qh he;clear b1 b2 u1 hf he H
 go_enter Tryz.func59,Tryz.ntmps59
 go_wp2_with fail
 refine(HC.out).mono ?_;rintro e w2 ⟨bc,mc,rfl,hbc,hm,hg,hu2⟩;have HL:=Qh (ZoO w2 bc mc _ hm hg (HF.out mc hg));rw[HE.out mc hg]at HL;have hv2:=HU1.out.trans hu2;clear hbc hm hg hu2
 go_wp2_with fail
 refine(HL.out).mono ?_;rintro e w3 ⟨A3,c3,rfl,ho3,hu3⟩;go_wp2
 go_ret
 exact⟨A3,c3,rfl,ZK ho3 hv2.size,hv2.trans hu3⟩
end
end
/- Edges of a history,the document's:those of a key,without counts;whether two lists are one. -/
section
open Go.RowKit
theorem Hvys.at_ {F:Nat→Prop} {w:World} {A:Option Addr} {l:List Hvy} (h:Hvys F w A l) {k:Nat} (hk:k<l.length):∃ad,A=some ad∧
  w.cell? (ad.add (k*5))=some (.int .i64 l[k].e.f)∧w.cell? ⟨(ad.add (k*5)).block,(ad.add (k*5)).off+1,none⟩=some (.int .i64 l[k].e.t)∧
  w.cell? ⟨(ad.add (k*5)).block,(ad.add (k*5)).off+2,none⟩=some (.int .i64 l[k].e.k)∧w.cell? ⟨(ad.add (k*5)).block,(ad.add (k*5)).off+3,none⟩=some (.int .i64 l[k].e.key)∧
  w.cell? ⟨(ad.add (k*5)).block,(ad.add (k*5)).off+4,none⟩=some (.int .i64 l[k].n):=by
 have hk':k<(l.map Hvy.cells).length:=by simpa using hk
 obtain⟨ad,e,_,_,hc⟩:=Recs.at_ h hk';rw[List.getElem_map]at hc;exact⟨ad,e,by simpa using hc 0 _ rfl,by simpa using hc 1 _ rfl,by simpa using hc 2 _ rfl,by simpa using hc 3 _ rfl,by simpa using hc 4 _ rfl⟩
def Zc2 (l:List Hvy):List Edge:=l.map (·.e)
def Zr (key:Int) (l:List Hvy):List Hvy:=l.filter fun x=>x.e.key==key
theorem Zit (w:World) (n:Nat) (a b c d a' b' c' d':Int):(Op.equalIn (n+1+1) 53 (.agg #[.int .i64 a,.int .i64 b,.int .i64 c,.int .i64 d]) (.agg #[.int .i64 a',.int .i64 b',.int .i64 c',.int .i64 d'])).run Tryz.prog w= .ok (decide ((⟨a,b,c,d⟩:Edge)=⟨a',b',c',d'⟩)) w:=by
 rw[run_equalIn_struct w _ _ _ _ (by kernel_rfl) (by kernel_rfl)];have hI:∀(w:World) (d:Nat) (x y:Int),(Op.equalIn (d+1) 3 (.int .i64 x) (.int .i64 y)).run Tryz.prog w= .ok (x==y) w:=fun w d x y=>run_equalIn_int w d _ _ _ x y Tryz.underlying3
 by_cases h1:a=a'<;>by_cases h2:b=b'<;>by_cases h3:c=c'<;>by_cases h4:d=d'<;>
  simp[Program.fieldsOf,Tryz.underlying53,Op.eqFields,part,hI,h1,h2,h3,h4,Result.andThen]
theorem ZkS (w:World) (x y:Hvy):(Op.equalIn 10000 55 (.agg #[.int .i64 x.e.f,.int .i64 x.e.t,.int .i64 x.e.k,.int .i64 x.e.key,.int .i64 x.n]) (.agg #[.int .i64 y.e.f,.int .i64 y.e.t,.int .i64 y.e.k,.int .i64 y.e.key,.int .i64 y.n])).run Tryz.prog w= .ok (decide (x=y)) w:=by
 obtain⟨⟨a,b,c,d⟩,e⟩:=x;obtain⟨⟨a',b',c',d'⟩,e'⟩:=y
 show(Op.equalIn (9997+1+1+1) _ _ _).run _ w=_
 rw[run_equalIn_struct w _ _ _ _ (by kernel_rfl) (by kernel_rfl)]
 generalize 9997=n
 have hI:∀(w:World) (d:Nat) (x y:Int),(Op.equalIn (d+1) 3 (.int .i64 x) (.int .i64 y)).run Tryz.prog w= .ok (x==y) w:=fun w d x y=>run_equalIn_int w d _ _ _ x y Tryz.underlying3
 have hV:=fun w=>Zit w n a b c d a' b' c' d'
 have hp:∀(w:World) (q r c d e:Value),(part 53 #[q,r,c,d,e] 0).run Tryz.prog w= .ok (.agg #[q,r,c,d]) w:=fun w q r c d e=>by
  obtain⟨i,hi,_,hs,_⟩:=info_parts (P:=Tryz.prog) (e:=53) (z:= .agg #[.int .i64 0,.int .i64 0,.int .i64 0,.int .i64 0]) (size:=4) (bytes:=32) (by kernel_rfl);simp[part,isAgg,run_underlying Tryz.underlying53,sizeOf,typeInfo,hi,hs,Result.andThen]
 have hp4:∀(w:World) (q r c d e:Value),(part 3 #[q,r,c,d,e] 4).run Tryz.prog w= .ok e w:=fun w q r c d e=>by simp[part,isAgg,run_underlying Tryz.underlying3]
 by_cases h1:(⟨a,b,c,d⟩:Edge)=⟨a',b',c',d'⟩<;>by_cases h2:e=e'<;>
  simp[Program.fieldsOf,Tryz.underlying55,Op.eqFields,hp,hp4,hI,hV,h1,h2,Result.andThen]
theorem Zna (w:World) (x y:Hvy):(binOp .neq 55 (.agg #[.int .i64 x.e.f,.int .i64 x.e.t,.int .i64 x.e.k,.int .i64 x.e.key,.int .i64 x.n]) (.agg #[.int .i64 y.e.f,.int .i64 y.e.t,.int .i64 y.e.k,.int .i64 y.e.key,.int .i64 y.n])).run Tryz.prog w= .ok (.bool (x != y)) w:=by
 have:=ZkS w x y;rw[run_neq_struct,this];simp only[Result.andThen]
 by_cases h:x=y<;>simp[h]
set_option maxRecDepth 100000 in
set_option maxHeartbeats 4000000 in
theorem ZmV (w:World) (F G:Nat→Prop) (A B:Option Addr) (c d:Nat) (xs ys:List Hvy) (hx:Hvys F w A xs) (hy:Hvys G w B ys) (hl:xs.length≤1048576) (hl2:ys.length≤1048576) {v:Bool} (hv:(xs==ys)=v):
  Calls Tryz.prog 21 #[.slice A xs.length c,.slice B ys.length d] w fun e w'=>e= .returned (.bool v)∧Upd No w w':=by
 have qG:∀(op:BinOp) (x y:Operand) (xs ys:Array Value) (w:World),(eqGuard op 55 x y (.agg xs) (.agg ys)).run Tryz.prog w= .ok () w:=fun op x y xs ys w=>run_eqGuard_agg w op _ x y xs ys (by kernel_rfl)
 subst hv
 by_cases hn:xs.length=ys.length
 ·have hnb:((xs.length:Int) != (ys.length:Int))=false:=by rw[bne_eq_false_iff_eq];omega
  have HN:=Qh hn;clear hn
  go_enter Tryz.func21,Tryz.ntmps21
  go_wp2
  go_loopg [5,13] xs.length (fun gk j i wr=>∃k:Nat,k+gk=xs.length∧i= .int .i64 k∧Hid (xs.take k=ys.take k)∧Upd No w wr)
  case atStart=>exact⟨0,by omega,rfl,Qh rfl,Upd.refl _ _⟩
  case round=>
   obtain⟨k,hgk,rfl,hs,hu⟩:=hrel
   by_cases hlt:k<xs.length
   ·have hlt2:k<ys.length:=by have:=HN.out;omega
    obtain⟨ax,rfl,q0,q1,q2,q3,q4⟩:=(hx.upd hu (fun _ _=>id)).at_ hlt;obtain⟨ay,rfl,r0,r1,r2,r3,r4⟩:=(hy.upd hu (fun _ _=>id)).at_ hlt2;obtain⟨x,hxx⟩:∃x,xs[k]=x:=⟨_,rfl⟩;obtain⟨y,hyy⟩:∃y,ys[k]=y:=⟨_,rfl⟩;rw[hxx]at q0 q1 q2 q3 q4;rw[hyy]at r0 r1 r2 r3 r4;have hq:=fun W=>Zna W x y
    have i1:(0:Int)≤(k:Int):=Qn _;have i2:(k:Int)<(xs.length:Int):=by omega
    have i3:(k:Int)<(ys.length:Int):=by omega
    have HX:=Qh hxx;have HY:=Qh hyy;clear hxx hyy
    by_cases he:x=y
    ·have HN2:=Qh (show xs.take (k+1)=ys.take (k+1) by rw[List.take_succ_eq_append_getElem hlt,List.take_succ_eq_append_getElem hlt2,hs.out,HX.out,HY.out,he]);have heb:(x != y)=false:=by simpa using he
     rw[heb]at hq;clear he heb;go_wp2
     go_quiet (fail)
     go_wp2
     go_roundg (gk-1)
     case measure=>omega
     case rel=>exact⟨k+1,by omega,by go_num,HN2,hu.drewN _⟩
    ·have HF:=Qh (show(xs==ys)=false from by
      rw[beq_eq_false_iff_ne];intro e;subst e;exact he (HX.out.symm.trans HY.out))
     have heb:(x != y)=true:=by simpa using he
     rw[heb]at hq;clear he heb;go_wp2
     go_quiet (fail)
     go_wp2
     go_ret
     exact⟨by rw[HF.out];rfl,hu.drewN _⟩
   ·obtain rfl:k=xs.length:=by omega
    have HT:=Qh (show(xs==ys)=true from by
     rw[beq_iff_eq];have:=hs.out
     rwa [List.take_length,HN.out,List.take_length]at this)
    go_wp2
    go_ret
    exact⟨by rw[HT.out];rfl,hu⟩
 ·have HF:=Qh (show(xs==ys)=false from by
   rw[beq_eq_false_iff_ne];intro e;exact hn (by rw[e]))
  have hnb:((xs.length:Int) != (ys.length:Int))=true:=by rw[bne_iff_ne];omega
  clear hn
  go_enter Tryz.func21,Tryz.ntmps21
  go_wp2
  go_ret
  exact⟨by rw[HF.out];rfl,Upd.refl _ _⟩
end
/- Edges of a history,the document's:all keys;all edges. -/
section
open Go.RowKit
def opK (l:List HOp):List Int:=l.map (·.key)
def txK (txs:List HTx):List Int:=txs.flatMap fun t=>opK t.ops
def Za5 (txs:List HTx):List Int:=ZG [] (txK txs)
theorem ZdH (s a b:List Int):ZG s (a++b)=ZG (ZG s a) b:=by
 induction a generalizing s with
 |nil=>rfl
 |cons x a ih=>exact ih _
theorem Zlr {txs:List HTx} {k:Nat} {x:HTx} (hk:k<txs.length) (hx:txs[k]=x):txK (txs.take (k+1))=txK (txs.take k)++opK x.ops:=by
 subst hx;unfold txK;rw[List.take_succ_eq_append_getElem hk,List.flatMap_append];simp
theorem ZlT {l:List HOp} {k:Nat} {x:HOp} (hk:k<l.length) (hx:l[k]=x):opK (l.take (k+1))=opK (l.take k)++[x.key]:=by
 subst hx;unfold opK;rw[List.take_succ_eq_append_getElem hk,List.map_append];rfl
def Zpl (w:World) (l:List Int) (e:Ending) (w':World):Prop:=∃A c,e= .returned (.slice A l.length c)∧Ints (fun i=>w.heap.size≤i) w' A l∧Upd No w w'
set_option maxRecDepth 100000 in
set_option maxHeartbeats 4000000 in
theorem ZmU (F:Nat→Prop) (w:World) (txs:List HTx) (ords:List HOrd) (A:Option Addr) (c:Nat) (B:Option Addr) (d:Nat) (H:Hist.lies F w ⟨txs,ords,A,c,B,d⟩) (n1:txs.length≤4096) (n2:∀t∈txs,t.ops.length≤4095):
  Calls Tryz.prog 99 #[.agg #[.slice A txs.length c,.slice B ords.length d]] w (Zpl w (Za5 txs)):=by
 have HH:=Qh H;obtain⟨wb,hwb⟩:∃wb,w.alloc (.cells #[.slice A txs.length c,.slice B ords.length d] 29)=wb:=⟨_,rfl⟩;have u1:Upd No w wb:=by rw[←hwb];exact(Upd.refl No w).alloc _
 have b1:Blk wb w.heap.size 29 [.slice A txs.length c,.slice B ords.length d]:=by rw[←hwb];exact Blk.new w _ _
 have d0:=b1.cell 0;simp only[Qz]at d0;have HU:=Qh u1;clear b1 u1 H
 go_enter Tryz.func99,Tryz.ntmps99
 go_wp2
 go_loopg [3,11] txs.length (fun gk s i wr=>∃(k:Nat) (A5:Option Addr) (c5:Nat) (xs:List Int),k+gk=txs.length∧i= .int .i64 k∧s= .slice A5 xs.length c5∧Hid (xs=ZG [] (txK (txs.take k)))∧Hid (xs.length≤4095*k)∧Hid (Ints (fun i=>w.heap.size≤i) wr A5 xs)∧Upd No w wr)
 case atStart=>exact⟨0,none,0,[],by omega,rfl,rfl,Qh rfl,Qh (by simp),Qh Ints.nil_,HU.out⟩
 case round=>
  obtain⟨k,A5,c5,xs,hgk,rfl,rfl,hs,hln,hi,hu⟩:=hrel
  by_cases hlt:k<txs.length
  ·obtain⟨ad,hAd,q0,q1,q2⟩:=(HH.out.upd hu (fun _ _=>id)).tx_at hlt;simp only at hAd q0 q1 q2;have hx2:=n2 _ (List.getElem_mem hlt);have hx0:=HH.out.tx txs[k] (List.getElem_mem hlt);obtain⟨⟨xi,xd,xo,xA,xc⟩,hx⟩:∃x,txs[k]=x:=⟨_,rfl⟩;rw[hx]at q0 q1 q2 hx2 hx0;simp only at q0 q1 q2 hx2;subst hAd;have HX0:=Qh (show HOps F w xA xo from hx0.1);have b1:(0:Int)≤(k:Int):=Qn _;have b2:(k:Int)<(txs.length:Int):=by omega
   obtain⟨wx,hwx⟩:∃wx,wr.alloc (.cells #[.int .i64 xi,.bool xd,.slice xA xo.length xc] 81)=wx:=⟨_,rfl⟩;have ux:Upd No wr wx:=by rw[←hwx];exact(Upd.refl No wr).alloc _
   have bo:Blk wx wr.heap.size 81 [.int .i64 xi,.bool xd,.slice xA xo.length xc]:=by rw[←hwx];exact Blk.new wr _ _
   have t2:=bo.cell 2;simp only[Qz,Qs]at t2;have HUX:=Qh (hu.trans ux);have HIX:=Qh (hi.out.upd ux (fun _ _=>id));have HT:=Qh (Zlr hlt hx);simp only at HT;have HP:=Qh hs.out;clear hx bo ux hx0 hs hi;obtain⟨wo,hwo⟩:∃wo,wo=wr:=⟨_,rfl⟩;subst hwo
   generalize gk=GK at*
   go_wp2
   go_loopg [3,18] xo.length (fun gj s i wr=>∃(j:Nat) (A5:Option Addr) (c5:Nat) (ys:List Int),j+gj=xo.length∧i= .int .i64 j∧s= .slice A5 ys.length c5∧Hid (ys=ZG xs (opK (xo.take j)))∧Hid (ys.length≤4095*k+j)∧Hid (Ints (fun i=>w.heap.size≤i) wr A5 ys)∧Upd No w wr)
   case atStart=>exact⟨0,A5,c5,xs,by omega,rfl,rfl,Qh rfl,Qh (by have:=hln.out;omega),HIX,HUX.out⟩
   case round=>
    obtain⟨j,A6,c6,ys,hgj,rfl,rfl,hs2,hl2,hi2,hu2⟩:=hrel
    by_cases hltj:j<xo.length
    ·obtain⟨ad2,hAd2,p0,p1,p2,p3⟩:=(HX0.out.upd hu2 (fun _ _=>id)).at_ hltj;obtain⟨⟨yr,yk,yt,yn⟩,hy⟩:∃y,xo[j]=y:=⟨_,rfl⟩;rw[hy]at p0 p1 p2 p3;simp only at p0 p1 p2 p3;subst hAd2;have c1:(0:Int)≤(j:Int):=Qn _;have c2:(j:Int)<(xo.length:Int):=by omega
     obtain⟨wy,hwy⟩:∃wy,wr.alloc (.cells #[.bool yr,.int .i64 yk,.int .i64 yt,.int .i64 yn] 95)=wy:=⟨_,rfl⟩;have uy:Upd No wr wy:=by rw[←hwy];exact(Upd.refl No wr).alloc _
     have bo:Blk wy wr.heap.size 95 [.bool yr,.int .i64 yk,.int .i64 yt,.int .i64 yn]:=by rw[←hwy];exact Blk.new wr _ _
     have o1:=bo.cell 1;simp only[Qz,Qs]at o1;have hys:ys.length≤100000000:=by have:=hl2.out;omega
     have HPT:=Qh (ZnL _ wy A6 c6 ys yk (hi2.out.upd uy (fun _ _=>id)) hys);have HUY:=Qh (hu2.trans uy);have HO:=Qh (show ZT yk ys=ZG xs (opK (xo.take (j+1))) by rw[ZlT hltj hy,ZdH,←hs2.out];rfl);have HLN:=Qh (Zcx yk ys);clear hy bo uy
     go_wp2_with fail
     refine(HPT.out).mono ?_;rintro e w5 ⟨A7,c7,rfl,ho7,hu7⟩;have HI7:=Qh ((Ints.of_owned ho7).weak (G:=fun i=>w.heap.size≤i) (fun i _ h=>Nat.le_trans HUY.out.size h));have HU7:=Qh (HUY.out.trans hu7);clear ho7 hu7;go_wp2
     go_roundg (gk-1)
     case measure=>omega
     case rel=>exact⟨j+1,A7,c7,_,by omega,by go_num,rfl,HO,Qh (by have:=HLN.out;have:=hl2.out;omega),HI7,HU7.out⟩
    ·obtain rfl:j=xo.length:=by omega
     have HN:=Qh (show ys=ZG [] (txK (txs.take (k+1))) by rw[HT.out,ZdH,←HP.out];have:=hs2.out;rwa [List.take_length]at this);go_wp2
     go_roundg (GK-1)
     case measure=>omega
     case rel=>exact⟨k+1,A6,c6,ys,by omega,by go_num,rfl,HN,Qh (by have:=hl2.out;omega),hi2,hu2⟩
  ·obtain rfl:k=txs.length:=by omega
   go_wp2
   go_ret
   have h1:=hs.out;rw[List.take_length]at h1;subst h1;exact⟨A5,c5,rfl,hi.out,hu⟩
/-! all edges -/
def hrB (h:Hist) (a kind key:Int) (bs:List HTx):List Hvy:=bs.flatMap fun b=>if 0<Zf h ⟨a,b.id,kind,key⟩ then [⟨⟨a,b.id,kind,key⟩,(Zf h ⟨a,b.id,kind,key⟩:Int)⟩] else []
def hrK (h:Hist) (a kind:Int) (ks:List Int):List Hvy:=ks.flatMap fun key=>hrB h a kind key h.txs
def hrN (h:Hist) (a:Int):Nat→List Hvy
 |0=>[]
 |n+1=>hrN h a n++hrK h a ((n:Int)+1) (Za5 h.txs)
def hrA (h:Hist) (ts:List HTx):List Hvy:=ts.flatMap fun t=>hrN h t.id 3
def Zc (h:Hist):List Hvy:=if Za h=true then hrA h h.txs else []
theorem Zl5 {h:Hist} {a kind key:Int} {bs:List HTx} {k:Nat} {x:HTx} (hk:k<bs.length) (hx:bs[k]=x):hrB h a kind key (bs.take (k+1))=hrB h a kind key (bs.take k)++if 0<Zf h ⟨a,x.id,kind,key⟩ then [⟨⟨a,x.id,kind,key⟩,(Zf h ⟨a,x.id,kind,key⟩:Int)⟩] else []:=by
 subst hx;unfold hrB;rw[List.take_succ_eq_append_getElem hk,List.flatMap_append];simp
theorem Zl4 {h:Hist} {a kind:Int} {ks:List Int} {k:Nat} {x:Int} (hk:k<ks.length) (hx:ks[k]=x):hrK h a kind (ks.take (k+1))=hrK h a kind (ks.take k)++hrB h a kind x h.txs:=by
 subst hx;unfold hrK;rw[List.take_succ_eq_append_getElem hk,List.flatMap_append];simp
theorem Zl6 {h:Hist} {ts:List HTx} {k:Nat} {x:HTx} (hk:k<ts.length) (hx:ts[k]=x):hrA h (ts.take (k+1))=hrA h (ts.take k)++hrN h x.id 3:=by
 subst hx;unfold hrA;rw[List.take_succ_eq_append_getElem hk,List.flatMap_append];simp
end
/- Edges of a history,in plain words:what is counted is what the document counts. -/
section
open Go.RowKit
theorem Zgk (key:Int) (e:Edge):∀l:List Int,e∈wwO key l↔e.k=1∧e.key=key∧∃i:Nat,l[i]? =some e.f∧l[i+1]? =some e.t
 |[]=>by simp[wwO]
 |[a]=>by
  simp[wwO]
 |a::b::l=>by
  have ih:=Zgk key e (b::l)
  show e∈[⟨a,b,1,key⟩]++wwO key (b::l)↔_
  rw[List.mem_append,List.mem_singleton,ih]
  constructor
  ·rintro(rfl|⟨h1,h2,i,h3,h4⟩)
   ·exact⟨rfl,rfl,0,rfl,rfl⟩
   ·exact⟨h1,h2,i+1,h3,h4⟩
  ·rintro⟨h1,h2,i,h3,h4⟩
   cases i with
   |zero=>
    left
    simp at h3 h4;obtain⟨ef,et,ek,ey⟩:=e;simp only at h1 h2 h3 h4;subst h1 h2 h3 h4;rfl
   |succ i=>exact Or.inr ⟨h1,h2,i,h3,h4⟩
theorem Zm2 (cnt:Int→Bool) (ords:List HOrd) (e:Edge):e∈wwL cnt ords↔e.k=1∧cnt e.key=true∧∃o∈ords,o.key=e.key∧∃i:Nat,o.txs[i]? =some e.f∧o.txs[i+1]? =some e.t:=by
 unfold wwL;rw[List.mem_flatMap]
 constructor
 ·rintro⟨o,ho,h⟩;unfold wwC at h
  split at h
  ·rename_i hc
   obtain⟨h1,h2,h3⟩:=(Zgk _ _ _).1 h;exact⟨h1,by rw[h2];exact hc,o,ho,h2.symm,h3⟩
  ·cases h
 ·rintro⟨h1,h2,o,ho,h3,h4⟩;refine⟨o,ho,?_⟩;unfold wwC;rw[if_pos (by rw[h3];exact h2)];exact(Zgk _ _ _).2 ⟨h1,h3.symm,h4⟩
/-! what was laid last -/
theorem ZfM (p:Int×Int):∀(L:List ((Int×Int)×Int)) (a:Int),(∀e∈L,e.1≠p)→L.foldl (fun a e=>if e.1=p then e.2 else a) a=a
 |[],_,_=>rfl
 |e::L,a,h=>by
  rw[List.foldl_cons,if_neg (h e (List.mem_cons_self ..))];exact ZfM p L a fun x hx=>h x (List.mem_cons_of_mem _ hx)
theorem ZgW (p:Int×Int) (v:Int):∀(L:List ((Int×Int)×Int)) (a:Int),(∀e∈L,e.1=p→e.2=v)→(a=v∨∃e∈L,e.1=p)→L.foldl (fun a e=>if e.1=p then e.2 else a) a=v
 |[],a,_,h=>by
  rcases h with h|⟨e,he,_⟩
  ·exact h
  ·cases he
 |e::L,a,h,h2=>by
  rw[List.foldl_cons];refine ZgW p v L _ (fun x hx=>h x (List.mem_cons_of_mem _ hx)) ?_
  by_cases hp:e.1=p
  ·rw[if_pos hp];exact Or.inl (h e (List.mem_cons_self ..) hp)
  ·rw[if_neg hp];rcases h2 with h2|⟨x,hx,hxp⟩
   ·exact Or.inl h2
   ·rcases List.mem_cons.1 hx with rfl|hx
    ·exact absurd hxp hp
    ·exact Or.inr ⟨x,hx,hxp⟩
theorem ZdW (key:Int) (e:(Int×Int)×Int):∀(l:List Int) (a:Int),e∈Zao key a l↔e.1.1=key∧∃i:Nat,(a::l)[i]? =some e.1.2∧l[i]? =some e.2
 |[],a=>by simp[Zao]
 |x::l,a=>by
  show e∈((key,a),x)::Zao key x l↔_
  rw[List.mem_cons,ZdW key e l x]
  constructor
  ·rintro(rfl|⟨h1,i,h2,h3⟩)
   ·exact⟨rfl,0,rfl,rfl⟩
   ·exact⟨h1,i+1,h2,h3⟩
  ·rintro⟨h1,i,h2,h3⟩
   cases i with
   |zero=>
    left
    obtain⟨⟨e1,e2⟩,e3⟩:=e;simp at h1 h2 h3;subst h1 h2 h3;rfl
   |succ i=>exact Or.inr ⟨h1,i,h2,h3⟩
def Nx (ords:List HOrd) (key x y:Int):Prop:=∃o∈ords,o.key=key∧∃i:Nat,(0::o.txs)[i]? =some x∧o.txs[i]? =some y
theorem ZdX (ords:List HOrd) (key x y:Int):((key,x),y)∈Zu ords↔Nx ords key x y:=by
 unfold Zu Nx;rw[List.mem_flatMap]
 constructor
 ·rintro⟨o,ho,h⟩;obtain⟨h1,h2⟩:=(ZdW _ _ _ _).1 h;exact⟨o,ho,h1.symm,h2⟩
 ·rintro⟨o,ho,h1,h2⟩;exact⟨o,ho,(ZdW _ _ _ _).2 ⟨h1.symm,h2⟩⟩
section
variable {h:Hist}
theorem ZeF (hr:Za h=true) {i:Nat} (hi:i<h.ords.length):ZbT h.txs h.ords i=true:=by
 unfold Za at hr;simp only[Bool.and_eq_true,List.all_eq_true,List.mem_range]at hr;exact hr.2 i hi
theorem ZdG (hr:Za h=true):(h.ords.map (·.key)).Pairwise (·<·):=Zgf fun j hj=>by
 rw[List.length_map]at hj;have:=((Zdo hj).1 (ZeF hr hj)).1 j rfl;rw[show(h.ords.map (·.key)).getD (j+1) 0=h.ords[j+1].key by rw[List.getD_eq_getElem?_getD,List.getElem?_map,Qg hj];rfl];exact this
theorem ZbL (hr:Za h=true) {o:HOrd} (ho:o∈h.ords):o.txs.Perm (Zh h.txs o.key):=by
 obtain⟨j,hj,rfl⟩:=List.mem_iff_getElem.1 ho;have:=((Zdo hj).1 (ZeF hr hj)).2.2;rw[Zdm,beq_iff_eq]at this;exact(ZX _).symm.trans (this▸ZX _)
theorem ZcR (hr:Za h=true):(h.txs.map (·.id)).Nodup:=ZbG (ZbH hr)
theorem Zfs (hr:Za h=true) {o:HOrd} (ho:o∈h.ords):o.txs.Nodup:=by
 refine(ZbL hr ho).nodup_iff.2 ?_;unfold Zh;exact(ZcR hr).sublist (List.filter_sublist.map _)
theorem Zbm (hr:Za h=true) {o:HOrd} (ho:o∈h.ords) {x:Int} (hx:x∈o.txs):∃t,Zq h.txs x=some t∧1≤x:=by
 have h1:=(ZbL hr ho).mem_iff.1 hx;unfold Zh at h1;obtain⟨t,ht,rfl⟩:=List.mem_map.1 h1;rw[List.mem_filter,Bool.and_eq_true]at ht;refine⟨t,?_,ZeW hr ht.1⟩;unfold Zq;rw[Zfu hr ht.1];simp[ht.2.1]
theorem ZdF (hr:Za h=true) {o u:HOrd} (ho:o∈h.ords) (hu:u∈h.ords) (hk:o.key=u.key):o=u:=by
 obtain⟨i,hi,rfl⟩:=List.mem_iff_getElem.1 ho;obtain⟨j,hj,rfl⟩:=List.mem_iff_getElem.1 hu;have hp:=List.pairwise_iff_getElem.1 (ZdG hr);rcases Nat.lt_trichotomy i j with h1|h1|h1
 ·have:=hp i j (by simpa using hi) (by simpa using hj) h1;simp only[List.getElem_map]at this;omega
 ·subst h1;rfl
 ·have:=hp j i (by simpa using hj) (by simpa using hi) h1;simp only[List.getElem_map]at this;omega
theorem ZcK {l:List Int} (hn:l.Nodup) {i j:Nat} {x:Int} (h1:l[i]? =some x) (h2:l[j]? =some x):i=j:=by
 obtain⟨hi,e1⟩:=List.getElem?_eq_some_iff.1 h1;obtain⟨hj,e2⟩:=List.getElem?_eq_some_iff.1 h2;exact(List.getElem_inj hn).1 (e1.trans e2.symm)
theorem Zbs (hr:Za h=true) {o:HOrd} (ho:o∈h.ords):(0::o.txs).Nodup:=by
 refine List.nodup_cons.2 ⟨fun hm=> ?_,Zfs hr ho⟩;obtain⟨_,_,h1⟩:=Zbm hr ho hm;omega
theorem Nx.one (hr:Za h=true) {key x y z:Int} (h1:Nx h.ords key x y) (h2:Nx h.ords key x z):y=z:=by
 obtain⟨o,ho,hk,i,hi,hy⟩:=h1;obtain⟨u,hu,hk2,j,hj,hz⟩:=h2;obtain rfl:=ZdF hr ho hu (hk.trans hk2.symm);obtain rfl:=ZcK (Zbs hr ho) hi hj;rw[hy]at hz;exact Option.some.inj hz
theorem Nx.ids (hr:Za h=true) {key x y:Int} (h1:Nx h.ords key x y):(∃t,Zq h.txs y=some t)∧1≤y∧x≠y∧(x=0∨∃t,Zq h.txs x=some t):=by
 obtain⟨o,ho,hk,i,hi,hy⟩:=h1;obtain⟨t,ht,h2⟩:=Zbm hr ho (List.mem_of_getElem? hy);refine⟨⟨t,ht⟩,h2,fun e=> ?_,?_⟩
 ·subst e;have h3:(0::o.txs)[i+1]? =some x:=hy;have:=ZcK (Zbs hr ho) hi h3;omega
 ·cases i with
  |zero=>left;simpa using hi.symm
  |succ i=>
   right
   obtain⟨t2,ht2,_⟩:=Zbm hr ho (List.mem_of_getElem? (show o.txs[i]? =some x from hi));exact⟨t2,ht2⟩
theorem ZiQ (hr:Za h=true) (key x:Int):(ZQ (Zu h.ords) (key,x)=0∧∀y,¬Nx h.ords key x y)∨Nx h.ords key x (ZQ (Zu h.ords) (key,x)):=by
 by_cases hx:∃y,Nx h.ords key x y
 ·obtain⟨y,hy⟩:=hx
  right
  have:ZQ (Zu h.ords) (key,x)=y:=by
   unfold ZQ;refine ZgW (key,x) y _ 0 (fun e he hp=> ?_) (Or.inr ⟨((key,x),y),(ZdX _ _ _ _).2 hy,rfl⟩);obtain⟨p,v⟩:=e;simp only at hp;subst hp;exact Nx.one hr ((ZdX _ _ _ _).1 he) hy
  rw[this];exact hy
 ·left
  refine⟨?_,fun y hy=>hx ⟨y,hy⟩⟩;unfold ZQ;refine ZfM (key,x) _ 0 fun e he hp=>hx ⟨e.2,?_⟩
  obtain⟨p,v⟩:=e;simp only at hp;subst hp;exact(ZdX _ _ _ _).1 he
theorem ZhW (hr:Za h=true) (key x y:Int) (hy:y≠0):ZQ (Zu h.ords) (key,x)=y↔Nx h.ords key x y:=by
 rcases ZiQ hr key x with ⟨h1,h2⟩|h1
 ·rw[h1];exact⟨fun e=>absurd e.symm hy,fun e=>absurd e (h2 y)⟩
 ·constructor
  ·intro e;rw[←e];exact h1
  ·intro e;exact Nx.one hr h1 e
theorem ZhH (hr:Za h=true) {o:HOrd} (ho:o∈h.ords):ZbM h.ords o.key=o.txs:=by
 obtain⟨k,hk,rfl⟩:=List.mem_iff_getElem.1 ho;have hp:=List.pairwise_iff_getElem.1 (ZdG hr)
 have:ZeY h.ords h.ords[k].key=k:=ZlM hk (fun j hj=>by
  have:=hp j k (by simp;omega) (by simpa using hk) hj;simp only[List.getElem_map]at this;rw[beq_eq_false_iff_ne];omega) (by simp)
 unfold ZbM;rw[this,Qg hk]
theorem ZhI {key:Int} (hn:∀o∈h.ords,o.key≠key):ZbM h.ords key=[]:=by
 have:ZeY h.ords key=h.ords.length:=by
  unfold ZeY;rw[List.findIdx_eq_length];intro o ho
  simpa using hn o ho
 unfold ZbM;rw[this,List.getElem?_eq_none (Nat.le_refl _)]
theorem ZkB {l:List Int} (hn:(0::l).Nodup) (x y:Int):Z6 l x=some y↔∃i:Nat,(0::l)[i]? =some x∧l[i]? =some y:=by
 unfold Z6
 by_cases h0:x=0
 ·subst h0;rw[if_pos rfl]
  constructor
  ·intro h;exact⟨0,rfl,h⟩
  ·rintro⟨i,h1,h2⟩;obtain rfl:=ZcK hn h1 (show(0::l)[0]? =some 0 from rfl);exact h2
 ·rw[if_neg h0]
  by_cases hm:x∈l
  ·obtain⟨k,hk,hx⟩:=List.mem_iff_getElem.1 hm
   have hpos:Zax l x<l.length:=by
    unfold Zax;rw[List.findIdx_lt_length];exact⟨x,hm,by simp⟩
   have hget:l[Zax l x]? =some x:=by
    have:=List.findIdx_getElem (p:=(·==x)) (xs:=l) (w:=hpos);rw[beq_iff_eq]at this;rw[Qg hpos];exact congrArg some this
   rw[if_pos hpos]
   constructor
   ·intro h;exact⟨Zax l x+1,hget,h⟩
   ·rintro⟨i,h1,h2⟩;have:=ZcK hn h1 (show(0::l)[Zax l x+1]? =some x from hget);rw[←this];exact h2
  ·have hpos:¬Zax l x<l.length:=by
    unfold Zax;rw[List.findIdx_lt_length];rintro⟨z,hz,e⟩;simp at e;subst e;exact hm hz
   rw[if_neg hpos]
   constructor
   ·intro h;cases h
   ·rintro⟨i,h1,h2⟩
    cases i with
    |zero=>exact absurd (by simpa using h1.symm) h0
    |succ i=>exact absurd (List.mem_of_getElem? (show l[i]? =some x from h1)) hm
theorem Z9 (hr:Za h=true) (key x y:Int):Zbf h.ords key x y=true↔Nx h.ords key x y:=by
 unfold Zbf;rw[beq_iff_eq]
 by_cases hk:∃o∈h.ords,o.key=key
 ·obtain⟨o,ho,rfl⟩:=hk;rw[ZhH hr ho,ZkB (Zbs hr ho)]
  constructor
  ·intro h1;exact⟨o,ho,rfl,h1⟩
  ·rintro⟨u,hu,hk,h1⟩;obtain rfl:=ZdF hr hu ho hk;exact h1
 ·rw[ZhI (fun o ho e=>hk ⟨o,ho,e⟩)]
  constructor
  ·intro h1;unfold Z6 Zax at h1;simp at h1
  ·rintro⟨u,hu,hk2,_⟩;exact absurd ⟨u,hu,hk2⟩ hk
end
end
/- Edges of a history,in plain words:each is counted as often as the document counts it. -/
section
open Go.RowKit
section
variable {β:Type} [DecidableEq β]
theorem Zei (f:HTx→List β) (a:β):∀ts:List HTx,(∀u∈ts,Zn (f u) a=0)→Zn (ts.flatMap f) a=0
 |[],_=>rfl
 |u::ts,h=>by
  rw[List.flatMap_cons,Zaf,h u (List.mem_cons_self ..),Zei f a ts fun x hx=>h x (List.mem_cons_of_mem _ hx)]
theorem Zej (f:HTx→List β) (a:β):∀ts:List HTx,(ts.map (·.id)).Nodup→∀t∈ts,(∀u∈ts,u.id≠t.id→Zn (f u) a=0)→Zn (ts.flatMap f) a=Zn (f t) a
 |[],_,_,ht,_=>by cases ht
 |u::ts,hn,t,ht,h=>by
  rw[List.map_cons,List.nodup_cons]at hn;rw[List.flatMap_cons,Zaf];rcases List.mem_cons.1 ht with rfl|ht
  ·rw[Zei f a ts fun x hx=>h x (List.mem_cons_of_mem _ hx) fun e=>hn.1 (e▸List.mem_map.2 ⟨x,hx,rfl⟩)];rfl
  ·rw[h u (List.mem_cons_self ..) fun e=>hn.1 (e▸List.mem_map.2 ⟨t,ht,rfl⟩),Zej f a ts hn.2 t ht fun x hx=>h x (List.mem_cons_of_mem _ hx)];omega
end
theorem Zhb (id key:Int):∀l:List HOp,Zn (ZaL id l) (id,key)=(l.filter (isW key)).length
 |[]=>rfl
 |o::l=>by
  have ih:=Zhb id key l;unfold ZaL at ih ⊢
  by_cases h:isW key o=true
  ·have h2:(!o.read)=true∧o.key=key:=by unfold isW at h;simpa using h
   rw[List.filter_cons_of_pos (p:=fun o:HOp=> !o.read) h2.1,List.filter_cons_of_pos h,List.map_cons,List.length_cons,←ih];have:=Zaf [(id,o.key)] ((l.filter fun o=> !o.read).map fun o=>(id,o.key)) (id,key);rw[List.singleton_append]at this;rw[this,ZcF,if_pos (by rw[h2.2])];omega
  ·rw[List.filter_cons_of_neg h,←ih]
   by_cases hr:(!o.read)=true
   ·rw[List.filter_cons_of_pos (p:=fun o:HOp=> !o.read) hr,List.map_cons];have:=Zaf [(id,o.key)] ((l.filter fun o=> !o.read).map fun o=>(id,o.key)) (id,key);rw[List.singleton_append]at this;rw[this,ZcF,if_neg (fun e=>h (by unfold isW;rw[hr];simp[(Prod.mk.inj e).2]))];omega
   ·rw[List.filter_cons_of_neg (p:=fun o:HOp=> !o.read) hr]
theorem Zia (id i key:Int) (hne:id≠i) (l:List HOp):Zn (ZaL id l) (i,key)=0:=by
 unfold Zn ZaL;rw[List.length_eq_zero_iff,List.filter_eq_nil_iff];intro x hx;obtain⟨o,_,rfl⟩:=List.mem_map.1 hx;simp[hne]
section
variable {h:Hist}
theorem ZcE (hr:Za h=true) (i:Int):i∈ZC h.txs↔∃t,Zq h.txs i=some t:=by
 unfold ZC;rw[List.mem_map]
 constructor
 ·rintro⟨t,ht,rfl⟩;rw[List.mem_filter]at ht;refine⟨t,?_⟩;unfold Zq;rw[Zfu hr ht.1];simp[ht.2]
 ·rintro⟨t,ht⟩;have h1:=Zaq ht;have h2:=ZaV h1.1;exact⟨t,List.mem_filter.2 ⟨h2.1,h1.2⟩,h2.2⟩
theorem Zed {i:Int} {t:HTx} (ht:Zq h.txs i=some t):t∈h.txs.filter (·.done)∧t.id=i:=by
 have h1:=Zaq ht;have h2:=ZaV h1.1;exact⟨List.mem_filter.2 ⟨h2.1,h1.2⟩,h2.2⟩
theorem Zf0 (hr:Za h=true):((h.txs.filter (·.done)).map (·.id)).Nodup:=(ZcR hr).sublist (List.filter_sublist.map _)
theorem Zdd (hr:Za h=true) {i:Int} {t:HTx} (ht:Zq h.txs i=some t) (key:Int):Zn (Zi h.txs) (i,key)=Zd t.ops key:=by
 obtain⟨h1,rfl⟩:=Zed ht;unfold Zi;rw[Zej (fun t=>ZaL t.id t.ops) (t.id,key) _ (Zf0 hr) t h1 (fun u _ hne=>Zia _ _ _ hne _),Zhb];unfold Zd wrN;rw[List.take_length]
def Zc7 (h:Hist) (o:HOp):Prop:=o.tx=0∨(o.tx∈ZC h.txs∧(Zn (Zi h.txs) (o.tx,o.key):Int)=o.nth)
instance (o:HOp):Decidable (Zc7 h o):=inferInstanceAs (Decidable (_∨_))
theorem ZfN (hr:Za h=true) (o:HOp):Zc7 h o↔ZaC h.txs ⟨o.tx,o.key,o.nth⟩=true:=by
 unfold Zc7 ZaC
 by_cases h0:o.tx=0
 ·simp[h0]
 ·rw[if_neg h0,ZcE hr]
  cases hd:Zq h.txs o.tx with
  |none=>simp[h0]
  |some t=>
   have:=Zdd hr hd o.key;rw[this];simp[h0];exact eq_comm
theorem Zkp (ti:Int) (o:HOp) (e:Edge):Zn (ZH (ZC h.txs) (Zi h.txs) (Zu h.ords) ti o) e=
  (if (o.tx≠ti∧Zc7 h o)∧o.tx≠0∧e=⟨o.tx,ti,2,o.key⟩ then 1 else 0)+if (o.tx≠ti∧Zc7 h o)∧(ZQ (Zu h.ords) (o.key,o.tx)≠0∧ZQ (Zu h.ords) (o.key,o.tx)≠ti)∧e=⟨ti,ZQ (Zu h.ords) (o.key,o.tx),3,o.key⟩ then 1 else 0:=by
 unfold ZH Zc7
 by_cases h1:o.tx=ti
 ·rw[if_pos h1,if_neg (fun h=>h.1.1 h1),if_neg (fun h=>h.1.1 h1),Zbc]
 ·rw[if_neg h1]
  by_cases h2:o.tx≠0∧o.tx∉ZC h.txs
  ·rw[if_pos h2,Zbc,if_neg,if_neg]
   ·rintro⟨⟨_,h3|h3⟩,_⟩
    ·exact h2.1 h3
    ·exact h2.2 h3.1
   ·rintro⟨⟨_,h3|h3⟩,_⟩
    ·exact h2.1 h3
    ·exact h2.2 h3.1
  ·rw[if_neg h2]
   by_cases h3:o.tx≠0∧(Zn (Zi h.txs) (o.tx,o.key):Int)≠o.nth
   ·rw[if_pos h3,Zbc,if_neg,if_neg]
    ·rintro⟨⟨_,h4|h4⟩,_⟩
     ·exact h3.1 h4
     ·exact h3.2 h4.2
    ·rintro⟨⟨_,h4|h4⟩,_⟩
     ·exact h3.1 h4
     ·exact h3.2 h4.2
   ·rw[if_neg h3,Zaf]
    have hL:o.tx=0∨(o.tx∈ZC h.txs∧(Zn (Zi h.txs) (o.tx,o.key):Int)=o.nth):=by
     by_cases h0:o.tx=0
     ·exact Or.inl h0
     ·exact Or.inr ⟨Classical.byContradiction fun hh=>h2 ⟨h0,hh⟩,Classical.byContradiction fun hh=>h3 ⟨h0,hh⟩⟩
    congr 1
    ·by_cases h0:o.tx≠0
     ·rw[if_pos h0,ZcF]
      by_cases he:e=⟨o.tx,ti,2,o.key⟩
      ·rw[if_pos he,if_pos ⟨⟨h1,hL⟩,h0,he⟩]
      ·rw[if_neg he,if_neg (fun hh=>he hh.2.2)]
     ·rw[if_neg h0,Zbc,if_neg (fun hh=>h0 hh.2.1)]
    ·by_cases h0:ZQ (Zu h.ords) (o.key,o.tx)≠0∧ZQ (Zu h.ords) (o.key,o.tx)≠ti
     ·rw[if_pos h0,ZcF]
      by_cases he:e=⟨ti,ZQ (Zu h.ords) (o.key,o.tx),3,o.key⟩
      ·rw[if_pos he,if_pos ⟨⟨h1,hL⟩,h0,he⟩]
      ·rw[if_neg he,if_neg (fun hh=>he hh.2.2)]
     ·rw[if_neg h0,Zbc,if_neg (fun hh=>h0 hh.2.1)]
theorem Zfd (f:HOp→List Edge) (e:Edge) (p q:HOp→Bool):∀l:List HOp,(∀o∈l,(if q o=true then Zn (f o) e else 0)=if p o=true then 1 else 0)→Zn ((l.filter q).flatMap f) e=l.countP p
 |[],_=>rfl
 |o::l,hh=>by
  have ih:=Zfd f e p q l fun x hx=>hh x (List.mem_cons_of_mem _ hx)
  have h1:=hh o (List.mem_cons_self ..);rw[List.countP_cons]
  by_cases hq:q o=true
  ·rw[List.filter_cons_of_pos hq,List.flatMap_cons,Zaf,ih];rw[if_pos hq]at h1;omega
  ·rw[List.filter_cons_of_neg hq,ih];rw[if_neg hq]at h1;omega
theorem Zek (f:HOp→List Edge) (e:Edge) (q:HOp→Bool) (l:List HOp) (hh:∀o∈l,q o=true→Zn (f o) e=0):Zn ((l.filter q).flatMap f) e=0:=by
 rw[Zfd f e (fun _=>false) q l (fun o ho=>by
  by_cases hq:q o=true
  ·rw[if_pos hq,hh o ho hq];rfl
  ·rw[if_neg hq];rfl)]
 simp
theorem Za8 (cnt:Int→Bool) (LD:List Int) (LW:List (Int×Int)) (LN:List ((Int×Int)×Int)) (e:Edge) (hh:∀u∈h.txs.filter (·.done),∀o∈u.ops,Zn (ZH LD LW LN u.id o) e=0):Zn (rdL cnt LD LW LN h.txs) e=0:=by
 unfold rdL;exact Zei _ _ _ fun u hu=>Zek _ _ _ _ fun o ho _=>hh u hu o ho
theorem Zes (hr:Za h=true) (cnt:Int→Bool) (LD:List Int) (LW:List (Int×Int)) (LN:List ((Int×Int)×Int)) (e:Edge) {t:HTx} (ht:t∈h.txs.filter (·.done)) (hh:∀u∈h.txs.filter (·.done),u.id≠t.id→∀o∈u.ops,Zn (ZH LD LW LN u.id o) e=0)
  (p:HOp→Bool) (hp:∀o∈t.ops,(if (o.read&&cnt o.key)=true then Zn (ZH LD LW LN t.id o) e else 0)=if p o=true then 1 else 0):Zn (rdL cnt LD LW LN h.txs) e=t.ops.countP p:=by
 unfold rdL;rw[Zej (fun t=>rdO cnt LD LW LN t.id t.ops) e _ (Zf0 hr) t ht (fun u hu hne=>Zek _ _ _ _ fun o ho _=>hh u hu hne o ho)];exact Zfd _ _ _ _ _ hp
theorem Zcj (cnt:Int→Bool) (e:Edge) (hr:Za h=true):e∈wwL cnt h.ords↔e.k=1∧cnt e.key=true∧e.f≠0∧Nx h.ords e.key e.f e.t:=by
 rw[Zm2]
 constructor
 ·rintro⟨h1,h2,o,ho,hk,i,h3,h4⟩;refine⟨h1,h2,fun e0=> ?_,o,ho,hk,i+1,h3,h4⟩;obtain⟨_,_,h5⟩:=Zbm hr ho (List.mem_of_getElem? h3);omega
 ·rintro⟨h1,h2,h0,o,ho,hk,i,h3,h4⟩;refine⟨h1,h2,o,ho,hk,?_⟩
  cases i with
  |zero=>exact absurd (by simpa using h3.symm) h0
  |succ i=>exact⟨i,h3,h4⟩
theorem Zd9 (hr:Za h=true) {t:HTx} (ht:Zq h.txs 0=some t):False:=by
 have h1:=ZaV (Zaq ht).1;have:=ZeW hr h1.1;omega
theorem ZiX (hr:Za h=true) (cnt:Int→Bool) (e:Edge):ZjG cnt h.txs h.ords e=if cnt e.key=true then Zf h e else 0:=by
 obtain⟨ef,et,ek,ey⟩:=e;unfold ZjG;have hro:=Zkp (h:=h)
 by_cases k1:ek=1
 ·subst k1;rw[Za8 (h:=h) cnt _ _ _ _ (fun u _ o _=>by rw[hro,if_neg (fun hh=>by have:=congrArg Edge.k hh.2.2;simp at this),if_neg (fun hh=>by have:=congrArg Edge.k hh.2.2;simp at this)])];unfold Zay;rw[Nat.add_zero]
  by_cases hc:cnt ey=true
  ·rw[if_pos hc]
   by_cases hm:(⟨ef,et,1,ey⟩:Edge)∈wwL cnt h.ords
   ·rw[if_pos hm];obtain⟨_,_,h0,hx⟩:=(Zcj cnt _ hr).1 hm;simp only at h0 hx;obtain⟨⟨t,ht⟩,h2,h3,h4⟩:=Nx.ids hr hx;obtain⟨a,ha⟩:=h4.resolve_left h0;unfold Zf;simp only[ha,ht,if_neg h3,if_true,(Z9 hr ey ef et).2 hx]
   ·rw[if_neg hm]
    symm
    unfold Zf
    cases ha:Zq h.txs ef with
    |none=>rfl
    |some a=>
     cases hb:Zq h.txs et with
     |none=>rfl
     |some b=>
      simp only
      split
      ·rfl
      ·simp only[if_true];rw[if_neg];intro hn;have hx:=(Z9 hr ey ef et).1 hn;refine hm ((Zcj cnt _ hr).2 ⟨rfl,hc,fun e0=> ?_,hx⟩);simp only at e0;subst e0;exact Zd9 hr ha
  ·rw[if_neg hc,if_neg (fun hm=>hc ((Zcj cnt _ hr).1 hm).2.1)]
 ·have hw:Zay (wwL cnt h.ords) ⟨ef,et,ek,ey⟩=0:=by
   unfold Zay;rw[if_neg (fun hm=>k1 ((Zcj cnt _ hr).1 hm).1)]
  rw[hw,Nat.zero_add]
  by_cases k2:ek=2
  ·subst k2
   have hz:∀u∈h.txs.filter (·.done),u.id≠et→∀o∈u.ops,Zn (ZH (ZC h.txs) (Zi h.txs) (Zu h.ords) u.id o) (⟨ef,et,2,ey⟩:Edge)=0:=fun u _ hne o _=>by
    rw[hro,if_neg (fun hh=>hne (congrArg Edge.t hh.2.2).symm),if_neg (fun hh=>by have:=congrArg Edge.k hh.2.2;simp at this)]
   cases hb:Zq h.txs et with
   |none=>
    rw[Za8 (h:=h) cnt _ _ _ _ (fun u hu o ho=>hz u hu (fun e=>by
     have:=(ZcE hr et).1 (by unfold ZC;exact List.mem_map.2 ⟨u,hu,e⟩);rw[hb]at this;obtain⟨_,h9⟩:=this
     cases h9) o ho)]
    unfold Zf;simp only[hb]
    cases Zq h.txs ef<;>simp
   |some b=>
    obtain⟨hbm,hbi⟩:=Zed hb;have hz2:∀u∈h.txs.filter (·.done),u.id≠b.id→∀o∈u.ops,Zn (ZH (ZC h.txs) (Zi h.txs) (Zu h.ords) u.id o) (⟨ef,et,2,ey⟩:Edge)=0:=fun u hu hne=>hz u hu (by rw[←hbi];exact hne)
    cases ha:Zq h.txs ef with
    |none=>
     rw[Za8 (h:=h) cnt _ _ _ _ (fun u hu o ho=>by
      rw[hro,if_neg (c:=_∧o.tx≠0∧_),if_neg (fun hh=>by have:=congrArg Edge.k hh.2.2;simp at this)];rintro⟨⟨_,h3⟩,h4,h5⟩;rcases h3 with h3|h3
      ·exact h4 h3
      ·obtain⟨_,h6⟩:=(ZcE hr _).1 h3.1;have e1:=congrArg Edge.f h5;simp only at e1;rw[←e1,ha]at h6
       cases h6)]
     unfold Zf;simp[ha]
    |some a=>
     by_cases hft:ef=et
     ·rw[Za8 (h:=h) cnt _ _ _ _ (fun u hu o ho=>by
       rw[hro,if_neg (c:=_∧o.tx≠0∧_),if_neg (fun hh=>by have:=congrArg Edge.k hh.2.2;simp at this)];rintro⟨⟨h3,_⟩,h4,h5⟩;have e1:=congrArg Edge.f h5;have e2:=congrArg Edge.t h5;simp only at e1 e2;exact h3 (by rw[←e1,←e2,hft]))]
      unfold Zf;simp[hb,hft]
     ·by_cases hc:cnt ey=true
      ·rw[if_pos hc,Zes (h:=h) hr cnt _ _ _ _ hbm hz2 (p2 ef ey (Zd a.ops ey)) (fun o ho=> ?_)]
       ·unfold Zf;simp only[ha,hb,if_neg hft];rfl
       ·rw[hro,if_neg (c:=_∧(_∧_)∧_) (fun hh=>by have:=congrArg Edge.k hh.2.2;simp at this),Nat.add_zero]
        by_cases hp:p2 ef ey (Zd a.ops ey) o=true
        ·rw[if_pos hp];unfold p2 at hp;simp only[Bool.and_eq_true,beq_iff_eq]at hp;obtain⟨⟨⟨q1,q2⟩,q3⟩,q4⟩:=hp;rw[if_pos (by rw[q1,q2,hc];rfl),if_pos];refine⟨⟨by rw[q3,hbi];exact hft,Or.inr ⟨by rw[q3];exact(ZcE hr _).2 ⟨a,ha⟩,?_⟩⟩,fun e0=> ?_,by rw[q3,q2,hbi]⟩
         ·rw[q3,q2,Zdd hr ha];exact q4.symm
         ·rw[q3]at e0;subst e0;exact Zd9 hr ha
        ·rw[if_neg hp]
         split
         ·rename_i hrd
          rw[if_neg];rintro⟨⟨h3,h4⟩,h5,h6⟩;have e1:=congrArg Edge.f h6;have e2:=congrArg Edge.key h6;simp only at e1 e2
          apply hp
          unfold p2;rcases h4 with h4|⟨h4,h7⟩
          ·exact absurd h4 h5
          ·rw[←e1,←e2,Zdd hr ha]at h7;rw[Bool.and_eq_true]at hrd;simp[hrd.1,←e1,←e2,h7]
         ·rfl
      ·rw[if_neg hc,Zes (h:=h) hr cnt _ _ _ _ hbm hz2 (fun _=>false) (fun o ho=>by
        by_cases hq:(o.read&&cnt o.key)=true
        ·rw[if_pos hq,hro,if_neg,if_neg (fun hh=>by have:=congrArg Edge.k hh.2.2;simp at this)]
         ·rfl
         ·rintro⟨_,_,h6⟩;have e2:=congrArg Edge.key h6;simp only at e2;rw[Bool.and_eq_true,←e2]at hq;exact hc hq.2
        ·rw[if_neg hq];rfl)]
       simp
  ·by_cases k3:ek=3
   ·subst k3
    have hz:∀u∈h.txs.filter (·.done),u.id≠ef→∀o∈u.ops,Zn (ZH (ZC h.txs) (Zi h.txs) (Zu h.ords) u.id o) (⟨ef,et,3,ey⟩:Edge)=0:=fun u _ hne o _=>by
     rw[hro,if_neg (c:=_∧o.tx≠0∧_) (fun hh=>by have:=congrArg Edge.k hh.2.2;simp at this),if_neg (fun hh=>hne (congrArg Edge.f hh.2.2).symm)]
    cases ha:Zq h.txs ef with
    |none=>
     rw[Za8 (h:=h) cnt _ _ _ _ (fun u hu o ho=>hz u hu (fun e=>by
      have:=(ZcE hr ef).1 (by unfold ZC;exact List.mem_map.2 ⟨u,hu,e⟩);rw[ha]at this;obtain⟨_,h9⟩:=this
      cases h9) o ho)]
     unfold Zf;simp[ha]
    |some a=>
     obtain⟨ham,hai⟩:=Zed ha;have hz2:∀u∈h.txs.filter (·.done),u.id≠a.id→∀o∈u.ops,Zn (ZH (ZC h.txs) (Zi h.txs) (Zu h.ords) u.id o) (⟨ef,et,3,ey⟩:Edge)=0:=fun u hu hne=>hz u hu (by rw[←hai];exact hne)
     cases hb:Zq h.txs et with
     |none=>
      rw[Za8 (h:=h) cnt _ _ _ _ (fun u hu o ho=>by
       rw[hro,if_neg (c:=_∧o.tx≠0∧_) (fun hh=>by have:=congrArg Edge.k hh.2.2;simp at this),if_neg];rintro⟨_,⟨h3,h4⟩,h5⟩;have e1:=congrArg Edge.t h5;simp only at e1;rcases ZiQ hr o.key o.tx with h6|h6
       ·exact h3 h6.1
       ·obtain⟨⟨_,h7⟩,_⟩:=Nx.ids hr h6;rw[←e1,hb]at h7
        cases h7)]
      unfold Zf;simp[ha,hb]
     |some b=>
      by_cases hft:ef=et
      ·rw[Za8 (h:=h) cnt _ _ _ _ (fun u hu o ho=>by
        rw[hro,if_neg (c:=_∧o.tx≠0∧_) (fun hh=>by have:=congrArg Edge.k hh.2.2;simp at this),if_neg];rintro⟨_,⟨h3,h4⟩,h5⟩;have e1:=congrArg Edge.t h5;have e2:=congrArg Edge.f h5;simp only at e1 e2;exact h4 (by rw[←e1,←e2,hft]))]
       unfold Zf;simp[hb,hft]
      ·by_cases hc:cnt ey=true
       ·rw[if_pos hc,Zes (h:=h) hr cnt _ _ _ _ ham hz2 (p3 h a.id ey et) (fun o ho=> ?_)]
        ·unfold Zf;simp only[ha,hb,if_neg hft];rfl
        ·rw[hro,if_neg (c:=_∧o.tx≠0∧_) (fun hh=>by have:=congrArg Edge.k hh.2.2;simp at this),Nat.zero_add];have het:et≠0:=fun e0=>by subst e0;exact Zd9 hr hb
         by_cases hp:p3 h a.id ey et o=true
         ·rw[if_pos hp];unfold p3 at hp;simp only[Bool.and_eq_true,beq_iff_eq,Bool.not_eq_true',beq_eq_false_iff_ne]at hp;obtain⟨⟨⟨⟨q1,q2⟩,q3⟩,q4⟩,q5⟩:=hp;have hl:=(ZhW hr ey o.tx et het).2 ((Z9 hr _ _ _).1 q5);rw[if_pos (by rw[q1,q2,hc];rfl),if_pos];refine⟨⟨q3,(ZfN hr o).2 q4⟩,⟨by rw[q2,hl];exact het,by rw[q2,hl,hai];exact fun e=>hft e.symm⟩,by rw[q2,hl,hai]⟩
         ·rw[if_neg hp]
          split
          ·rename_i hrd
           rw[if_neg];rintro⟨⟨h3,h4⟩,⟨h5,h6⟩,h7⟩;have e1:=congrArg Edge.t h7;have e2:=congrArg Edge.key h7;simp only at e1 e2
           apply hp
           unfold p3;rw[Bool.and_eq_true]at hrd;have h8:=(ZfN hr o).1 h4;have h9:Zbf h.ords ey o.tx et=true:=(Z9 hr _ _ _).2 ((ZhW hr ey o.tx et het).1 (by rw[e2];exact e1.symm));simp[hrd.1,←e2,h3,h9];rw[e2];exact h8
          ·rfl
       ·rw[if_neg hc,Zes (h:=h) hr cnt _ _ _ _ ham hz2 (fun _=>false) (fun o ho=>by
         by_cases hq:(o.read&&cnt o.key)=true
         ·rw[if_pos hq,hro,if_neg (c:=_∧o.tx≠0∧_) (fun hh=>by have:=congrArg Edge.k hh.2.2;simp at this),if_neg]
          ·rfl
          ·rintro⟨_,_,h6⟩;have e2:=congrArg Edge.key h6;simp only at e2;rw[Bool.and_eq_true,←e2]at hq;exact hc hq.2
         ·rw[if_neg hq];rfl)]
        simp
   ·rw[Za8 (h:=h) cnt _ _ _ _ (fun u _ o _=>by rw[hro,if_neg (fun hh=>k2 (congrArg Edge.k hh.2.2)),if_neg (fun hh=>k3 (congrArg Edge.k hh.2.2))])];unfold Zf
    cases Zq h.txs ef<;>cases Zq h.txs et<;>simp[k1,k2,k3]
end
end
end Go.Proofs.YtblplapkdmhikaaGreat
