/- Deltas: copies (delta.txs, orders). -/
import Derived.Lib.AppendZerosOnto
import Derived.Test.YtblplapkdmhikaaGreatDbbj
import Derived.Test.YtblplapkdmhikaaGreatDbbx
namespace Go.Proofs.YtblplapkdmhikaaGreat
set_option linter.unusedVariables false
set_option linter.unusedSimpArgs false
section
open Go.RowKit
def txP (t:HTx):Int×Bool×List HOp:=(t.id,t.done,t.ops)
def orP (o:HOrd):Int×List Int:=(o.key,o.txs)
def TxsY (F:Nat→Prop) (w:World) (A:Option Addr) (l:List HTx):Prop:=Recs F w A 3 (l.map HTx.cells)∧∀t∈l,t.lies F w
def OrsY (F:Nat→Prop) (w:World) (A:Option Addr) (l:List HOrd):Prop:=Recs F w A 2 (l.map HOrd.cells)∧∀o∈l,o.lies F w
theorem HTx.lies.weak {F G:Nat→Prop} {w:World} {t:HTx} (h:t.lies F w) (hg:∀i,i<w.heap.size→F i→G i):t.lies G w:=⟨Recs.weak h.1 hg,h.2⟩
theorem HOrd.lies.weak {F G:Nat→Prop} {w:World} {t:HOrd} (h:t.lies F w) (hg:∀i,i<w.heap.size→F i→G i):t.lies G w:=⟨Ints.weak h.1 hg,h.2⟩
section
variable {F G S:Nat→Prop} {w w':World} {A:Option Addr}
theorem TxsY.upd {l:List HTx} (h:TxsY F w A l) (k:Upd S w w') (hn:∀i,F i→¬S i):TxsY F w' A l:=⟨Recs.upd h.1 k hn,fun t ht=>(h.2 t ht).upd k hn⟩
theorem OrsY.upd {l:List HOrd} (h:OrsY F w A l) (k:Upd S w w') (hn:∀i,F i→¬S i):OrsY F w' A l:=⟨Recs.upd h.1 k hn,fun t ht=>(h.2 t ht).upd k hn⟩
theorem TxsY.weak {l:List HTx} (h:TxsY F w A l) (hg:∀i,i<w.heap.size→F i→G i):TxsY G w A l:=⟨Recs.weak h.1 hg,fun t ht=>(h.2 t ht).weak hg⟩
theorem OrsY.weak {l:List HOrd} (h:OrsY F w A l) (hg:∀i,i<w.heap.size→F i→G i):OrsY G w A l:=⟨Recs.weak h.1 hg,fun t ht=>(h.2 t ht).weak hg⟩
end
set_option maxRecDepth 100000 in
set_option maxHeartbeats 2000000 in
theorem Zn4 {F:Nat→Prop} {w:World} {A:Option Addr} {c:Nat} {l:List HTx} (H:TxsY F w A l) (hl:l.length≤1000000):
  Calls Tryz.prog 169 #[.slice A l.length c] w fun e w'=>∃A' c' l',e= .returned (.slice A' l'.length c')∧l'.map txP=l.map txP∧TxsY (fun i=>w.heap.size≤i) w' A' l'∧Upd No w w':=by
 have HH:=Qh H;clear H
 go_enter Tryz.func169,Tryz.ntmps169
 go_wp2
 go_loopg [3,8] l.length (fun gk s i wr=>∃(k:Nat) (A5:Option Addr) (c5:Nat) (xs:List HTx),k+gk=l.length∧i= .int .i64 (k:Int)∧s= .slice A5 xs.length c5∧Hid (xs.map txP=(l.take k).map txP)∧Hid (wr.ownsRow w.heap.size 81 3 (.slice A5 xs.length c5) xs.length (txF xs))∧Hid (∀t∈xs,t.lies (fun i=>w.heap.size≤i∧¬Own (.slice A5 xs.length c5) i) wr)∧Upd No w wr)
 case atStart=>exact⟨0,none,0,[],by omega,rfl,rfl,Qh rfl,Qh (World.ownsRow_nil _ _ _ _),Qh (fun t ht=>by cases ht),Upd.refl _ _⟩
 case round=>
  obtain⟨k,A5,c5,xs,hgk,rfl,rfl,hs,hown,hlx,hu⟩:=hrel
  have hxl:xs.length≤1000000:=by
   have h1:=congrArg List.length hs.out;rw[List.length_map,List.length_map,List.length_take]at h1;omega
  by_cases hlt:k<l.length
  ·obtain⟨ad,hAd,q0,q1,q2⟩:=Zfk (Recs.upd HH.out.1 hu (fun _ _=>id)) hlt;have htx:=(HH.out.2 l[k] (List.getElem_mem hlt)).upd hu (fun _ _=>id);obtain⟨x,hx⟩:∃x,l[k]=x:=⟨_,rfl⟩;simp only[hx]at q0 q1 q2 htx;subst hAd;have HS:=Qh (show(xs.map txP++[txP x])=(l.take (k+1)).map txP by rw[List.take_succ_eq_append_getElem hlt,List.map_append,hs.out,hx];rfl);have HTX:=Qh htx;have b2:(k:Int)<(l.length:Int):=by omega
   have b1:(0:Int)≤(k:Int):=Qn _;clear hx htx;obtain⟨wx,hwx⟩:∃wx,wr.alloc (.cells #[.int .i64 x.id,.bool x.done,.slice x.A x.ops.length x.c] 81)=wx:=⟨_,rfl⟩;have ux:Upd No wr wx:=by rw[←hwx];exact(Upd.refl No wr).alloc _
   have bX:Blk wx wr.heap.size 81 [.int .i64 x.id,.bool x.done,.slice x.A x.ops.length x.c]:=by rw[←hwx];exact Blk.new wr _ _
   have hzx:wx.heap.size=wr.heap.size+1:=by rw[←hwx];simp
   have d2:wx.cell? ⟨wr.heap.size,2,none⟩=some (.slice x.A x.ops.length x.c):=bX.cell 2;have CC:=Qh (Zky _ wx x.A x.c x.ops (HOps.upd HTX.out.1 ux (fun _ _=>id)) HTX.out.2.2.1);have HUX:=Qh ux;have BX:=Qh bX;clear ux bX
   go_wp2_with fail
   refine(CC.out).mono ?_;rintro e w1 ⟨A1,c1,rfl,hc1,ho1,hu1⟩;have b1x:=BX.out.upd hu1 id;have g2:=b1x.cell 2;have k2:=b1x.free 2;simp only[Qz,Qs]at g2;obtain⟨w2,hw2⟩:∃w2,w1.setCell ⟨wr.heap.size,2,none⟩ (.slice A1 x.ops.length c1)=w2:=⟨_,rfl⟩;have hu2:Upd (One wr.heap.size) w1 w2:=by rw[←hw2];exact(Upd.refl (One wr.heap.size) w1).setCell (p:=⟨wr.heap.size,2,none⟩) (.inl (show One wr.heap.size wr.heap.size from rfl)) _
   have b3:=b1x.set_ 2 (.slice A1 x.ops.length c1);simp only[List.set_cons_zero,List.set_cons_succ]at b3;rw[hw2]at b3;have e0:=b3.cell 0;have e1:=b3.cell 1;have e2:=b3.cell 2;simp only[Qz,Qs]at e0 e1 e2;have hz1:=hu1.size;have hz2:=hu2.size;have hz0:=hu.size;have HU2:=Qh (show Upd No w w2 from(hu.trans (HUX.out.trans hu1)).then_ hu2 (fun i e=> .inr (by cases e;exact hz0)));have HO2:=Qh (Zb (Zb hown.out (HUX.out.trans hu1) (fun _ _=>id)) hu2 (fun i e e2=>by have:=(hown.out.lt i e).2;cases e2;omega));have HL2:=Qh (show∀t∈xs,t.lies (fun i=>(w.heap.size≤i∧¬Own (.slice A5 xs.length c5) i)∧i<wr.heap.size) w2 from fun t ht=>(((hlx.out t ht).weak (G:=fun i=>(w.heap.size≤i∧¬Own (.slice A5 xs.length c5) i)∧i<wr.heap.size) (fun i hi h=>⟨h,hi⟩)).upd (HUX.out.trans hu1) (fun _ _=>id)).upd hu2 (fun i h e=>by cases e;omega));have HN2:=Qh (show(⟨x.id,x.done,x.ops,A1,c1⟩:HTx).lies (fun i=>wr.heap.size<i) w2 from⟨HOps.upd (Recs.weak ho1 (fun i _ h=>show wr.heap.size<i by omega)) hu2 (fun i h e=>by cases e;omega),hc1,HTX.out.2.2⟩);have HLT:=Qh hown.out.lt;clear hown hlx hu1 hu2 ho1 b1x b3 hc1
   go_wp2_with (at_builtin;refine Zag rfl rfl ZeU (v:= .slice A5 xs.length c5) (n:=xs.length) (xs:=txF xs) (cells:=[.int .i64 x.id,.bool x.done,.slice A1 x.ops.length c1]) (by rfl) rfl HO2.out rfl rfl (by omega) (by omega) (by omega) ?_;intro g6 c6 w6 hown6 hu6 hg6 hlt6)
   go_roundg (gk-1)
   case measure=>omega
   case rel=>
    have hl1:(xs++[(⟨x.id,x.done,x.ops,A1,c1⟩:HTx)]).length=xs.length+1:=by simp
    have hg7:∀i,Own (.slice (some ⟨g6,0,none⟩) (xs.length+1) c6) i→Own (.slice A5 xs.length c5) i∨w2.heap.size≤i:=fun i e=>by
     cases e
     exact hg6
    refine⟨k+1,some ⟨g6,0,none⟩,c6,xs++[⟨x.id,x.done,x.ops,A1,c1⟩],by omega,by go_num,by rw[hl1],Qh (by rw[List.map_append,←HS.out];rfl),Qh (by rw[hl1,ZeR];exact hown6),Qh (fun t ht=> ?_),HU2.out.then_ hu6 (fun i e=>Or.inr (HO2.out.lt i e).1)⟩;rw[hl1];rcases List.mem_append.1 ht with ht|ht
    ·exact((HL2.out t ht).upd hu6 (fun i h e=>h.1.2 e)).weak (fun i _ h=>⟨h.1.1,fun e=>(hg7 i e).elim h.1.2 (fun h2=>by have:=h.2;omega)⟩)
    ·rw[List.mem_singleton.1 ht];exact((HN2.out.weak (G:=fun i=>wr.heap.size<i∧i<w2.heap.size) (fun i hi h=>⟨h,hi⟩)).upd hu6 (fun i h e=>by have:=(HLT.out i e).2;omega)).weak (fun i _ h=>⟨by omega,fun e=>(hg7 i e).elim (fun h2=>by have:=(HLT.out i h2).2;omega) (fun h2=>by omega)⟩)
  ·obtain rfl:k=l.length:=by omega
   have HS:=Qh (show xs.map txP=l.map txP by rw[hs.out,List.take_length]);have HR:=Qh (Recs.weak (G:=fun i=>w.heap.size≤i) (Recs.of_own Zhx (by omega) hown.out) (fun i _ e=>(hown.out.lt i e).1));clear hown;go_wp2
   go_ret
   exact⟨A5,c5,xs,rfl,HS.out,⟨HR.out,fun t ht=>(hlx.out t ht).weak (fun _ _ h=>h.1)⟩,hu⟩
set_option maxRecDepth 100000 in
set_option maxHeartbeats 2000000 in
theorem Zi4 {F:Nat→Prop} {w:World} {A:Option Addr} {c:Nat} {l:List HOrd} (H:OrsY F w A l) (hl:l.length≤1000000):
  Calls Tryz.prog 170 #[.slice A l.length c] w fun e w'=>∃A' c' l',e= .returned (.slice A' l'.length c')∧l'.map orP=l.map orP∧OrsY (fun i=>w.heap.size≤i) w' A' l'∧Upd No w w':=by
 have HH:=Qh H;clear H
 go_enter Tryz.func170,Tryz.ntmps170
 go_wp2
 go_loopg [3,8] l.length (fun gk s i wr=>∃(k:Nat) (A5:Option Addr) (c5:Nat) (xs:List HOrd),k+gk=l.length∧i= .int .i64 (k:Int)∧s= .slice A5 xs.length c5∧Hid (xs.map orP=(l.take k).map orP)∧Hid (wr.ownsRow w.heap.size 100 2 (.slice A5 xs.length c5) xs.length (orF xs))∧Hid (∀t∈xs,t.lies (fun i=>w.heap.size≤i∧¬Own (.slice A5 xs.length c5) i) wr)∧Upd No w wr)
 case atStart=>exact⟨0,none,0,[],by omega,rfl,rfl,Qh rfl,Qh (World.ownsRow_nil _ _ _ _),Qh (fun t ht=>by cases ht),Upd.refl _ _⟩
 case round=>
  obtain⟨k,A5,c5,xs,hgk,rfl,rfl,hs,hown,hlx,hu⟩:=hrel
  have hxl:xs.length≤1000000:=by
   have h1:=congrArg List.length hs.out;rw[List.length_map,List.length_map,List.length_take]at h1;omega
  by_cases hlt:k<l.length
  ·obtain⟨ad,hAd,q0,q1⟩:=Zeu (Recs.upd HH.out.1 hu (fun _ _=>id)) hlt;have hm:=HH.out.2 l[k] (List.getElem_mem hlt);obtain⟨x,hx⟩:∃x,l[k]=x:=⟨_,rfl⟩;simp only[hx]at q0 q1 hm;have htx:x.lies (fun i=>i<w.heap.size) wr:=(hm.weak (G:=fun i=>i<w.heap.size) (fun i h _=>h)).upd hu (fun _ _=>id);subst hAd;have HS:=Qh (show(xs.map orP++[orP x])=(l.take (k+1)).map orP by rw[List.take_succ_eq_append_getElem hlt,List.map_append,hs.out,hx];rfl);have HTX:=Qh htx;have b2:(k:Int)<(l.length:Int):=by omega
   have b1:(0:Int)≤(k:Int):=Qn _;clear hx htx hm;obtain⟨wx,hwx⟩:∃wx,wr.alloc (.cells #[.int .i64 x.key,.slice x.A x.txs.length x.c] 100)=wx:=⟨_,rfl⟩;have ux:Upd No wr wx:=by rw[←hwx];exact(Upd.refl No wr).alloc _
   have bX:Blk wx wr.heap.size 100 [.int .i64 x.key,.slice x.A x.txs.length x.c]:=by rw[←hwx];exact Blk.new wr _ _
   have hzx:wx.heap.size=wr.heap.size+1:=by rw[←hwx];simp
   have HO:=Qh (Zb hown.out ux (fun _ _=>id));have HLT:=Qh hown.out.lt;have hnO:¬Own (.slice A5 xs.length c5) wr.heap.size:=fun e=>by have:=(HLT.out _ e).2;omega
   have d0:∀W,Upd (Own (.slice A5 xs.length c5)) wx W→W.cell? ⟨wr.heap.size,0,none⟩=some (.int .i64 x.key):=fun W u=>(bX.upd u hnO).cell 0
   have d1:∀W,Upd (Own (.slice A5 xs.length c5)) wx W→W.cell? ⟨wr.heap.size,1,none⟩=some (.slice x.A x.txs.length x.c):=fun W u=>(bX.upd u hnO).cell 1
   have CC:=Qh (fun W (u:Upd (Own (.slice A5 xs.length c5)) wx W)=>ZhZ _ W x.A x.c x.txs ((HTX.out.1.upd ux (fun _ _=>id)).upd u (fun i h e=>by have:=(HLT.out i e).1;omega)) HTX.out.2.2.1);have HUX:=Qh (hu.trans ux);have HL:=Qh (show∀t∈xs,t.lies (fun i=>(w.heap.size≤i∧¬Own (.slice A5 xs.length c5) i)∧i<wr.heap.size) wx from fun t ht=>((hlx.out t ht).weak (G:=fun i=>(w.heap.size≤i∧¬Own (.slice A5 xs.length c5) i)∧i<wr.heap.size) (fun i hi h=>⟨h,hi⟩)).upd ux (fun _ _=>id));have hz0:=hu.size;have hxz:Upd (Own (.slice A5 xs.length c5)) wx wx:=Upd.refl _ _;clear hown hlx ux bX;go_wp2;refine wp_region_noPanic ?_;refine wp_region_held_drew (S:=(fun W'=>Upd (Own (.slice A5 xs.length c5)) wx W')) (by kernel_rfl) ?_ (fun hHeld=> ?_)
   ·(first|exact hxz.drew|exact hHeld|exact hHeld.noR hu4|exact hHeld.alloc _|exact hU6)
   refine wpK 0 rfl ?_;refine wpK 1 rfl ?_;refine wpK 2 rfl ?_;refine wpK 3 rfl ?_;refine wpK 4 rfl ?_;refine wpR [5] ?_;refine wpC rfl (fun K hK=> ?_) AllReadyH.nil;go_simp
   (first
  |(go_at_call 157;refine(CC.out _ hHeld).mono ?_;rintro e w4 ⟨A4,c4,rfl,ho4,hu4⟩;have ho5:=Zb HO.out hu4.of_drew (fun _ _=>id);have hz4:=hu4.of_drew.size))
   try (go_wp2_with fail)
   refine hK.out _ _ ?_ (fun hHeld=> ?_)
   ·(first|exact hxz.drew|exact hHeld|exact hHeld.noR hu4|exact hHeld.alloc _|exact hU6)
   clear hK K
   try simp only[Act.put,sT,sS,sZ]
   refine wpK 6 rfl ?_;refine wpR [7] ?_;refine wpC rfl (fun K hK=> ?_) AllReadyH.nil;go_simp;refine hK.out _ _ ?_ (fun hHeld=> ?_)
   ·(first|exact hxz.drew|exact hHeld|exact hHeld.noR hu4|exact hHeld.alloc _|exact hU6)
   clear hK K
   try simp only[Act.put,sT,sS,sZ]
   refine wpR [8] ?_;refine wpC rfl (fun K hK=> ?_) AllReadyH.nil
   (first
  |(refine Zb1 (by rfl) (by rfl) ZaW (v:= .slice A5 xs.length c5) (n:=xs.length) (xs:=orF xs) (cells:=[.int .i64 x.key,.slice A4 x.txs.length c4]) (by rfl) (by rfl) (by exact ho5.alloc _) rfl (by exact ZbO) (by rfl) (by omega) (by omega) (by simp;omega) ?_;intro g6 c6 w6 hown6 hu6 hg6 hlt6;have hU6:Upd (Own (.slice A5 xs.length c5)) wx w6:=hHeld.trans hu6))
   refine hK.out _ _ ?_ (fun hHeld=> ?_)
   ·(first|exact hxz.drew|exact hHeld|exact hHeld.noR hu4|exact hHeld.alloc _|exact hU6)
   clear hK K
   try simp only[Act.put,sT,sS,sZ]
   refine wpK 9 rfl ?_;refine wpD (NoPanic.normal ?_);have HU6:=Qh hHeld;clear hHeld d0 d1;go_wp2
   go_roundg (gk-1)
   case measure=>omega
   case rel=>
    have hl1:(xs++[(⟨x.key,x.txs,A4,c4⟩:HOrd)]).length=xs.length+1:=by simp
    have hcap:=ZiL ho4;have hn4:Ints (fun i=>wr.heap.size<i∧i<w4.heap.size) w4 A4 x.txs:=Ints.weak (Ints.of_owned ho4) (fun i hi h=>⟨show wr.heap.size<i by have:wx.heap.size≤i:=h;omega,hi⟩)
    have hg7:∀i,Own (.slice (some ⟨g6,0,none⟩) (xs.length+1) c6) i→Own (.slice A5 xs.length c5) i∨w4.heap.size≤i:=fun i e=>by
     cases e
     rcases hg6 with h|⟨k6,hk6,hlk⟩
     ·exact .inl h.symm
     ·cases hk6
      simp only[World.size_alloc]at hlk;exact .inr (show w4.heap.size≤g6 by omega)
    refine⟨k+1,some ⟨g6,0,none⟩,c6,xs++[⟨x.key,x.txs,A4,c4⟩],by omega,by go_num,by rw[hl1],Qh (by rw[List.map_append,←HS.out];rfl),Qh (by rw[hl1,Ze0];exact hown6),Qh (fun t ht=> ?_),HUX.out.then_ HU6.out (fun i e=>Or.inr (HO.out.lt i e).1)⟩;rw[hl1];rcases List.mem_append.1 ht with ht|ht
    ·exact((HL.out t ht).upd HU6.out (fun i h e=>h.1.2 e)).weak (fun i _ h=>⟨h.1.1,fun e=>(hg7 i e).elim h.1.2 (fun h2=>by have:=h.2;omega)⟩)
    ·rw[List.mem_singleton.1 ht];refine HOrd.lies.weak (F:=fun i=>wr.heap.size<i∧i<w4.heap.size) ⟨(hn4.upd ((Upd.refl No w4).alloc _) (fun _ _=>id)).upd hu6 (fun i h e=>by have:=(HLT.out i e).2;omega),hcap,HTX.out.2.2⟩ (fun i _ h=>⟨by omega,fun e=>(hg7 i e).elim (fun h2=>by have:=(HLT.out i h2).2;omega) (fun h2=>by omega)⟩)
  ·obtain rfl:k=l.length:=by omega
   have HS:=Qh (show xs.map orP=l.map orP by rw[hs.out,List.take_length]);have HR:=Qh (Recs.weak (G:=fun i=>w.heap.size≤i) (Recs.of_own Zc3 (by omega) hown.out) (fun i _ e=>(hown.out.lt i e).1));clear hown;go_wp2
   go_ret
   exact⟨A5,c5,xs,rfl,HS.out,⟨HR.out,fun t ht=>(hlx.out t ht).weak (fun _ _ h=>h.1)⟩,hu⟩
end
/- Deltas:of two histories (delta.copied,delta.Of). -/
section
open Go.RowKit
def DelX (F:Nat→Prop) (w:World) (v:Value) (was now:List HTx) (old new:List HOrd):Prop:=
 ∃A1 c1 l1 A2 c2 l2 B1 d1 o1 B2 d2 o2,v= .agg #[.slice A1 (List.length l1) c1,.slice A2 (List.length l2) c2,.slice B1 (List.length o1) d1,.slice B2 (List.length o2) d2]∧l1.map txP=was.map txP∧l2.map txP=now.map txP∧o1.map orP=old.map orP∧o2.map orP=new.map orP∧
  TxsY F w A1 l1∧TxsY F w A2 l2∧OrsY F w B1 o1∧OrsY F w B2 o2
theorem DelX.upd {F S:Nat→Prop} {w w':World} {v:Value} {was now:List HTx} {old new:List HOrd} (h:DelX F w v was now old new) (k:Upd S w w') (hn:∀i,F i→¬S i):DelX F w' v was now old new:=by
 obtain⟨A1,c1,l1,A2,c2,l2,B1,d1,o1,B2,d2,o2,hv,e1,e2,e3,e4,h1,h2,h3,h4⟩:=h;exact⟨A1,c1,l1,A2,c2,l2,B1,d1,o1,B2,d2,o2,hv,e1,e2,e3,e4,h1.upd k hn,h2.upd k hn,h3.upd k hn,h4.upd k hn⟩
theorem DelX.weak {F G:Nat→Prop} {w:World} {v:Value} {was now:List HTx} {old new:List HOrd} (h:DelX F w v was now old new) (hg:∀i,i<w.heap.size→F i→G i):DelX G w v was now old new:=by
 obtain⟨A1,c1,l1,A2,c2,l2,B1,d1,o1,B2,d2,o2,hv,e1,e2,e3,e4,h1,h2,h3,h4⟩:=h;exact⟨A1,c1,l1,A2,c2,l2,B1,d1,o1,B2,d2,o2,hv,e1,e2,e3,e4,h1.weak hg,h2.weak hg,h3.weak hg,h4.weak hg⟩
theorem Hist.lies.weak {F G:Nat→Prop} {w:World} {h:Hist} (H:h.lies F w) (hg:∀i,i<w.heap.size→F i→G i):h.lies G w:=
 ⟨Recs.weak H.txs hg,Recs.weak H.ords hg,fun t ht=>(H.tx t ht).weak hg,fun o ho=>(H.ord o ho).weak hg,H.c,H.d,H.few,H.fewo⟩
set_option maxRecDepth 100000 in
set_option maxHeartbeats 2000000 in
theorem Znk {F:Nat→Prop} {w:World} {A1 A2 B1 B2:Option Addr} {c1 c2 d1 d2:Nat} {was now:List HTx} {old new:List HOrd} (h1:TxsY F w A1 was) (h2:TxsY F w A2 now) (h3:OrsY F w B1 old) (h4:OrsY F w B2 new)
  (l1:was.length≤1000000) (l2:now.length≤1000000) (l3:old.length≤1000000) (l4:new.length≤1000000):
  Calls Tryz.prog 77 #[.agg #[.slice A1 was.length c1,.slice A2 now.length c2,.slice B1 old.length d1,.slice B2 new.length d2]] w fun e w'=>∃v,e= .returned v∧DelX (fun i=>w.heap.size≤i) w' v was now old new∧Upd No w w':=by
 obtain⟨z,hz⟩:∃z,w.heap.size=z:=⟨_,rfl⟩;obtain⟨w1,hw1⟩:∃w1,w.alloc (.cells #[.slice A1 was.length c1,.slice A2 now.length c2,.slice B1 old.length d1,.slice B2 new.length d2] 61)=w1:=⟨_,rfl⟩;have s1:w1.heap.size=z+1:=by rw[←hw1,←hz];simp
 obtain⟨wb,hwb⟩:∃wb,w1.alloc (.cells #[.slice none 0 0,.slice none 0 0,.slice none 0 0,.slice none 0 0] 61)=wb:=⟨_,rfl⟩;have s2:wb.heap.size=z+2:=by rw[←hwb];simp;omega
 have u1:Upd No w w1:=by rw[←hw1];exact(Upd.refl No w).alloc _
 have u2:Upd No w1 wb:=by rw[←hwb];exact(Upd.refl No w1).alloc _
 have b1:Blk wb z 61 [.slice A1 was.length c1,.slice A2 now.length c2,.slice B1 old.length d1,.slice B2 new.length d2]:=by
  have:Blk w1 z 61 [.slice A1 was.length c1,.slice A2 now.length c2,.slice B1 old.length d1,.slice B2 new.length d2]:=by rw[←hw1,←hz];exact Blk.new w _ _
  exact this.upd u2 id
 have BR:Hid (Blk wb (z+1) 61 [.slice none 0 0,.slice none 0 0,.slice none 0 0,.slice none 0 0]):=Qh (by rw[←hwb,←s1];exact Blk.new w1 _ _);have hnz:¬One (z+1) z:=fun e=>by cases e
 have e0:∀W,Upd (One (z+1)) wb W→W.cell? ⟨z,0,none⟩=some (.slice A1 was.length c1):=fun W u=>(b1.upd u hnz).cell 0
 have e1:∀W,Upd (One (z+1)) wb W→W.cell? ⟨z,1,none⟩=some (.slice A2 now.length c2):=fun W u=>(b1.upd u hnz).cell 1
 have e2:∀W,Upd (One (z+1)) wb W→W.cell? ⟨z,2,none⟩=some (.slice B1 old.length d1):=fun W u=>(b1.upd u hnz).cell 2
 have e3:∀W,Upd (One (z+1)) wb W→W.cell? ⟨z,3,none⟩=some (.slice B2 new.length d2):=fun W u=>(b1.upd u hnz).cell 3
 have hlt:∀i,i<w.heap.size→F i→i<z:=fun i h _=>by omega
 have hno:∀i,i<z→¬One (z+1) i:=fun i h e=>by cases e;omega
 have C1:=Qh (fun W (u:Upd (One (z+1)) wb W)=>Zn4 (c:=c1) (((h1.weak hlt).upd (u1.trans u2) (fun _ _=>id)).upd u hno) l1);have C2:=Qh (fun W (u:Upd (One (z+1)) wb W)=>Zn4 (c:=c2) (((h2.weak hlt).upd (u1.trans u2) (fun _ _=>id)).upd u hno) l2);have C3:=Qh (fun W (u:Upd (One (z+1)) wb W)=>Zi4 (c:=d1) (((h3.weak hlt).upd (u1.trans u2) (fun _ _=>id)).upd u hno) l3);have C4:=Qh (fun W (u:Upd (One (z+1)) wb W)=>Zi4 (c:=d2) (((h4.weak hlt).upd (u1.trans u2) (fun _ _=>id)).upd u hno) l4);have UB:=Qh (u1.trans u2);have hxz:Upd (One (z+1)) wb wb:=Upd.refl _ _;clear u1 u2 b1 h1 h2 h3 h4 l1 l2 l3 l4 hno hlt hnz
 go_enter Tryz.func77,Tryz.ntmps77
 go_wp2;refine wp_region_noPanic ?_;refine wp_region_held_drew (S:=(fun W'=>Upd (One (z+1)) wb W')) (by kernel_rfl) ?_ (fun hHeld=> ?_)
 ·(first|with_reducible exact hxz.drew|with_reducible exact hHeld.noR hu3|with_reducible exact hHeld.noR hu4|with_reducible exact hHeld.noR hu5|with_reducible exact hHeld.noR hu6|with_reducible exact hHeld.trans hu7)
 refine wpK 0 rfl ?_;refine wpK 1 rfl ?_;refine wpK 3 rfl ?_;refine wpK 4 rfl ?_;refine wpK 6 rfl ?_;refine wpK 7 rfl ?_;refine wpK 9 rfl ?_;refine wpK 10 rfl ?_;refine wpR [2] ?_;refine wpC rfl (fun K hK=> ?_) AllReadyH.nil;go_simp
 (first
  |(go_at_call 169;refine(C1.out _ hHeld).mono ?_;rintro e w3 ⟨A3,c3,l3,rfl,hp3,ht3,hu3⟩))
 try (go_wp2_with fail)
 refine hK.out _ _ ?_ (fun hHeld=> ?_)
 ·(first|with_reducible exact hxz.drew|with_reducible exact hHeld.noR hu3|with_reducible exact hHeld.noR hu4|with_reducible exact hHeld.noR hu5|with_reducible exact hHeld.noR hu6|with_reducible exact hHeld.trans hu7)
 clear hK K
 try simp only[Act.put,sT,sS,sZ]
 refine wpR [5] ?_;refine wpC rfl (fun K hK=> ?_) AllReadyH.nil;go_simp
 (first
  |(go_at_call 169;refine(C2.out _ hHeld).mono ?_;rintro e w4 ⟨A4,c4,l4,rfl,hp4,ht4,hu4⟩))
 try (go_wp2_with fail)
 refine hK.out _ _ ?_ (fun hHeld=> ?_)
 ·(first|with_reducible exact hxz.drew|with_reducible exact hHeld.noR hu3|with_reducible exact hHeld.noR hu4|with_reducible exact hHeld.noR hu5|with_reducible exact hHeld.noR hu6|with_reducible exact hHeld.trans hu7)
 clear hK K
 try simp only[Act.put,sT,sS,sZ]
 refine wpR [8] ?_;refine wpC rfl (fun K hK=> ?_) AllReadyH.nil;go_simp
 (first
  |(go_at_call 170;refine(C3.out _ hHeld).mono ?_;rintro e w5 ⟨A5,c5,l5,rfl,hp5,ht5,hu5⟩))
 try (go_wp2_with fail)
 refine hK.out _ _ ?_ (fun hHeld=> ?_)
 ·(first|with_reducible exact hxz.drew|with_reducible exact hHeld.noR hu3|with_reducible exact hHeld.noR hu4|with_reducible exact hHeld.noR hu5|with_reducible exact hHeld.noR hu6|with_reducible exact hHeld.trans hu7)
 clear hK K
 try simp only[Act.put,sT,sS,sZ]
 refine wpR [11] ?_;refine wpC rfl (fun K hK=> ?_) AllReadyH.nil;go_simp
 (first
  |(go_at_call 170;refine(C4.out _ hHeld).mono ?_;rintro e w6 ⟨A6,c6,l6,rfl,hp6,ht6,hu6⟩))
 try (go_wp2_with fail)
 refine hK.out _ _ ?_ (fun hHeld=> ?_)
 ·(first|with_reducible exact hxz.drew|with_reducible exact hHeld.noR hu3|with_reducible exact hHeld.noR hu4|with_reducible exact hHeld.noR hu5|with_reducible exact hHeld.noR hu6|with_reducible exact hHeld.trans hu7)
 clear hK K
 try simp only[Act.put,sT,sS,sZ]
 refine wpK 12 rfl ?_;refine wpR [13] ?_;refine wpC rfl (fun K hK=> ?_) AllReadyH.nil
 (first
  |(refine ZeE rfl rfl (g:=z+1) (cells:=[.slice A3 l3.length c3,.slice A4 l4.length c4,.slice A5 l5.length c5,.slice A6 l6.length c6]) rfl rfl (BR.out.upd ((hu3.of_drew.trans hu4).trans (hu5.trans hu6)) id) (by kernel_rfl) rfl rfl ?_;intro w7 hb7 hu7))
 refine hK.out _ _ ?_ (fun hHeld=> ?_)
 ·(first|with_reducible exact hxz.drew|with_reducible exact hHeld.noR hu3|with_reducible exact hHeld.noR hu4|with_reducible exact hHeld.noR hu5|with_reducible exact hHeld.noR hu6|with_reducible exact hHeld.trans hu7)
 clear hK K
 try simp only[Act.put,sT,sS,sZ]
 refine wpD (NoPanic.normal ?_);have HH:=Qh hHeld;clear hHeld
 go_wp2_with fail
 refine bodyPost_ret (results_cell_row (p:=2) rfl _ _ _ _ _ _ _ rfl hb7 Tryz.underlying61 rfl (by kernel_rfl)) rfl ⟨_,rfl,⟨A3,c3,l3,A4,c4,l4,A5,c5,l5,A6,c6,l6,rfl,hp3,hp4,hp5,hp6,?_,?_,?_,?_⟩,UB.out.then_ HH.out (fun i e=> .inr (by cases e;omega))⟩
 all_goals have z3:=hu3.size
 all_goals have z4:=hu4.size
 all_goals have z5:=hu5.size
 all_goals have z0:wb.drew.heap.size=wb.heap.size:=rfl
 ·exact(((ht3.upd (hu4.trans (hu5.trans hu6)) (fun _ _=>id)).upd hu7 (fun i h e=>by cases e;omega)).weak fun i _ h=>by omega)
 ·exact(((ht4.upd (hu5.trans hu6) (fun _ _=>id)).upd hu7 (fun i h e=>by cases e;omega)).weak fun i _ h=>by omega)
 ·exact(((ht5.upd hu6 (fun _ _=>id)).upd hu7 (fun i h e=>by cases e;omega)).weak fun i _ h=>by omega)
 ·exact((ht6.upd hu7 (fun i h e=>by cases e;omega)).weak fun i _ h=>by omega)
end
/- Deltas:of two histories (delta.Of). -/
section
open Go.RowKit
section
variable {F G:Nat→Prop} {w:World} {ta tb:List HTx} {oa ob:List HOrd} {A A':Option Addr} {c c':Nat} {B B':Option Addr} {d d':Nat}
set_option maxRecDepth 100000 in
set_option maxHeartbeats 2000000 in
theorem Zi3 (HA:Hist.lies F w ⟨ta,oa,A,c,B,d⟩) (HB:Hist.lies G w ⟨tb,ob,A',c',B',d'⟩) (hr:(Za ⟨ta,oa,A,c,B,d⟩&&Za ⟨tb,ob,A',c',B',d'⟩)=false):
  Calls Tryz.prog 23 #[.agg #[.slice A ta.length c,.slice B oa.length d],.agg #[.slice A' tb.length c',.slice B' ob.length d']] w fun e w'=>e= .returned (.tuple #[.agg #[.slice none 0 0,.slice none 0 0,.slice none 0 0,.slice none 0 0],.int .i64 5])∧Upd No w w':=by
 obtain⟨z,hz⟩:∃z,w.heap.size=z:=⟨_,rfl⟩;obtain⟨w1,hw1⟩:∃w1,w.alloc (.cells #[.slice A ta.length c,.slice B oa.length d] 29)=w1:=⟨_,rfl⟩;have s1:w1.heap.size=z+1:=by rw[←hw1,←hz];simp
 obtain⟨w2,hw2⟩:∃w2,w1.alloc (.cells #[.slice A' tb.length c',.slice B' ob.length d'] 29)=w2:=⟨_,rfl⟩;have s2:w2.heap.size=z+1+1:=by rw[←hw2,←s1];simp
 have u1:Upd No w w1:=by rw[←hw1];exact(Upd.refl No w).alloc _
 have u2:Upd No w1 w2:=by rw[←hw2];exact(Upd.refl No w1).alloc _
 have bA:Blk w2 z 29 [.slice A ta.length c,.slice B oa.length d]:=by
  have:Blk w1 z 29 [.slice A ta.length c,.slice B oa.length d]:=by rw[←hw1,←hz];exact Blk.new w _ _
  exact this.upd u2 id
 have bB:Blk w2 (z+1) 29 [.slice A' tb.length c',.slice B' ob.length d']:=by rw[←hw2,←s1];exact Blk.new w1 _ _
 obtain⟨wb,hwb⟩:∃wb,w2.alloc (.cells #[.slice none 0 0,.slice none 0 0,.slice none 0 0,.slice none 0 0] 61)=wb:=⟨_,rfl⟩;have s3:wb.heap.size=z+1+1+1:=by rw[←hwb,←s2];simp
 have u3:Upd No w2 wb:=by rw[←hwb];exact(Upd.refl No w2).alloc _
 have BR:Hid (Blk wb (z+1+1) 61 [.slice none 0 0,.slice none 0 0,.slice none 0 0,.slice none 0 0]):=Qh (by rw[←hwb,←s2];exact Blk.new w2 _ _);have d0:∀W,Upd No wb W→W.cell? ⟨z,0,none⟩=some (.slice A ta.length c):=fun W u=>(bA.upd (u3.trans u) id).cell 0
 have d1:∀W,Upd No wb W→W.cell? ⟨z,1,none⟩=some (.slice B oa.length d):=fun W u=>(bA.upd (u3.trans u) id).cell 1
 have d2:∀W,Upd No wb W→W.cell? ⟨z+1,0,none⟩=some (.slice A' tb.length c'):=fun W u=>(bB.upd (u3.trans u) id).cell 0
 have d3:∀W,Upd No wb W→W.cell? ⟨z+1,1,none⟩=some (.slice B' ob.length d'):=fun W u=>(bB.upd (u3.trans u) id).cell 1
 have hxz:Upd No wb wb:=Upd.refl _ _;obtain⟨ra,hra⟩:∃r,Za ⟨ta,oa,A,c,B,d⟩=r:=⟨_,rfl⟩;obtain⟨rb,hrb⟩:∃r,Za ⟨tb,ob,A',c',B',d'⟩=r:=⟨_,rfl⟩;rw[hra,hrb]at hr;have UB:=Qh ((u1.trans u2).trans u3);have CA:=Qh (Zc9 (HA.upd UB.out (fun _ _=>id)) hra);have CB:=Qh (fun W (u:Upd No wb W)=>Zc9 (HB.upd (UB.out.trans u) (fun _ _=>id)) hrb);clear HA HB bA bB u1 u2 u3 hra hrb
 cases ra
 ·go_enter Tryz.func23,Tryz.ntmps23
  go_wp2_with fail
  refine(CA.out).mono ?_;rintro e w3 ⟨rfl,hu3⟩;have ba:=BR.out.upd hu3 id;have g0:=ba.cell 0;have g1:=ba.cell 1;have g2:=ba.cell 2;have g3:=ba.cell 3;have k0:=ba.free 0;have k1:=ba.free 1;have k2:=ba.free 2;have k3:=ba.free 3;simp only[Qz,Qs]at g0 g1 g2 g3;have BA:=Qh ba;clear ba;go_wp2;have b3:=((((BA.out.set_ 0 (.slice none 0 0)).set_ 1 (.slice none 0 0)).set_ 2 (.slice none 0 0)).set_ 3 (.slice none 0 0));simp only[List.set_cons_zero,List.set_cons_succ]at b3;have r0:=b3.cell 0;have r1:=b3.cell 1;have r2:=b3.cell 2;have r3:=b3.cell 3;simp only[Qz,Qs]at r0 r1 r2 r3;have u4:=Qh (((((UB.out.trans hu3).setCell (p:=⟨z+1+1,0,none⟩) (.inr (show w.heap.size≤z+1+1 by omega)) (.slice none 0 0)).setCell (p:=⟨z+1+1,1,none⟩) (.inr (show w.heap.size≤z+1+1 by omega)) (.slice none 0 0)).setCell (p:=⟨z+1+1,2,none⟩) (.inr (show w.heap.size≤z+1+1 by omega)) (.slice none 0 0)).setCell (p:=⟨z+1+1,3,none⟩) (.inr (show w.heap.size≤z+1+1 by omega)) (.slice none 0 0));refine bodyPost_ret (v:= .tuple #[.agg #[.slice none 0 0,.slice none 0 0,.slice none 0 0,.slice none 0 0],.int .i64 5]) (by simp[results,Tryz.results23,go_sem,r0,r1,r2,r3]) rfl ?_;exact⟨rfl,u4.out⟩
 ·have hrb0:rb=false:=by simpa using hr
  subst hrb0
  go_enter Tryz.func23,Tryz.ntmps23
  go_wp2_with fail
  refine(CA.out).mono ?_;rintro e w3 ⟨rfl,hu3⟩;have CB2:=Qh (CB.out _ hu3)
  go_wp2_with fail
  refine(CB2.out).mono ?_;rintro e w4 ⟨rfl,hu4⟩;have hu34:=hu3.trans hu4;have ba:=BR.out.upd hu34 id;have g0:=ba.cell 0;have g1:=ba.cell 1;have g2:=ba.cell 2;have g3:=ba.cell 3;have k0:=ba.free 0;have k1:=ba.free 1;have k2:=ba.free 2;have k3:=ba.free 3;simp only[Qz,Qs]at g0 g1 g2 g3;have BA:=Qh ba;clear ba;go_wp2;have b3:=((((BA.out.set_ 0 (.slice none 0 0)).set_ 1 (.slice none 0 0)).set_ 2 (.slice none 0 0)).set_ 3 (.slice none 0 0));simp only[List.set_cons_zero,List.set_cons_succ]at b3;have r0:=b3.cell 0;have r1:=b3.cell 1;have r2:=b3.cell 2;have r3:=b3.cell 3;simp only[Qz,Qs]at r0 r1 r2 r3;have u4:=Qh (((((UB.out.trans hu34).setCell (p:=⟨z+1+1,0,none⟩) (.inr (show w.heap.size≤z+1+1 by omega)) (.slice none 0 0)).setCell (p:=⟨z+1+1,1,none⟩) (.inr (show w.heap.size≤z+1+1 by omega)) (.slice none 0 0)).setCell (p:=⟨z+1+1,2,none⟩) (.inr (show w.heap.size≤z+1+1 by omega)) (.slice none 0 0)).setCell (p:=⟨z+1+1,3,none⟩) (.inr (show w.heap.size≤z+1+1 by omega)) (.slice none 0 0));refine bodyPost_ret (v:= .tuple #[.agg #[.slice none 0 0,.slice none 0 0,.slice none 0 0,.slice none 0 0],.int .i64 5]) (by simp[results,Tryz.results23,go_sem,r0,r1,r2,r3]) rfl ?_;exact⟨rfl,u4.out⟩
set_option maxRecDepth 100000 in
set_option maxHeartbeats 2000000 in
theorem Zn3 (HA:Hist.lies F w ⟨ta,oa,A,c,B,d⟩) (HB:Hist.lies G w ⟨tb,ob,A',c',B',d'⟩) (hra:Za ⟨ta,oa,A,c,B,d⟩=true) (hrb:Za ⟨tb,ob,A',c',B',d'⟩=true)
  (n1:ta.length≤1000000) (n2:tb.length≤1000000) (n3:oa.length≤1000000) (n4:ob.length≤1000000):
  Calls Tryz.prog 23 #[.agg #[.slice A ta.length c,.slice B oa.length d],.agg #[.slice A' tb.length c',.slice B' ob.length d']] w fun e w'=>∃v,e= .returned (.tuple #[v,.int .i64 0])∧DelX (fun i=>w.heap.size≤i) w' v (Zj ta tb) (Zj tb ta) (Zo oa ob) (Zo ob oa)∧Upd No w w':=by
 obtain⟨z,hz⟩:∃z,w.heap.size=z:=⟨_,rfl⟩;obtain⟨w1,hw1⟩:∃w1,w.alloc (.cells #[.slice A ta.length c,.slice B oa.length d] 29)=w1:=⟨_,rfl⟩;have s1:w1.heap.size=z+1:=by rw[←hw1,←hz];simp
 obtain⟨w2,hw2⟩:∃w2,w1.alloc (.cells #[.slice A' tb.length c',.slice B' ob.length d'] 29)=w2:=⟨_,rfl⟩;have s2:w2.heap.size=z+1+1:=by rw[←hw2,←s1];simp
 have u1:Upd No w w1:=by rw[←hw1];exact(Upd.refl No w).alloc _
 have u2:Upd No w1 w2:=by rw[←hw2];exact(Upd.refl No w1).alloc _
 have bA:Blk w2 z 29 [.slice A ta.length c,.slice B oa.length d]:=by
  have:Blk w1 z 29 [.slice A ta.length c,.slice B oa.length d]:=by rw[←hw1,←hz];exact Blk.new w _ _
  exact this.upd u2 id
 have bB:Blk w2 (z+1) 29 [.slice A' tb.length c',.slice B' ob.length d']:=by rw[←hw2,←s1];exact Blk.new w1 _ _
 obtain⟨wb,hwb⟩:∃wb,w2.alloc (.cells #[.slice none 0 0,.slice none 0 0,.slice none 0 0,.slice none 0 0] 61)=wb:=⟨_,rfl⟩;have s3:wb.heap.size=z+1+1+1:=by rw[←hwb,←s2];simp
 have u3:Upd No w2 wb:=by rw[←hwb];exact(Upd.refl No w2).alloc _
 have BR:Hid (Blk wb (z+1+1) 61 [.slice none 0 0,.slice none 0 0,.slice none 0 0,.slice none 0 0]):=Qh (by rw[←hwb,←s2];exact Blk.new w2 _ _);have hnz:¬One (z+1+1) z:=fun e=>by cases e
 have hnz1:¬One (z+1+1) (z+1):=fun e=>by unfold One at e;omega
 have d0:∀W,Upd (One (z+1+1)) wb W→W.cell? ⟨z,0,none⟩=some (.slice A ta.length c):=fun W u=>((bA.upd u3 id).upd u hnz).cell 0
 have d1:∀W,Upd (One (z+1+1)) wb W→W.cell? ⟨z,1,none⟩=some (.slice B oa.length d):=fun W u=>((bA.upd u3 id).upd u hnz).cell 1
 have d2:∀W,Upd (One (z+1+1)) wb W→W.cell? ⟨z+1,0,none⟩=some (.slice A' tb.length c'):=fun W u=>((bB.upd u3 id).upd u hnz1).cell 0
 have d3:∀W,Upd (One (z+1+1)) wb W→W.cell? ⟨z+1,1,none⟩=some (.slice B' ob.length d'):=fun W u=>((bB.upd u3 id).upd u hnz1).cell 1
 have hxz:Upd (One (z+1+1)) wb wb:=Upd.refl _ _;have UB:=Qh ((u1.trans u2).trans u3);have hno:∀i,i<w.heap.size→¬One (z+1+1) i:=fun i h e=>by cases e;omega
 have HAW:=Qh (fun W (u:Upd (One (z+1+1)) wb W)=>(((HA.weak (G:=fun i=>i<w.heap.size) (fun i h _=>h)).upd UB.out (fun _ _=>id)).upd u hno));have HBW:=Qh (fun W (u:Upd (One (z+1+1)) wb W)=>(((HB.weak (G:=fun i=>i<w.heap.size) (fun i h _=>h)).upd UB.out (fun _ _=>id)).upd u hno));have CA:=Qh (Zc9 (HAW.out _ hxz) hra);have CB:=Qh (fun W (u:Upd (One (z+1+1)) wb W)=>Zc9 (HBW.out _ u) hrb);have C1:=Qh (fun W (u:Upd (One (z+1+1)) wb W)=>Zk4 (c:=c) (d:=c') (HAW.out _ u).txs (HBW.out _ u).txs (HAW.out _ u).tx (HBW.out _ u).tx n1 n2);have C2:=Qh (fun W (u:Upd (One (z+1+1)) wb W)=>Zk4 (c:=c') (d:=c) (HBW.out _ u).txs (HAW.out _ u).txs (HBW.out _ u).tx (HAW.out _ u).tx n2 n1);have C3:=Qh (fun W (u:Upd (One (z+1+1)) wb W)=>Zk5 (c:=d) (d:=d') (HAW.out _ u).ords (HBW.out _ u).ords (HAW.out _ u).ord (HBW.out _ u).ord n3 n4);have C4:=Qh (fun W (u:Upd (One (z+1+1)) wb W)=>Zk5 (c:=d') (d:=d) (HBW.out _ u).ords (HAW.out _ u).ords (HBW.out _ u).ord (HAW.out _ u).ord n4 n3);have L1:(Zj ta tb).length≤1000000:=by have:(Zj ta tb).length≤ta.length:=List.length_filter_le _ _;omega
 have L2:(Zj tb ta).length≤1000000:=by have:(Zj tb ta).length≤tb.length:=List.length_filter_le _ _;omega
 have L3:(Zo oa ob).length≤1000000:=by have:(Zo oa ob).length≤oa.length:=List.length_filter_le _ _;omega
 have L4:(Zo ob oa).length≤1000000:=by have:(Zo ob oa).length≤ob.length:=List.length_filter_le _ _;omega
 have LL:=Qh (And.intro (And.intro L1 L2) (And.intro L3 L4));have MT:Hid (∀(a b:List HTx) t,t∈Zj a b→t∈a):=Qh fun a b t h=>(List.mem_filter.1 h).1
 have MO:Hid (∀(a b:List HOrd) t,t∈Zo a b→t∈a):=Qh fun a b t h=>(List.mem_filter.1 h).1
 clear HA HB bA bB u1 u2 u3 hra hrb L1 L2 L3 L4 hno hnz hnz1 n1 n2 n3 n4
 go_enter Tryz.func23,Tryz.ntmps23
 go_wp2_with fail
 refine(CA.out).mono ?_;rintro e w3 ⟨rfl,hu3⟩;have hv3:Upd (One (z+1+1)) wb w3:=hxz.noR hu3;have CB2:=Qh (CB.out _ hv3)
 go_wp2_with fail
 refine(CB2.out).mono ?_;rintro e w4 ⟨rfl,hu4⟩;have hv4:Upd (One (z+1+1)) wb w4:=hv3.noR hu4;have hn4:=Qh (hu3.trans hu4);clear hu3 hu4 hv3;go_wp2;refine wp_region_noPanic ?_;refine wp_region_held_drew (S:=(fun W'=>Upd (One (z+1+1)) wb W')) (by kernel_rfl) ?_ (fun hHeld=> ?_)
 ·(first|with_reducible exact hv4.drew|with_reducible exact hHeld.noR hu5|with_reducible exact hHeld.noR hu6|with_reducible exact hHeld.noR hu7|with_reducible exact hHeld.noR hu8|with_reducible exact hHeld.noR hu9|with_reducible exact hHeld.trans hu10)
 refine wpK 0 rfl ?_;refine wpK 1 rfl ?_;refine wpK 2 rfl ?_;refine wpK 3 rfl ?_;refine wpK 5 rfl ?_;refine wpK 6 rfl ?_;refine wpK 7 rfl ?_;refine wpK 8 rfl ?_;refine wpK 10 rfl ?_;refine wpK 11 rfl ?_;refine wpK 12 rfl ?_;refine wpK 13 rfl ?_;refine wpK 15 rfl ?_;refine wpK 16 rfl ?_;refine wpK 17 rfl ?_;refine wpK 18 rfl ?_;refine wpR [4] ?_;refine wpC rfl (fun K hK=> ?_) AllReadyH.nil;go_simp
 (first
  |(go_at_call 78;refine(C1.out _ hHeld).mono ?_;rintro e w5 ⟨A5,c5,rfl,ho5,hu5⟩))
 try (go_wp2_with fail)
 refine hK.out _ _ ?_ (fun hHeld=> ?_)
 ·(first|with_reducible exact hv4.drew|with_reducible exact hHeld.noR hu5|with_reducible exact hHeld.noR hu6|with_reducible exact hHeld.noR hu7|with_reducible exact hHeld.noR hu8|with_reducible exact hHeld.noR hu9|with_reducible exact hHeld.trans hu10)
 clear hK K
 try simp only[Act.put,sT,sS,sZ]
 refine wpR [9] ?_;refine wpC rfl (fun K hK=> ?_) AllReadyH.nil;go_simp
 (first
  |(go_at_call 78;refine(C2.out _ hHeld).mono ?_;rintro e w6 ⟨A6,c6,rfl,ho6,hu6⟩))
 try (go_wp2_with fail)
 refine hK.out _ _ ?_ (fun hHeld=> ?_)
 ·(first|with_reducible exact hv4.drew|with_reducible exact hHeld.noR hu5|with_reducible exact hHeld.noR hu6|with_reducible exact hHeld.noR hu7|with_reducible exact hHeld.noR hu8|with_reducible exact hHeld.noR hu9|with_reducible exact hHeld.trans hu10)
 clear hK K
 try simp only[Act.put,sT,sS,sZ]
 refine wpR [14] ?_;refine wpC rfl (fun K hK=> ?_) AllReadyH.nil;go_simp
 (first
  |(go_at_call 81;refine(C3.out _ hHeld).mono ?_;rintro e w7 ⟨A7,c7,rfl,ho7,hu7⟩))
 try (go_wp2_with fail)
 refine hK.out _ _ ?_ (fun hHeld=> ?_)
 ·(first|with_reducible exact hv4.drew|with_reducible exact hHeld.noR hu5|with_reducible exact hHeld.noR hu6|with_reducible exact hHeld.noR hu7|with_reducible exact hHeld.noR hu8|with_reducible exact hHeld.noR hu9|with_reducible exact hHeld.trans hu10)
 clear hK K
 try simp only[Act.put,sT,sS,sZ]
 refine wpR [19] ?_;refine wpC rfl (fun K hK=> ?_) AllReadyH.nil;go_simp
 (first
  |(go_at_call 81;refine(C4.out _ hHeld).mono ?_;rintro e w8 ⟨A8,c8,rfl,ho8,hu8⟩))
 try (go_wp2_with fail)
 refine hK.out _ _ ?_ (fun hHeld=> ?_)
 ·(first|with_reducible exact hv4.drew|with_reducible exact hHeld.noR hu5|with_reducible exact hHeld.noR hu6|with_reducible exact hHeld.noR hu7|with_reducible exact hHeld.noR hu8|with_reducible exact hHeld.noR hu9|with_reducible exact hHeld.trans hu10)
 clear hK K
 try simp only[Act.put,sT,sS,sZ]
 refine wpK 20 rfl ?_;refine wpR [21] ?_;refine wpC rfl (fun K hK=> ?_) AllReadyH.nil;go_simp
 (first
  |(go_at_call 77;refine(Znk (F:=fun _=>True) ⟨Recs.weak ((Recs.upd (Recs.of_own Zhx (by omega) ho5) ((hu6.trans hu7).trans hu8) (fun _ _=>id))) (fun _ _ _=>trivial),fun t ht=>((HAW.out _ hHeld).tx t (MT.out _ _ _ ht)).weak (fun _ _ _=>trivial)⟩ ⟨Recs.weak ((Recs.upd (Recs.of_own Zhx (by omega) ho6) (hu7.trans hu8) (fun _ _=>id))) (fun _ _ _=>trivial),fun t ht=>((HBW.out _ hHeld).tx t (MT.out _ _ _ ht)).weak (fun _ _ _=>trivial)⟩ ⟨Recs.weak ((Recs.upd (Recs.of_own Zc3 (by omega) ho7) hu8 (fun _ _=>id))) (fun _ _ _=>trivial),fun t ht=>((HAW.out _ hHeld).ord t (MO.out _ _ _ ht)).weak (fun _ _ _=>trivial)⟩ ⟨Recs.weak (Recs.of_own Zc3 (by omega) ho8) (fun _ _ _=>trivial),fun t ht=>((HBW.out _ hHeld).ord t (MO.out _ _ _ ht)).weak (fun _ _ _=>trivial)⟩ LL.out.1.1 LL.out.1.2 LL.out.2.1 LL.out.2.2).mono ?_;rintro e w9 ⟨v9,rfl,hd9,hu9⟩;have hd9z:=hd9;obtain⟨E1,e1,l1,E2,e2,l2,E3,e3,l3,E4,e4,l4,rfl,hp1,hp2,hp3,hp4,ht1,ht2,ht3,ht4⟩:=hd9))
 try (go_wp2_with fail)
 refine hK.out _ _ ?_ (fun hHeld=> ?_)
 ·(first|with_reducible exact hv4.drew|with_reducible exact hHeld.noR hu5|with_reducible exact hHeld.noR hu6|with_reducible exact hHeld.noR hu7|with_reducible exact hHeld.noR hu8|with_reducible exact hHeld.noR hu9|with_reducible exact hHeld.trans hu10)
 clear hK K
 try simp only[Act.put,sT,sS,sZ]
 refine wpR [22] ?_;refine wpC rfl (fun K hK=> ?_) AllReadyH.nil
 (first
  |(refine ZeE rfl rfl (g:=z+1+1) (cells:=[.slice E1 l1.length e1,.slice E2 l2.length e2,.slice E3 l3.length e3,.slice E4 l4.length e4]) rfl rfl (BR.out.upd ((hn4.out.trans hu5.of_drew).trans ((hu6.trans hu7).trans (hu8.trans hu9))) id) (by kernel_rfl) rfl rfl ?_;intro w10 hb10 hu10))
 refine hK.out _ _ ?_ (fun hHeld=> ?_)
 ·(first|with_reducible exact hv4.drew|with_reducible exact hHeld.noR hu5|with_reducible exact hHeld.noR hu6|with_reducible exact hHeld.noR hu7|with_reducible exact hHeld.noR hu8|with_reducible exact hHeld.noR hu9|with_reducible exact hHeld.trans hu10)
 clear hK K
 try simp only[Act.put,sT,sS,sZ]
 refine wpK 23 rfl ?_;refine wpD (NoPanic.normal ?_);have HH:=Qh hHeld;clear hHeld
 go_wp2_with fail
 have r0:=hb10.cell 0;have r1:=hb10.cell 1;have r2:=hb10.cell 2;have r3:=hb10.cell 3;simp only[Qz,Qs]at r0 r1 r2 r3;refine bodyPost_ret (v:= .tuple #[.agg #[.slice E1 l1.length e1,.slice E2 l2.length e2,.slice E3 l3.length e3,.slice E4 l4.length e4],.int .i64 0]) (by simp[results,Tryz.results23,go_sem,r0,r1,r2,r3]) rfl ?_;have z5:=hu5.size;have z6:=hu6.size;have z7:=hu7.size;have z8:=hu8.size;have z4:=hv4.size;have z9:w4.drew.heap.size=w4.heap.size:=rfl;exact⟨_,rfl,(hd9z.upd hu10 (fun i h e=>by cases e;omega)).weak (fun i _ h=>by omega),UB.out.then_ HH.out (fun i e=> .inr (by cases e;omega))⟩
end
end
/- Deltas:the keys that one is about:slices.Concat at orders. -/
section
open Go.RowKit
theorem ZiM {l:List HOrd}:∀v∈(l.map HOrd.cells).flatten,v.oneCell'=true:=fun v hv=>by
 obtain⟨r,hr,h⟩:=List.mem_flatten.1 hv;obtain⟨e,_,rfl⟩:=List.mem_map.1 hr;simp only[HOrd.cells,List.mem_cons,List.not_mem_nil,or_false]at h;rcases h with rfl|rfl<;>rfl
def ZmH (w:World) (xs:List Value) (n:Nat) (e:Ending) (w':World):Prop:=∃A c,e= .returned (.slice A n c)∧w'.ownsRow w.heap.size 100 2 (.slice A n c) n xs∧Upd No w w'
theorem Zjl (w:World) (n G:Nat) (hn:n≤G) (hG:G≤maxLen):((w.alloc (.cells (Builtin.zeroCells #[.int .i64 0,.slice none 0 0] n++Builtin.zeroCells #[.int .i64 0,.slice none 0 0] (G-n)) 100)).drew).ownsRow w.heap.size 100 2 (.slice (some ⟨w.heap.size,0,none⟩) 0 G) 0 []:=by
 refine⟨rfl,.inr ⟨w.heap.size,G,_,rfl,Nat.le_refl _,heap_alloc_new w _,Nat.zero_le _,hG,?_,by simp⟩⟩;simp[Builtin.zeroCells];omega
set_option maxRecDepth 100000 in
theorem ZoB (w:World) (n:Nat) (hn:n≤1000000):Calls Tryz.prog 177 #[.slice none 0 0,.int .i64 n] w (ZmH w [] 0):=by
 by_cases h0:n=0
 ·subst h0
  go_enter Tryz.func177,Tryz.ntmps177
  go_wp2
  go_ret
  exact⟨none,0,rfl,World.ownsRow_nil _ _ _ _,Upd.refl _ _⟩
 ·obtain⟨ht,i,z,hi,hz,hsize,hby,hzs,hsz⟩:=ZaW
  have hzz:z= .agg #[.int .i64 0,.slice none 0 0]:=by
   have h1:(Tryz.prog.info? 100).map (·.zero)=some (some (.agg #[.int .i64 0,.slice none 0 0])):=by kernel_rfl
   rw[hi]at h1
   simpa[hz]using h1
  subst hzz;have hpos:(0:Int)<(n:Int):=by omega
  have hap:=fun ty=>Lib.run_append_grow_zeros w 27 3 ty 100 i _ .i64 .i64 ht Tryz.underlying3 hi hz none 0 0 [] (run_firstCells_none w.drew i.size 0 0 0) n (by omega) (by omega) (by omega) (by omega) (by rw[hby];omega) (growslice_fits (by omega) (by rw[hby];omega))
  simp only[Nat.zero_add]at hap;have hge:=grownCap_ge w n 0 100;have hle:=grownCap_le_maxLen w n 0 100 (by unfold maxLen;omega);have hown:=Zjl w n _ hge hle;have hc1:=fun W=>ZdO W ZaW none 0 0 0 (by omega)
  generalize grownCap w n 0 100=G at*
  have hc2:=fun W=>ZdO W ZaW (some ⟨w.heap.size,0,none⟩) n G 0 (by omega)
  have Hown:=Qh hown;have Hap:=Qh hap;clear hown hge hle hap
  go_enter Tryz.func177,Tryz.ntmps177
  go_wp2_with (at_builtin;refine Zpf rfl rfl (by rfl) (by rfl) Hap.out ?_)
  go_wp2
  go_ret
  have hA:Zcd (some ⟨w.heap.size,0,none⟩) G 0 2=some ⟨w.heap.size,0,none⟩:=by unfold Zcd;split<;>simp[Addr.add]
  refine⟨some ⟨w.heap.size,0,none⟩,G,?_,Hown.out,((Upd.refl No w).alloc _).drew⟩;rw[←hA];rfl
theorem Zm0 (F:Nat→Prop) (w:World) (g:Nat) (c0:Nat) (A1 A2:Option Addr) (c1 c2:Nat) (l1 l2:List HOrd) (hb:Blk w g 27 [.slice A1 l1.length c1,.slice A2 l2.length c2]) (h1:Recs F w A1 2 (l1.map HOrd.cells)) (h2:Recs F w A2 2 (l2.map HOrd.cells)) (hl:l1.length+l2.length≤1000000):
  Calls Tryz.prog 85 #[.slice (some ⟨g,0,none⟩) 2 c0] w (ZmH w ((l1++l2).map HOrd.cells).flatten (l1++l2).length):=by
 have c0':=hb.cell 0;have c1':=hb.cell 1;simp only[Qz,Qs]at c0' c1'
 have s1:Hid (∀W,Upd No w W→Src W A1 l1.length 2 (l1.map HOrd.cells).flatten):=Qh fun W hu=>by
  have:=(Recs.upd h1 hu (fun _ _=>id)).src Zc3
  rwa [List.length_map]at this
 have s2:Hid (∀W,Upd No w W→Src W A2 l2.length 2 (l2.map HOrd.cells).flatten):=Qh fun W hu=>by
  have:=(Recs.upd h2 hu (fun _ _=>id)).src Zc3
  rwa [List.length_map]at this
 have HB:Hid (∀W,Upd No w W→Blk W g 27 [.slice A1 l1.length c1,.slice A2 l2.length c2]):=Qh fun W hu=>hb.upd hu id
 go_enter Tryz.func85,Tryz.ntmps85
 go_wp2;refine wp_loop_rounds 3 ?_;rw[rounds_succ];go_wp2;rw[rounds_succ];go_wp2;rw[rounds_succ];have hgr:=ZoB w (l1.length+l2.length) hl;rw[show((l1.length+l2.length:Nat):Int)=(l1.length:Int)+(l2.length:Int) by omega]at hgr;have Hgr:=Qh hgr;clear hgr
 go_wp2_with fail
 refine Hgr.out.mono ?_;rintro e w3 ⟨A3,c3,rfl,ho3,hu3⟩;have d0:=(HB.out w3 hu3).cell 0;have d1:=(HB.out w3 hu3).cell 1;simp only[Qz,Qs]at d0 d1;have hsz:=hu3.size;have tok:True:=trivial;go_wp2;refine wp_loop_rounds 3 ?_;rw[rounds_succ]
 go_wp2_with (at_builtin;have _t:=tok;refine Zem rfl rfl ZaW (n:=0) (m:=l1.length) (xs:=[]) (by rfl) (by rfl) ho3 (s1.out _ hu3) ZiM (by omega) (by omega) (by omega) ?_;intro v4 w4 hown4 hu4 hg4;clear tok;simp only[Nat.zero_add,List.nil_append]at hown4;obtain⟨A4,c4,rfl⟩:=Zar hown4;have uw4:Upd No w w4:=hu3.then_ hu4 (fun i e=> .inr (ho3.lt i e).1);have f0:=(HB.out _ uw4).cell 0;have f1:=(HB.out _ uw4).cell 1;simp only[Qz,Qs]at f0 f1)
 rw[rounds_succ]
 go_wp2_with (at_builtin;refine Zem rfl rfl ZaW (n:=l1.length) (m:=l2.length) (by rfl) (by rfl) hown4 (s2.out _ uw4) ZiM (by omega) (by omega) (by exact uw4.size) ?_;intro v5 w5 hown5 hu5 hg5;obtain⟨A5,c5,rfl⟩:=Zar hown5;have uw5:Upd No w w5:=uw4.then_ hu5 (fun i e=> .inr (hown4.lt i e).1))
 rw[rounds_succ];go_wp2
 go_ret
 have hll:(l1++l2).length=l1.length+l2.length:=List.length_append;refine⟨A5,c5,by rw[hll];rfl,?_,uw5⟩;rw[hll,List.map_append,List.flatten_append];exact hown5
end
end Go.Proofs.YtblplapkdmhikaaGreat
