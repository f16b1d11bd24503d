/- An index: the law of whatever is put and dropped. -/
import Derived.Test.YtblplapkdmhikaaGreatDxau
import Derived.Test.YtblplapkdmhikaaGreatDxca
namespace Go.Proofs.YtblplapkdmhikaaGreat
set_option linter.unusedVariables false
set_option linter.unusedSimpArgs false
section
open Go.RowKit
structure TDeed where
 k:Int
 t:HTx
def TDeed.cells (d:TDeed):List Value:=[.int .i64 d.k,.int .i64 d.t.id,.bool d.t.done,.slice d.t.A d.t.ops.length d.t.c]
def TDeeds (F:Nat→Prop) (w:World) (A:Option Addr) (l:List TDeed):Prop:=Recs F w A 4 (l.map TDeed.cells)∧∀d∈l,d.t.lies F w
theorem TDeeds.at_ {F:Nat→Prop} {w:World} {A:Option Addr} {l:List TDeed} (h:TDeeds F w A l) {k:Nat} (hk:k<l.length):∃ad,A=some ad∧
  w.cell? (ad.add (k*4))=some (.int .i64 l[k].k)∧w.cell? ⟨(ad.add (k*4)).block,(ad.add (k*4)).off+1,none⟩=some (.int .i64 l[k].t.id)∧
  w.cell? ⟨(ad.add (k*4)).block,(ad.add (k*4)).off+2,none⟩=some (.bool l[k].t.done)∧w.cell? ⟨(ad.add (k*4)).block,(ad.add (k*4)).off+3,none⟩=some (.slice l[k].t.A l[k].t.ops.length l[k].t.c):=by
 have hk':k<(l.map TDeed.cells).length:=by simpa using hk
 obtain⟨ad,e,_,_,hc⟩:=Recs.at_ h.1 hk';rw[List.getElem_map]at hc;exact⟨ad,e,by simpa using hc 0 _ rfl,by simpa using hc 1 _ rfl,by simpa using hc 2 _ rfl,by simpa using hc 3 _ rfl⟩
theorem TDeeds.upd {F S:Nat→Prop} {w w':World} {A:Option Addr} {l:List TDeed} (h:TDeeds F w A l) (k:Upd S w w') (hn:∀i,F i→¬S i):TDeeds F w' A l:=⟨Recs.upd h.1 k hn,fun d hd=>(h.2 d hd).upd k hn⟩
def PSt (wb:World) (g:Nat) (qi:List HTx) (A:Option Addr) (qs:List HTx) (b:Nat) (cs:List Value) (W:World):Prop:=
 ∃col,IX W col g qi∧Upd No wb W∧(∀i,col i≠0→wb.heap.size≤i)∧TxsY (fun i=>i<W.heap.size∧col i=0) W A qs∧(cs≠[]→col b=0∧Blk W b 83 cs)
namespace PSt
variable {wb W W':World} {g b:Nat} {qi qs:List HTx} {A:Option Addr} {cs:List Value}
theorem no (h:PSt wb g qi A qs b cs W) (k:Upd No W W'):PSt wb g qi A qs b cs W':=by
 obtain⟨col,h1,h2,h3,h4,h5⟩:=h;exact⟨col,h1.no k,h2.trans k,h3,(h4.upd k (fun _ _=>id)).weak (fun i hi e=>⟨hi,e.2⟩),fun e=>⟨(h5 e).1,(h5 e).2.upd k id⟩⟩
theorem box (h:PSt wb g qi A qs b cs W) (c2:List Value):PSt wb g qi A qs W.heap.size c2 (W.alloc (.cells c2.toArray 83)):=by
 obtain⟨col,h1,h2,h3,h4,h5⟩:=h;have k:=(Upd.refl No W).alloc (.cells c2.toArray 83);exact⟨col,h1.no k,h2.trans k,h3,(h4.upd k (fun _ _=>id)).weak (fun i hi e=>⟨hi,e.2⟩),fun _=>⟨h1.z _ (Nat.le_refl _),Blk.new W _ c2⟩⟩
theorem bare (h:PSt wb g qi A qs b cs W):PSt wb g qi A qs 0 [] W:=by
 obtain⟨col,h1,h2,h3,h4,h5⟩:=h;exact⟨col,h1,h2,h3,h4,fun e=>absurd rfl e⟩
theorem upd (h:PSt wb g qi A qs b cs W):Upd No wb W:=by
 obtain⟨col,h1,h2,h3,h4,h5⟩:=h;exact h2
theorem blk (h:PSt wb g qi A qs b cs W) (hc:cs≠[]):Blk W b 83 cs:=by
 obtain⟨col,h1,h2,h3,h4,h5⟩:=h;exact(h5 hc).2
theorem rise (h:PSt wb g qi A qs b cs W):ZA qi:=by
 obtain⟨col,h1,_⟩:=h;exact h1.2.1
theorem sl (h:PSt wb g qi A qs b cs W):∃F,Recs F W A 3 (qs.map HTx.cells):=by
 obtain⟨col,h1,h2,h3,h4,h5⟩:=h;exact⟨_,h4.1⟩
theorem turn {col col':Nat→Nat} (h1:IX W col g qi) (h2:Upd No wb W) (h3:∀i,col i≠0→wb.heap.size≤i) (h4:TxsY (fun i=>i<W.heap.size∧col i=0) W A qs) (h5:cs≠[]→col b=0∧Blk W b 83 cs)
  {q':List HTx} (k1:IX W' col' g q') (k2:TurnX W col W' col'):PSt wb g q' A qs b cs W':=by
 refine⟨col',k1,h2.then_ k2.2 (fun i e=> .inr (h3 i e)),fun i hi=> ?_,(h4.upd k2.2 (fun i hi e=>e hi.2)).weak (fun i _ hi=>k2.keep (fun i h=>h) i hi),fun e=> ?_⟩
 ·rcases Nat.lt_or_ge i W.heap.size with hlt|hge
  ·exact h3 i (by rw[←k2.1 i hlt];exact hi)
  ·have:=h2.size;omega
 ·obtain⟨a,c⟩:=h5 e;exact⟨by rw[k2.1 b c.lt];exact a,c.upd k2.2 (fun e=>e a)⟩
theorem put (h:PSt wb g qi A qs b cs W) (t:HTx) (ht:HOps (fun i=>i<wb.heap.size) W t.A t.ops) (hq:qi.length≤200) (hl:Ze t.ops.length):
  Calls Tryz.prog 36 #[.pointer (some ⟨g,0,none⟩),.agg #[.int .i64 t.id,.bool t.done,.slice t.A t.ops.length t.c]] W fun e w'=>e= .returned (.int .i64 (Zp t.id t.ops))∧PSt wb g (if Zp t.id t.ops=0 then ZT qi t else qi) A qs b cs w':=by
 obtain⟨col,h1,h2,h3,h4,h5⟩:=h;refine(ZjY _ h1 hq t ht hl (fun i hi=>Classical.byContradiction fun e=>by have:=h3 i e;omega)).mono ?_;rintro e w' ⟨rfl,col',k1,k2⟩;exact⟨rfl,turn h1 h2 h3 h4 h5 k1 k2⟩
theorem drop (h:PSt wb g qi A qs b cs W) (i:Int) (hq:qi.length≤200):
  Calls Tryz.prog 39 #[.pointer (some ⟨g,0,none⟩),.int .i64 i] W fun e w'=>e= .returned (.int .i64 (if (Za qi i).isSome then 0 else 3))∧PSt wb g (Zd qi i) A qs b cs w':=by
 obtain⟨col,h1,h2,h3,h4,h5⟩:=h;refine(ZiL h1 hq i).mono ?_;rintro e w' ⟨rfl,col',k1,k2⟩;exact⟨rfl,turn h1 h2 h3 h4 h5 k1 k2⟩
theorem slc (h:PSt wb g qi A qs b cs W) {A':Option Addr} {qs':List HTx} {c':Nat} (ho:W'.ownsRow W.heap.size 81 3 (.slice A' qs'.length c') qs'.length (txF qs')) (k:Upd No W W') (hm:∀x∈qs',x∈qs∨x.lies (fun i=>i<wb.heap.size) W):PSt wb g qi A' qs' b cs W':=by
 obtain⟨col,h1,h2,h3,h4,h5⟩:=h;have hs:=h2.size;have hk:=k.size;refine⟨col,h1.no k,h2.trans k,h3,⟨Recs.weak (Recs.of_own Zj7 (by omega) ho) (fun i _ e=>⟨(ho.lt i e).2,h1.z i (ho.lt i e).1⟩),fun x hx=> ?_⟩,fun e=>⟨(h5 e).1,(h5 e).2.upd k id⟩⟩;rcases hm x hx with e|e
 ·exact((h4.2 x e).upd k (fun _ _=>id)).weak (fun i hi e=>⟨hi,e.2⟩)
 ·exact(e.upd k (fun _ _=>id)).weak (fun i hi e=>⟨hi,Classical.byContradiction fun e2=>by have:=h3 i e2;omega⟩)
theorem tells (h:PSt wb g qi A qi b cs W) {c:Nat} (hc:qi.length≤c) (hq:qi.length≤100) (di dk vt vk vn:Int):
  Calls Tryz.prog 40 #[.pointer (some ⟨g,0,none⟩),.slice A qi.length c,.int .i64 di,.int .i64 dk,.agg #[.int .i64 vt,.int .i64 vk,.int .i64 vn]] W fun e w'=>e= .returned (.bool true)∧Upd No W w':=by
 obtain⟨col,h1,h2,h3,h4,h5⟩:=h;exact Zi8 di dk vt vk vn h1 h4 hc hq
end PSt
theorem Zhj {W:World} {base:Nat} {e:TypeId} {A:Option Addr} {n c:Nat} {xs:List Value} {s:Nat} (h:W.ownsRow base e s (.slice A n c) n xs):n≤c:=by
 rcases h.2 with ⟨h',hn⟩|⟨g,cap,cur,hv,hb,hg,hnc,_⟩
 ·omega
 ·cases hv
  exact hnc
theorem ZhN (q:List HTx) (i:Int):(Za q i).isSome=decide ((Zd q i).length<q.length):=by
 rw[Bool.eq_iff_iff,decide_eq_true_eq];unfold Za Zd;rw[List.find?_isSome,List.length_filter_lt_length_iff_exists];simp
set_option maxRecDepth 100000 in
set_option maxHeartbeats 8000000 in
theorem Zjl (F:Nat→Prop) (w:World) (A:Option Addr) (c:Nat) (ds:List TDeed) (di dk vt vk vn:Int) (hL:TDeeds F w A ds) (hll:ds.length≤9223372036854775807):
  Calls Tryz.prog 7 #[.slice A ds.length c,.int .i64 di,.int .i64 dk,.agg #[.int .i64 vt,.int .i64 vk,.int .i64 vn]] w fun e w'=>e= .returned (.bool true)∧Upd No w w':=by
 obtain⟨z,hz⟩:∃z,w.heap.size=z:=⟨_,rfl⟩;obtain⟨wb,hwb⟩:∃wb,w.alloc (.cells #[.int .i64 vt,.int .i64 vk,.int .i64 vn] 36)=wb:=⟨_,rfl⟩;have ub:Upd No w wb:=by rw[←hwb];exact(Upd.refl No w).alloc _
 have bb:Blk wb z 36 [.int .i64 vt,.int .i64 vk,.int .i64 vn]:=by rw[←hwb,←hz];exact Blk.new w _ _
 have V0:=Qh (show∀W,Upd No wb W→W.cell? ⟨z,0,none⟩=some (.int .i64 vt)∧W.cell? ⟨z,1,none⟩=some (.int .i64 vk)∧W.cell? ⟨z,2,none⟩=some (.int .i64 vn) from fun W u=>⟨(bb.upd u id).cell 0,(bb.upd u id).cell 1,(bb.upd u id).cell 2⟩);have UB:=Qh ub;have L:=Qh Zjx;have HN:=Qh (ZjZ wb);have hlt0:=ub.size;have HDS:=Qh (fun W (u:Upd No wb W)=>hL.upd (ub.trans u) (fun _ _=>id));have HTS:=Qh (fun(t:HTx) (d:Int) (hd:(⟨d,t⟩:TDeed)∈ds) W (u:Upd No wb W)=>((hL.2 _ hd).weak (G:=fun i=>i<wb.heap.size) (fun i hi _=>by omega)).upd (ub.trans u) (fun _ _=>id));clear hL ub bb hlt0
 by_cases h2:(30:Int)<(ds.length:Int)
 ·go_enter Tryz.func7,Tryz.ntmps7
  go_wp2_with fail
  refine(HN.out).mono ?_;rintro e w1 ⟨g,col,rfl,hx1,hu1,hc1⟩;have HU1:=Qh hu1;clear hx1 hc1 hu1
  go_wp2_with fail
  refine(L.out _).mono ?_;rintro e w2 ⟨rfl,hu2⟩;go_wp2
  go_ret
  exact⟨rfl,UB.out.trans (HU1.out.trans hu2)⟩
 go_enter Tryz.func7,Tryz.ntmps7
 go_wp2_with fail
 refine(HN.out).mono ?_;rintro e w1 ⟨g,col,rfl,hx1,hu1,hc1⟩;have HS0:=Qh (show PSt wb g [] none [] 0 [] w1 from⟨col,hx1,hu1,hc1,⟨fun e=>absurd rfl e,fun _ e=>by cases e⟩,fun e=>absurd rfl e⟩);clear hx1 hu1 hc1 HN hz hwb;go_wp2
 go_loopg [10,31] ds.length (fun gk s i wr=>∃(k:Nat) (A5:Option Addr) (c5:Nat) (q:List HTx),k+gk=ds.length∧i= .int .i64 k∧s= .slice A5 q.length c5∧q.length≤k∧Hid (q.length≤c5)∧Hid (PSt wb g q A5 q 0 [] wr))
 case atStart=>exact⟨0,none,0,[],by omega,rfl,rfl,by simp,Qh (by simp),HS0⟩
 case round=>
  obtain⟨k,A5,c5,q,hgk,rfl,rfl,hqk,hqc,hst⟩:=hrel
  by_cases hlt:k<ds.length
  ·obtain⟨ax,rfl,q0,q1,q2,q3⟩:=(HDS.out _ hst.out.upd).at_ hlt;obtain⟨x,hx⟩:∃x,ds[k]=x:=⟨_,rfl⟩;have hmem:x∈ds:=hx▸List.getElem_mem hlt;rw[hx]at q0 q1 q2 q3;obtain⟨xk,ti,td,tl,tA,tc⟩:=x;simp only at q0 q1 q2 q3;have HT:=Qh (HTS.out _ _ hmem);clear hx hmem;have b1:(0:Int)≤(k:Int):=Qn _;have b2:(k:Int)<(ds.length:Int):=by omega
   have hbx:=hst.out.box [.int .i64 xk,.int .i64 ti,.bool td,.slice tA tl.length tc];obtain⟨b,hb⟩:∃b,wr.heap.size=b:=⟨_,rfl⟩;obtain⟨wx,hwx⟩:∃wx,wr.alloc (.cells #[.int .i64 xk,.int .i64 ti,.bool td,.slice tA tl.length tc] 83)=wx:=⟨_,rfl⟩;have hbx:PSt wb g q A5 q b [.int .i64 xk,.int .i64 ti,.bool td,.slice tA tl.length tc] wx:=by rw[←hb,←hwx];exact hbx
   have ALLX:=Qh (show∀W,Blk W b 83 [.int .i64 xk,.int .i64 ti,.bool td,.slice tA tl.length tc]→W.cell? ⟨b,0,none⟩=some (.int .i64 xk)∧W.cell? ⟨b,1,none⟩=some (.int .i64 ti)∧W.cell? ⟨b,2,none⟩=some (.bool td)∧W.cell? ⟨b,3,none⟩=some (.slice tA tl.length tc)
    from fun W h=>⟨h.cell 0,h.cell 1,h.cell 2,h.cell 3⟩)
   obtain⟨g0,g1,g2,g3⟩:=ALLX.out _ (hbx.blk (by simp));have HB:=Qh hbx;clear hbx
   by_cases hlong:(30:Int)<(tl.length:Int)
   ·go_wp2_with fail
    refine(L.out _).mono ?_;rintro e w2 ⟨rfl,hu2⟩;go_wp2
    go_ret
    exact⟨rfl,UB.out.trans (HB.out.upd.trans hu2)⟩
   have hfew:Ze tl.length:=by unfold Ze;omega
   have hq200:q.length≤200:=by omega
   obtain⟨er,her⟩:∃v,Zp ti tl=v:=⟨_,rfl⟩;obtain⟨bk,hbk⟩:∃v,(xk==0)=v:=⟨_,rfl⟩;obtain⟨be,hbe⟩:∃v,(er==0)=v:=⟨_,rfl⟩;obtain⟨q',hq'⟩:∃q',(if bk=true then (if be=true then ZT q ⟨ti,td,tl,tA,tc⟩ else q) else Zd q ti)=q':=⟨_,rfl⟩
   have hql:q'.length≤k+1:=by
    rw[←hq'];have h1:=Zih q ⟨ti,td,tl,tA,tc⟩;have h2:=Zew q ti
    split
    ·split<;>omega
    ·omega
   have HQ:=Qh hq';have HBE:=Qh hbe;have HRi:=Qh (fun W (u:Upd No wb W)=>her▸Zie _ W ti td tA tc tl (HT.out W u).1 (HT.out W u).2.1 hfew);have HPu:=Qh (fun W (h:PSt wb g q A5 q b [.int .i64 xk,.int .i64 ti,.bool td,.slice tA tl.length tc] W)=>her▸h.put ⟨ti,td,tl,tA,tc⟩ (HT.out W h.upd).1 hq200 hfew);clear her hq' hst hbe
   go_upto_if 43 with fail
   clear hwx hb q0 q1 q2 q3
   go_cut [10] (fun s9 wy=>∃(A9:Option Addr) (c9:Nat),s9= .slice A9 q'.length c9∧q'.length≤c9∧PSt wb g q' A9 q' b [.int .i64 xk,.int .i64 ti,.bool td,.slice tA tl.length tc] wy)
   case first=>
    cases bk
    ·have hqq:Zd q ti=q':=by simpa using HQ.out
     have HDr:=Qh (Zji (c:=c5) ti HB.out.sl.choose_spec (by omega));rw[hqq]at HDr;obtain⟨bd,hbd⟩:∃v,(Za q ti).isSome=v:=⟨_,rfl⟩;have hbd2:decide (q'.length<q.length)=bd:=by rw[←hqq,←ZhN,hbd]
     rw[hbd2]at HDr;have HBD:=Qh hbd;have HQQ:=Qh hqq;clear hbd hbd2 hqq HRi HPu HQ HBE
     go_wp2_with fail
     refine(HDr.out).mono ?_;rintro e w5 ⟨A6,c6,rfl,ho6,hu6⟩;have hb5:=HB.out.slc ho6 hu6 (fun x hx=> .inl ((ZaF q ti x).1 (HQQ.out▸hx)).1);obtain⟨e0,e1,e2,e3⟩:=ALLX.out _ (hb5.blk (by simp));have HD:=Qh (hb5.drop ti hq200);rw[HBD.out,HQQ.out]at HD;have HC6:=Qh (Zhj ho6);clear HB HDr ho6 hu6 g0 g1 g2 g3 hb5 HBD HQQ
     cases bd
     ·simp only[Bool.false_eq_true,if_false]at HD
      go_wp2_with fail
      refine(HD.out).mono ?_;rintro e w6 ⟨rfl,hb6⟩;go_wp2
      go_meet
      exact⟨A6,c6,rfl,HC6.out,hb6⟩
     ·simp only[if_true]at HD
      go_wp2_with fail
      refine(HD.out).mono ?_;rintro e w6 ⟨rfl,hb6⟩;go_wp2
      go_meet
      exact⟨A6,c6,rfl,HC6.out,hb6⟩
    ·have hqq:(if be=true then ZT q ⟨ti,td,tl,tA,tc⟩ else q)=q':=by simpa using HQ.out
     have hqe:(if er=0 then ZT q ⟨ti,td,tl,tA,tc⟩ else q)=q':=by
      rw[←hqq,←HBE.out]
      by_cases e:er=0<;>simp[e]
     have HRi2:=Qh (HRi.out _ HB.out.upd);have HQQ:=Qh hqq;have HQE:=Qh hqe;clear HRi hqq hqe HQ
     go_wp2_with fail
     refine(HRi2.out).mono ?_;rintro e w4 ⟨rfl,hu4⟩;have HB4:=Qh (HB.out.no hu4);obtain⟨e0,e1,e2,e3⟩:=ALLX.out _ (HB4.out.blk (by simp));have HP:=Qh (HPu.out _ HB4.out);rw[HQE.out]at HP
     try simp only at HP
     clear HB HRi2 HPu hu4 g0 g1 g2 g3 HQE
     go_wp2_with fail
     refine(HP.out).mono ?_;rintro e w5 ⟨rfl,hb5⟩;obtain⟨f0,f1,f2,f3⟩:=ALLX.out _ (hb5.blk (by simp));have HB5:=Qh hb5;have hbe:=HBE.out;clear hb5 HP e0 e1 e2 e3
     cases be
     ·have hqq:=HQQ.out;simp only[Bool.false_eq_true,if_false]at hqq;have HQF:=Qh hqq;clear hqq;go_wp2
      go_meet
      exact⟨A5,c5,by rw[HQF.out],by rw[←HQF.out];exact hqc.out,by have:=HB5.out;rwa [HQF.out]at this⟩
     ·have hqq:=HQQ.out;simp only[if_true]at hqq;have HPt:=Qh (Zkf (c:=c5) ⟨ti,td,tl,tA,tc⟩ HB5.out.sl.choose_spec (by omega));rw[Zf9 _ q [] HB4.out.rise,List.nil_append,hqq]at HPt;unfold ZhU at HPt
      try simp only at HPt
      have HQF:=Qh hqq;clear hqq HB4
      go_wp2_with fail
      refine(HPt.out).mono ?_;rintro e w6 ⟨A6,c6,rfl,ho6,hu6⟩
      have HB6:=Qh (HB5.out.slc ho6 hu6 (fun x hx=>by
       rcases(ZaE _ _ _).1 (HQF.out.symm▸hx)with e|e
       ·exact .inr (e▸HT.out _ HB5.out.upd)
       ·exact .inl e.1))
      have HC6:=Qh (Zhj ho6);clear ho6 hu6;go_wp2
      go_meet
      exact⟨A6,c6,rfl,HC6.out,HB6.out⟩
   case rest=>
    obtain⟨A9,c9,rfl,hc9,hcu⟩:=hcut;have HC9:=Qh hc9;have CT1:=Qh (hcu.tells hc9 (by omega) di dk vt vk vn);have CT2:=Qh (fun W (u:Upd No wc W)=>(hcu.no u).tells HC9.out (by omega) ti dk vt vk vn);obtain⟨v0,v1,v2⟩:=V0.out _ hcu.upd;have HCU:=Qh hcu;clear hcu HQ HBE HRi HPu HB g0 g1 g2 g3 hc9
    go_wp2_with fail
    refine(CT1.out).mono ?_;rintro e w2 ⟨rfl,hu2⟩;have HB2:=Qh (HCU.out.no hu2);obtain⟨f0,f1,f2,f3⟩:=ALLX.out _ (HB2.out.blk (by simp));obtain⟨y0,y1,y2⟩:=V0.out _ HB2.out.upd;have CT:=Qh (CT2.out _ hu2);clear hu2 CT1 CT2 HCU v0 v1 v2
    go_wp2_with fail
    refine(CT.out).mono ?_;rintro e w3 ⟨rfl,hu3⟩;go_wp2
    go_roundg (gk-1)
    case measure=>omega
    case rel=>exact⟨k+1,A9,c9,q',by omega,by go_num,rfl,by omega,HC9,Qh ((HB2.out.no hu3).bare)⟩
  ·obtain rfl:k=ds.length:=by omega
   go_wp2_with fail
   refine(L.out _).mono ?_;rintro e w2 ⟨rfl,hu2⟩;go_wp2
   go_ret
   exact⟨rfl,UB.out.trans (hst.out.upd.trans hu2)⟩
end
/- How deeds to an index come in;all that the law IndexPlays needs. -/
section
open Go.RowKit
theorem ZkV:Tryz.prog.cellsOf 36=3:=by kernel_rfl
theorem Zgl:Tryz.prog.cellsOf 83=4:=by kernel_rfl
theorem ZjW:Tryz.prog.bytesOf 83=48:=by kernel_rfl
section
variable {H:Type} {enc:TypeId×Value→H} {w:World} {base:Nat} {spare:Nat→Bool} {held:Bool} {row:List Value}
theorem ZkH (h:Rdz enc Tryz.prog w base spare held 36 row):∃v:Ver,row=v.cells:=by
 obtain⟨hl,hf⟩:=h.struct_ Tryz.underlying36;rw[ZkV]at hl;obtain⟨c0,c1,c2,rfl⟩:=cs3 hl;have h0:Rdz enc Tryz.prog w base spare held 3 (([c0,c1,c2].drop 0).take (Tryz.prog.cellsOf 3)):=hf 0 _ rfl;have h1:Rdz enc Tryz.prog w base spare held 3 (([c0,c1,c2].drop 1).take (Tryz.prog.cellsOf 3)):=hf 1 _ rfl;have h2:Rdz enc Tryz.prog w base spare held 3 (([c0,c1,c2].drop 2).take (Tryz.prog.cellsOf 3)):=hf 2 _ rfl;rw[ZeK]at h0 h1 h2;obtain⟨n0,rfl,_⟩:=rhi h0;obtain⟨n1,rfl,_⟩:=rhi h1;obtain⟨n2,rfl,_⟩:=rhi h2;exact⟨⟨n0,n1,n2⟩,rfl⟩
theorem Zjf (h:Rdz enc Tryz.prog w base spare held 83 row):∃d:TDeed,row=d.cells∧d.t.lies (fun _=>True) w:=by
 obtain⟨hl,hf⟩:=h.struct_ Tryz.underlying83;rw[Zgl]at hl;obtain⟨c0,c1,c2,c3,rfl⟩:=cs4 hl;have h0:Rdz enc Tryz.prog w base spare held 3 (([c0,c1,c2,c3].drop 0).take (Tryz.prog.cellsOf 3)):=hf 0 _ rfl;have h1:Rdz enc Tryz.prog w base spare held 81 (([c0,c1,c2,c3].drop 1).take (Tryz.prog.cellsOf 81)):=hf 1 _ rfl;rw[ZeK]at h0;rw[ZkB]at h1;obtain⟨n0,rfl,_⟩:=rhi h0;obtain⟨t,ht,hi⟩:=Zk0 h1;unfold HTx.cells at ht;simp only[List.drop_succ_cons,List.drop_zero,List.take_succ_cons,List.take_zero,List.cons.injEq,and_true]at ht;obtain⟨rfl,rfl,rfl⟩:=ht;exact⟨⟨n0,t⟩,rfl,hi⟩
theorem Zia {v:Value} (h:Rdz enc Tryz.prog w base spare held 76 [v]):∃(A:Option Addr) (c:Nat) (l:List TDeed),v= .slice A l.length c∧TDeeds (fun _=>True) w A l∧l.length≤4398046511103:=by
 rcases h.slice_ Tryz.underlying76 Zgl (by omega)with h|⟨a,len,cap,rows,hv,hl,hm,hlen,hz,hrec,hrow⟩
 ·cases h
  exact⟨none,0,[],rfl,⟨fun h=>absurd rfl h,fun e he=>by cases he⟩,by simp⟩
 ·cases hv
  obtain⟨l,rfl,hok⟩:=Ze1 (f:=TDeed.cells) (Q:=fun d=>d.t.lies (fun _=>True) w) fun row hr=>Zjf (hrow row hr).2
  rw[List.length_map]at hlen;subst hlen;rw[ZjW]at hz;unfold reachBytes at hz;exact⟨some a,cap,l,rfl,⟨hrec,hok⟩,by omega⟩
end
end
end Go.Proofs.YtblplapkdmhikaaGreat
