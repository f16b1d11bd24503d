/- Closed walks, the document's: the search is walked. -/
import Derived.Test.YtdbjokfejmgepaaRabq
namespace Go.Proofs.Ytdbjokfejmgepaa
set_option linter.unusedVariables false
set_option linter.unusedSimpArgs false
section
open Go.RowKit
def ZcB (g:Nat) (A1 A2:Option Addr):Nat→Prop:=fun i=>(¬Own (.slice A1 0 0) i∧¬Own (.slice A2 0 0) i)∧(i≠g∧g<i+4)
theorem ZE (w:World) (F:Nat→Prop) (A:Option Addr) (c:Nat) (l:List Int) (a:Int) (h:Ints F w A l) (hl:l.length≤4398046511103) {v:Bool} (hv:decide (a∈l)=v):
  Calls Try.prog 82 #[.slice A l.length c,.int .i64 a] w fun e w'=>e= .returned (.bool v)∧Upd No w w':=by
 subst hv;refine(ZkZ w F A c l a h hl).mono ?_;rintro e w' ⟨rfl,rfl⟩;exact⟨rfl,Upd.refl _ _⟩
theorem Zal (w:World) (mask kind:Int) {v:Bool} (hv:Zh mask kind=v):Calls Try.prog 80 #[.int .i64 mask,.int .i64 kind] w fun e w'=>e= .returned (.bool v)∧Upd No w w':=by
 subst hv;exact Zjr w mask kind
theorem Zfm (G:Nat→Prop) (base:Nat) (w:World) (A:Option Addr) (c:Nat) (l:List Int) (n:Int) (h:Ints G w A l) (hl:l.length≤100000000) (hb:base≤w.heap.size):
  Calls Try.prog 84 #[.slice A l.length c,.int .i64 n] w fun e w'=>∃A' c',e= .returned (.slice A' (Zd n l).length c')∧Ints (fun i=>base≤i) w' A' (Zd n l)∧Upd No w w':=by
 refine(Zhd G w A c l n h hl).mono ?_;rintro e w' ⟨A',c',rfl,ho,hu⟩;exact⟨A',c',rfl,(Ints.of_owned ho).weak (fun i _ h=>by omega),hu⟩
theorem ZbA {pa a:List Int} {e:Edge} {c1:Bool} (h1:decide (e.t∈pa)=c1):Zbm pa a e=if c1=true then Zd e.f a else a:=by subst h1;rfl
theorem Zbz {must:Int} {pa pn b:List Int} {e:Edge} {c1 c2 c3:Bool} (h1:decide (e.t∈pa)=c1) (h2:Zh must e.k=c2) (h3:decide (e.t∈pn)=c3):
  Zbl must pa pn b e=if c3=true then Zd e.f (if (c1&&c2)=true then Zd e.f b else b) else (if (c1&&c2)=true then Zd e.f b else b):=by subst h1 h2 h3;rfl
set_option maxRecDepth 100000 in
set_option maxHeartbeats 16000000 in
theorem Zl5 (F:Nat→Prop) (w:World) (A:Option Addr) (c:Nat) (l:List Edge) (must tgt:Int) (steps:Nat) (h:Walk F w A l) (hl:l.length≤10000) (hs:steps≤100000):
  Calls Try.prog 81 #[.slice A l.length c,.int .i64 must,.int .i64 tgt,.int .i64 (steps:Int)] w fun e w'=>∃v,e= .returned v∧BackAt w' v steps (Zf must l tgt)∧Upd No w w':=by
 obtain⟨wb,hwb⟩:∃wb,((((w.alloc (.cells #[.slice none 0 0,.slice none 0 0] 125)).alloc (.cells #[.int .i64 tgt] 3)).alloc (.cells #[.slice (some ⟨w.heap.size+1,0,none⟩) 1 1] 50)).alloc (.cells #[.slice none 0 0] 50)).alloc
  (.cells #[.slice (some ⟨w.heap.size+1+1,0,none⟩) 1 1,.slice (some ⟨w.heap.size+1+1+1,0,none⟩) 1 1] 125)=wb:=⟨_,rfl⟩
 have u0:Upd No w wb:=by rw[←hwb];exact(((((Upd.refl No w).alloc _).alloc _).alloc _).alloc _).alloc _
 have bR:Blk wb w.heap.size 125 [.slice none 0 0,.slice none 0 0]:=by rw[←hwb];exact((((Blk.new w _ _).alloc _).alloc _).alloc _).alloc _
 have bX:Blk wb (w.heap.size+1) 3 [.int .i64 tgt]:=by
  rw[←hwb];have:=(((Blk.new (w.alloc (.cells #[.slice none 0 0,.slice none 0 0] 125)) 3 [.int .i64 tgt]).alloc (.cells #[.slice (some ⟨w.heap.size+1,0,none⟩) 1 1] 50)).alloc (.cells #[.slice none 0 0] 50)).alloc (.cells #[.slice (some ⟨w.heap.size+1+1,0,none⟩) 1 1,.slice (some ⟨w.heap.size+1+1+1,0,none⟩) 1 1] 125)
  simpa using this
 have b1:Blk wb (w.heap.size+1+1) 50 [.slice (some ⟨w.heap.size+1,0,none⟩) 1 1]:=by
  rw[←hwb];have:=((Blk.new ((w.alloc (.cells #[.slice none 0 0,.slice none 0 0] 125)).alloc (.cells #[.int .i64 tgt] 3)) 50 [.slice (some ⟨w.heap.size+1,0,none⟩) 1 1]).alloc (.cells #[.slice none 0 0] 50)).alloc (.cells #[.slice (some ⟨w.heap.size+1+1,0,none⟩) 1 1,.slice (some ⟨w.heap.size+1+1+1,0,none⟩) 1 1] 125)
  simpa using this
 have b2:Blk wb (w.heap.size+1+1+1) 50 [.slice none 0 0]:=by
  rw[←hwb];have:=(Blk.new (((w.alloc (.cells #[.slice none 0 0,.slice none 0 0] 125)).alloc (.cells #[.int .i64 tgt] 3)).alloc (.cells #[.slice (some ⟨w.heap.size+1,0,none⟩) 1 1] 50)) 50 [.slice none 0 0]).alloc (.cells #[.slice (some ⟨w.heap.size+1+1,0,none⟩) 1 1,.slice (some ⟨w.heap.size+1+1+1,0,none⟩) 1 1] 125)
  simpa using this
 have bB:Blk wb (w.heap.size+1+1+1+1) 125 [.slice (some ⟨w.heap.size+1+1,0,none⟩) 1 1,.slice (some ⟨w.heap.size+1+1+1,0,none⟩) 1 1]:=by
  rw[←hwb];have:=Blk.new ((((w.alloc (.cells #[.slice none 0 0,.slice none 0 0] 125)).alloc (.cells #[.int .i64 tgt] 3)).alloc (.cells #[.slice (some ⟨w.heap.size+1,0,none⟩) 1 1] 50)).alloc (.cells #[.slice none 0 0] 50)) 125 [.slice (some ⟨w.heap.size+1+1,0,none⟩) 1 1,.slice (some ⟨w.heap.size+1+1+1,0,none⟩) 1 1]
  simpa using this
 have ho1:wb.ownsRow (w.heap.size+1) 50 1 (.slice (some ⟨w.heap.size+1+1,0,none⟩) 1 1) 1 [.slice (some ⟨w.heap.size+1,0,none⟩) 1 1]:=Zdu b1 (by omega) (by omega) rfl rfl (by decide) rfl;have ho2:wb.ownsRow (w.heap.size+1) 50 1 (.slice (some ⟨w.heap.size+1+1+1,0,none⟩) 1 1) 1 [.slice none 0 0]:=Zdu b2 (by omega) (by omega) rfl rfl (by decide) rfl
 have hR1:RowsOk (ZcB (w.heap.size+1+1+1+1) (some ⟨w.heap.size+1+1,0,none⟩) (some ⟨w.heap.size+1+1+1,0,none⟩)) wb [.slice (some ⟨w.heap.size+1,0,none⟩) 1 1] (fun j=>(Zf must l tgt j).1):=⟨fun j hj=>by
  have:j=0:=by simpa using hj
  subst this;exact⟨_,_,rfl,(ZjV (xs:=[tgt]) bX).weak (fun i _ e=>⟨⟨fun e2=>by have:=ZcD e2;omega,fun e2=>by have:=ZcD e2;omega⟩,⟨by omega,by omega⟩⟩)⟩⟩
 have hR2:RowsOk (ZcB (w.heap.size+1+1+1+1) (some ⟨w.heap.size+1+1,0,none⟩) (some ⟨w.heap.size+1+1+1,0,none⟩)) wb [.slice none 0 0] (fun j=>(Zf must l tgt j).2):=⟨fun j hj=>by
  have:j=0:=by simpa using hj
  subst this;exact⟨none,0,rfl,fun h=>absurd rfl h⟩⟩
 have HW:=Qh (fun(W:World) (u:Upd No w W)=>h.upd u (fun _ _=>id));have HRL:=Qh (Zgk must l tgt);have U0:=Qh u0;have BB:=Qh bB;have BR:=Qh bR;have HO1:=Qh ho1;have HO2:=Qh ho2;have HR1:=Qh hR1;have HR2:=Qh hR2;clear h u0 bR bX b1 b2 bB ho1 ho2 hR1 hR2
 go_enter Try.func81,Try.ntmps81
 go_wp2;clear hwb
 go_loopg [10] steps (fun gk i wr=>∃(n:Nat) (A1:Option Addr) (c1:Nat) (vs1:List Value) (A2:Option Addr) (c2:Nat) (vs2:List Value),n+gk=steps∧i= .int .i64 ((n:Int)+1)∧Hid (vs1.length=n+1∧vs2.length=n+1)∧
  Hid (Blk wr (w.heap.size+1+1+1+1) 125 [.slice A1 (n+1) c1,.slice A2 (n+1) c2])∧Hid (Blk wr w.heap.size 125 [.slice none 0 0,.slice none 0 0])∧
  Hid (wr.ownsRow (w.heap.size+1) 50 1 (.slice A1 (n+1) c1) (n+1) vs1)∧Hid (wr.ownsRow (w.heap.size+1) 50 1 (.slice A2 (n+1) c2) (n+1) vs2)∧
  Hid (∀i,Own (.slice A1 0 0) i→¬Own (.slice A2 0 0) i∧i≠w.heap.size+1+1+1+1)∧Hid (∀i,Own (.slice A2 0 0) i→i≠w.heap.size+1+1+1+1)∧
  Hid (RowsOk (ZcB (w.heap.size+1+1+1+1) A1 A2) wr vs1 (fun j=>(Zf must l tgt j).1))∧Hid (RowsOk (ZcB (w.heap.size+1+1+1+1) A1 A2) wr vs2 (fun j=>(Zf must l tgt j).2))∧Upd No w wr)
 case atStart=>exact⟨0,_,1,_,_,1,_,by omega,by first|rfl|go_num,Qh ⟨rfl,rfl⟩,BB,BR,HO1,HO2,Qh (fun i e=>⟨fun e2=>by have:=ZcD e;have:=ZcD e2;omega,by have:=ZcD e;omega⟩),Qh (fun i e=>by have:=ZcD e;omega),HR1,HR2,U0.out⟩
 case round=>
  obtain⟨n,A1,c1,vs1,A2,c2,vs2,hgk,rfl,HVL,BN,BRR,HO1,HO2,HD,HD2,HR1,HR2,hu⟩:=hrel;obtain⟨wo,hwo⟩:∃wo,wo=wr:=⟨_,rfl⟩;subst hwo;obtain⟨g0,hg0⟩:∃g0,g0=gk:=⟨_,rfl⟩;subst hg0
  by_cases hlt:n<steps
  ·have e0:decide ((n:Int)+1≤(steps:Int))=true:=decide_eq_true (by omega);obtain⟨ad1,P,cp,rfl,y1,hP⟩:=(Zcu HO1.out HVL.out.1 HR1.out).at_ n (by omega);obtain⟨ad2,Q,cq,rfl,y2,hQ⟩:=(Zcu HO2.out HVL.out.2 HR2.out).at_ n (by omega);have hln:=HRL.out n;obtain⟨pa,hpa⟩:∃pa,(Zf must l tgt n).1=pa:=⟨_,rfl⟩;obtain⟨pn,hpn⟩:∃pn,(Zf must l tgt n).2=pn:=⟨_,rfl⟩;obtain⟨RR,hRR⟩:∃RR,Zf must l tgt (n+1)=RR:=⟨_,rfl⟩;have hst0:ZI must pa pn [] [] l=RR:=by rw[←hRR,←hpa,←hpn];rfl
   rw[hpa]at y1 hP hln;rw[hpn]at y2 hQ hln;have HLN:=Qh hln;have HRR:=Qh hRR;have HST0:=Qh hst0;have HPP:=Qh (fun(W:World) (u:Upd No wo W)=>hP.upd u (fun _ _=>id));have HQQ:=Qh (fun(W:World) (u:Upd No wo W)=>hQ.upd u (fun _ _=>id));have i1:(0:Int)≤(n:Int):=Qn _;have i2:(n:Int)<(n:Int)+1:=by omega
   have i4:((n+1:Nat):Int)=(n:Int)+1:=by omega
   have i3:IntKind.i64.wrap ((n:Int)+1-1)=(n:Int):=by rw[show(n:Int)+1-1=(n:Int) by omega];exact IntWalk.i64_in _ (by omega)
   have i5:IntKind.i64.wrap (n:Int)=(n:Int):=IntWalk.i64_in _ (by omega);have BL:=Qh BN.out.lt;have HUO:=Qh hu;clear hln hpa hpn hRR hst0 hP hQ;go_wp2
   go_loopg [11,12,27] l.length (fun gj sa sb i wr=>∃(k:Nat) (A5:Option Addr) (c5:Nat) (a:List Int) (A6:Option Addr) (c6:Nat) (b:List Int),k+gj=l.length∧i= .int .i64 k∧sa= .slice A5 a.length c5∧sb= .slice A6 b.length c6∧
    Hid (ZI must pa pn a b (l.drop k)=RR)∧Hid (a.length≤k∧b.length≤2*k)∧Ints (fun i=>wo.heap.size≤i) wr A5 a∧Ints (fun i=>wo.heap.size≤i) wr A6 b∧Upd No wo wr)
   case atStart=>exact⟨0,none,0,[],none,0,[],by omega,rfl,rfl,rfl,HST0,Qh ⟨by simp,by simp⟩,fun h=>absurd rfl h,fun h=>absurd rfl h,Upd.refl _ _⟩
   case round=>
    obtain⟨k,A5,c5,a,A6,c6,b,hgj,rfl,rfl,rfl,HS0,HLL,hia,hib,huj⟩:=hrel
    by_cases hk:k<l.length
    ·obtain⟨ax,rfl,q0,q1,q2,q3⟩:=(HW.out wr (HUO.out.trans huj)).at_ hk;obtain⟨x,hxx⟩:∃x,l[k]=x:=⟨_,rfl⟩;have hdr:=List.drop_eq_getElem_cons hk;rw[hxx]at q0 q1 q2 q3 hdr;have HS:=Qh (show ZI must pa pn (Zbm pa a x) (Zbl must pa pn b x) (l.drop (k+1))=RR by rw[←HS0.out,hdr];rfl);have j1:(0:Int)≤(k:Int):=Qn _;have j2:(k:Int)<(l.length:Int):=by omega
     obtain⟨wx,hwx⟩:∃wx,wr.alloc (.cells #[.int .i64 x.f,.int .i64 x.t,.int .i64 x.k,.int .i64 x.key] 89)=wx:=⟨_,rfl⟩;have ux:Upd No wr wx:=by rw[←hwx];exact(Upd.refl No wr).alloc _
     have bo:Blk wx wr.heap.size 89 [.int .i64 x.f,.int .i64 x.t,.int .i64 x.k,.int .i64 x.key]:=by rw[←hwx];exact Blk.new wr _ _
     have huw:=huj.trans ux;have bw:=BN.out.upd huw id;have g0':∀W,Upd No wx W→W.cell? ⟨wr.heap.size,0,none⟩=some (.int .i64 x.f):=fun W u=>by have:=(bo.upd u id).cell 0;simpa using this
     have g1:∀W,Upd No wx W→W.cell? ⟨wr.heap.size,1,none⟩=some (.int .i64 x.t):=fun W u=>by have:=(bo.upd u id).cell 1;simpa using this
     have g2:∀W,Upd No wx W→W.cell? ⟨wr.heap.size,2,none⟩=some (.int .i64 x.k):=fun W u=>by have:=(bo.upd u id).cell 2;simpa using this
     have k0:∀W,Upd No wx W→W.cell? ⟨w.heap.size+1+1+1+1,0,none⟩=some (.slice (some ad1) (n+1) c1):=fun W u=>by have:=(bw.upd u id).cell 0;simpa using this
     have k1:∀W,Upd No wx W→W.cell? ⟨w.heap.size+1+1+1+1,1,none⟩=some (.slice (some ad2) (n+1) c2):=fun W u=>by have:=(bw.upd u id).cell 1;simpa using this
     have r1:∀W,Upd No wx W→W.cell? (ad1.add n)=some (.slice P pa.length cp):=fun W u=>(huw.trans u).keepNo y1
     have r2:∀W,Upd No wx W→W.cell? (ad2.add n)=some (.slice Q pn.length cq):=fun W u=>(huw.trans u).keepNo y2
     have HQ:=Qh (fun(W:World) (u:Upd No wx W)=>HQQ.out W (huw.trans u));have HUW:=Qh huw;have hxr:Upd No wx wx:=Upd.refl _ _;have HIA:=Qh (hia.upd ux (fun _ _=>id));have HIB:=Qh (hib.upd ux (fun _ _=>id));have HBT:=Qh (fun(W:World) (v:Bool) (hv:Zh must x.k=v)=>Zal W must x.k hv);clear hdr hxx ux bo bw hia hib huw
     cases hta:decide (x.t∈pa)
     ·have HIN1:=Qh (fun(W:World) (u:Upd No wx W)=>ZE W _ P cp pa x.t (HPP.out W (HUW.out.trans u)) (by have:=HLN.out;omega) hta);have HTA:=Qh hta;obtain⟨bk,hbk0⟩:∃bk,Zh must x.k=bk:=⟨_,rfl⟩;have HBK:=Qh hbk0;clear hbk0;clear hta;go_wp2;clear hwx q0 q1 q2 q3;refine wp_region_noPanic ?_;refine wp_region_held_drew (S:=(fun W'=>Upd No wx W')) (by kernel_rfl) ?_ (fun hHeld=> ?_)
      ·(first|exact(Upd.refl No _).drew|exact hHeld.trans hu4)
      refine wpK 0 rfl ?_;refine wpK 1 rfl ?_;refine wpK 2 rfl ?_;refine wpK 3 rfl ?_;refine wpK 4 rfl ?_;refine wpK 5 rfl ?_;refine wpK 6 rfl ?_;refine wpK 7 rfl ?_;refine wpR [8] ?_;refine wpC rfl (fun K hK=> ?_) AllReadyH.nil;go_simp
      (first
  |(go_at_call 82;refine(HIN1.out _ hHeld).mono ?_;rintro e w4 ⟨rfl,hu4⟩))
      try (go_wp2_with fail)
      refine hK.out _ _ ?_ (fun hHeld=> ?_)
      ·(first|exact(Upd.refl No _).drew|exact hHeld.trans hu4)
      clear hK K
      try simp only[Act.put,sT,sS,sZ]
      refine wpD (NoPanic.normal ?_);have H4:=Qh hHeld;have ha4:=Qh (HIA.out.upd H4.out (fun _ _=>id));have hb4:=Qh (HIB.out.upd H4.out (fun _ _=>id));have hx4:=hHeld;clear hHeld hu4
      cases htn:decide (x.t∈pn)
      ·have HIN2:=Qh (fun(W:World) (u:Upd No wx W)=>ZE W _ Q cq pn x.t (HQ.out W u) (by have:=HLN.out;omega) htn);have HST:=Qh (show ZI must pa pn a b (l.drop (k+1))=RR by have:=HS.out;rw[ZbA HTA.out,Zbz HTA.out HBK.out htn]at this;exact this);clear htn;go_wp2;refine wp_region_noPanic ?_;refine wp_region_held_drew (S:=(fun W'=>Upd No wx W')) (by kernel_rfl) ?_ (fun hHeld=> ?_)
       ·(first|exact(Upd.drew H4.out)|exact hHeld.trans hu9)
       refine wpK 0 rfl ?_;refine wpK 1 rfl ?_;refine wpK 2 rfl ?_;refine wpK 3 rfl ?_;refine wpK 4 rfl ?_;refine wpK 5 rfl ?_;refine wpK 6 rfl ?_;refine wpK 7 rfl ?_;refine wpR [8] ?_;refine wpC rfl (fun K hK=> ?_) AllReadyH.nil;go_simp
       (first
  |(go_at_call 82;refine(HIN2.out _ hHeld).mono ?_;rintro e w9 ⟨rfl,hu9⟩;have hu9':Upd No w4 w9:=Upd.of_drew hu9))
       try (go_wp2_with fail)
       refine hK.out _ _ ?_ (fun hHeld=> ?_)
       ·(first|exact(Upd.drew H4.out)|exact hHeld.trans hu9)
       clear hK K
       try simp only[Act.put,sT,sS,sZ]
       refine wpD (NoPanic.normal ?_);have HU9:=Qh hHeld;have HI9a:=Qh (Ints.upd ha4.out hu9' (fun _ _=>id));have HI9b:=Qh (Ints.upd hb4.out hu9' (fun _ _=>id));clear hHeld hu9 hu9';go_wp2
       go_roundg (gk-1)
       case measure=>omega
       case rel=>exact⟨k+1,A5,c5,a,A6,c6,b,by omega,by go_num,rfl,rfl,HST,Qh (by have:=HLL.out;have:=Zk x.f a;have:=Zk x.f b;refine⟨?_,?_⟩<;>omega),HI9a.out,HI9b.out,HUW.out.trans HU9.out⟩
      ·have HIN2:=Qh (fun(W:World) (u:Upd No wx W)=>ZE W _ Q cq pn x.t (HQ.out W u) (by have:=HLN.out;omega) htn);have HST:=Qh (show ZI must pa pn a (Zd x.f b) (l.drop (k+1))=RR by have:=HS.out;rw[ZbA HTA.out,Zbz HTA.out HBK.out htn]at this;exact this);have HPT:=Qh (fun(W:World) (u:Upd No w4 W)=>Zfm _ wo.heap.size W A6 c6 b x.f (Ints.upd hb4.out u (fun _ _=>id)) (by have:=HLL.out;have:=Zk x.f b;omega) (Nat.le_trans HUW.out.size (Nat.le_trans (Upd.size H4.out) u.size)));clear htn;go_wp2;refine wp_region_noPanic ?_;refine wp_region_held_drew (S:=(fun W'=>Upd No wx W')) (by kernel_rfl) ?_ (fun hHeld=> ?_)
       ·(first|exact(Upd.drew H4.out)|exact hHeld.trans hu9)
       refine wpK 0 rfl ?_;refine wpK 1 rfl ?_;refine wpK 2 rfl ?_;refine wpK 3 rfl ?_;refine wpK 4 rfl ?_;refine wpK 5 rfl ?_;refine wpK 6 rfl ?_;refine wpK 7 rfl ?_;refine wpR [8] ?_;refine wpC rfl (fun K hK=> ?_) AllReadyH.nil;go_simp
       (first
  |(go_at_call 82;refine(HIN2.out _ hHeld).mono ?_;rintro e w9 ⟨rfl,hu9⟩;have hu9':Upd No w4 w9:=Upd.of_drew hu9))
       try (go_wp2_with fail)
       refine hK.out _ _ ?_ (fun hHeld=> ?_)
       ·(first|exact(Upd.drew H4.out)|exact hHeld.trans hu9)
       clear hK K
       try simp only[Act.put,sT,sS,sZ]
       refine wpD (NoPanic.normal ?_);have HU9:=Qh hHeld;have HI9a:=Qh (Ints.upd ha4.out hu9' (fun _ _=>id));have hx9:=hHeld;clear hHeld hu9
       go_wp2_with fail
       refine(HPT.out w9 hu9').mono ?_;rintro e w10 ⟨A10,c10,rfl,hi10,hu10⟩;have HI10a:=Qh (HI9a.out.upd hu10 (fun _ _=>id));have HI10b:=Qh hi10;have HU10:=Qh (HU9.out.trans hu10);clear hi10 hu10 hx9;go_wp2
       go_roundg (gk-1)
       case measure=>omega
       case rel=>exact⟨k+1,A5,c5,a,A10,c10,Zd x.f b,by omega,by go_num,rfl,rfl,HST,Qh (by have:=HLL.out;have:=Zk x.f a;have:=Zk x.f b;have:=Zk x.f b;refine⟨?_,?_⟩<;>omega),HI10a.out,HI10b.out,HUW.out.trans HU10.out⟩
     ·have HIN1:=Qh (fun(W:World) (u:Upd No wx W)=>ZE W _ P cp pa x.t (HPP.out W (HUW.out.trans u)) (by have:=HLN.out;omega) hta);have HPA:=Qh (fun(W:World) (u:Upd No wx W)=>Zfm _ wo.heap.size W A5 c5 a x.f (HIA.out.upd u (fun _ _=>id)) (by have:=HLL.out;omega) (Nat.le_trans HUW.out.size u.size));have HPB:=Qh (fun(W:World) (u:Upd No wx W)=>Zfm _ wo.heap.size W A6 c6 b x.f (HIB.out.upd u (fun _ _=>id)) (by have:=HLL.out;omega) (Nat.le_trans HUW.out.size u.size));have HTA:=Qh hta;clear hta;go_wp2;clear hwx q0 q1 q2 q3;refine wp_region_noPanic ?_;refine wp_region_held_drew (S:=(fun W'=>Upd No wx W')) (by kernel_rfl) ?_ (fun hHeld=> ?_)
      ·(first|exact(Upd.refl No _).drew|exact hHeld.trans hu4)
      refine wpK 0 rfl ?_;refine wpK 1 rfl ?_;refine wpK 2 rfl ?_;refine wpK 3 rfl ?_;refine wpK 4 rfl ?_;refine wpK 5 rfl ?_;refine wpK 6 rfl ?_;refine wpK 7 rfl ?_;refine wpR [8] ?_;refine wpC rfl (fun K hK=> ?_) AllReadyH.nil;go_simp
      (first
  |(go_at_call 82;refine(HIN1.out _ hHeld).mono ?_;rintro e w4 ⟨rfl,hu4⟩))
      try (go_wp2_with fail)
      refine hK.out _ _ ?_ (fun hHeld=> ?_)
      ·(first|exact(Upd.refl No _).drew|exact hHeld.trans hu4)
      clear hK K
      try simp only[Act.put,sT,sS,sZ]
      refine wpD (NoPanic.normal ?_);have hx4:Upd No wx w4:=hHeld;clear hHeld hu4
      go_wp2_with fail
      refine(HPA.out w4 hx4).mono ?_;rintro e w5 ⟨A7,c7,rfl,hi7,hu5⟩;have hx5:=hx4.trans hu5
      cases hbk:Zh must x.k
      ·have HB6:=Qh (HBT.out w5 false hbk);have HBK:=Qh hbk;clear hbk
       go_wp2_with fail
       refine(HB6.out).mono ?_;rintro e w6 ⟨rfl,hu6⟩;have hx6:=hx5.trans hu6;have H6:=Qh hx6;have ha6:=Qh (hi7.upd hu6 (fun _ _=>id));have hb6:=Qh (HIB.out.upd hx6 (fun _ _=>id));clear hi7 hu5 hu6 hx4 hx5
       cases htn:decide (x.t∈pn)
       ·have HIN2:=Qh (fun(W:World) (u:Upd No wx W)=>ZE W _ Q cq pn x.t (HQ.out W u) (by have:=HLN.out;omega) htn);have HST:=Qh (show ZI must pa pn (Zd x.f a) b (l.drop (k+1))=RR by have:=HS.out;rw[ZbA HTA.out,Zbz HTA.out HBK.out htn]at this;exact this);clear htn;go_wp2;refine wp_region_noPanic ?_;refine wp_region_held_drew (S:=(fun W'=>Upd No wx W')) (by kernel_rfl) ?_ (fun hHeld=> ?_)
        ·(first|exact(Upd.drew H6.out)|exact hHeld.trans hu9)
        refine wpK 0 rfl ?_;refine wpK 1 rfl ?_;refine wpK 2 rfl ?_;refine wpK 3 rfl ?_;refine wpK 4 rfl ?_;refine wpK 5 rfl ?_;refine wpK 6 rfl ?_;refine wpK 7 rfl ?_;refine wpR [8] ?_;refine wpC rfl (fun K hK=> ?_) AllReadyH.nil;go_simp
        (first
  |(go_at_call 82;refine(HIN2.out _ hHeld).mono ?_;rintro e w9 ⟨rfl,hu9⟩;have hu9':Upd No w6 w9:=Upd.of_drew hu9))
        try (go_wp2_with fail)
        refine hK.out _ _ ?_ (fun hHeld=> ?_)
        ·(first|exact(Upd.drew H6.out)|exact hHeld.trans hu9)
        clear hK K
        try simp only[Act.put,sT,sS,sZ]
        refine wpD (NoPanic.normal ?_);have HU9:=Qh hHeld;have HI9a:=Qh (Ints.upd ha6.out hu9' (fun _ _=>id));have HI9b:=Qh (Ints.upd hb6.out hu9' (fun _ _=>id));clear hHeld hu9 hu9';go_wp2
        go_roundg (gk-1)
        case measure=>omega
        case rel=>exact⟨k+1,A7,c7,(Zd x.f a),A6,c6,b,by omega,by go_num,rfl,rfl,HST,Qh (by have:=HLL.out;have:=Zk x.f a;have:=Zk x.f b;refine⟨?_,?_⟩<;>omega),HI9a.out,HI9b.out,HUW.out.trans HU9.out⟩
       ·have HIN2:=Qh (fun(W:World) (u:Upd No wx W)=>ZE W _ Q cq pn x.t (HQ.out W u) (by have:=HLN.out;omega) htn);have HST:=Qh (show ZI must pa pn (Zd x.f a) (Zd x.f b) (l.drop (k+1))=RR by have:=HS.out;rw[ZbA HTA.out,Zbz HTA.out HBK.out htn]at this;exact this);have HPT:=Qh (fun(W:World) (u:Upd No w6 W)=>Zfm _ wo.heap.size W A6 c6 b x.f (Ints.upd hb6.out u (fun _ _=>id)) (by have:=HLL.out;have:=Zk x.f b;omega) (Nat.le_trans HUW.out.size (Nat.le_trans (Upd.size H6.out) u.size)));clear htn;go_wp2;refine wp_region_noPanic ?_;refine wp_region_held_drew (S:=(fun W'=>Upd No wx W')) (by kernel_rfl) ?_ (fun hHeld=> ?_)
        ·(first|exact(Upd.drew H6.out)|exact hHeld.trans hu9)
        refine wpK 0 rfl ?_;refine wpK 1 rfl ?_;refine wpK 2 rfl ?_;refine wpK 3 rfl ?_;refine wpK 4 rfl ?_;refine wpK 5 rfl ?_;refine wpK 6 rfl ?_;refine wpK 7 rfl ?_;refine wpR [8] ?_;refine wpC rfl (fun K hK=> ?_) AllReadyH.nil;go_simp
        (first
  |(go_at_call 82;refine(HIN2.out _ hHeld).mono ?_;rintro e w9 ⟨rfl,hu9⟩;have hu9':Upd No w6 w9:=Upd.of_drew hu9))
        try (go_wp2_with fail)
        refine hK.out _ _ ?_ (fun hHeld=> ?_)
        ·(first|exact(Upd.drew H6.out)|exact hHeld.trans hu9)
        clear hK K
        try simp only[Act.put,sT,sS,sZ]
        refine wpD (NoPanic.normal ?_);have HU9:=Qh hHeld;have HI9a:=Qh (Ints.upd ha6.out hu9' (fun _ _=>id));have hx9:=hHeld;clear hHeld hu9
        go_wp2_with fail
        refine(HPT.out w9 hu9').mono ?_;rintro e w10 ⟨A10,c10,rfl,hi10,hu10⟩;have HI10a:=Qh (HI9a.out.upd hu10 (fun _ _=>id));have HI10b:=Qh hi10;have HU10:=Qh (HU9.out.trans hu10);clear hi10 hu10 hx9;go_wp2
        go_roundg (gk-1)
        case measure=>omega
        case rel=>exact⟨k+1,A7,c7,(Zd x.f a),A10,c10,Zd x.f b,by omega,by go_num,rfl,rfl,HST,Qh (by have:=HLL.out;have:=Zk x.f a;have:=Zk x.f b;have:=Zk x.f b;refine⟨?_,?_⟩<;>omega),HI10a.out,HI10b.out,HUW.out.trans HU10.out⟩
      ·have HB6:=Qh (HBT.out w5 true hbk);have HBK:=Qh hbk;clear hbk
       go_wp2_with fail
       refine(HB6.out).mono ?_;rintro e w6 ⟨rfl,hu6⟩;have hx6:=hx5.trans hu6
       go_wp2_with fail
       refine(HPB.out w6 hx6).mono ?_;rintro e w7 ⟨A8,c8,rfl,hi8,hu7⟩;have hx7:=hx6.trans hu7;have H7:=Qh hx7;have ha7:=Qh (hi7.upd (hu6.trans hu7) (fun _ _=>id));have hb7:=Qh hi8;clear hi7 hi8 hu5 hu6 hu7 hx4 hx5 hx6
       cases htn:decide (x.t∈pn)
       ·have HIN2:=Qh (fun(W:World) (u:Upd No wx W)=>ZE W _ Q cq pn x.t (HQ.out W u) (by have:=HLN.out;omega) htn);have HST:=Qh (show ZI must pa pn (Zd x.f a) (Zd x.f b) (l.drop (k+1))=RR by have:=HS.out;rw[ZbA HTA.out,Zbz HTA.out HBK.out htn]at this;exact this);clear htn;go_wp2;refine wp_region_noPanic ?_;refine wp_region_held_drew (S:=(fun W'=>Upd No wx W')) (by kernel_rfl) ?_ (fun hHeld=> ?_)
        ·(first|exact(Upd.drew H7.out)|exact hHeld.trans hu9)
        refine wpK 0 rfl ?_;refine wpK 1 rfl ?_;refine wpK 2 rfl ?_;refine wpK 3 rfl ?_;refine wpK 4 rfl ?_;refine wpK 5 rfl ?_;refine wpK 6 rfl ?_;refine wpK 7 rfl ?_;refine wpR [8] ?_;refine wpC rfl (fun K hK=> ?_) AllReadyH.nil;go_simp
        (first
  |(go_at_call 82;refine(HIN2.out _ hHeld).mono ?_;rintro e w9 ⟨rfl,hu9⟩;have hu9':Upd No w7 w9:=Upd.of_drew hu9))
        try (go_wp2_with fail)
        refine hK.out _ _ ?_ (fun hHeld=> ?_)
        ·(first|exact(Upd.drew H7.out)|exact hHeld.trans hu9)
        clear hK K
        try simp only[Act.put,sT,sS,sZ]
        refine wpD (NoPanic.normal ?_);have HU9:=Qh hHeld;have HI9a:=Qh (Ints.upd ha7.out hu9' (fun _ _=>id));have HI9b:=Qh (Ints.upd hb7.out hu9' (fun _ _=>id));clear hHeld hu9 hu9';go_wp2
        go_roundg (gk-1)
        case measure=>omega
        case rel=>exact⟨k+1,A7,c7,(Zd x.f a),A8,c8,(Zd x.f b),by omega,by go_num,rfl,rfl,HST,Qh (by have:=HLL.out;have:=Zk x.f a;have:=Zk x.f b;refine⟨?_,?_⟩<;>omega),HI9a.out,HI9b.out,HUW.out.trans HU9.out⟩
       ·have HIN2:=Qh (fun(W:World) (u:Upd No wx W)=>ZE W _ Q cq pn x.t (HQ.out W u) (by have:=HLN.out;omega) htn);have HST:=Qh (show ZI must pa pn (Zd x.f a) (Zd x.f (Zd x.f b)) (l.drop (k+1))=RR by have:=HS.out;rw[ZbA HTA.out,Zbz HTA.out HBK.out htn]at this;exact this);have HPT:=Qh (fun(W:World) (u:Upd No w7 W)=>Zfm _ wo.heap.size W A8 c8 (Zd x.f b) x.f (Ints.upd hb7.out u (fun _ _=>id)) (by have:=HLL.out;have:=Zk x.f b;omega) (Nat.le_trans HUW.out.size (Nat.le_trans (Upd.size H7.out) u.size)));clear htn;go_wp2;refine wp_region_noPanic ?_;refine wp_region_held_drew (S:=(fun W'=>Upd No wx W')) (by kernel_rfl) ?_ (fun hHeld=> ?_)
        ·(first|exact(Upd.drew H7.out)|exact hHeld.trans hu9)
        refine wpK 0 rfl ?_;refine wpK 1 rfl ?_;refine wpK 2 rfl ?_;refine wpK 3 rfl ?_;refine wpK 4 rfl ?_;refine wpK 5 rfl ?_;refine wpK 6 rfl ?_;refine wpK 7 rfl ?_;refine wpR [8] ?_;refine wpC rfl (fun K hK=> ?_) AllReadyH.nil;go_simp
        (first
  |(go_at_call 82;refine(HIN2.out _ hHeld).mono ?_;rintro e w9 ⟨rfl,hu9⟩;have hu9':Upd No w7 w9:=Upd.of_drew hu9))
        try (go_wp2_with fail)
        refine hK.out _ _ ?_ (fun hHeld=> ?_)
        ·(first|exact(Upd.drew H7.out)|exact hHeld.trans hu9)
        clear hK K
        try simp only[Act.put,sT,sS,sZ]
        refine wpD (NoPanic.normal ?_);have HU9:=Qh hHeld;have HI9a:=Qh (Ints.upd ha7.out hu9' (fun _ _=>id));have hx9:=hHeld;clear hHeld hu9
        go_wp2_with fail
        refine(HPT.out w9 hu9').mono ?_;rintro e w10 ⟨A10,c10,rfl,hi10,hu10⟩;have HI10a:=Qh (HI9a.out.upd hu10 (fun _ _=>id));have HI10b:=Qh hi10;have HU10:=Qh (HU9.out.trans hu10);clear hi10 hu10 hx9;go_wp2
        go_roundg (gk-1)
        case measure=>omega
        case rel=>exact⟨k+1,A7,c7,(Zd x.f a),A10,c10,Zd x.f (Zd x.f b),by omega,by go_num,rfl,rfl,HST,Qh (by have:=HLL.out;have:=Zk x.f a;have:=Zk x.f b;have:=Zk x.f (Zd x.f b);refine⟨?_,?_⟩<;>omega),HI10a.out,HI10b.out,HUW.out.trans HU10.out⟩
    ·obtain rfl:k=l.length:=by omega
     have hRa:(a,b)=RR:=by have:=HS0.out;rw[List.drop_length]at this;exact this
     have hra1:(Zf must l tgt (n+1)).1=a:=by rw[HRR.out,←hRa]
     have hra2:(Zf must l tgt (n+1)).2=b:=by rw[HRR.out,←hRa]
     have HRA1:=Qh hra1;have HRA2:=Qh hra2;obtain⟨we,hwe⟩:∃we,we=wr:=⟨_,rfl⟩;subst hwe;have hG1:∀i,Own (.slice (some ad1) (n+1) c1) i→w.heap.size+1≤i∧i<wo.heap.size:=fun i e=>HO1.out.lt i e
     have hG2:∀i,Own (.slice (some ad2) (n+1) c2) i→w.heap.size+1≤i∧i<wo.heap.size:=fun i e=>HO2.out.lt i e
     have hszj:=huj.size;have BNe:=Qh (BN.out.upd huj id);have BRe:=Qh (BRR.out.upd huj id);have HO1e:=Qh (Zc HO1.out huj (fun _ _=>id));have HO2e:=Qh (Zc HO2.out huj (fun _ _=>id));have HR1e:=Qh (RowsOk.weak (G:=fun i=>ZcB (w.heap.size+1+1+1+1) (some ad1) (some ad2) i∧i<we.heap.size) (HR1.out.upd huj (fun _ _=>id)) (fun i hi h=>⟨h,hi⟩));have HR2e:=Qh (RowsOk.weak (G:=fun i=>ZcB (w.heap.size+1+1+1+1) (some ad1) (some ad2) i∧i<we.heap.size) (HR2.out.upd huj (fun _ _=>id)) (fun i hi h=>⟨h,hi⟩))
     have hF:∀i,i<we.heap.size→wo.heap.size≤i→ZcB (w.heap.size+1+1+1+1) (some ad1) (some ad2) i∧i<we.heap.size:=fun i hi h=>
      ⟨⟨⟨fun e=>by have:=(hG1 i (Zn e)).2;omega,fun e=>by have:=(hG2 i (Zn e)).2;omega⟩,⟨by have:=BL.out;omega,by have:=BL.out;omega⟩⟩,hi⟩
     have HA0:=Qh (hia.weak hF);have HB0:=Qh (hib.weak hF);have HUE:=Qh (HUO.out.trans huj);have HG1:=Qh hG1;have HG2:=Qh hG2;have c0:=BNe.out.cell 0;have c1':=BNe.out.cell 1;simp only[Qz,Qs]at c0 c1';clear hRa hra1 hra2 hG1 hG2 hF hia hib huj y1 y2
     go_wp2_with (at_builtin;(first
      |(refine ZmI rfl rfl Zgh (v:= .slice (some ad1) (n+1) c1) (n:=n+1) (m:=1) (xs:=vs1) (news:=[.slice A5 a.length c5]) rfl rfl (Zc HO1e.out ((Upd.refl No _).alloc _) (fun _ _=>id)) (Zig rfl rfl) (by simp[Value.oneCell']) (by omega) (by omega) (by have:=BNe.out.lt;simp;omega) ?_
        intro v4 w4 hown4 hu4 hg4;obtain⟨A4,c4,rfl⟩:=Zd0 hown4;have U4:Upd (Own (.slice (some ad1) (n+1) c1)) we w4:=((Upd.refl _ we).alloc _).trans hu4;have hs4:=U4.size;have bN4:=BNe.out.upd U4 (fun e=>(HD.out _ (Zn e)).2 rfl);have HBR4:=Qh (BRe.out.upd U4 (fun e=>by have:=(HG1.out _ e).1;omega));have HO24:=Qh (Zc HO2e.out U4 (fun i e e2=>(HD.out i (Zn e2)).1 (Zn e)));have HR14:=Qh (HR1e.out.upd U4 (fun i h e=>h.1.1.1 (Zn e)));have HR24:=Qh (HR2e.out.upd U4 (fun i h e=>h.1.1.1 (Zn e)));have HA4:=Qh (HA0.out.upd U4 (fun i h e=>h.1.1.1 (Zn e)));have HB4:=Qh (HB0.out.upd U4 (fun i h e=>h.1.1.1 (Zn e)));have HU4:=Qh (HUE.out.then_ U4 (fun i e=> .inr (by have:=(HG1.out i e).1;omega)))
        have HG4:=Qh (fun i (e:Own (.slice A4 (n+1+1) c4) i)=>(show(w.heap.size+1≤i∧i<w4.heap.size)∧(Own (.slice (some ad1) 0 0) i∨we.heap.size≤i) from⟨hown4.lt i e,by
         rcases hg4 with e3|⟨j,e3,e4⟩
         ·exact .inl (Zn (n:=n+1) (c:=c1) (by unfold Own at e ⊢;rw[←e3];exact e))
         ·have:i=j:=by unfold Own at e;rw[e3]at e;injection e with e;exact e.symm
          simp at e4;exact .inr (by omega)⟩))
        have k0:=bN4.cell 0;have k1:=bN4.cell 1;have fr0:=bN4.free 0;simp only[Qz,Qs]at k0 k1;have BN4:=Qh bN4;have HO14:=Qh hown4;clear bN4 U4 hu4 hg4 hown4 c0 c1')
      |(refine ZmI rfl rfl Zgh (v:= .slice (some ad2) (n+1) c2) (n:=n+1) (m:=1) (xs:=vs2) (news:=[.slice A6 b.length c6]) rfl rfl (Zc (Zc HO24.out ((Upd.refl (One (w.heap.size+1+1+1+1)) w4).setOne 0 _) (fun i e e2=>HD2.out i (Zn e) e2)) ((Upd.refl No _).alloc _) (fun _ _=>id)) (Zig (by simp) rfl) (by simp[Value.oneCell']) (by omega) (by omega) (by have:=BN4.out.lt;simp;omega) ?_
        intro v6 w6 hown6 hu6 hg6;obtain⟨A7,c7,rfl⟩:=Zd0 hown6;have U5:=(Upd.refl (One (w.heap.size+1+1+1+1)) w4).setOne 0 (.slice A4 (n+1+1) c4);have U6:Upd (Own (.slice (some ad2) (n+1) c2)) (w4.setCell ⟨w.heap.size+1+1+1+1,0,none⟩ (.slice A4 (n+1+1) c4)) w6:=((Upd.refl _ _).alloc _).trans hu6;have hs6:=U6.size;simp only[World.size_setCell]at hs6;have bN6:=(BN4.out.set_ 0 (.slice A4 (n+1+1) c4)).upd U6 (fun e=>HD2.out _ (Zn e) rfl);have HBR6:=Qh ((HBR4.out.upd U5 (by unfold One;omega)).upd U6 (fun e=>by have:=(HG2.out _ e).1;omega));have HN4:=fun i (e:Own (.slice A4 (n+1+1) c4) i)=>(show¬Own (.slice (some ad2) 0 0) i∧i≠w.heap.size+1+1+1+1 from(HG4.out i e).2.elim (fun h=>HD.out i h) (fun h=>⟨fun e2=>by have:=(HG2.out i (Zn e2)).2;omega,by have:=BL.out;omega⟩))
        have HO16:=Qh (Zc (Zc HO14.out U5 (fun i e e2=>(HN4 i e).2 e2)) U6 (fun i e e2=>(HN4 i e).1 (Zn e2)));have HR16:=Qh ((HR14.out.upd U5 (fun i h e=>h.1.2.1 e)).upd U6 (fun i h e=>h.1.1.2 (Zn e)));have HR26:=Qh ((HR24.out.upd U5 (fun i h e=>h.1.2.1 e)).upd U6 (fun i h e=>h.1.1.2 (Zn e)));have HA6:=Qh ((HA4.out.upd U5 (fun i h e=>h.1.2.1 e)).upd U6 (fun i h e=>h.1.1.2 (Zn e)));have HB6:=Qh ((HB4.out.upd U5 (fun i h e=>h.1.2.1 e)).upd U6 (fun i h e=>h.1.1.2 (Zn e)));have HU6:=Qh ((HU4.out.then_ U5 (fun i e=> .inr (by unfold One at e;omega))).then_ U6 (fun i e=> .inr (by have:=(HG2.out i e).1;omega)))
        have HG6:=Qh (fun i (e:Own (.slice A7 (n+1+1) c7) i)=>(show Own (.slice (some ad2) 0 0) i∨w4.heap.size≤i from by
         rcases hg6 with e3|⟨j,e3,e4⟩
         ·exact .inl (Zn (n:=n+1) (c:=c2) (by unfold Own at e ⊢;rw[←e3];exact e))
         ·have:i=j:=by unfold Own at e;rw[e3]at e;injection e with e;exact e.symm
          simp at e4;exact .inr (by omega)))
        have HN4':=Qh HN4;have k0:=bN6.cell 0;have k1:=bN6.cell 1;have fr1:=bN6.free 1;simp only[List.set_cons_zero,Qz,Qs]at k0 k1;have BN6:=Qh bN6;have HO26:=Qh hown6;clear bN6 U6 U5 hu6 hg6 hown6 HN4)))
     go_roundg (g0-1)
     case measure=>omega
     case rel=>
      have U7:=(Upd.refl (One (w.heap.size+1+1+1+1)) w6).setOne 1 (.slice A7 (n+1+1) c7);have b7:=BN6.out.set_ 1 (.slice A7 (n+1+1) c7);simp only[List.set_cons_zero,List.set_cons_succ]at b7;have hN7:∀i,Own (.slice A7 0 0) i→i≠w.heap.size+1+1+1+1:=fun i e=>(HG6.out i (Zn e)).elim (fun h=>HD2.out i h) (fun h=>by have:=BL.out;omega)
      have hD7:∀i,Own (.slice A4 0 0) i→¬Own (.slice A7 0 0) i:=fun i e e2=>(HG6.out i (Zn e2)).elim (fun h=>(HN4'.out i (Zn e)).1 h) (fun h=>by have:=(HG4.out i (Zn e)).1.2;omega)
      have hF7:∀i,ZcB (w.heap.size+1+1+1+1) (some ad1) (some ad2) i∧i<we.heap.size→ZcB (w.heap.size+1+1+1+1) A4 A7 i:=fun i h=>
       ⟨⟨fun e=>(HG4.out i (Zn e)).2.elim (fun e2=>h.1.1.1 e2) (fun e2=>by omega),fun e=>(HG6.out i (Zn e)).elim (fun e2=>h.1.1.2 e2) (fun e2=>by omega)⟩,h.1.2⟩
      refine⟨n+1,A4,c4,vs1++[.slice A5 a.length c5],A7,c7,vs2++[.slice A6 b.length c6],by omega,by go_num,Qh ⟨by rw[List.length_append,HVL.out.1];rfl,by rw[List.length_append,HVL.out.2];rfl⟩,Qh b7,Qh (HBR6.out.upd U7 (by unfold One;omega)),Qh (Zc HO16.out U7 (fun i e e2=>(HN4'.out i e).2 e2)),Qh (Zc HO26.out U7 (fun i e e2=>hN7 i (Zn e) e2)),Qh (fun i e=>⟨hD7 i e,(HN4'.out i (Zn e)).2⟩),Qh hN7,Qh ?_,Qh ?_,HU6.out.then_ U7 (fun i e=> .inr (by unfold One at e;omega))⟩
      ·refine(RowsOk.weak (RowsOk.app (HR16.out.upd U7 (fun i h e=>h.1.2.1 e)) ⟨A5,c5,?_,?_⟩) (fun i _ h=>hF7 i h))
       ·rw[HVL.out.1,HRA1.out]
       ·simp only[HVL.out.1,HRA1.out];exact HA6.out.upd U7 (fun i h e=>h.1.2.1 e)
      ·refine(RowsOk.weak (RowsOk.app (HR26.out.upd U7 (fun i h e=>h.1.2.1 e)) ⟨A6,c6,?_,?_⟩) (fun i _ h=>hF7 i h))
       ·rw[HVL.out.2,HRA2.out]
       ·simp only[HVL.out.2,HRA2.out];exact HB6.out.upd U7 (fun i h e=>h.1.2.1 e)
  ·obtain rfl:n=steps:=by omega
   have e0:decide ((n:Int)+1≤(n:Int))=false:=decide_eq_false (by omega);have m0:=BN.out.cell 0;have m1:=BN.out.cell 1;have s0:=BRR.out.cell 0;have s1:=BRR.out.cell 1;have t0:=BRR.out.free 0;have t1:=BRR.out.free 1;simp only[Qz,Qs]at m0 m1 s0 s1;have HU:=Qh hu;clear hu;go_wp2;have b9:=(BRR.out.set_ 0 (.slice A1 (n+1) c1)).set_ 1 (.slice A2 (n+1) c2);simp only[List.set_cons_zero,List.set_cons_succ]at b9;have US:=((Upd.refl (One w.heap.size) wo).setOne 0 (.slice A1 (n+1) c1)).setOne 1 (.slice A2 (n+1) c2);have hl1:∀i,Own (.slice A1 (n+1) c1) i→¬One w.heap.size i:=fun i e e2=>by have:=(HO1.out.lt i e).1;unfold One at e2;omega
   have hl2:∀i,Own (.slice A2 (n+1) c2) i→¬One w.heap.size i:=fun i e e2=>by have:=(HO2.out.lt i e).1;unfold One at e2;omega
   refine bodyPost_ret (results_cell_row (p:=8) rfl _ _ _ _ _ _ _ rfl b9 Try.underlying125 rfl (by kernel_rfl)) rfl ⟨_,rfl,⟨A1,c1,A2,c2,rfl,?_,?_⟩,HU.out.then_ US fun k e=> .inr (by unfold One at e;omega)⟩
   ·exact Zcu (Zc HO1.out US hl1) HVL.out.1 (HR1.out.upd US (fun i h e=>by have:=h.2.2;unfold One at e;omega))
   ·exact Zcu (Zc HO2.out US hl2) HVL.out.2 (HR2.out.upd US (fun i h e=>by have:=h.2.2;unfold One at e;omega))
end
end Go.Proofs.Ytdbjokfejmgepaa
