/- Components of a digraph: the labels of all nodes (scc.Labels). -/
import Derived.Test.YtonblekdfinpkaaGreatWqaj
import Derived.Test.YtonblekdfinpkaaGreatWqaq
import Derived.Test.YtonblekdfinpkaaGreatWqaw
import Derived.Test.YtonblekdfinpkaaGreatWqbf
import Derived.Test.YtonblekdfinpkaaGreatWqbk
import Derived.Test.YtonblekdfinpkaaGreatWqbr
import Derived.Test.YtonblekdfinpkaaGreatWqbt
namespace Go.Proofs.YtonblekdfinpkaaGreat
set_option linter.unusedVariables false
set_option linter.unusedSimpArgs false
section
open Go.RowKit
theorem ZiY {w:World} {G:Nat→Prop} {p:Option Addr} {N K:Nat} {q:List HArc} (h:DG w G p N K q):Zb8 N q:=by
 rcases h with ⟨rfl,rfl,rfl⟩|⟨g,rfl,out,inn,ob,ib,oh,ih,base,h1,h2,h3⟩
 ·exact fun a ha=>by cases ha
 ·intro a ha;have:=h2.r a ha;unfold Zi ZK at this;simp at this;omega
theorem Zhm {N:Nat} {q:List HArc} (h:Zb8 N q) (mask:Int):Zb8 N (ofA mask q):=fun a ha=>h a (by
 unfold ofA at ha;exact(List.mem_filter.1 ha).1)
theorem Zrk:SlT Tryz.prog 168 21 1 4:=SlT.mk_ Tryz.underlying168 (z:= .int .i32 0) (by kernel_rfl) rfl (by omega)
theorem ZiJ:SlT Tryz.prog 24 3 1 8:=SlT.mk_ Tryz.underlying24 (z:= .int .i64 0) (by kernel_rfl) rfl (by omega)
def Zhv (k:IntKind) (m:Nat):Array Value:=(ZbU k m fun _=>0).toArray
theorem ZgC (k:IntKind) (m:Nat):Zhv k m=madeCells #[Value.int k 0] (m*1):=by
 unfold Zhv ZbU
 apply Array.ext
 ·simp[madeCells]
 ·intro i h1 h2;simp[madeCells,Nat.mod_one]
theorem Zsu (m:Nat) (hm:m≤100000) (W:World):(Instr.makeSlice 168 (.int .i64 (m:Int)) (.int .i64 (m:Int))).run Tryz.prog W= .ok (.slice (some ⟨W.heap.size,0,none⟩) m m) (W.alloc (.cells (Zhv .i32 m) 21)):=by
 rw[ZgC];exact ZeN W Zrk (z:= .int .i32 0) (by kernel_rfl) m (by omega) (by omega)
theorem Zst (m:Nat) (hm:m≤100000) (W:World):(Instr.makeSlice 24 (.int .i64 (m:Int)) (.int .i64 (m:Int))).run Tryz.prog W= .ok (.slice (some ⟨W.heap.size,0,none⟩) m m) (W.alloc (.cells (Zhv .i64 m) 3)):=by
 rw[ZgC];exact ZeN W ZiJ (z:= .int .i64 0) (by kernel_rfl) m (by omega) (by omega)
theorem Ztr {W:World} {G:Nat→Prop} {p:Option Addr} {N K:Nat} {q:List HArc} (hD:DG W G p N K q) (pg pm:Addr) (mask:Int) (c1:W.cell? pg=some (.pointer p)) (c2:W.cell? pm=some (.int .i64 mask)) (i:Int):
  Calls Tryz.prog 106 #[.int .i64 i,.pointer (some pg),.pointer (some pm)] W (ZcT W (nxA i false (ofA mask q))):=by
 have CN:=Qh (ZsJ hD i mask);clear hD
 go_enter Tryz.func106,Tryz.ntmps106
 go_wp2_with fail
 refine(CN.out).mono ?_;rintro e w1 ⟨A,c,rfl,ho,hu⟩;have HO:=Qh ho;have HU:=Qh hu;clear ho hu CN;go_wp2
 go_ret
 exact⟨A,c,rfl,HO.out,HU.out⟩
def LabR (N i:Nat) (v:Value) (FF:Nat→Prop) (W:World):Prop:=
 (i=6→∃g,v= .pointer (some ⟨g,0,none⟩)∧Sta W FF g (N:Int) [])∧(i=8→∃g,v= .pointer (some ⟨g,0,none⟩)∧BRow W FF g N fun _=>false)∧
 (i=10→∃g,v= .slice (some ⟨g,0,none⟩) N N∧FF g∧Blk W g 3 (ZbU .i64 N fun _=>0))∧
 (i=2∨i=4→∃g,v= .slice (some ⟨g,0,none⟩) N N∧FF g∧Blk W g 21 (ZbU .i32 N fun _=>0))
theorem LabR.upd {N i:Nat} {v:Value} {FF:Nat→Prop} {W W':World} (h:LabR N i v FF W) (u:Upd No W W'):LabR N i v FF W':=by
 obtain⟨h1,h2,h3,h4⟩:=h;refine⟨fun e=> ?_,fun e=> ?_,fun e=> ?_,fun e=> ?_⟩
 ·obtain⟨g,h,k⟩:=h1 e;exact⟨g,h,k.upd u fun _ _=>id⟩
 ·obtain⟨g,h,k⟩:=h2 e;exact⟨g,h,k.upd u fun _ _=>id⟩
 ·obtain⟨g,h,f,k⟩:=h3 e;exact⟨g,h,f,k.upd u id⟩
 ·obtain⟨g,h,f,k⟩:=h4 e;exact⟨g,h,f,k.upd u id⟩
set_option maxRecDepth 100000 in
set_option maxHeartbeats 8000000 in
theorem ZrV {w:World} {G:Nat→Prop} {p:Option Addr} {N K:Nat} {q:List HArc} (hD:DG w G p N K q) (hN:N≤4096) (mask:Int):
  Calls Tryz.prog 52 #[.pointer p,.int .i64 mask] w (ZcT w (Zdd N (ofA mask q))):=by
 obtain⟨wa,hwa⟩:∃wa,(w.alloc (.cells #[.pointer p] 28)).alloc (.cells #[.int .i64 mask] 3)=wa:=⟨_,rfl⟩;have ua:Upd No w wa:=by rw[←hwa];exact((Upd.refl No w).alloc _).alloc _
 have hDa:=hD.upd ua (fun _ _=>id);have k1:wa.cell? ⟨w.heap.size,0,none⟩=some (.pointer p):=by rw[←hwa];simp
 have k2:wa.cell? ⟨w.heap.size+1,0,none⟩=some (.int .i64 mask):=by rw[←hwa];simp
 have HN:=Qh (show ZnI wa wa.heap.size N ⟨w.heap.size,0,none⟩ ⟨w.heap.size+1,0,none⟩ (nxN (ofA mask q)) from by
  intro W i hi hu;have hu':Upd No wa W:=hu.mono fun k hk (h:wa.heap.size≤k)=>by omega
  rw[Zp1 (Zhm (ZiY hD) mask)];exact Ztr (hDa.upd hu' fun _ _=>id) _ _ mask (hu'.keepNo k1) (hu'.keepNo k2) i)
 have CN:=Qh (ZeW hDa);have HE:=Qh (Zhm (ZiY hD) mask);have UA:=Qh ua;have hmi:=fun W=>Zsu N (by omega) W
 have hml:=fun W=>Zst N (by omega) W
 have hNN:=Qh hN;clear hD hDa ua
 go_enter Tryz.func52,Tryz.ntmps52
 go_wp2_with fail
 refine(CN.out).mono ?_;rintro e w1 ⟨rfl,rfl⟩;go_wp2;refine wp_region_noPanic ?_;refine wp_region_held_drew (S:=fun W=>Upd No wa W) (by kernel_rfl) ?_ (fun hHeld=> ?_)
 ·exact(Upd.refl No _).drew
 refine wpK 0 rfl ?_;refine wpK 1 rfl ?_;refine wpK 3 rfl ?_;refine wpK 5 rfl ?_;refine wpK 7 rfl ?_;refine wpK 9 rfl ?_;refine ZlI (w0:=wa) [(2,14),(4,16),(6,18),(8,20),(10,22)] (LabR N) (f:=3) (by kernel_rfl) ⟨?s1,?s2,?s3,?s4,?s5,trivial⟩ (fun i v FF w w' h u=>h.upd u) ?rest rfl (by kernel_rfl) hHeld
 case s1=>
  intro xs W hW K hK;refine⟨_,rfl,?_⟩;simp only[ZbD,Za3,Act.put,sT,sS,sZ]at hK ⊢;go_simp;exact hK.out _ (fun k=>k=W.heap.size) _ ((Upd.refl No W).alloc _) (fun k (e:k=W.heap.size)=>by simp;omega) ⟨fun e=>absurd e (by decide),fun e=>absurd e (by decide),fun e=>absurd e (by decide),fun _=>⟨_,rfl,rfl,Blk.new W _ _⟩⟩
 case s2=>
  intro xs W hW K hK;refine⟨_,rfl,?_⟩;simp only[ZbD,Za3,Act.put,sT,sS,sZ]at hK ⊢;go_simp;exact hK.out _ (fun k=>k=W.heap.size) _ ((Upd.refl No W).alloc _) (fun k (e:k=W.heap.size)=>by simp;omega) ⟨fun e=>absurd e (by decide),fun e=>absurd e (by decide),fun e=>absurd e (by decide),fun _=>⟨_,rfl,rfl,Blk.new W _ _⟩⟩
 case s3=>
  intro xs W hW K hK;refine⟨_,rfl,?_⟩;simp only[ZbD,Za3,Act.put,sT,sS,sZ]at hK ⊢;go_simp
  go_at_call 108
  refine(ZtZ W (N:Int)).mono ?_;rintro e w' ⟨g,rfl,hg,hs,hu⟩;rw[show ZaR (N:Int)=(N:Int) by unfold ZaR;have:=hNN.out;omega]at hs;have HS:=Qh hs;have HU:=Qh hu;have HG:=Qh hg;clear hs hu hg
  try (go_wp2_with fail)
  exact hK.out _ (One g) _ HU.out (fun k (e:k=g)=>by have h1:=HG.out;have h2:=HS.out.lt g rfl;omega) ⟨fun _=>⟨_,rfl,HS.out⟩,fun e=>absurd e (by decide),fun e=>absurd e (by decide),fun e=>absurd e (by decide)⟩
 case s4=>
  intro xs W hW K hK;refine⟨_,rfl,?_⟩;simp only[ZbD,Za3,Act.put,sT,sS,sZ]at hK ⊢;go_simp
  go_at_call 109
  refine(Zuh W N (Nat.le_trans hNN.out (by decide))).mono ?_;rintro e w' ⟨g,rfl,hg,hs,hu⟩;have HS:=Qh hs;have HU:=Qh hu;clear hs hu hg
  try (go_wp2_with fail)
  exact hK.out _ (fun k=>W.heap.size≤k∧k<w'.heap.size) _ HU.out (fun k e=>e) ⟨fun e=>absurd e (by decide),fun _=>⟨_,rfl,HS.out⟩,fun e=>absurd e (by decide),fun e=>absurd e (by decide)⟩
 case s5=>
  intro xs W hW K hK;refine⟨_,rfl,?_⟩;simp only[ZbD,Za3,Act.put,sT,sS,sZ]at hK ⊢;go_simp;exact hK.out _ (fun k=>k=W.heap.size) _ ((Upd.refl No W).alloc _) (fun k (e:k=W.heap.size)=>by simp;omega) ⟨fun e=>absurd e (by decide),fun e=>absurd e (by decide),fun _=>⟨_,rfl,rfl,Blk.new W _ _⟩,fun e=>absurd e (by decide)⟩
 case rest=>
  intro xs FF W hW hR hX;obtain⟨hR2,hL2⟩:=hR (2,14) (by simp);obtain⟨hR4,hL4⟩:=hR (4,16) (by simp);obtain⟨hR6,hL6⟩:=hR (6,18) (by simp);obtain⟨hR8,hL8⟩:=hR (8,20) (by simp);obtain⟨hR10,hL10⟩:=hR (10,22) (by simp);have x24:=hX (2,14) (by simp) (4,16) (by simp) (by decide);have x26:=hX (2,14) (by simp) (6,18) (by simp) (by decide);have x28:=hX (2,14) (by simp) (8,20) (by simp) (by decide);have x2a:=hX (2,14) (by simp) (10,22) (by simp) (by decide);have x46:=hX (4,16) (by simp) (6,18) (by simp) (by decide);have x48:=hX (4,16) (by simp) (8,20) (by simp) (by decide);have x4a:=hX (4,16) (by simp) (10,22) (by simp) (by decide);have x68:=hX (6,18) (by simp) (8,20) (by simp) (by decide);have x6a:=hX (6,18) (by simp) (10,22) (by simp) (by decide);have x8a:=hX (8,20) (by simp) (10,22) (by simp) (by decide);obtain⟨gw,e2,f2,b2⟩:=hR2.2.2.2 (Or.inl rfl);obtain⟨gl,e4,f4,b4⟩:=hR4.2.2.2 (Or.inr rfl);obtain⟨gs,e6,st⟩:=hR6.1 rfl;obtain⟨gb,e8,br⟩:=hR8.2.1 rfl;obtain⟨go,e10,f10,b10⟩:=hR10.2.2.1 rfl;simp only at e2 e4 e6 e8 e10 x24 x26 x28 x2a x46 x48 x4a x68 x6a x8a hL2 hL4 hL6 hL8 hL10 f2 f4 f10 st br;simp only[fl,Zcn,ZbD,Za3,Act.put,sT,sS,sZ,e2,e4,e6,e8,e10];clear hR hX hR2 hR4 hR6 hR8 hR10 e2 e4 e6 e8 e10;obtain⟨FS,hFS⟩:∃FS,FF 6=FS:=⟨_,rfl⟩;obtain⟨FB,hFB⟩:∃FB,FF 8=FB:=⟨_,rfl⟩;rw[hFS]at st x26 x46 x68 x6a hL6;rw[hFB]at br x28 x48 x68 x8a hL8
  have HT:=Qh (show∀s:TS,s.when=(fun _=>0)→s.low=(fun _=>0)→s.wait=[]→s.clock=0→s.out=(fun _=>0)→TourW (W.alloc (.cells #[.func (.func 106) #[] #[.pointer (some ⟨w.heap.size,0,none⟩),.pointer (some ⟨w.heap.size+1,0,none⟩)],.slice (some ⟨gw,0,none⟩) N N,.slice (some ⟨gl,0,none⟩) N N,.pointer (some ⟨gs,0,none⟩),.pointer (some ⟨gb,0,none⟩),.int .i32 0,.slice (some ⟨go,0,none⟩) N N] 174)) W.heap.size gw gl go gs gb N
    (.func (.func 106) #[] #[.pointer (some ⟨w.heap.size,0,none⟩),.pointer (some ⟨w.heap.size+1,0,none⟩)]) FS FB s from by
   rintro⟨way,when,low,wait,clock,out⟩ rfl rfl rfl rfl rfl;refine⟨Blk.new W _ _,b2.alloc _,b4.alloc _,b10.alloc _,st.upd ((Upd.refl No W).alloc _) (fun _ _=>id),?_,?_,?_⟩
   ·have:=br.upd ((Upd.refl No W).alloc (.cells #[.func (.func 106) #[] #[.pointer (some ⟨w.heap.size,0,none⟩),.pointer (some ⟨w.heap.size+1,0,none⟩)],.slice (some ⟨gw,0,none⟩) N N,.slice (some ⟨gl,0,none⟩) N N,.pointer (some ⟨gs,0,none⟩),.pointer (some ⟨gb,0,none⟩),.int .i32 0,.slice (some ⟨go,0,none⟩) N N] 174)) (fun _ _=>id)
    simpa using this
   ·have h2:=hL2 gw f2;have h4:=hL4 gl f4;have ha:=hL10 go f10;exact⟨⟨by omega,by omega,by omega⟩,⟨fun e=>x24 gw f2 (e▸f4),fun e=>x2a gw f2 (e▸f10),fun e=>x4a gl f4 (e▸f10)⟩,fun e=>by have:=hL8 _ e;omega,fun e=>x28 gw f2 e,fun e=>x48 gl f4 e,fun e=>x8a go e f10⟩
   ·intro i hi;have h6:=hL6 i hi;exact⟨by omega,fun e=>x26 gw f2 (e▸hi),fun e=>x46 gl f4 (e▸hi),fun e=>x6a go (e▸hi) f10,fun hb=>x68 i hi hb⟩)
  have HL:=Qh (show∀i,FT W.heap.size gw gl go FS FB i→wa.heap.size≤i from by
   intro i hi;rcases hi with rfl|rfl|rfl|rfl|hi|hi
   ·exact hW.size
   ·exact(hL2 _ f2).1
   ·exact(hL4 _ f4).1
   ·exact(hL10 _ f10).1
   ·exact(hL6 _ hi).1
   ·exact(hL8 _ hi).1)
  have HW:=Qh hW;clear hL2 hL4 hL6 hL8 hL10 x24 x26 x28 x2a x46 x48 x4a x68 x6a x8a b2 b4 b10 st br f2 f4 f10 hFS hFB hHeld;refine wpK 11 rfl ?_ (hS:=HW.out);refine wpR [12] ?_;refine wpC rfl (fun K hK=> ?_) .nil;go_simp;refine hK.out _ _ ?_ (fun hHeld=> ?_)
  ·exact HW.out.alloc _
  clear hK K
  try simp only[Act.put,sT,sS,sZ]
  refine wpK 13 rfl ?_;refine wpD (NoPanic.normal ?_);have HT0:=Qh (HT.out ⟨[],fun _=>0,fun _=>0,[],0,fun _=>0⟩ rfl rfl rfl rfl rfl);have HU0:=Qh (show Upd (fun j=>wa.heap.size≤j) wa _ from(hHeld:Upd No wa _).mono fun _ _ e=>e.elim);have HI0:=Qh (show FInv (nxN (ofA mask q)) N ⟨[],fun _=>0,fun _=>0,[],0,fun _=>0⟩ from⟨TInv.start _ _ _,fun y hy=>absurd hy (List.not_mem_nil),by simp[Zkr]⟩);have HF0:=Qh (show∀i,FS i→wa.heap.size≤i from fun i h=>HL.out i (Or.inr (Or.inr (Or.inr (Or.inr (Or.inl h))))));obtain⟨t,ht⟩:∃t,W.heap.size=t:=⟨_,rfl⟩;rw[ht]at HT0 HL ⊢;have HTL:=Qh (show wa.heap.size≤t from ht▸HW.out.size);clear HT HW ht hHeld;obtain⟨W0,hW0⟩:∃W0,W.alloc (.cells #[.func (.func 106) #[] #[.pointer (some ⟨w.heap.size,0,none⟩),.pointer (some ⟨w.heap.size+1,0,none⟩)],.slice (some ⟨gw,0,none⟩) N N,.slice (some ⟨gl,0,none⟩) N N,.pointer (some ⟨gs,0,none⟩),.pointer (some ⟨gb,0,none⟩),.int .i32 0,.slice (some ⟨go,0,none⟩) N N] 174)=W0:=⟨_,rfl⟩;rw[hW0]at HT0 HU0 ⊢;clear hW0 hmi hml;go_wp2
  go_loopg [26] N (fun gk i wr=>∃(k:Nat) (s:TS) (FS':Nat→Prop),k+gk=N∧i= .int .i64 (k:Int)∧Hid (TourW wr t gw gl go gs gb N (.func (.func 106) #[] #[.pointer (some ⟨w.heap.size,0,none⟩),.pointer (some ⟨w.heap.size+1,0,none⟩)]) FS' FB s)∧Hid (FInv (nxN (ofA mask q)) N s)∧s.way=[]∧Hid (∀j,j<k→1≤s.when j)∧Hid (∀i,FS' i→wa.heap.size≤i)∧Hid (Upd (fun j=>wa.heap.size≤j) wa wr))
  case atStart=>exact⟨0,_,FS,by omega,rfl,HT0,HI0,rfl,Qh (fun j h=>by omega),HF0,HU0⟩
  case round=>
   clear HT0 HI0 HF0 HU0;obtain⟨k,s,FS',hgk,rfl,hT,hI,hway,hwn,hF,hU⟩:=hrel
   by_cases hk:k<N
   ·have h1:(k:Int)<(N:Int):=by omega
    have h0:(0:Int)≤(k:Int):=Qn _;have c1:=hT.out.blk.cell 1;have c2:wr.cell? ⟨gw,k,none⟩=some (.int .i32 (s.when k:Int)):=by rw[hT.out.wh.cell];exact Zbp _ _ hk
    simp only[Qz,Qs]at c1;have kw:IntKind.i64.wrap ((k:Int)+1)=(k:Int)+1:=by have:=hNN.out;exact IntWalk.i64_in _ (by omega)
    by_cases hw0:s.when k=0
    ·have r0:((s.when k:Int)==0)=true:=by rw[hw0];rfl
     have CF:=Qh (Zs8 wa wr wa.heap.size t gw gl go gs gb N k _ _ _ FS' FB s HN.out hU.out (fun i hi=>by
      rcases hi with h|h|h|h|h|h
      ·exact HL.out i (Or.inl h)
      ·exact HL.out i (Or.inr (Or.inl h))
      ·exact HL.out i (Or.inr (Or.inr (Or.inl h)))
      ·exact HL.out i (Or.inr (Or.inr (Or.inr (Or.inl h))))
      ·exact hF.out i h
      ·exact HL.out i (Or.inr (Or.inr (Or.inr (Or.inr (Or.inr h)))))) hU.out.size hT.out hI.out hway hk hw0 hNN.out (fun i _ y hy=>Zsr HE.out hy))
     go_wp2_with fail
     refine(CF.out).mono ?_;rintro e w3 ⟨rfl,s',FS3,hF3,hT3,hI3,hway3,hm3,hmm3,hu3⟩;have HT3:=Qh hT3;have HI3:=Qh hI3;have HF3:=Qh (show∀i,FS3 i→wa.heap.size≤i from fun i h=>(hF3 i h).elim (hF.out i) (fun h=>Nat.le_trans hU.out.size h))
     have HM3:=Qh (show∀j,j<k+1→1≤s'.when j from fun j hj=>by
      rcases Nat.lt_or_ge j k with h|h
      ·exact hmm3 j (hwn.out j h)
      ·obtain rfl:j=k:=by omega
       exact hm3)
     have HU3:=Qh (show Upd (fun j=>wa.heap.size≤j) wa w3 from hU.out.trans (hu3.mono (fun i _ hi=>by
      rcases hi with h|h|h|h|h|h
      ·exact HL.out i (Or.inl h)
      ·exact HL.out i (Or.inr (Or.inl h))
      ·exact HL.out i (Or.inr (Or.inr (Or.inl h)))
      ·exact HL.out i (Or.inr (Or.inr (Or.inr (Or.inl h))))
      ·exact hF.out i h
      ·exact HL.out i (Or.inr (Or.inr (Or.inr (Or.inr (Or.inr h))))))))
     clear hT3 hI3 hF3 hm3 hmm3 hu3 hT hI hF hwn hU CF;go_wp2
     go_roundg (gk-1)
     case measure=>omega
     case rel=>exact⟨k+1,s',FS3,by omega,by simp,HT3,HI3,hway3,HM3,HF3,HU3⟩
    ·have r0:((s.when k:Int)==0)=false:=by rw[beq_eq_false_iff_ne];omega
     have HM3:=Qh (show∀j,j<k+1→1≤s.when j from fun j hj=>by
      rcases Nat.lt_or_ge j k with h|h
      ·exact hwn.out j h
      ·obtain rfl:j=k:=by omega
       omega)
     clear hw0;go_wp2
     go_roundg (gk-1)
     case measure=>omega
     case rel=>exact⟨k+1,s,FS',by omega,by simp,hT,hI,hway,HM3,hF,hU⟩
   ·have h1:¬((k:Int)<(N:Int)):=by omega
    have c6:=hT.out.blk.cell 6;simp only[Qz,Qs]at c6;go_wp2;have hl:(Zdd N (ofA mask q)).length=N:=by unfold Zdd;simp
    refine bodyPost_ret (v:= .slice (some ⟨go,0,none⟩) N N) (by simp[results,Tryz.results52,go_sem]) rfl ?_
    have hout:ZbU .i64 N s.out=(Zdd N (ofA mask q)).map (Value.int .i64):=by
     unfold ZbU Zdd;rw[List.map_map];refine List.map_congr_left fun i hi=> ?_
     have hi':=List.mem_range.1 hi;have hlab:=hI.out.inv.lab i (hwn.out i (by omega)) (by rw[hI.out.inv.none_waits hway];exact List.not_mem_nil)
     show Value.int .i64 (s.out i:Int)=Value.int .i64 (ZE (ofA mask q) i:Int)
     rw[hlab.one (ZeT HE.out i)]
    refine⟨some ⟨go,0,none⟩,N,by rw[hl],?_,UA.out.trans (hU.out.mono (fun i hi (e:wa.heap.size≤i)=>by omega))⟩;rw[hl,←hout];exact ZaU hT.out.ou (Nat.le_trans UA.out.size (HL.out go (Or.inr (Or.inr (Or.inr (Or.inl rfl)))))) (Nat.le_refl _) (by rw[Zbf,Nat.mul_one]) (by rw[Nat.mul_one,List.take_of_length_le (by rw[Zbf];exact Nat.le_refl _)]) (by have:=hNN.out;simp only[maxLen];omega) (by rw[Zbf,Nat.mul_one])
end
/- Components of a digraph:parts that grow,in memory:an own row of own rows. -/
section
open Go.RowKit
structure PV where
 A:Option Addr
 c:Nat
 l:List Nat
def PV.v (p:PV):Value:= .slice p.A p.l.length p.c
def Zep (l:List Nat):List Value:=l.map fun x:Nat=>Value.int .i64 (x:Int)
structure PartsW (w:World) (base:Nat) (O:Value) (ps:List PV):Prop where
 own:w.ownsRow base 24 1 O ps.length (ps.map PV.v)
 rows:∀(i:Nat) (p:PV),ps[i]? =some p→w.ownsRow base 3 1 p.v p.l.length (Zep p.l)
 apart:∀(i:Nat) (p:PV),ps[i]? =some p→∀k,Own p.v k→¬Own O k
 two:∀(i j:Nat) (p q:PV),i≠j→ps[i]? =some p→ps[j]? =some q→∀k,Own p.v k→¬Own q.v k
theorem PartsW.nil (w:World) (base:Nat):PartsW w base (.slice none 0 0) []:=⟨World.ownsRow_nil _ _ _ _,fun i p h=>by simp at h,fun i p h=>by simp at h,fun i j p q _ h=>by simp at h⟩
theorem PartsW.upd {w w':World} {base:Nat} {O:Value} {ps:List PV} {S:Nat→Prop} (h:PartsW w base O ps) (u:Upd S w w') (hS:∀i,base≤i→¬S i):PartsW w' base O ps:=
 ⟨Za h.own u (fun i e=>hS i (h.own.lt i e).1),fun i p hp=>Za (h.rows i p hp) u (fun k e=>hS k ((h.rows i p hp).lt k e).1),h.apart,h.two⟩
theorem PartsW.push {w w':World} {base g cap:Nat} {O:Value} {ps:List PV} (h:PartsW w base O ps) (ho:w'.ownsRow base 24 1 (.slice (some ⟨g,0,none⟩) (ps.length+1) cap) (ps.length+1) (ps.map PV.v++[.slice none 0 0])) (u:Upd (Own O) w w')
  (hg:∀i,i=g→Own O i∨w.heap.size≤i):PartsW w' base (.slice (some ⟨g,0,none⟩) (ps.length+1) cap) (ps++[⟨none,0,[]⟩]):=by
 have key:∀(i:Nat) (p:PV),(ps++[⟨none,0,[]⟩])[i]? =some p→ps[i]? =some p∨p=⟨none,0,[]⟩:=by
  intro i p hp;rw[List.getElem?_append]at hp
  split at hp
  ·exact Or.inl hp
  ·right
   obtain⟨_,e⟩:=List.getElem?_eq_some_iff.1 hp;simp at e;exact e.symm
 have e1:∀(q:PV) (k:Nat),q=⟨none,0,[]⟩→¬Own q.v k:=by
  rintro q k rfl e;simp[Own,PV.v,Value.ownBlock]at e
 refine⟨?_,fun i p hp=> ?_,fun i p hp k hk=> ?_,fun i j p q hij hp hq k hk hk2=> ?_⟩
 ·rw[List.length_append,List.map_append];exact ho
 ·rcases key i p hp with hp|rfl
  ·exact Za (h.rows i p hp) u (fun k e=>h.apart i p hp k e)
  ·exact World.ownsRow_nil _ _ _ _
 ·rcases key i p hp with hp|hp
  ·intro e;have e':g=k:=by simpa[Own,Value.ownBlock]using e
   rcases hg k e'.symm with h1|h1
   ·exact h.apart i p hp k hk h1
   ·have:=((h.rows i p hp).lt k hk).2;omega
  ·exact absurd hk (e1 p k hp)
 ·rcases key i p hp with hp|hp
  ·rcases key j q hq with hq|hq
   ·exact h.two i j p q hij hp hq k hk hk2
   ·exact absurd hk2 (e1 q k hq)
  ·exact absurd hk (e1 p k hp)
theorem PartsW.add {w w':World} {base j:Nat} {O:Value} {ps:List PV} {p p':PV} {S:Nat→Prop} (h:PartsW w base O ps) (hj:ps[j]? =some p) (u:Upd S w w') (hS:∀i,S i→Own p.v i∨Own O i)
  (ho:w'.ownsRow base 24 1 O ps.length ((ps.map PV.v).set j p'.v)) (hr:w'.ownsRow base 3 1 p'.v p'.l.length (Zep p'.l)) (hg:∀i,Own p'.v i→Own p.v i∨w.heap.size≤i):
  PartsW w' base O (ps.set j p'):=by
 have hl:j<ps.length:=(List.getElem?_eq_some_iff.1 hj).1
 have key:∀(i:Nat) (q:PV),(ps.set j p')[i]? =some q→(i≠j∧ps[i]? =some q)∨(i=j∧q=p'):=by
  intro i q hq;rw[List.getElem?_set]at hq
  by_cases e:j=i
  ·rw[if_pos e]at hq
   by_cases e2:i<ps.length
   ·rw[if_pos (by omega)]at hq;exact Or.inr ⟨e.symm,(Option.some.inj hq).symm⟩
   ·omega
  ·rw[if_neg e]at hq;exact Or.inl ⟨fun e'=>e e'.symm,hq⟩
 refine⟨?_,fun i q hq=> ?_,fun i q hq k hk hO=> ?_,fun i i' q q' hij hq hq' k hk hk2=> ?_⟩
 ·rw[List.length_set,List.map_set];exact ho
 ·rcases key i q hq with ⟨hne,hq⟩|⟨rfl,rfl⟩
  ·exact Za (h.rows i q hq) u (fun k e hs=>(hS k hs).elim (fun e2=>h.two i j q p hne hq hj k e e2) (fun e2=>h.apart i q hq k e e2))
  ·exact hr
 ·rcases key i q hq with ⟨hne,hq⟩|⟨rfl,rfl⟩
  ·exact h.apart i q hq k hk hO
  ·rcases hg k hk with h1|h1
   ·exact h.apart i p hj k h1 hO
   ·have:=(h.own.lt k hO).2;omega
 ·rcases key i q hq with ⟨hne,hq⟩|⟨e1,e2⟩
  ·rcases key i' q' hq' with ⟨hne',hq'⟩|⟨e1,e2⟩
   ·exact h.two i i' q q' hij hq hq' k hk hk2
   ·rw[e1]at hij;rw[e2]at hk2;rcases hg k hk2 with h1|h1
    ·exact h.two i j q p hij hq hj k hk h1
    ·have:=((h.rows i q hq).lt k hk).2;omega
  ·rcases key i' q' hq' with ⟨hne',hq'⟩|⟨e3,e4⟩
   ·rw[e2]at hk;rcases hg k hk with h1|h1
    ·exact h.two j i' p q' (fun e=>hne' e.symm) hj hq' k h1 hk2
    ·have:=((h.rows i' q' hq').lt k hk2).2;omega
   ·exact hij (e1.trans e3.symm)
end
/- Components of a digraph:scc.Components. -/
section
open Go.RowKit
theorem Zn0:SlT Tryz.prog 41 24 1 24:=SlT.mk_ Tryz.underlying41 (z:= .slice none 0 0) (by kernel_rfl) rfl (by omega)
def Zup (wx:World) (base mb k:Nat) (L:Nat→Nat) (s:Value):Prop:=
 ∃(A:Option Addr) (c:Nat) (ps:List PV) (m:List (Int×Value)) (j:Nat) (pv:PV),s= .slice A ps.length c∧PartsW wx base s ps∧MapIs wx mb (fun n:Int=>Value.int .i64 n) m∧ps[j]? =some pv∧ZP m (L k:Int)=some (.int .i64 (j:Int))∧
  (ps.map PV.l).modify j (·++[k])=Zas L (k+1)∧(∀r,r<k+1→L r=r→ZP m (r:Int)=some (.int .i64 (ZbS L r:Int)))∧pv.l.length≤k∧ps.length≤k+1
theorem Zh0 (ps:List PV) {j:Nat} {p p':PV} {k:Nat} (hj:ps[j]? =some p) (e:p'.l=p.l++[k]):(ps.set j p').map PV.l=(ps.map PV.l).modify j (·++[k]):=by
 apply List.ext_getElem?
 intro i;rw[List.map_set,List.getElem?_set,List.getElem?_modify,List.getElem?_map];have hl:j<ps.length:=(List.getElem?_eq_some_iff.1 hj).1
 by_cases h:j=i
 ·subst h;rw[if_pos rfl,if_pos (by simpa using hl),hj];simp[e]
 ·rw[if_neg h];simp[h]
theorem Zmj (k:Nat):∀l:List (List Nat),(l++[[]]).modify l.length (·++[k])=l++[[k]]
 |[]=>rfl
 |x::l=>by
  show x::(l++[[]]).modify l.length (·++[k])=x::(l++[[k]])
  rw[Zmj k l]
theorem ZkO (L:Nat→Nat) (k:Nat) {l:List Nat} (h:l∈Zas L k):l.length≤k:=by
 unfold Zas at h;obtain⟨r,_,rfl⟩:=List.mem_map.1 h;unfold Zc9;have:=List.length_filter_le (fun i=>L i==r) (List.range k)
 rwa [List.length_range]at this
set_option maxRecDepth 100000 in
set_option maxHeartbeats 8000000 in
theorem ZsQ {w:World} {G:Nat→Prop} {p:Option Addr} {N K:Nat} {q:List HArc} (hD:DG w G p N K q) (hN:N≤4096) (mask:Int):
  Calls Tryz.prog 14 #[.pointer p,.int .i64 mask] w fun e w'=>∃A c ps,e= .returned (.slice A ps.length c)∧PartsW w' w.heap.size (.slice A ps.length c) ps∧ps.map PV.l=Zas (ZE (ofA mask q)) N∧Upd No w w':=by
 have hmm:= @run_makeMap Tryz.prog;obtain⟨wa,hwa⟩:∃wa,w.alloc (.map #[] 0)=wa:=⟨_,rfl⟩;have ua:Upd No w wa:=by rw[←hwa];exact(Upd.refl No w).alloc _
 have hMa:MapIs wa w.heap.size (fun n:Int=>Value.int .i64 n) ([]:List (Int×Value)):=by rw[←hwa];exact MapIs.new w _
 have CL:=Qh (ZrV (hD.upd ua fun _ _=>id) hN mask);have HQ:=Qh (Zhm (ZiY hD) mask);have UA:=Qh ua;have HMa:=Qh hMa;have hwl:w.heap.size<wa.heap.size:=hMa.lt;have hNN:=Qh hN;obtain⟨q',hq'⟩:∃q',ofA mask q=q':=⟨_,rfl⟩;rw[hq']at CL HQ ⊢;clear hD ua hMa hq'
 go_enter Tryz.func14,Tryz.ntmps14
 go_wp2_with fail
 refine(CL.out).mono ?_;rintro e w1 ⟨A,c,rfl,ho,hu⟩;have hlN:(Zdd N q').length=N:=by unfold Zdd;simp
 have HIv:=Qh (show Ints (fun i=>wa.heap.size≤i) w1 A (Zdd N q') from Ints.of_owned ho);have HM1:=Qh (HMa.out.upd hu id);have HU1:=Qh (UA.out.trans hu);rw[hlN]at ho ⊢;obtain⟨mb,hmb⟩:∃mb,w.heap.size=mb:=⟨_,rfl⟩;have HS1:=Qh (show mb<wa.heap.size∧wa.heap.size≤w1.heap.size from⟨hmb▸hwl,hu.size⟩);have HB:=Qh hmb;rw[hmb]at HM1 ⊢;have HLN:=Qh hlN;clear ho hu HMa hwl hmb hlN hmm hwa;go_wp2
 go_loopg [5,14] N (fun gk O i wr=>∃(k:Nat) (A':Option Addr) (c':Nat) (ps:List PV) (m:List (Int×Value)),k+gk=N∧i= .int .i64 (k:Int)∧O= .slice A' ps.length c'∧Hid (PartsW wr w1.heap.size (.slice A' ps.length c') ps)∧Hid (ps.map PV.l=Zas (ZE q') k)∧
  Hid (MapIs wr mb (fun n:Int=>Value.int .i64 n) m)∧Hid (∀r,r<k→ZE q' r=r→ZP m (r:Int)=some (.int .i64 (ZbS (ZE q') r:Int)))∧Hid (Upd (One mb) w1 wr))
 case atStart=>exact⟨0,none,0,[],[],by omega,rfl,rfl,Qh (PartsW.nil _ _),Qh rfl,HM1,Qh (fun r h=>by omega),Qh (Upd.refl _ _)⟩
 case round=>
  clear HM1;obtain⟨k,A',c',ps,m,hgk,rfl,rfl,hP,hC,hM,hG,hU⟩:=hrel;have hpl:ps.length=ZbS (ZE q') k:=by rw[←Zix,←hC.out,List.length_map]
  have hpk:ps.length≤k:=by rw[hpl];exact Zle _ _
  by_cases hk:k<N
  ·have h1:(k:Int)<(N:Int):=by omega
   have h0:(0:Int)≤(k:Int):=Qn _;have hI:=HIv.out.upd hU.out (fun i (hi:wa.heap.size≤i) (e:i=mb)=>by have:=HS1.out.1;omega);obtain⟨ad,rfl,_,_,q0⟩:=hI.at_ (k:=k) (by rw[HLN.out];exact hk);have hlk:(Zdd N q')[k]'(by rw[HLN.out];exact hk)=(ZE q' k:Int):=by simp[Zdd]
   rw[hlk]at q0;have kw:IntKind.i64.wrap ((k:Int)+1)=(k:Int)+1:=by have:=hNN.out;exact IntWalk.i64_in _ (by omega)
   have hle:=ZiU q' k;have HPL:=Qh hpl;clear hI hlk hpl
   go_upto_if 21 with fail
   go_cut [5] (fun s wx=>Hid (Zup wx w1.heap.size mb k (ZE q') s)∧Hid (Upd (One mb) w1 wx))
   case first=>
    by_cases hr:ZE q' k=k
    ·have r0:((k:Int)==(ZE q' k:Int))=true:=by rw[hr];simp
     have HR:=Qh hr;have hpm:ps.length≤4096:=by have:=hNN.out;omega
     clear hr
     go_wp2_with (first
      |(at_mapUpdate;refine Zk2 rfl rfl ZcP Tryz.underlying97 (a:=(ZE q' k:Int)) (val:= .int .i64 (ps.length:Int)) (by rfl) (by rfl) (by rfl) hM.out ?_;intro w3 hm3 hu3;have HM3:=Qh hm3;have HU3:=Qh hu3;have HP3:=Qh (hP.out.upd hu3 (fun i hi (e:i=mb)=>by have:=HS1.out;omega));have HZ3:=Qh hu3.size;clear hm3 hu3)
      |(at_builtin;refine ZaQ rfl rfl Zn0 (v:= .slice A' ps.length c') (n:=ps.length) (xs:=ps.map PV.v) (cells:=[.slice none 0 0]) (by rfl) rfl HP3.out.own rfl rfl (by omega) (by omega) (by have:=HZ3.out;have:=hU.out.size;omega) ?_;intro g9 c9 w9 hown9 hu9 hg9 hlt9;have HO9:=Qh hown9;have HU9:=Qh hu9;have HG9:=Qh hg9;clear hown9 hu9 hg9 hlt9))
     go_meet
     refine⟨Qh ⟨some ⟨g9,0,none⟩,c9,ps++[⟨none,0,[]⟩],Zw m (ZE q' k:Int) (.int .i64 (ps.length:Int)),ps.length,⟨none,0,[]⟩,by simp,?_,HM3.out.upd HU9.out ?_,by simp,ZR ..,?_,?_,by simp,by simp;omega⟩,Qh ((hU.out.trans HU3.out).then_ HU9.out ?_)⟩
     ·exact(by simpa using HP3.out.push HO9.out HU9.out (fun i e=>by
       rcases HG9.out with h|h
       ·left;rw[e];exact h
       ·right;omega))
     ·intro e;have:=(hP.out.own.lt mb e).1;have:=HS1.out;omega
     ·rw[List.map_append,hC.out,ZlV (fun i=>ZiU q' i) HR.out];have:ps.length=(Zas (ZE q') k).length:=by rw[←hC.out,List.length_map]
      rw[this];exact Zmj k _
     ·intro r hrk hrr
      by_cases e:r=k
      ·rw[e,HR.out,ZR,HPL.out]
      ·rw[HR.out,Zah _ _ (by omega)];exact hG.out r (by omega) hrr
     ·intro i e;have:=(hP.out.own.lt i e).1;exact Or.inr this
    ·have r0:((k:Int)==(ZE q' k:Int))=false:=by rw[beq_eq_false_iff_ne];omega
     have HR:=Qh hr;clear hr;go_wp2
     go_meet
     have hlt:ZE q' k<k:=by have:=HR.out;omega
     have hid:=ZjG HQ.out k
     have hjl:ZbS (ZE q') (ZE q' k)<ps.length:=by
      have:=ZfK hid hlt;have h2:=(List.getElem?_eq_some_iff.1 this).1;rw[HPL.out];exact h2
     refine⟨Qh ⟨A',c',ps,m,ZbS (ZE q') (ZE q' k),ps[ZbS (ZE q') (ZE q' k)],rfl,hP.out,hM.out,Qg hjl,hG.out _ hlt hid,?_,?_,?_,by omega⟩,hU⟩
     ·rw[hC.out];exact(Znx rfl hlt hid).symm
     ·intro r hrk hrr
      by_cases e:r=k
      ·exact absurd (e▸hrr) HR.out
      ·exact hG.out r (by omega) hrr
     ·refine ZkO (ZE q') k ?_;rw[←hC.out];exact List.mem_map_of_mem (List.getElem_mem hjl)
   case rest=>
    obtain⟨hMid,hU9⟩:=hcut;obtain⟨A2,c2,ps2,m2,j,pv,rfl,hP2,hM2,hj,hmj,hC2,hG2,hpvl,hpsl⟩:=hMid.out;obtain⟨w5,hw5⟩:∃w5,w5=wc:=⟨_,rfl⟩;subst hw5;have hjl:j<ps2.length:=(List.getElem?_eq_some_iff.1 hj).1;obtain⟨gO,cur,rfl,hgO,hbO,hncO,hlO,hxO,hcO⟩:=Zbr hP2.own (by omega);have j0:(0:Int)≤(j:Int):=Qn _;have j1:(j:Int)<(ps2.length:Int):=by omega
    rcases pv with ⟨pA,pc,pl⟩
    have hrow:=hP2.rows j _ hj
    have hcell:cur[j]? =some (.slice pA pl.length pc):=by
     have h2:(cur.take (ps2.length*1))[j]? =some (.slice pA pl.length pc):=by rw[hxO,List.getElem?_map,hj];rfl
     rw[List.getElem?_take,if_pos (by omega)]at h2;exact h2
    obtain⟨Sx,hSx⟩:∃S:Nat→Prop,S=fun i=>Own (.slice pA pl.length pc) i∨i=gO:=⟨_,rfl⟩
    have hmbS:¬Sx mb:=by
     rw[hSx];rintro(e|e)
     ·have h1:=(hrow.lt mb e).1;have:=HS1.out;omega
     ·have:=HS1.out;omega
    have hlk:∀W,Upd Sx w5 W→(Instr.lookup 97 (.map (some mb)) (.int .i64 (ZE q' k:Int)) false).run Tryz.prog W= .ok (.int .i64 (j:Int)) W:=fun W u=>by
     have:=Zy ZcP Tryz.underlying97 Zs4 (hM2.upd u hmbS) (ZE q' k:Int);rw[hmj]at this;exact this
    have cO:w5.cell? ⟨gO,j,none⟩=some (.slice pA pl.length pc):=by rw[hbO.cell];exact hcell
    have cO2:∀o,(w5.alloc o).cell? ⟨gO,j,none⟩=some (.slice pA pl.length pc):=fun o=>((Upd.refl No w5).alloc o).keepNo cO
    have HMBS:=Qh hmbS;have HP2:=Qh hP2;have HJ:=Qh hj;have HM2:=Qh hM2;have HC2:=Qh hC2;have HG2:=Qh hG2;have HBO:=Qh hbO;have HROW:=Qh hrow;have HSX:=Qh hSx;have HXO:=Qh (show gO≥w1.heap.size∧ps2.length≤c2∧cur.length=c2*1∧cur.take (ps2.length*1)=ps2.map PV.v∧c2≤maxLen from⟨hgO,hncO,hlO,hxO,hcO⟩);have HNO:=Qh (show¬Own (.slice pA pl.length pc) gO from fun e=>hP2.apart j _ hj gO e rfl);have HSZ:=Qh (show w1.heap.size≤w5.heap.size from hU9.out.size);have hkk:k≤4096:=by have:=hNN.out;omega
    have hzz:Upd Sx w5 w5:=Upd.refl _ _;clear hP2 hj hmj hC2 hG2 hM2 hbO hrow hSx hgO hncO hlO hxO hcO hcell hmbS hMid hP hC hM hG HPL;go_wp2;refine wp_region_noPanic ?_;refine wp_region_held_drew (S:=(fun W'=>Upd Sx w5 W')) (by kernel_rfl) ?_ (fun hHeld=> ?_)
    ·(first|exact hzz.drew|exact hHeld|exact hHeld.alloc _|exact hU6|exact hU7)
    refine wpK 0 rfl ?_;refine wpK 1 rfl ?_;refine wpK 2 rfl ?_;refine wpK 3 rfl ?_;refine wpK 4 rfl ?_;refine wpK 5 rfl ?_;refine wpK 6 rfl ?_;refine wpK 7 rfl ?_;refine wpK 8 rfl ?_;refine wpK 10 rfl ?_;refine wpR [9,11] ?_;refine wpC rfl (fun K hK=> ?_) ?_
    ·go_simp;refine hK.out _ _ ?_ (fun hHeld=> ?_)
     ·(first|exact hzz.drew|exact hHeld|exact hHeld.alloc _|exact hU6|exact hU7)
     clear hK K
     try simp only[Act.put,sT,sS,sZ]
     refine wpR [11] ?_;refine wpC rfl (fun K hK=> ?_) AllReadyH.nil;go_simp;refine hK.out _ _ ?_ (fun hHeld=> ?_)
     ·(first|exact hzz.drew|exact hHeld|exact hHeld.alloc _|exact hU6|exact hU7)
     clear hK K
     try simp only[Act.put,sT,sS,sZ]
     refine wpR [12] ?_;refine wpC rfl (fun K hK=> ?_) AllReadyH.nil
     (first
   |(refine Zdg (by rfl) (by rfl) ZiJ (v:= .slice pA pl.length pc) (n:=pl.length) (xs:=Zep pl) (cells:=[.int .i64 (k:Int)]) (by rfl) (by rfl) (by first|exact Za HROW.out ((Upd.refl No w5).drew.alloc _) (fun _ _=>id)|exact Za HROW.out ((Upd.refl No w5).alloc _).drew (fun _ _=>id)) rfl (by exact Zcv) (by rfl) (by omega) (by omega) (by have:=HSZ.out;simp;omega) ?_;intro g6 c6 w6 hown6 hu6 hg6 hlt6;have hU6:Upd Sx w5 w6:=hHeld.trans (hu6.mono (fun i _ e=>by rw[HSX.out];exact Or.inl e));have HO6:=Qh hown6;have HU6:=Qh hu6;have HG6:=Qh hg6;have HB6:=Qh ((HBO.out.drew.alloc (.cells #[.int .i64 (k:Int)] 3)).upd hu6 HNO.out)))
     refine hK.out _ _ ?_ (fun hHeld=> ?_)
     ·(first|exact hzz.drew|exact hHeld|exact hHeld.alloc _|exact hU6|exact hU7)
     clear hK K
     try simp only[Act.put,sT,sS,sZ]
     refine wpK 13 rfl ?_;refine wpR [14] ?_;refine wpC rfl (fun K hK=> ?_) AllReadyH.nil
     (first
   |(refine Zv (by rfl) (by rfl) (g:=gO) (i:=j) (v:= .slice (some ⟨g6,0,none⟩) (pl.length+1) c6) (by rfl) (by rfl) HB6.out (by kernel_rfl) (by have:=HXO.out;omega) rfl ?_;intro w7 hb7 hu7;have hU7:Upd Sx w5 w7:=hU6.trans (hu7.mono (fun i _ e=>by rw[HSX.out];exact Or.inr e));have HB7:=Qh hb7;have HU7:=Qh hu7))
     refine hK.out _ _ ?_ (fun hHeld=> ?_)
     ·(first|exact hzz.drew|exact hHeld|exact hHeld.alloc _|exact hU6|exact hU7)
     clear hK K
     try simp only[Act.put,sT,sS,sZ]
     refine wpD (NoPanic.normal ?_);have HH:=Qh hHeld
     have hgn:g6≠gO:=by
      have hlt:=HBO.out.lt;rcases HG6.out with h|⟨z,h1,h2⟩
      ·intro e;exact HNO.out (by rw[←e];exact h.symm)
      ·have h3:g6=z:=by simpa[Value.ownBlock]using h1
       simp at h2;omega
     have HO7:=Qh (Za HO6.out HU7.out (fun i e h=>by
      have e1:g6=i:=by simpa[Value.ownBlock]using e
      have e2:i=gO:=h;exact hgn (e1.trans e2)))
     have hg7:∀i,Own (.slice (some ⟨g6,0,none⟩) (pl.length+1) c6) i→Own (.slice pA pl.length pc) i∨w5.heap.size≤i:=by
      intro i e;have e1:g6=i:=by simpa[Own,Value.ownBlock]using e
      rcases HG6.out with h|⟨z,h1,h2⟩
      ·left;rw[←e1];exact h.symm
      ·right
       have h3:g6=z:=by simpa[Value.ownBlock]using h1
       simp at h2;omega
     have HP7:=Qh (HP2.out.add (p':=⟨some ⟨g6,0,none⟩,c6,pl++[k]⟩) HJ.out HH.out (fun i h=>by
      rw[HSX.out]at h;exact h.imp id (fun e=>show some gO=some i from by rw[show i=gO from e])) (ZaU HB7.out HXO.out.1 HXO.out.2.1 (by rw[List.length_set];exact HXO.out.2.2.1) (by rw[List.take_set,HXO.out.2.2.2.1];simp[PV.v]) HXO.out.2.2.2.2 (by simp))
      (ZS (base:=w1.heap.size) (by simpa[PV.v,Zep]using HO7.out) (Nat.le_refl _)) (by simpa[PV.v]using hg7))
     have HL7:=Qh (Zh0 ps2 (p':=⟨some ⟨g6,0,none⟩,c6,pl++[k]⟩) HJ.out rfl);have HM7:=Qh (HM2.out.upd HH.out HMBS.out)
     have HU8:=Qh (hU9.out.then_ HH.out (fun i h=>by
      rw[HSX.out]at h
      right
      rcases h with h|h
      ·exact(HROW.out.lt i h).1
      ·have:=HXO.out.1;omega))
     clear hHeld hU6 hU7 hb7 hu7 hown6 hu6 hg6 hlt6 hgn hg7 hlk cO cO2 hzz;go_wp2
     go_roundg (gk-1)
     case measure=>omega
     case rel=>exact⟨k+1,some ⟨gO,0,none⟩,c2,ps2.set j ⟨some ⟨g6,0,none⟩,c6,pl++[k]⟩,m2,by omega,by simp,by simp,Qh (by simpa using HP7.out),Qh (HL7.out.trans HC2.out),HM7,HG2,HU8⟩
    refine wpC rfl (fun K hK=> ?_) AllReadyH.nil;go_simp;refine hK.out _ _ ?_ (fun hHeld=> ?_)
    ·(first|exact hzz.drew|exact hHeld|exact hHeld.alloc _|exact hU6|exact hU7)
    clear hK K
    try simp only[Act.put,sT,sS,sZ]
    refine wpR [9] ?_;refine wpC rfl (fun K hK=> ?_) AllReadyH.nil;go_simp;refine hK.out _ _ ?_ (fun hHeld=> ?_)
    ·(first|exact hzz.drew|exact hHeld|exact hHeld.alloc _|exact hU6|exact hU7)
    clear hK K
    try simp only[Act.put,sT,sS,sZ]
    refine wpR [12] ?_;refine wpC rfl (fun K hK=> ?_) AllReadyH.nil
    (first
  |(refine Zdg (by rfl) (by rfl) ZiJ (v:= .slice pA pl.length pc) (n:=pl.length) (xs:=Zep pl) (cells:=[.int .i64 (k:Int)]) (by rfl) (by rfl) (by first|exact Za HROW.out ((Upd.refl No w5).drew.alloc _) (fun _ _=>id)|exact Za HROW.out ((Upd.refl No w5).alloc _).drew (fun _ _=>id)) rfl (by exact Zcv) (by rfl) (by omega) (by omega) (by have:=HSZ.out;simp;omega) ?_;intro g6 c6 w6 hown6 hu6 hg6 hlt6;have hU6:Upd Sx w5 w6:=hHeld.trans (hu6.mono (fun i _ e=>by rw[HSX.out];exact Or.inl e));have HO6:=Qh hown6;have HU6:=Qh hu6;have HG6:=Qh hg6;have HB6:=Qh ((HBO.out.drew.alloc (.cells #[.int .i64 (k:Int)] 3)).upd hu6 HNO.out)))
    refine hK.out _ _ ?_ (fun hHeld=> ?_)
    ·(first|exact hzz.drew|exact hHeld|exact hHeld.alloc _|exact hU6|exact hU7)
    clear hK K
    try simp only[Act.put,sT,sS,sZ]
    refine wpK 13 rfl ?_;refine wpR [14] ?_;refine wpC rfl (fun K hK=> ?_) AllReadyH.nil
    (first
  |(refine Zv (by rfl) (by rfl) (g:=gO) (i:=j) (v:= .slice (some ⟨g6,0,none⟩) (pl.length+1) c6) (by rfl) (by rfl) HB6.out (by kernel_rfl) (by have:=HXO.out;omega) rfl ?_;intro w7 hb7 hu7;have hU7:Upd Sx w5 w7:=hU6.trans (hu7.mono (fun i _ e=>by rw[HSX.out];exact Or.inr e));have HB7:=Qh hb7;have HU7:=Qh hu7))
    refine hK.out _ _ ?_ (fun hHeld=> ?_)
    ·(first|exact hzz.drew|exact hHeld|exact hHeld.alloc _|exact hU6|exact hU7)
    clear hK K
    try simp only[Act.put,sT,sS,sZ]
    refine wpD (NoPanic.normal ?_);have HH:=Qh hHeld
    have hgn:g6≠gO:=by
     have hlt:=HBO.out.lt;rcases HG6.out with h|⟨z,h1,h2⟩
     ·intro e;exact HNO.out (by rw[←e];exact h.symm)
     ·have h3:g6=z:=by simpa[Value.ownBlock]using h1
      simp at h2;omega
    have HO7:=Qh (Za HO6.out HU7.out (fun i e h=>by
     have e1:g6=i:=by simpa[Value.ownBlock]using e
     have e2:i=gO:=h;exact hgn (e1.trans e2)))
    have hg7:∀i,Own (.slice (some ⟨g6,0,none⟩) (pl.length+1) c6) i→Own (.slice pA pl.length pc) i∨w5.heap.size≤i:=by
     intro i e;have e1:g6=i:=by simpa[Own,Value.ownBlock]using e
     rcases HG6.out with h|⟨z,h1,h2⟩
     ·left;rw[←e1];exact h.symm
     ·right
      have h3:g6=z:=by simpa[Value.ownBlock]using h1
      simp at h2;omega
    have HP7:=Qh (HP2.out.add (p':=⟨some ⟨g6,0,none⟩,c6,pl++[k]⟩) HJ.out HH.out (fun i h=>by
     rw[HSX.out]at h;exact h.imp id (fun e=>show some gO=some i from by rw[show i=gO from e])) (ZaU HB7.out HXO.out.1 HXO.out.2.1 (by rw[List.length_set];exact HXO.out.2.2.1) (by rw[List.take_set,HXO.out.2.2.2.1];simp[PV.v]) HXO.out.2.2.2.2 (by simp))
     (ZS (base:=w1.heap.size) (by simpa[PV.v,Zep]using HO7.out) (Nat.le_refl _)) (by simpa[PV.v]using hg7))
    have HL7:=Qh (Zh0 ps2 (p':=⟨some ⟨g6,0,none⟩,c6,pl++[k]⟩) HJ.out rfl);have HM7:=Qh (HM2.out.upd HH.out HMBS.out)
    have HU8:=Qh (hU9.out.then_ HH.out (fun i h=>by
     rw[HSX.out]at h
     right
     rcases h with h|h
     ·exact(HROW.out.lt i h).1
     ·have:=HXO.out.1;omega))
    clear hHeld hU6 hU7 hb7 hu7 hown6 hu6 hg6 hlt6 hgn hg7 hlk cO cO2 hzz;go_wp2
    go_roundg (gk-1)
    case measure=>omega
    case rel=>exact⟨k+1,some ⟨gO,0,none⟩,c2,ps2.set j ⟨some ⟨g6,0,none⟩,c6,pl++[k]⟩,m2,by omega,by simp,by simp,Qh (by simpa using HP7.out),Qh (HL7.out.trans HC2.out),HM7,HG2,HU8⟩
  ·obtain rfl:k=N:=by omega
   have h1:¬((k:Int)<(k:Int)):=by omega
   clear hpl hpk;go_wp2;refine bodyPost_ret (v:= .slice A' ps.length c') (by simp[results,Tryz.results14,go_sem]) rfl ⟨A',c',ps,rfl,?_,hC.out,HU1.out.then_ hU.out (fun i e=>Or.inr (by have e:i=mb:=e;have:=HB.out;omega))⟩;have h:=hP.out;have hb:mb≤w1.heap.size:=by have:=HS1.out;omega
   exact⟨ZS h.own (HB.out▸hb),fun i p hp=>ZS (h.rows i p hp) (HB.out▸hb),h.apart,h.two⟩
end
/- Components of a digraph:who goes round (scc.Round). -/
section
open Go.RowKit
theorem ZoI (l:List Nat):Zep l=(l.map fun x:Nat=>(x:Int)).map (Value.int .i64):=by unfold Zep;rw[List.map_map];rfl
end
/- Components of a digraph,the document's:who is reached (tenterref23.Reach). -/
section
open Go.RowKit
theorem ZmV (w:World) (F:Nat→Prop) (A:Option Addr) (c:Nat) (l:List Int) (a:Int) (h:Ints F w A l) (hl:l.length≤4398046511103) {v:Bool} (hv:decide (a∈l)=v):
  Calls Tryz.prog 10 #[.slice A l.length c,.int .i64 a] w fun e w'=>e= .returned (.bool v)∧w=w':=by
 subst hv;exact Ztf w F A c l a h hl
end
end Go.Proofs.YtonblekdfinpkaaGreat
