/- Components of a digraph: all that is reached from a node is gone through (scc.tour.from). -/
import Derived.Test.YtonblekdfinpkaaGreatSxag
import Derived.Test.YtonblekdfinpkaaGreatSxao
import Derived.Test.YtonblekdfinpkaaGreatSxat
import Derived.Test.YtonblekdfinpkaaGreatSxbj
import Derived.Test.YtonblekdfinpkaaGreatSxbq
namespace Go.Proofs.YtonblekdfinpkaaGreat
set_option linter.unusedVariables false
set_option linter.unusedSimpArgs false
section
open Go.RowKit
def Zmi (wb:Nat) (wr:World) (t gw gl go gs gb N:Nat) (fv:Value) (FS0 FB:Nat→Prop) (nx:Nat→List Nat) (s0:TS) (gk:Nat) (A:Option Addr) (n c:Nat):Prop:=
 ∃(s:TS) (fs:List VF) (FS':Nat→Prop),fs.length=n∧s.way=fs.map VF.fr∧wr.ownsRow wb 248 2 (.slice A n c) n (ZbN fs)∧
  VFs wr (fun i=>wb≤i∧¬FT t gw gl go FS' FB i∧¬Own (.slice A n c) i) fs∧(∀i,Own (.slice A n c) i→¬FT t gw gl go FS' FB i)∧
  TourW wr t gw gl go gs gb N fv FS' FB s∧FInv nx N s∧mu nx N s≤gk∧(∀i,FS' i→FS0 i∨wb≤i)∧(∀y,1≤s0.when y→1≤s.when y)
theorem Zgk {w w':World} {t gw gl go gs gb N p m clock:Nat} {fv:Value} {FS FB:Nat→Prop} {way way':List (Nat×List Nat)} {when low out:Nat→Nat} {wait:List Nat} (a:TourW w t gw gl go gs gb N fv FS FB ⟨way,when,low,wait,clock,out⟩)
  (hb:Blk w' gl 21 ((ZbB .i32 N low).set p (.int .i32 (m:Int)))) (u:Upd (One gl) w w'):TourW w' t gw gl go gs gb N fv FS FB ⟨way',when,upd low p m,wait,clock,out⟩:=by
 rw[Zeo]at hb;exact⟨a.blk.upd u (fun e=>a.ne.1.2.1 e),a.wh.upd u (fun e=>a.ne.2.1.1 e),hb,a.ou.upd u (fun e=>a.ne.2.1.2.2 e.symm),a.st.upd u (fun i hi e=>(a.sn i hi).2.2.1 e),a.br.upd u (fun i hi e=>a.ne.2.2.2.2.1 (show FB gl from e▸hi)),a.ne,a.sn⟩
theorem ZnQ (a:Addr):a.add 0=a:=by
 rcases a with ⟨b,o,n⟩
 unfold Addr.add
 split<;>simp_all
theorem Zmx:SlT Tryz.prog 250 248 2 32:=SlT.mk_ Tryz.underlying250 (z:= .agg #[.int .i64 0,.slice none 0 0]) (by kernel_rfl) rfl (by omega)
theorem VFs.turn {w w':World} {NB NB' S:Nat→Prop} {fs:List VF} (h:VFs w NB fs) (k:Upd S w w') (hS:∀i,NB i→¬S i) (hN:∀i,i<w.heap.size→NB i→NB' i):VFs w' NB' fs:=fun f hf=>
 ⟨Ints.weak ((Ints.lt' (h f hf).1 (fun _ e=>e)).upd k (fun i hi=>hS i hi.2)) (fun i _ hi=>hN i hi.1 hi.2),(h f hf).2⟩
def ZsB (wb:Nat) (wr W:World) (t gw gl go gs gb N:Nat) (fv:Value) (FS' FB:Nat→Prop) (g k c v:Nat) (fl:List Nat) (fs:List VF) (s:TS):Prop:=
 ∃B c',W.ownsRow wb 248 2 (.slice (some ⟨g,0,none⟩) (k+1) c) (k+1) (ZbN (⟨v,fl,B,c'⟩::fs))∧VFs W (fun i=>wb≤i∧¬FT t gw gl go FS' FB i∧¬i=g) (⟨v,fl,B,c'⟩::fs)∧
  TourW W t gw gl go gs gb N fv FS' FB s∧Upd (One g) wr W
theorem FInv.wayLen {nx:Nat→List Nat} {N:Nat} {s:TS} (h:FInv nx N s):s.way.length≤N:=by
 have h1:(s.way.map (·.1)).Nodup:=by
  rw[List.nodup_iff_pairwise_ne,List.pairwise_map];exact h.inv.path.imp fun hab e=>by rw[e]at hab;exact Nat.lt_irrefl _ hab
 have h2:=ZbQ (s.way.map (·.1)) (List.range N) h1 fun y hy=>by
  obtain⟨f,hf,rfl⟩:=List.mem_map.1 hy;exact List.mem_range.2 (h.lt _ (h.inv.on f hf))
 rwa [List.length_map,List.length_range]at h2
theorem Zm4 {nx:Nat→List Nat} {N v y gk clock:Nat} {fl:List Nat} {way:List (Nat×List Nat)} {when low low' out:Nat→Nat} {wait:List Nat} (h:mu nx N ⟨(v,y::fl)::way,when,low,wait,clock,out⟩≤gk):mu nx N ⟨(v,fl)::way,when,low',wait,clock,out⟩+1≤gk:=by
 refine Nat.le_trans (Nat.le_of_eq ?_) h;unfold mu;simp only[List.map_cons,List.sum_cons,List.length_cons];omega
set_option maxRecDepth 100000 in
set_option maxHeartbeats 8000000 in
theorem ZrT (w0 w:World) (z0 t gw gl go gs gb N x:Nat) (pg pm:Addr) (nx:Nat→List Nat) (FS FB:Nat→Prop) (s:TS)
  (HN:Zmh w0 z0 N pg pm nx) (hu:Upd (fun j=>z0≤j) w0 w) (hz:∀i,FT t gw gl go FS FB i→z0≤i) (hzw:z0≤w.heap.size)
  (H:TourW w t gw gl go gs gb N (.func (.func 106) #[] #[.pointer (some pg),.pointer (some pm)]) FS FB s) (I:FInv nx N s) (hway:s.way=[]) (hx:x<N) (hx0:s.when x=0) (hN:N≤4096)
  (hnx:∀i,i<N→∀y∈nx i,y<N):
  Calls Tryz.prog 110 #[.pointer (some ⟨t,0,none⟩),.int .i64 (x:Int)] w fun e w'=>e= .returned (.tuple #[])∧
   ∃s' FS',(∀i,FS' i→FS i∨w.heap.size≤i)∧TourW w' t gw gl go gs gb N (.func (.func 106) #[] #[.pointer (some pg),.pointer (some pm)]) FS' FB s'∧FInv nx N s'∧s'.way=[]∧1≤s'.when x∧(∀y,1≤s.when y→1≤s'.when y)∧Upd (FT t gw gl go FS FB) w w':=by
 obtain⟨r1,r2,r3⟩:=I.room hx0 hx;have CM:=Qh (Zpm w0 w z0 t gw gl go gs gb N x pg pm nx FS FB s HN hu hz H hx hN r1 r2 r3);have I1:=Qh (I.first hway hx0 hx);clear r1 r2 r3 H
 go_enter Tryz.func110,Tryz.ntmps110
 go_wp2_with fail
 refine(CM.out).mono ?_;rintro e w1 ⟨FS1,A1,c1,rfl,hF1,hT1,hI1,hlc1,hu1⟩;obtain⟨w2,hw2⟩:∃w2,w1.alloc (.cells #[.int .i64 (x:Int),.slice A1 (nx x).length c1] 248)=w2:=⟨_,rfl⟩;have u2:Upd No w1 w2:=by rw[←hw2];exact(Upd.refl No w1).alloc _
 have bW:Blk w2 w1.heap.size 248 [.int .i64 (x:Int),.slice A1 (nx x).length c1]:=by rw[←hw2];exact Blk.new w1 _ _
 have H0:=Qh (show Zmi w.heap.size w2 t gw gl go gs gb N (.func (.func 106) #[] #[.pointer (some pg),.pointer (some pm)]) FS FB nx (s.meet nx x) (mu nx N (s.meet nx x)) (some ⟨w1.heap.size,0,none⟩) 1 1 from by
  refine⟨s.meet nx x,[⟨x,nx x,A1,c1⟩],FS1,rfl,?_,?_,?_,?_,?_,I1.out,Nat.le_refl _,hF1,fun y hy=>hy⟩
  ·show(x,nx x)::s.way=_
   rw[hway];rfl
  ·exact Zam bW hu1.size (Nat.le_refl _) rfl rfl (by decide) rfl
  ·intro f hf;rw[List.mem_singleton.1 hf];refine⟨Ints.weak ((hI1.lt' (fun _ h=>h)).upd u2 (fun _ _=>id)) (fun i _ hi=>⟨hi.2.1,hi.2.2,fun e=> ?_⟩),hlc1⟩;have e':i=w1.heap.size:=(Option.some.inj e).symm;have:=hi.1;omega
  ·intro i e hi;have e':i=w1.heap.size:=(Option.some.inj e).symm;have:=hT1.lt i hi;omega
  ·exact hT1.upd u2 (fun _ _=>id))
 have HU2:=Qh (hu1.trans (u2.mono (fun _ _ e=>e.elim)));clear hF1 hT1 hI1 hu1 hlc1 u2 bW I1 CM hway;obtain⟨q,hq⟩:∃q,w1.heap.size=q:=⟨_,rfl⟩;rw[hq]at H0;go_wp2
 go_loopg [4] (mu nx N (s.meet nx x)) (fun gk sl wr=>∃A n c,sl= .slice A n c∧Hid (Zmi w.heap.size wr t gw gl go gs gb N (.func (.func 106) #[] #[.pointer (some pg),.pointer (some pm)]) FS FB nx (s.meet nx x) gk A n c)∧Hid (Upd (FT t gw gl go FS FB) w wr))
 case atStart=>exact⟨_,_,_,rfl,H0,HU2⟩
 case round=>
  clear H0 HU2;obtain⟨A,n,c,rfl,hF,hU⟩:=hrel;obtain⟨⟨way,when,low,wait,clock,out⟩,fs,FS',rfl,hway,hown,hvfs,hno,hT,hI,hmu,hFS,hwh⟩:=hF.out;rcases fs with _|⟨f,fs⟩
  ·go_wp2;refine bodyPost_end (results_none rfl _ _ _) rfl ⟨rfl,_,FS',hFS,hT,hI,hway,hwh x ?_,fun y hy=>hwh y ?_,hU.out⟩
   ·show 1≤upd s.when x (s.clock+1) x
    rw[Zu];omega
   ·show 1≤upd s.when x (s.clock+1) y
    unfold upd
    split<;>omega
  ·obtain⟨g,cur,rfl,hg,hb,hnc,hl,hx',hc⟩:=Za3 hown (by simp);rcases f with ⟨v,fl,fA,fc⟩
   obtain⟨k,hk⟩:∃k,fs.length=k:=⟨_,rfl⟩;have c1:=Zdw hown (by simp) (i:=fs.length*2+1) (by rw[ZaB,List.length_cons];omega);have c0:=Zdw hown (by simp) (i:=fs.length*2) (by rw[ZaB,List.length_cons];omega);rw[(Zdq ..).2,hk]at c1;rw[(Zdq ..).1,hk]at c0;rw[List.length_cons,hk]at hnc ⊢;have k0:(0:Int)≤(k:Int):=Qn _;have k1:(k:Int)<((k+1:Nat):Int):=by omega
   have ke:((k+1:Nat):Int)-1=(k:Int):=by omega
   have kp:(0:Int)<((k+1:Nat):Int):=by omega
   have kl:k+1≤c:=hnc;have hc':c≤9223372036854775807:=Nat.le_trans hc (by decide);have kw:IntKind.i64.wrap (k:Int)=(k:Int):=IntWalk.i64_in _ (by omega);subst hway;have hvN:v<N:=hI.lt v (hI.inv.on _ (List.mem_cons_self ..));rcases fl with _|⟨y,fl⟩
   ·have CL:Hid (Calls Tryz.prog 180 #[.pointer (some ⟨t,0,none⟩),.int .i64 (v:Int)] wr fun e w'=>e= .returned (.tuple #[])∧∃wait' out',Upd (FT t gw gl go FS' FB) wr w'∧
      TourW w' t gw gl go gs gb N (.func (.func 106) #[] #[.pointer (some pg),.pointer (some pm)]) FS' FB ⟨fs.map VF.fr,when,low,wait',clock,out'⟩∧
      (∀p l way,fs.map VF.fr=(p,l)::way→FInv nx N ⟨(p,l)::way,when,upd low p (min (low p) (low v)),wait',clock,out'⟩)∧(fs=[]→FInv nx N ⟨[],when,low,wait',clock,out'⟩)):=by
     by_cases hlow:low v=when v
     ·obtain⟨top,rest,hsp,hnt⟩:=hI.split;subst hsp;refine Qh (Calls.mono (ZqS wr t gw gl go gs gb N v _ FS' FB _ top rest hT hvN hlow rfl hnt hN hI.lt hI.len hI.nodup) ?_);rintro e w' ⟨rfl,m,out',hm1,hm2,ho,hT',hu'⟩;have hr:=hI.root (out':=out') hlow ho hm1 hm2;refine⟨rfl,rest,out',hu',⟨hT'.1,hT'.2,hT'.3,hT'.4,hT'.5,hT'.6,hT'.7,hT'.8⟩,fun p l way he=> ?_,fun he=> ?_⟩
      ·have e1:fs.map VF.fr=(p,l)::way:=he;rw[e1]at hr
       have e2:min (low p) (low v)=low p:=by
        have h2:=hI.inv;rw[List.map_cons,e1]at h2;exact h2.keep_low hlow
       rw[e2,ZnX];exact hr
      ·subst he;exact hr
     ·refine Qh (Calls.mono (Zmt wr t gw gl go gs gb N v _ FS' FB _ hT hvN hlow) ?_);rintro e w' ⟨rfl,hu'⟩;have hT':=hT.upd hu' (fun _ _=>id);refine⟨rfl,wait,out,hu'.mono (fun _ _ e=>e.elim),⟨hT'.1,hT'.2,hT'.3,hT'.4,hT'.5,hT'.6,hT'.7,hT'.8⟩,fun p l way he=> ?_,fun he=> ?_⟩
      ·have h2:=hI;rw[List.map_cons,he]at h2;exact h2.pop hlow
      ·subst he;exact absurd (hI.inv.sole rfl) hlow
    clear hF
    go_wp2_with fail
    refine(CL.out).mono ?_;rintro e w3 ⟨rfl,wait',out',hu3,hT3,hP3,hE3⟩;have hgF:=hno g rfl;have b3:=hb.upd hu3 hgF;have hown3:w3.ownsRow w.heap.size 248 2 (.slice (some ⟨g,0,none⟩) (k+1) c) (k+1) (ZbN (⟨v,[],fA,fc⟩::fs)):=Zam b3 hg hnc hl (by rw[←hx',List.length_cons,hk]) hc (by rw[ZaB,List.length_cons,hk]);have d0:=Zdw hown3 (by omega) (i:=k*2) (by rw[ZaB,List.length_cons];omega);rw[←hk,(Zdq ..).1,hk]at d0;have HV3:=Qh (VFs.upd (fs:=fs) (fun f hf=>hvfs f (List.mem_cons_of_mem _ hf)) hu3 (fun i hi=>hi.2.1));have HO3:=Qh (Zor (xs:=ZbN fs) (ys:=VF.cells ⟨v,[],fA,fc⟩) (by rw[ZbM]at hown3;exact hown3) rfl);have HT3:=Qh hT3
    have HU3:=Qh (hU.out.then_ hu3 (fun i e=>by
     rcases e with h|h|h|h|h|h
     ·exact Or.inl (Or.inl h)
     ·exact Or.inl (Or.inr (Or.inl h))
     ·exact Or.inl (Or.inr (Or.inr (Or.inl h)))
     ·exact Or.inl (Or.inr (Or.inr (Or.inr (Or.inl h))))
     ·exact(hFS i h).imp (fun h=>Or.inr (Or.inr (Or.inr (Or.inr (Or.inl h))))) id
     ·exact Or.inl (Or.inr (Or.inr (Or.inr (Or.inr (Or.inr h)))))))
    have hmu3:mu nx N ⟨fs.map VF.fr,when,low,wait',clock,out'⟩+1≤gk:=by
     refine Nat.le_trans (Nat.le_of_eq ?_) hmu;unfold mu;simp only[List.map_cons,List.sum_cons,VF.fr,List.length_nil];omega
    have HNO:=Qh hno;clear hown b3 hown3 hT3 hu3 hvfs c0 c1 CL;rcases fs with _|⟨⟨p,pl,pA,pc⟩,fs⟩
    ·obtain rfl:k=0:=hk.symm;have HF3:=Qh (hE3 rfl);clear hP3 hE3;go_wp2
     go_roundg (gk-1)
     case measure=>omega
     case rel=>exact⟨_,_,_,rfl,Qh ⟨_,[],FS',rfl,rfl,HO3.out,HV3.out,HNO.out,HT3.out,HF3.out,by omega,hFS,hwh⟩,HU3⟩
    ·obtain⟨k,rfl⟩:∃k',k=k'+1:=⟨fs.length,hk.symm⟩;have HP3:=Qh (hP3 p pl _ rfl);have hkk:fs.length=k:=by simpa using hk
     have e0:=Zdw HO3.out (by omega) (i:=k*2) (by rw[ZaB,List.length_cons];omega);rw[←hkk,(Zdq ..).1,hkk]at e0;have hpN:p<N:=HP3.out.lt p (HP3.out.inv.on _ (List.mem_cons_self ..));have S2:∀W,Upd (One gl) w3 W→W.cell? ⟨t,2,none⟩=some (.slice (some ⟨gl,0,none⟩) N N):=fun W u=>(HT3.out.blk.upd u (fun e=>HT3.out.ne.1.2.1 e)).cell 2
     have l1:w3.cell? ⟨gl,p,none⟩=some (.int .i32 (low p:Int)):=by rw[HT3.out.lo.cell];exact Za2 _ _ hpN
     have l2:w3.cell? ⟨gl,v,none⟩=some (.int .i32 (low v:Int)):=by rw[HT3.out.lo.cell];exact Za2 _ _ hvN
     have p0:(0:Int)≤(p:Int):=Qn _;have p1:(p:Int)<(N:Int):=by omega
     have v0:(0:Int)≤(v:Int):=Qn _;have v1:(v:Int)<(N:Int):=by omega
     have HPN:=Qh hpN;have mi:min (low p:Int) (low v:Int)=((min (low p) (low v):Nat):Int):=by omega
     go_wp2;refine wp_region_noPanic ?_;refine wp_region_held_drew (S:=(fun W'=>Upd (One gl) w3 W')) (by kernel_rfl) ?_ (fun hHeld=> ?_)
     ·(first|exact(Upd.refl _ _).drew|exact hHeld|exact hHeld.trans hu6)
     refine wpK 0 rfl ?_;refine wpK 1 rfl ?_;refine wpK 2 rfl ?_;refine wpK 3 rfl ?_;refine wpK 4 rfl ?_;refine wpK 5 rfl ?_;refine wpK 6 rfl ?_;refine wpK 7 rfl ?_;refine wpK 8 rfl ?_;refine wpK 9 rfl ?_;refine wpK 10 rfl ?_;refine wpK 12 rfl ?_;refine wpK 13 rfl ?_;refine wpK 14 rfl ?_;refine wpK 15 rfl ?_;refine wpK 16 rfl ?_;refine wpK 17 rfl ?_;refine wpR [11,18] ?_;refine wpC rfl (fun K hK=> ?_) ?_
     ·go_simp;refine hK.out _ _ ?_ (fun hHeld=> ?_)
      ·(first|exact(Upd.refl _ _).drew|exact hHeld|exact hHeld.trans hu6)
      clear hK K
      try simp only[Act.put,sT,sS,sZ]
      refine wpR [18] ?_;refine wpC rfl (fun K hK=> ?_) AllReadyH.nil;go_simp;refine hK.out _ _ ?_ (fun hHeld=> ?_)
      ·(first|exact(Upd.refl _ _).drew|exact hHeld|exact hHeld.trans hu6)
      clear hK K
      try simp only[Act.put,sT,sS,sZ]
      refine wpR [19] ?_;refine wpC rfl (fun K hK=> ?_) AllReadyH.nil;go_simp
      (first
   |(skip))
      try (go_wp2_with fail)
      refine hK.out _ _ ?_ (fun hHeld=> ?_)
      ·(first|exact(Upd.refl _ _).drew|exact hHeld|exact hHeld.trans hu6)
      clear hK K
      try simp only[Act.put,sT,sS,sZ]
      refine wpK 20 rfl ?_;refine wpR [21] ?_;refine wpC rfl (fun K hK=> ?_) AllReadyH.nil
      (first
   |(refine Zt rfl rfl (g:=gl) (i:=p) (v:= .int .i32 ((min (low p) (low v):Nat):Int)) rfl rfl (HT3.out.lo.drew) (by kernel_rfl) (by rw[ZaU];exact HPN.out) rfl ?_;intro w6 hb6 hu6;have HB6:=Qh hb6))
      refine hK.out _ _ ?_ (fun hHeld=> ?_)
      ·(first|exact(Upd.refl _ _).drew|exact hHeld|exact hHeld.trans hu6)
      clear hK K
      try simp only[Act.put,sT,sS,sZ]
      refine wpD (NoPanic.normal ?_);have HT6:=Qh (Zgk HT3.out (way':=(p,pl)::fs.map VF.fr) HB6.out hHeld);have HO6:=Qh (Zb HO3.out hHeld (fun i hi e=>HNO.out i hi (Or.inr (Or.inr (Or.inl e)))));have HV6:=Qh (HV3.out.upd hHeld (fun i hi e=>hi.2.1 (Or.inr (Or.inr (Or.inl e)))));have HU6:=Qh (HU3.out.then_ hHeld (fun i e=>Or.inl (Or.inr (Or.inr (Or.inl e)))));clear hHeld hb6 hu6 S2 l1 l2 e0 d0;go_wp2
      go_roundg (gk-1)
      case measure=>omega
      case rel=>exact⟨_,_,_,rfl,Qh ⟨_,⟨p,pl,pA,pc⟩::fs,FS',hk,rfl,HO6.out,HV6.out,HNO.out,HT6.out,HP3.out,Nat.le_sub_of_add_le hmu3,hFS,hwh⟩,HU6⟩
     refine wpC rfl (fun K hK=> ?_) AllReadyH.nil;go_simp;refine hK.out _ _ ?_ (fun hHeld=> ?_)
     ·(first|exact(Upd.refl _ _).drew|exact hHeld|exact hHeld.trans hu6)
     clear hK K
     try simp only[Act.put,sT,sS,sZ]
     refine wpR [11] ?_;refine wpC rfl (fun K hK=> ?_) AllReadyH.nil;go_simp;refine hK.out _ _ ?_ (fun hHeld=> ?_)
     ·(first|exact(Upd.refl _ _).drew|exact hHeld|exact hHeld.trans hu6)
     clear hK K
     try simp only[Act.put,sT,sS,sZ]
     refine wpR [19] ?_;refine wpC rfl (fun K hK=> ?_) AllReadyH.nil;go_simp
     (first
  |(skip))
     try (go_wp2_with fail)
     refine hK.out _ _ ?_ (fun hHeld=> ?_)
     ·(first|exact(Upd.refl _ _).drew|exact hHeld|exact hHeld.trans hu6)
     clear hK K
     try simp only[Act.put,sT,sS,sZ]
     refine wpK 20 rfl ?_;refine wpR [21] ?_;refine wpC rfl (fun K hK=> ?_) AllReadyH.nil
     (first
  |(refine Zt rfl rfl (g:=gl) (i:=p) (v:= .int .i32 ((min (low p) (low v):Nat):Int)) rfl rfl (HT3.out.lo.drew) (by kernel_rfl) (by rw[ZaU];exact HPN.out) rfl ?_;intro w6 hb6 hu6;have HB6:=Qh hb6))
     refine hK.out _ _ ?_ (fun hHeld=> ?_)
     ·(first|exact(Upd.refl _ _).drew|exact hHeld|exact hHeld.trans hu6)
     clear hK K
     try simp only[Act.put,sT,sS,sZ]
     refine wpD (NoPanic.normal ?_);have HT6:=Qh (Zgk HT3.out (way':=(p,pl)::fs.map VF.fr) HB6.out hHeld);have HO6:=Qh (Zb HO3.out hHeld (fun i hi e=>HNO.out i hi (Or.inr (Or.inr (Or.inl e)))));have HV6:=Qh (HV3.out.upd hHeld (fun i hi e=>hi.2.1 (Or.inr (Or.inr (Or.inl e)))));have HU6:=Qh (HU3.out.then_ hHeld (fun i e=>Or.inl (Or.inr (Or.inr (Or.inl e)))));clear hHeld hb6 hu6 S2 l1 l2 e0 d0;go_wp2
     go_roundg (gk-1)
     case measure=>omega
     case rel=>exact⟨_,_,_,rfl,Qh ⟨_,⟨p,pl,pA,pc⟩::fs,FS',hk,rfl,HO6.out,HV6.out,HNO.out,HT6.out,HP3.out,Nat.le_sub_of_add_le hmu3,hFS,hwh⟩,HU6⟩
   ·obtain⟨hIv,hlc⟩:=hvfs _ (List.mem_cons_self ..);obtain⟨ad,hA,had1,had2,q0⟩:=hIv.at_ (k:=0) (by simp);obtain rfl:fA=some ad:=hA;change wr.cell? (ad.add 0)=some (.int .i64 (y:Int))at q0;rw[ZnQ]at q0;have hyN:y<N:=hnx v hvN y (hI.inv.sub _ (List.mem_cons_self ..) y (List.mem_cons_self ..));have y0:(0:Int)≤(y:Int):=Qn _;have y1:(y:Int)<(N:Int):=by omega
    have n0:(0:Int)<((fl.length+1:Nat):Int):=by omega
    have hlc1:fl.length+1≤fc:=hlc;have hgF:=hno g rfl;have UV:∀V,Upd (One g) wr (wr.setCell ⟨g,k*2+1,none⟩ V):=fun V=>(Upd.refl _ wr).setOne _ _
    have TV:=fun V=>hT.upd (UV V) (fun i hi e=>hgF (show FT t gw gl go FS' FB g from e▸hi))
    have r1:∀V,(wr.setCell ⟨g,k*2+1,none⟩ V).cell? ⟨t,1,none⟩=some (.slice (some ⟨gw,0,none⟩) N N):=fun V=>(TV V).blk.cell 1
    have r2:∀V,(wr.setCell ⟨g,k*2+1,none⟩ V).cell? ⟨gw,y,none⟩=some (.int .i32 (when y:Int)):=fun V=>by rw[(TV V).wh.cell];exact Za2 _ _ hyN
    have r4:∀V,(wr.setCell ⟨g,k*2+1,none⟩ V).cell? ⟨t,4,none⟩=some (.pointer (some ⟨gb,0,none⟩)):=fun V=>(TV V).blk.cell 4
    have hcut:=hIv.cut_ (i:=1) (c:=fc) (by rw[List.length_map];exact hlc)
    have HST:=Qh (show∀B c',Ints (fun i=>w.heap.size≤i∧¬FT t gw gl go FS' FB i∧¬i=g) wr B (fl.map fun x:Nat=>(x:Int))→fl.length≤c'→
      ZsB w.heap.size wr (wr.setCell ⟨g,k*2+1,none⟩ (.slice B fl.length c')) t gw gl go gs gb N (.func (.func 106) #[] #[.pointer (some pg),.pointer (some pm)]) FS' FB g k c v fl fs ⟨(v,fl)::fs.map VF.fr,when,low,wait,clock,out⟩ from by
     intro B c' hB hc';have hT':=TV (.slice B fl.length c');refine⟨B,c',?_,?_,⟨hT'.1,hT'.2,hT'.3,hT'.4,hT'.5,hT'.6,hT'.7,hT'.8⟩,UV _⟩
     ·have h1:=Zp4 hown (by simp) (k*2+1) (.slice B fl.length c');rw[List.length_cons,hk]at h1;rw[←hk]at h1 ⊢;rw[ZmF]at h1;exact h1
     ·intro f hf;rcases List.mem_cons.1 hf with rfl|hf
      ·exact⟨hB.upd (UV _) (fun i hi e=>hi.2.2 e),hc'⟩
      ·have h1:=hvfs f (List.mem_cons_of_mem _ hf);refine⟨Ints.weak (h1.1.upd (UV _) (fun i hi e=>hi.2.2 (by rw[show i=g from e];rfl))) (fun i _ hi=>⟨hi.1,hi.2.1,fun e=>hi.2.2 (by rw[e];rfl)⟩),h1.2⟩)
    have hcu:Ints (fun i=>w.heap.size≤i∧¬FT t gw gl go FS' FB i∧¬i=g) wr (if fc=1 then some ad else (some ad).map (·.add 1)) (fl.map fun x:Nat=>(x:Int)):=by
     refine Ints.weak (by simpa using hcut) (fun i _ hi=> ?_);exact⟨hi.1,hi.2.1,fun e=>hi.2.2 (by rw[e];rfl)⟩
    have HCU:=Qh hcu;clear hcu;have HNO:=Qh (show∀i,i=g→¬FT t gw gl go FS' FB i from fun i e=>hno i (by rw[e];rfl));have HI:=Qh hI;have HMU:=Qh (Zm4 (low':=low) hmu);have HMU0:=Qh (show mu nx N ⟨(v,y::fl)::fs.map VF.fr,when,low,wait,clock,out⟩≤gk from hmu);have HU':=Qh hU.out;have HG:=Qh hg;have HYN:=Qh hyN;have HCK:=Qh hc;have HHV:=Qh hvN;clear TV hcut hIv hvfs hT hI hF hown hmu hno hU hg hb hx' UV hvN
    by_cases hw0:when y=0
    ·have r3:((when y:Int)==0)=true:=by rw[hw0];rfl
     have HW0:=Qh hw0;clear hw0
     by_cases h1:fc=1
     case' pos=>
      subst h1;have HS:=Qh (HST.out (some ad) 0 (by have:=HCU.out;rwa [if_pos rfl]at this) (by omega));rw[show fl.length=0 by omega]at HS
      go_wp2_with fail
     case' neg=>
      have HS:=Qh (HST.out (some ⟨ad.block,ad.off+1,none⟩) (fc-1) (by have:=HCU.out;rwa [if_neg h1]at this) (by omega))
      go_wp2_with fail
     all_goals (
      generalize wr.setCell ⟨g,k*2+1,none⟩ _=wV at HS ⊢
      obtain⟨B,c',hO,hV,hT1,hU1⟩:=HS.out;obtain⟨q1,q2,q3⟩:=HI.out.room HW0.out HYN.out;have hUw:Upd (FT t gw gl go FS FB) w wV:=HU'.out.then_ hU1 (fun i e=>by have:=HG.out;exact Or.inr (show w.heap.size≤i from e▸this))
      have CM:=Qh (Zpm w0 wV z0 t gw gl go gs gb N y pg pm nx FS' FB _ HN ((hu.then_ hUw (fun i e=>Or.inl (hz i e)))) (fun i hi=>by
       rcases hi with h|h|h|h|h|h
       ·exact hz i (Or.inl h)
       ·exact hz i (Or.inr (Or.inl h))
       ·exact hz i (Or.inr (Or.inr (Or.inl h)))
       ·exact hz i (Or.inr (Or.inr (Or.inr (Or.inl h))))
       ·exact(hFS i h).elim (fun h=>hz i (Or.inr (Or.inr (Or.inr (Or.inr (Or.inl h)))))) (fun h=>Nat.le_trans hzw h)
       ·exact hz i (Or.inr (Or.inr (Or.inr (Or.inr (Or.inr h)))))) hT1 HYN.out hN q1 q2 q3)
      have HO1:=Qh hO;have HV1:=Qh hV;have HT1:=Qh hT1;have HUW:=Qh hUw;clear hO hV hT1 hU1 hUw q1 q2 q3 HS HST HCU c0 c1 r1 r2 r3 r4;refine CM.out.mono ?_;rintro e w3 ⟨FS3,A3,c3,rfl,hF3,hT3,hI3,hlc3,hu3⟩;have HO3:=Qh (Zb HO1.out hu3 (fun i hi e=>HNO.out i (by simpa[Value.ownBlock]using hi.symm) e));have hFw:∀i,FS3 i→FS' i∨wV.heap.size≤i:=hF3
      have HV3:=Qh (HV1.out.turn (NB':=fun i=>w.heap.size≤i∧¬FT t gw gl go FS3 FB i∧i<wV.heap.size∧¬i=g) hu3 (fun i hi=>hi.2.1) (fun i hl hi=>⟨hi.1,fun hf=>by
       rcases hf with h|h|h|h|h|h
       ·exact hi.2.1 (Or.inl h)
       ·exact hi.2.1 (Or.inr (Or.inl h))
       ·exact hi.2.1 (Or.inr (Or.inr (Or.inl h)))
       ·exact hi.2.1 (Or.inr (Or.inr (Or.inr (Or.inl h))))
       ·exact(hFw i h).elim (fun h=>hi.2.1 (Or.inr (Or.inr (Or.inr (Or.inr (Or.inl h)))))) (fun h=>by omega)
       ·exact hi.2.1 (Or.inr (Or.inr (Or.inr (Or.inr (Or.inr h))))),hl,hi.2.2⟩))
      have HU3:=Qh (HUW.out.then_ hu3 (fun i e=>by
       rcases e with h|h|h|h|h|h
       ·exact Or.inl (Or.inl h)
       ·exact Or.inl (Or.inr (Or.inl h))
       ·exact Or.inl (Or.inr (Or.inr (Or.inl h)))
       ·exact Or.inl (Or.inr (Or.inr (Or.inr (Or.inl h))))
       ·exact(hFS i h).imp (fun h=>Or.inr (Or.inr (Or.inr (Or.inr (Or.inl h))))) id
       ·exact Or.inl (Or.inr (Or.inr (Or.inr (Or.inr (Or.inr h)))))))
      have HFS3:=Qh (show∀i,FS3 i→FS i∨w.heap.size≤i from fun i h=>(hFw i h).elim (hFS i) (fun h=>Or.inr (Nat.le_trans HUW.out.size h)));have HT3:=Qh hT3;have HI3:=Qh hI3;have HSV:=Qh (show w.heap.size≤wV.heap.size from HUW.out.size);have HSZ:=Qh (show wV.heap.size≤w3.heap.size from hu3.size);have hlcc:(nx y).length≤c3:=hlc3;have hkn:k+1≤4096:=by have:=HI.out.wayLen;simp only[List.length_map,List.length_cons,hk]at this;omega
      have HGF:=Qh (show¬FT t gw gl go FS3 FB g from fun hf=>by
       have hgl:g<wV.heap.size:=by obtain⟨g',cur',e',_,hb',_⟩:=Za3 HO1.out (by omega);cases e';exact hb'.lt
       rcases hf with h|h|h|h|h|h
       ·exact HNO.out g rfl (Or.inl h)
       ·exact HNO.out g rfl (Or.inr (Or.inl h))
       ·exact HNO.out g rfl (Or.inr (Or.inr (Or.inl h)))
       ·exact HNO.out g rfl (Or.inr (Or.inr (Or.inr (Or.inl h))))
       ·exact(hFw g h).elim (fun h=>HNO.out g rfl (Or.inr (Or.inr (Or.inr (Or.inr (Or.inl h)))))) (fun h=>by omega)
       ·exact HNO.out g rfl (Or.inr (Or.inr (Or.inr (Or.inr (Or.inr h))))))
      have HGL:=Qh (show g<wV.heap.size from by obtain⟨g',cur',e',_,hb',_⟩:=Za3 HO1.out (by omega);cases e';exact hb'.lt);clear hT3 hI3 hu3 hF3 hFw hlc3 HT1 HV1 HO1 CM
      go_wp2_with (at_builtin;go_loud (refine ZbT rfl rfl Zmx (v:= .slice (some ⟨g,0,none⟩) (k+1) c) (n:=k+1) (xs:=ZbN (⟨v,fl,B,c'⟩::fs)) (cells:=[.int .i64 (y:Int),.slice A3 (nx y).length c3]) (by rfl) rfl HO3.out rfl rfl (by omega) (by omega) (by have:=HSV.out;have:=HSZ.out;omega) ?_);intro g9 c9 w9 hown9 hu9 hg9 hlt9;have HO9:=Qh hown9;have HU9:=Qh hu9;have HG9:=Qh hg9;clear hown9 hu9 hg9 hlt9)
      have hg9:g9=g∨wV.heap.size≤g9:=by
       rcases HG9.out with h|h
       ·exact Or.inl (by simpa[Value.ownBlock]using h.symm)
       ·right;have:=HSZ.out;omega
      have HU39:=Qh (show Upd (One g) w3 w9 from HU9.out.mono fun i _ e=>by
       have e':g=i:=by simpa[Own,Value.ownBlock]using e
       exact e'.symm)
      have HT9:=Qh (HT3.out.upd HU39.out (fun i hi e=>HGF.out (show FT t gw gl go FS3 FB g from e▸hi)));have HLT9:=Qh HT3.out.lt
      have H9:=Qh (show Zmi w.heap.size w9 t gw gl go gs gb N (.func (.func 106) #[] #[.pointer (some pg),.pointer (some pm)]) FS FB nx (s.meet nx x) (gk-1) (some ⟨g9,0,none⟩) (k+1+1) c9 from by
       refine⟨_,⟨y,nx y,A3,c3⟩::⟨v,fl,B,c'⟩::fs,FS3,by simp[hk],rfl,by rw[ZbM];exact HO9.out,?_,?_,HT9.out,HI.out.push HW0.out HYN.out,?_,HFS3.out,fun z hz'=> ?_⟩
       ·intro f hf;rcases List.mem_cons.1 hf with rfl|hf
        ·refine⟨Ints.weak ((Ints.lt' HI3.out (fun _ e=>e)).upd HU39.out (fun i hi e=> ?_)) (fun i _ hi=>⟨Nat.le_trans HSV.out hi.2.1,hi.2.2,fun e=> ?_⟩),hlcc⟩
         ·have e':i=g:=e;have hgl:g<wV.heap.size:=HGL.out;have:=hi.2.1;omega
         ·have e':i=g9:=by simpa[Own,Value.ownBlock,eq_comm]using e
          have hgl:g<wV.heap.size:=HGL.out;rcases hg9 with h|h
          ·have:=hi.2.1;omega
          ·exact absurd (HG9.out) (by
            rintro(h'|h')
            ·have h'':g9=g:=by simpa[Value.ownBlock]using h'.symm
             omega
            ·have:=hi.1;omega)
        ·refine⟨Ints.weak ((HV3.out f hf).1.upd HU39.out (fun i hi e=>hi.2.2.2 e)) (fun i _ hi=>⟨hi.1,hi.2.1,fun e=> ?_⟩),(HV3.out f hf).2⟩;have e':i=g9:=by simpa[Own,Value.ownBlock,eq_comm]using e
         rcases hg9 with h|h
         ·exact hi.2.2.2 (e'.trans h)
         ·have:=hi.2.2.1;omega
       ·intro i e hf;have e':i=g9:=by simpa[Own,Value.ownBlock,eq_comm]using e
        rcases HG9.out with h|h
        ·have h':g9=g:=by simpa[Value.ownBlock]using h.symm
         exact HGF.out (h'▸e'▸hf)
        ·have:=HLT9.out i hf;omega
       ·have h1:=Zqc nx N ⟨(v,fl)::fs.map VF.fr,when,low,wait,clock,out⟩ HW0.out HYN.out;have h2:=HMU.out;omega
       ·show 1≤upd when y (clock+1) z
        have:=hwh z hz';unfold upd
        split<;>omega)
      go_roundg (gk-1)
      case measure=>have:=HMU.out;omega
      case rel=>exact⟨_,_,_,rfl,H9,Qh (HU3.out.then_ HU39.out (fun i e=>Or.inr (by have:=HG.out;exact(show w.heap.size≤i from e▸this))))⟩)
    ·have r3:((when y:Int)==0)=false:=by rw[beq_eq_false_iff_ne];omega
     have HW0:=Qh (show 1≤when y from by omega);clear hw0
     by_cases h1:fc=1
     case' pos=>
      subst h1;have HS:=Qh (HST.out (some ad) 0 (by have:=HCU.out;rwa [if_pos rfl]at this) (by omega));rw[show fl.length=0 by omega]at HS
      go_wp2_with fail
     case' neg=>
      have HS:=Qh (HST.out (some ⟨ad.block,ad.off+1,none⟩) (fc-1) (by have:=HCU.out;rwa [if_neg h1]at this) (by omega))
      go_wp2_with fail
     all_goals (
      generalize wr.setCell ⟨g,k*2+1,none⟩ _=wV at HS ⊢
      obtain⟨B,c',hO,hV,hT1,hU1⟩:=HS.out;have hUw:Upd (FT t gw gl go FS FB) w wV:=HU'.out.then_ hU1 (fun i e=>by have:=HG.out;exact Or.inr (show w.heap.size≤i from e▸this));have CH:=Qh (ZrH wV FB gb N _ hT1.br y HYN.out);have HO1:=Qh hO;have HV1:=Qh hV;have HT1:=Qh hT1;have HUW:=Qh hUw;have HNE:=Qh hT1.ne;clear hO hV hT1 hU1 hUw HS HST HCU c0 c1 r1 r2 r3 r4;refine CH.out.mono ?_;rintro e w3 ⟨rfl,rfl⟩;clear CH
      by_cases hin:y∈wait
      ·have hin1:decide (y∈wait)=true:=decide_eq_true hin;have HIN:=Qh hin;clear hin;simp only[hin1];clear hin1;have e0:=Zdw HO1.out (by omega) (i:=k*2) (by rw[ZaB,List.length_cons];omega);rw[←hk,(Zdq ..).1,hk]at e0;have S2:∀W,Upd (One gl) wV W→W.cell? ⟨t,2,none⟩=some (.slice (some ⟨gl,0,none⟩) N N):=fun W u=>(HT1.out.blk.upd u (fun e=>HT1.out.ne.1.2.1 e)).cell 2
       have S1:∀W,Upd (One gl) wV W→W.cell? ⟨t,1,none⟩=some (.slice (some ⟨gw,0,none⟩) N N):=fun W u=>(HT1.out.blk.upd u (fun e=>HT1.out.ne.1.2.1 e)).cell 1
       have Sw:∀W,Upd (One gl) wV W→W.cell? ⟨gw,y,none⟩=some (.int .i32 (when y:Int)):=fun W u=>by rw[(HT1.out.wh.upd u (fun e=>HT1.out.ne.2.1.1 e)).cell];exact Za2 _ _ HYN.out
       have Sn:∀W,Upd (One gl) wV W→W.cell? ⟨g,k*2,none⟩=some (.int .i64 (v:Int)):=fun W u=>u.keep e0.1 (fun e=>HNO.out g rfl (Or.inr (Or.inr (Or.inl e))))
       have l1:wV.cell? ⟨gl,v,none⟩=some (.int .i32 (low v:Int)):=by rw[HT1.out.lo.cell];exact Za2 _ _ HHV.out
       have v0:(0:Int)≤(v:Int):=Qn _;have v1:(v:Int)<(N:Int):=by have:=HHV.out;omega
       have mi:min (low v:Int) (when y:Int)=((min (low v) (when y):Nat):Int):=by omega
       go_wp2;refine wp_region_noPanic ?_;refine wp_region_held_drew (S:=(fun W'=>Upd (One gl) wV W')) (by kernel_rfl) ?_ (fun hHeld=> ?_)
       ·(first|exact(Upd.refl _ _).drew|exact hHeld|exact hHeld.trans hu6)
       refine wpK 0 rfl ?_;refine wpK 1 rfl ?_;refine wpK 2 rfl ?_;refine wpK 3 rfl ?_;refine wpK 4 rfl ?_;refine wpK 5 rfl ?_;refine wpK 6 rfl ?_;refine wpK 7 rfl ?_;refine wpK 8 rfl ?_;refine wpK 9 rfl ?_;refine wpK 10 rfl ?_;refine wpK 11 rfl ?_;refine wpK 12 rfl ?_;refine wpK 13 rfl ?_;refine wpK 14 rfl ?_;refine wpK 15 rfl ?_;refine wpK 16 rfl ?_;refine wpK 18 rfl ?_;refine wpK 19 rfl ?_;refine wpK 20 rfl ?_;refine wpK 21 rfl ?_;refine wpK 22 rfl ?_;refine wpK 23 rfl ?_;refine wpK 24 rfl ?_;refine wpR [17] ?_;refine wpC rfl (fun K hK=> ?_) AllReadyH.nil;go_simp;refine hK.out _ _ ?_ (fun hHeld=> ?_)
       ·(first|exact(Upd.refl _ _).drew|exact hHeld|exact hHeld.trans hu6)
       clear hK K
       try simp only[Act.put,sT,sS,sZ]
       refine wpR [25] ?_;refine wpC rfl (fun K hK=> ?_) AllReadyH.nil;go_simp
       (first
  |(skip))
       try (go_wp2_with fail)
       refine hK.out _ _ ?_ (fun hHeld=> ?_)
       ·(first|exact(Upd.refl _ _).drew|exact hHeld|exact hHeld.trans hu6)
       clear hK K
       try simp only[Act.put,sT,sS,sZ]
       refine wpK 26 rfl ?_;refine wpR [27] ?_;refine wpC rfl (fun K hK=> ?_) AllReadyH.nil
       (first
  |(refine Zt rfl rfl (g:=gl) (i:=v) (v:= .int .i32 ((min (low v) (when y):Nat):Int)) rfl rfl (HT1.out.lo.drew) (by kernel_rfl) (by rw[ZaU];exact HHV.out) rfl ?_;intro w6 hb6 hu6;have HB6:=Qh hb6))
       refine hK.out _ _ ?_ (fun hHeld=> ?_)
       ·(first|exact(Upd.refl _ _).drew|exact hHeld|exact hHeld.trans hu6)
       clear hK K
       try simp only[Act.put,sT,sS,sZ]
       refine wpD (NoPanic.normal ?_);have HT6:=Qh (Zgk HT1.out (way':=(v,fl)::fs.map VF.fr) HB6.out hHeld);have HO6:=Qh (Zb HO1.out hHeld (fun i hi e=>HNO.out i (by simpa[Value.ownBlock]using hi.symm) (Or.inr (Or.inr (Or.inl e)))));have HV6:=Qh (HV1.out.upd hHeld (fun i hi e=>hi.2.1 (Or.inr (Or.inr (Or.inl e)))));have HU6:=Qh (HUW.out.then_ hHeld (fun i e=>Or.inl (Or.inr (Or.inr (Or.inl e)))));have HM6:=Qh (Zm4 (low':=upd low v (min (low v) (when y))) HMU0.out);clear hHeld hb6 hu6 S2 S1 Sw Sn l1 e0 HB6;go_wp2
       go_roundg (gk-1)
       case measure=>have:=HM6.out;omega
       case rel=>exact⟨_,_,_,rfl,Qh ⟨_,⟨v,fl,B,c'⟩::fs,FS',by simp[hk],rfl,HO6.out,(fun f hf=>⟨Ints.weak (HV6.out f hf).1 (fun i _ hi=>⟨hi.1,hi.2.1,fun e=>hi.2.2 (by simpa[Own,Value.ownBlock,eq_comm]using e)⟩),(HV6.out f hf).2⟩),(fun i e=>HNO.out i (by simpa[Own,Value.ownBlock,eq_comm]using e)),HT6.out,HI.out.back HIN.out,Nat.le_sub_of_add_le HM6.out,hFS,hwh⟩,HU6⟩
      ·have hin1:decide (y∈wait)=false:=decide_eq_false hin;have HIN:=Qh hin;clear hin;simp only[hin1];clear hin1;go_wp2
       go_roundg (gk-1)
       case measure=>have:=HMU.out;omega
       case rel=>exact⟨_,_,_,rfl,Qh ⟨_,⟨v,fl,B,c'⟩::fs,FS',by simp[hk],rfl,HO1.out,(fun f hf=>⟨Ints.weak (HV1.out f hf).1 (fun i _ hi=>⟨hi.1,hi.2.1,fun e=>hi.2.2 (by simpa[Own,Value.ownBlock,eq_comm]using e)⟩),(HV1.out f hf).2⟩),(fun i e=>HNO.out i (by simpa[Own,Value.ownBlock,eq_comm]using e)),HT1.out,HI.out.skip HW0.out HIN.out,by have:=HMU.out;show mu nx N ⟨(v,fl)::fs.map VF.fr,when,low,wait,clock,out⟩≤gk-1;omega,hFS,hwh⟩,HUW⟩)
end
/- Components of a digraph:the labels of all nodes (scc.Labels). -/
section
open Go.RowKit
theorem Zla {w:World} {G:Nat→Prop} {p:Option Addr} {N K:Nat} {q:List HArc} (h:DG w G p N K q):Zbw N q:=by
 rcases h with ⟨rfl,rfl,rfl⟩|⟨g,rfl,out,inn,ob,ib,oh,ih,base,h1,h2,h3⟩
 ·exact fun a ha=>by cases ha
 ·intro a ha;have:=h2.r a ha;unfold Zx Zat at this;simp at this;omega
theorem Zj1 {N:Nat} {q:List HArc} (h:Zbw N q) (mask:Int):Zbw N (ofA mask q):=fun a ha=>h a (by
 unfold ofA at ha;exact(List.mem_filter.1 ha).1)
theorem ZpV:SlT Tryz.prog 168 21 1 4:=SlT.mk_ Tryz.underlying168 (z:= .int .i32 0) (by kernel_rfl) rfl (by omega)
theorem ZpU:SlT Tryz.prog 24 3 1 8:=SlT.mk_ Tryz.underlying24 (z:= .int .i64 0) (by kernel_rfl) rfl (by omega)
def Zgy (k:IntKind) (m:Nat):Array Value:=(ZbB k m fun _=>0).toArray
theorem ZfU (k:IntKind) (m:Nat):Zgy k m=madeCells #[Value.int k 0] (m*1):=by
 unfold Zgy ZbB
 apply Array.ext
 ·simp[madeCells]
 ·intro i h1 h2;simp[madeCells,Nat.mod_one]
theorem Zrk (m:Nat) (hm:m≤100000) (W:World):(Instr.makeSlice 168 (.int .i64 (m:Int)) (.int .i64 (m:Int))).run Tryz.prog W= .ok (.slice (some ⟨W.heap.size,0,none⟩) m m) (W.alloc (.cells (Zgy .i32 m) 21)):=by
 rw[ZfU];exact ZeU W ZpV (z:= .int .i32 0) (by kernel_rfl) m (by omega) (by omega)
theorem Zrj (m:Nat) (hm:m≤100000) (W:World):(Instr.makeSlice 24 (.int .i64 (m:Int)) (.int .i64 (m:Int))).run Tryz.prog W= .ok (.slice (some ⟨W.heap.size,0,none⟩) m m) (W.alloc (.cells (Zgy .i64 m) 3)):=by
 rw[ZfU];exact ZeU W ZpU (z:= .int .i64 0) (by kernel_rfl) m (by omega) (by omega)
theorem Zsf {W:World} {G:Nat→Prop} {p:Option Addr} {N K:Nat} {q:List HArc} (hD:DG W G p N K q) (pg pm:Addr) (mask:Int) (c1:W.cell? pg=some (.pointer p)) (c2:W.cell? pm=some (.int .i64 mask)) (i:Int):
  Calls Tryz.prog 106 #[.int .i64 i,.pointer (some pg),.pointer (some pm)] W (Zc2 W (nxA i false (ofA mask q))):=by
 have CN:=Qh (Zrz hD i mask);clear hD
 go_enter Tryz.func106,Tryz.ntmps106
 go_wp2_with fail
 refine(CN.out).mono ?_;rintro e w1 ⟨A,c,rfl,ho,hu⟩;have HO:=Qh ho;have HU:=Qh hu;clear ho hu CN;go_wp2
 go_ret
 exact⟨A,c,rfl,HO.out,HU.out⟩
def LabR (N i:Nat) (v:Value) (FF:Nat→Prop) (W:World):Prop:=
 (i=6→∃g,v= .pointer (some ⟨g,0,none⟩)∧Sta W FF g (N:Int) [])∧(i=8→∃g,v= .pointer (some ⟨g,0,none⟩)∧BRow W FF g N fun _=>false)∧
 (i=10→∃g,v= .slice (some ⟨g,0,none⟩) N N∧FF g∧Blk W g 3 (ZbB .i64 N fun _=>0))∧
 (i=2∨i=4→∃g,v= .slice (some ⟨g,0,none⟩) N N∧FF g∧Blk W g 21 (ZbB .i32 N fun _=>0))
theorem LabR.upd {N i:Nat} {v:Value} {FF:Nat→Prop} {W W':World} (h:LabR N i v FF W) (u:Upd No W W'):LabR N i v FF W':=by
 obtain⟨h1,h2,h3,h4⟩:=h;refine⟨fun e=> ?_,fun e=> ?_,fun e=> ?_,fun e=> ?_⟩
 ·obtain⟨g,h,k⟩:=h1 e;exact⟨g,h,k.upd u fun _ _=>id⟩
 ·obtain⟨g,h,k⟩:=h2 e;exact⟨g,h,k.upd u fun _ _=>id⟩
 ·obtain⟨g,h,f,k⟩:=h3 e;exact⟨g,h,f,k.upd u id⟩
 ·obtain⟨g,h,f,k⟩:=h4 e;exact⟨g,h,f,k.upd u id⟩
set_option maxRecDepth 100000 in
set_option maxHeartbeats 8000000 in
theorem ZqG {w:World} {G:Nat→Prop} {p:Option Addr} {N K:Nat} {q:List HArc} (hD:DG w G p N K q) (hN:N≤4096) (mask:Int):
  Calls Tryz.prog 52 #[.pointer p,.int .i64 mask] w (Zc2 w (Zcs N (ofA mask q))):=by
 obtain⟨wa,hwa⟩:∃wa,(w.alloc (.cells #[.pointer p] 28)).alloc (.cells #[.int .i64 mask] 3)=wa:=⟨_,rfl⟩;have ua:Upd No w wa:=by rw[←hwa];exact((Upd.refl No w).alloc _).alloc _
 have hDa:=hD.upd ua (fun _ _=>id);have k1:wa.cell? ⟨w.heap.size,0,none⟩=some (.pointer p):=by rw[←hwa];simp
 have k2:wa.cell? ⟨w.heap.size+1,0,none⟩=some (.int .i64 mask):=by rw[←hwa];simp
 have HN:=Qh (show Zmh wa wa.heap.size N ⟨w.heap.size,0,none⟩ ⟨w.heap.size+1,0,none⟩ (nxN (ofA mask q)) from by
  intro W i hi hu;have hu':Upd No wa W:=hu.mono fun k hk (h:wa.heap.size≤k)=>by omega
  rw[Zow (Zj1 (Zla hD) mask)];exact Zsf (hDa.upd hu' fun _ _=>id) _ _ mask (hu'.keepNo k1) (hu'.keepNo k2) i)
 have CN:=Qh (ZqB hDa);have HE:=Qh (Zj1 (Zla hD) mask);have UA:=Qh ua;have hmi:=fun W=>Zrk N (by omega) W
 have hml:=fun W=>Zrj N (by omega) W
 have hNN:=Qh hN;clear hD hDa ua
 go_enter Tryz.func52,Tryz.ntmps52
 go_wp2_with fail
 refine(CN.out).mono ?_;rintro e w1 ⟨rfl,rfl⟩;go_wp2;refine wp_region_noPanic ?_;refine wp_region_held_drew (S:=fun W=>Upd No wa W) (by kernel_rfl) ?_ (fun hHeld=> ?_)
 ·exact(Upd.refl No _).drew
 refine wpK 0 rfl ?_;refine wpK 1 rfl ?_;refine wpK 3 rfl ?_;refine wpK 5 rfl ?_;refine wpK 7 rfl ?_;refine wpK 9 rfl ?_;refine Zkh (w0:=wa) [(2,14),(4,16),(6,18),(8,20),(10,22)] (LabR N) (f:=3) (by kernel_rfl) ⟨?s1,?s2,?s3,?s4,?s5,trivial⟩ (fun i v FF w w' h u=>h.upd u) ?rest rfl (by kernel_rfl) hHeld
 case s1=>
  intro xs W hW K hK;refine⟨_,rfl,?_⟩;simp only[Zbm,ZaF,Act.put,sT,sS,sZ]at hK ⊢;go_simp;exact hK.out _ (fun k=>k=W.heap.size) _ ((Upd.refl No W).alloc _) (fun k (e:k=W.heap.size)=>by simp;omega) ⟨fun e=>absurd e (by decide),fun e=>absurd e (by decide),fun e=>absurd e (by decide),fun _=>⟨_,rfl,rfl,Blk.new W _ _⟩⟩
 case s2=>
  intro xs W hW K hK;refine⟨_,rfl,?_⟩;simp only[Zbm,ZaF,Act.put,sT,sS,sZ]at hK ⊢;go_simp;exact hK.out _ (fun k=>k=W.heap.size) _ ((Upd.refl No W).alloc _) (fun k (e:k=W.heap.size)=>by simp;omega) ⟨fun e=>absurd e (by decide),fun e=>absurd e (by decide),fun e=>absurd e (by decide),fun _=>⟨_,rfl,rfl,Blk.new W _ _⟩⟩
 case s3=>
  intro xs W hW K hK;refine⟨_,rfl,?_⟩;simp only[Zbm,ZaF,Act.put,sT,sS,sZ]at hK ⊢;go_simp
  go_at_call 108
  refine(ZsN W (N:Int)).mono ?_;rintro e w' ⟨g,rfl,hg,hs,hu⟩;rw[show Zbx (N:Int)=(N:Int) by unfold Zbx;have:=hNN.out;omega]at hs;have HS:=Qh hs;have HU:=Qh hu;have HG:=Qh hg;clear hs hu hg
  try (go_wp2_with fail)
  exact hK.out _ (One g) _ HU.out (fun k (e:k=g)=>by have h1:=HG.out;have h2:=HS.out.lt g rfl;omega) ⟨fun _=>⟨_,rfl,HS.out⟩,fun e=>absurd e (by decide),fun e=>absurd e (by decide),fun e=>absurd e (by decide)⟩
 case s4=>
  intro xs W hW K hK;refine⟨_,rfl,?_⟩;simp only[Zbm,ZaF,Act.put,sT,sS,sZ]at hK ⊢;go_simp
  go_at_call 109
  refine(Ztl W N (Nat.le_trans hNN.out (by decide))).mono ?_;rintro e w' ⟨g,rfl,hg,hs,hu⟩;have HS:=Qh hs;have HU:=Qh hu;clear hs hu hg
  try (go_wp2_with fail)
  exact hK.out _ (fun k=>W.heap.size≤k∧k<w'.heap.size) _ HU.out (fun k e=>e) ⟨fun e=>absurd e (by decide),fun _=>⟨_,rfl,HS.out⟩,fun e=>absurd e (by decide),fun e=>absurd e (by decide)⟩
 case s5=>
  intro xs W hW K hK;refine⟨_,rfl,?_⟩;simp only[Zbm,ZaF,Act.put,sT,sS,sZ]at hK ⊢;go_simp;exact hK.out _ (fun k=>k=W.heap.size) _ ((Upd.refl No W).alloc _) (fun k (e:k=W.heap.size)=>by simp;omega) ⟨fun e=>absurd e (by decide),fun e=>absurd e (by decide),fun _=>⟨_,rfl,rfl,Blk.new W _ _⟩,fun e=>absurd e (by decide)⟩
 case rest=>
  intro xs FF W hW hR hX;obtain⟨hR2,hL2⟩:=hR (2,14) (by simp);obtain⟨hR4,hL4⟩:=hR (4,16) (by simp);obtain⟨hR6,hL6⟩:=hR (6,18) (by simp);obtain⟨hR8,hL8⟩:=hR (8,20) (by simp);obtain⟨hR10,hL10⟩:=hR (10,22) (by simp);have x24:=hX (2,14) (by simp) (4,16) (by simp) (by decide);have x26:=hX (2,14) (by simp) (6,18) (by simp) (by decide);have x28:=hX (2,14) (by simp) (8,20) (by simp) (by decide);have x2a:=hX (2,14) (by simp) (10,22) (by simp) (by decide);have x46:=hX (4,16) (by simp) (6,18) (by simp) (by decide);have x48:=hX (4,16) (by simp) (8,20) (by simp) (by decide);have x4a:=hX (4,16) (by simp) (10,22) (by simp) (by decide);have x68:=hX (6,18) (by simp) (8,20) (by simp) (by decide);have x6a:=hX (6,18) (by simp) (10,22) (by simp) (by decide);have x8a:=hX (8,20) (by simp) (10,22) (by simp) (by decide);obtain⟨gw,e2,f2,b2⟩:=hR2.2.2.2 (Or.inl rfl);obtain⟨gl,e4,f4,b4⟩:=hR4.2.2.2 (Or.inr rfl);obtain⟨gs,e6,st⟩:=hR6.1 rfl;obtain⟨gb,e8,br⟩:=hR8.2.1 rfl;obtain⟨go,e10,f10,b10⟩:=hR10.2.2.1 rfl;simp only at e2 e4 e6 e8 e10 x24 x26 x28 x2a x46 x48 x4a x68 x6a x8a hL2 hL4 hL6 hL8 hL10 f2 f4 f10 st br;simp only[fl,Zb1,Zbm,ZaF,Act.put,sT,sS,sZ,e2,e4,e6,e8,e10];clear hR hX hR2 hR4 hR6 hR8 hR10 e2 e4 e6 e8 e10;obtain⟨FS,hFS⟩:∃FS,FF 6=FS:=⟨_,rfl⟩;obtain⟨FB,hFB⟩:∃FB,FF 8=FB:=⟨_,rfl⟩;rw[hFS]at st x26 x46 x68 x6a hL6;rw[hFB]at br x28 x48 x68 x8a hL8
  have HT:=Qh (show∀s:TS,s.when=(fun _=>0)→s.low=(fun _=>0)→s.wait=[]→s.clock=0→s.out=(fun _=>0)→TourW (W.alloc (.cells #[.func (.func 106) #[] #[.pointer (some ⟨w.heap.size,0,none⟩),.pointer (some ⟨w.heap.size+1,0,none⟩)],.slice (some ⟨gw,0,none⟩) N N,.slice (some ⟨gl,0,none⟩) N N,.pointer (some ⟨gs,0,none⟩),.pointer (some ⟨gb,0,none⟩),.int .i32 0,.slice (some ⟨go,0,none⟩) N N] 174)) W.heap.size gw gl go gs gb N
    (.func (.func 106) #[] #[.pointer (some ⟨w.heap.size,0,none⟩),.pointer (some ⟨w.heap.size+1,0,none⟩)]) FS FB s from by
   rintro⟨way,when,low,wait,clock,out⟩ rfl rfl rfl rfl rfl;refine⟨Blk.new W _ _,b2.alloc _,b4.alloc _,b10.alloc _,st.upd ((Upd.refl No W).alloc _) (fun _ _=>id),?_,?_,?_⟩
   ·have:=br.upd ((Upd.refl No W).alloc (.cells #[.func (.func 106) #[] #[.pointer (some ⟨w.heap.size,0,none⟩),.pointer (some ⟨w.heap.size+1,0,none⟩)],.slice (some ⟨gw,0,none⟩) N N,.slice (some ⟨gl,0,none⟩) N N,.pointer (some ⟨gs,0,none⟩),.pointer (some ⟨gb,0,none⟩),.int .i32 0,.slice (some ⟨go,0,none⟩) N N] 174)) (fun _ _=>id)
    simpa using this
   ·have h2:=hL2 gw f2;have h4:=hL4 gl f4;have ha:=hL10 go f10;exact⟨⟨by omega,by omega,by omega⟩,⟨fun e=>x24 gw f2 (e▸f4),fun e=>x2a gw f2 (e▸f10),fun e=>x4a gl f4 (e▸f10)⟩,fun e=>by have:=hL8 _ e;omega,fun e=>x28 gw f2 e,fun e=>x48 gl f4 e,fun e=>x8a go e f10⟩
   ·intro i hi;have h6:=hL6 i hi;exact⟨by omega,fun e=>x26 gw f2 (e▸hi),fun e=>x46 gl f4 (e▸hi),fun e=>x6a go (e▸hi) f10,fun hb=>x68 i hi hb⟩)
  have HL:=Qh (show∀i,FT W.heap.size gw gl go FS FB i→wa.heap.size≤i from by
   intro i hi;rcases hi with rfl|rfl|rfl|rfl|hi|hi
   ·exact hW.size
   ·exact(hL2 _ f2).1
   ·exact(hL4 _ f4).1
   ·exact(hL10 _ f10).1
   ·exact(hL6 _ hi).1
   ·exact(hL8 _ hi).1)
  have HW:=Qh hW;clear hL2 hL4 hL6 hL8 hL10 x24 x26 x28 x2a x46 x48 x4a x68 x6a x8a b2 b4 b10 st br f2 f4 f10 hFS hFB hHeld;refine wpK 11 rfl ?_ (hS:=HW.out);refine wpR [12] ?_;refine wpC rfl (fun K hK=> ?_) .nil;go_simp;refine hK.out _ _ ?_ (fun hHeld=> ?_)
  ·exact HW.out.alloc _
  clear hK K
  try simp only[Act.put,sT,sS,sZ]
  refine wpK 13 rfl ?_;refine wpD (NoPanic.normal ?_);have HT0:=Qh (HT.out ⟨[],fun _=>0,fun _=>0,[],0,fun _=>0⟩ rfl rfl rfl rfl rfl);have HU0:=Qh (show Upd (fun j=>wa.heap.size≤j) wa _ from(hHeld:Upd No wa _).mono fun _ _ e=>e.elim);have HI0:=Qh (show FInv (nxN (ofA mask q)) N ⟨[],fun _=>0,fun _=>0,[],0,fun _=>0⟩ from⟨TInv.start _ _ _,fun y hy=>absurd hy (List.not_mem_nil),by simp[Zi7]⟩);have HF0:=Qh (show∀i,FS i→wa.heap.size≤i from fun i h=>HL.out i (Or.inr (Or.inr (Or.inr (Or.inr (Or.inl h))))));obtain⟨t,ht⟩:∃t,W.heap.size=t:=⟨_,rfl⟩;rw[ht]at HT0 HL ⊢;have HTL:=Qh (show wa.heap.size≤t from ht▸HW.out.size);clear HT HW ht hHeld;obtain⟨W0,hW0⟩:∃W0,W.alloc (.cells #[.func (.func 106) #[] #[.pointer (some ⟨w.heap.size,0,none⟩),.pointer (some ⟨w.heap.size+1,0,none⟩)],.slice (some ⟨gw,0,none⟩) N N,.slice (some ⟨gl,0,none⟩) N N,.pointer (some ⟨gs,0,none⟩),.pointer (some ⟨gb,0,none⟩),.int .i32 0,.slice (some ⟨go,0,none⟩) N N] 174)=W0:=⟨_,rfl⟩;rw[hW0]at HT0 HU0 ⊢;clear hW0 hmi hml;go_wp2
  go_loopg [26] N (fun gk i wr=>∃(k:Nat) (s:TS) (FS':Nat→Prop),k+gk=N∧i= .int .i64 (k:Int)∧Hid (TourW wr t gw gl go gs gb N (.func (.func 106) #[] #[.pointer (some ⟨w.heap.size,0,none⟩),.pointer (some ⟨w.heap.size+1,0,none⟩)]) FS' FB s)∧Hid (FInv (nxN (ofA mask q)) N s)∧s.way=[]∧Hid (∀j,j<k→1≤s.when j)∧Hid (∀i,FS' i→wa.heap.size≤i)∧Hid (Upd (fun j=>wa.heap.size≤j) wa wr))
  case atStart=>exact⟨0,_,FS,by omega,rfl,HT0,HI0,rfl,Qh (fun j h=>by omega),HF0,HU0⟩
  case round=>
   clear HT0 HI0 HF0 HU0;obtain⟨k,s,FS',hgk,rfl,hT,hI,hway,hwn,hF,hU⟩:=hrel
   by_cases hk:k<N
   ·have h1:(k:Int)<(N:Int):=by omega
    have h0:(0:Int)≤(k:Int):=Qn _;have c1:=hT.out.blk.cell 1;have c2:wr.cell? ⟨gw,k,none⟩=some (.int .i32 (s.when k:Int)):=by rw[hT.out.wh.cell];exact Za2 _ _ hk
    simp only[Qz,Qs]at c1;have kw:IntKind.i64.wrap ((k:Int)+1)=(k:Int)+1:=by have:=hNN.out;exact IntWalk.i64_in _ (by omega)
    by_cases hw0:s.when k=0
    ·have r0:((s.when k:Int)==0)=true:=by rw[hw0];rfl
     have CF:=Qh (ZrT wa wr wa.heap.size t gw gl go gs gb N k _ _ _ FS' FB s HN.out hU.out (fun i hi=>by
      rcases hi with h|h|h|h|h|h
      ·exact HL.out i (Or.inl h)
      ·exact HL.out i (Or.inr (Or.inl h))
      ·exact HL.out i (Or.inr (Or.inr (Or.inl h)))
      ·exact HL.out i (Or.inr (Or.inr (Or.inr (Or.inl h))))
      ·exact hF.out i h
      ·exact HL.out i (Or.inr (Or.inr (Or.inr (Or.inr (Or.inr h)))))) hU.out.size hT.out hI.out hway hk hw0 hNN.out (fun i _ y hy=>Zrh HE.out hy))
     go_wp2_with fail
     refine(CF.out).mono ?_;rintro e w3 ⟨rfl,s',FS3,hF3,hT3,hI3,hway3,hm3,hmm3,hu3⟩;have HT3:=Qh hT3;have HI3:=Qh hI3;have HF3:=Qh (show∀i,FS3 i→wa.heap.size≤i from fun i h=>(hF3 i h).elim (hF.out i) (fun h=>Nat.le_trans hU.out.size h))
     have HM3:=Qh (show∀j,j<k+1→1≤s'.when j from fun j hj=>by
      rcases Nat.lt_or_ge j k with h|h
      ·exact hmm3 j (hwn.out j h)
      ·obtain rfl:j=k:=by omega
       exact hm3)
     have HU3:=Qh (show Upd (fun j=>wa.heap.size≤j) wa w3 from hU.out.trans (hu3.mono (fun i _ hi=>by
      rcases hi with h|h|h|h|h|h
      ·exact HL.out i (Or.inl h)
      ·exact HL.out i (Or.inr (Or.inl h))
      ·exact HL.out i (Or.inr (Or.inr (Or.inl h)))
      ·exact HL.out i (Or.inr (Or.inr (Or.inr (Or.inl h))))
      ·exact hF.out i h
      ·exact HL.out i (Or.inr (Or.inr (Or.inr (Or.inr (Or.inr h))))))))
     clear hT3 hI3 hF3 hm3 hmm3 hu3 hT hI hF hwn hU CF;go_wp2
     go_roundg (gk-1)
     case measure=>omega
     case rel=>exact⟨k+1,s',FS3,by omega,by simp,HT3,HI3,hway3,HM3,HF3,HU3⟩
    ·have r0:((s.when k:Int)==0)=false:=by rw[beq_eq_false_iff_ne];omega
     have HM3:=Qh (show∀j,j<k+1→1≤s.when j from fun j hj=>by
      rcases Nat.lt_or_ge j k with h|h
      ·exact hwn.out j h
      ·obtain rfl:j=k:=by omega
       omega)
     clear hw0;go_wp2
     go_roundg (gk-1)
     case measure=>omega
     case rel=>exact⟨k+1,s,FS',by omega,by simp,hT,hI,hway,HM3,hF,hU⟩
   ·have h1:¬((k:Int)<(N:Int)):=by omega
    have c6:=hT.out.blk.cell 6;simp only[Qz,Qs]at c6;go_wp2;have hl:(Zcs N (ofA mask q)).length=N:=by unfold Zcs;simp
    refine bodyPost_ret (v:= .slice (some ⟨go,0,none⟩) N N) (by simp[results,Tryz.results52,go_sem]) rfl ?_
    have hout:ZbB .i64 N s.out=(Zcs N (ofA mask q)).map (Value.int .i64):=by
     unfold ZbB Zcs;rw[List.map_map];refine List.map_congr_left fun i hi=> ?_
     have hi':=List.mem_range.1 hi;have hlab:=hI.out.inv.lab i (hwn.out i (by omega)) (by rw[hI.out.inv.none_waits hway];exact List.not_mem_nil)
     show Value.int .i64 (s.out i:Int)=Value.int .i64 (Zbj (ofA mask q) i:Int)
     rw[hlab.one (ZhE HE.out i)]
    refine⟨some ⟨go,0,none⟩,N,by rw[hl],?_,UA.out.trans (hU.out.mono (fun i hi (e:wa.heap.size≤i)=>by omega))⟩;rw[hl,←hout];exact Zam hT.out.ou (Nat.le_trans UA.out.size (HL.out go (Or.inr (Or.inr (Or.inr (Or.inl rfl)))))) (Nat.le_refl _) (by rw[ZaU,Nat.mul_one]) (by rw[Nat.mul_one,List.take_of_length_le (by rw[ZaU];exact Nat.le_refl _)]) (by have:=hNN.out;simp only[maxLen];omega) (by rw[ZaU,Nat.mul_one])
end
/- Components of a digraph:parts that grow,in memory:an own row of own rows. -/
section
open Go.RowKit
structure PV where
 A:Option Addr
 c:Nat
 l:List Nat
def PV.v (p:PV):Value:= .slice p.A p.l.length p.c
def Zpt (l:List Nat):List Value:=l.map fun x:Nat=>Value.int .i64 (x:Int)
structure PartsW (w:World) (base:Nat) (O:Value) (ps:List PV):Prop where
 own:w.ownsRow base 24 1 O ps.length (ps.map PV.v)
 rows:∀(i:Nat) (p:PV),ps[i]? =some p→w.ownsRow base 3 1 p.v p.l.length (Zpt p.l)
 apart:∀(i:Nat) (p:PV),ps[i]? =some p→∀k,Own p.v k→¬Own O k
 two:∀(i j:Nat) (p q:PV),i≠j→ps[i]? =some p→ps[j]? =some q→∀k,Own p.v k→¬Own q.v k
theorem PartsW.nil (w:World) (base:Nat):PartsW w base (.slice none 0 0) []:=⟨World.ownsRow_nil _ _ _ _,fun i p h=>by simp at h,fun i p h=>by simp at h,fun i j p q _ h=>by simp at h⟩
theorem PartsW.upd {w w':World} {base:Nat} {O:Value} {ps:List PV} {S:Nat→Prop} (h:PartsW w base O ps) (u:Upd S w w') (hS:∀i,base≤i→¬S i):PartsW w' base O ps:=
 ⟨Zb h.own u (fun i e=>hS i (h.own.lt i e).1),fun i p hp=>Zb (h.rows i p hp) u (fun k e=>hS k ((h.rows i p hp).lt k e).1),h.apart,h.two⟩
theorem PartsW.push {w w':World} {base g cap:Nat} {O:Value} {ps:List PV} (h:PartsW w base O ps) (ho:w'.ownsRow base 24 1 (.slice (some ⟨g,0,none⟩) (ps.length+1) cap) (ps.length+1) (ps.map PV.v++[.slice none 0 0])) (u:Upd (Own O) w w')
  (hg:∀i,i=g→Own O i∨w.heap.size≤i):PartsW w' base (.slice (some ⟨g,0,none⟩) (ps.length+1) cap) (ps++[⟨none,0,[]⟩]):=by
 have key:∀(i:Nat) (p:PV),(ps++[⟨none,0,[]⟩])[i]? =some p→ps[i]? =some p∨p=⟨none,0,[]⟩:=by
  intro i p hp;rw[List.getElem?_append]at hp
  split at hp
  ·exact Or.inl hp
  ·right
   obtain⟨_,e⟩:=List.getElem?_eq_some_iff.1 hp;simp at e;exact e.symm
 have e1:∀(q:PV) (k:Nat),q=⟨none,0,[]⟩→¬Own q.v k:=by
  rintro q k rfl e;simp[Own,PV.v,Value.ownBlock]at e
 refine⟨?_,fun i p hp=> ?_,fun i p hp k hk=> ?_,fun i j p q hij hp hq k hk hk2=> ?_⟩
 ·rw[List.length_append,List.map_append];exact ho
 ·rcases key i p hp with hp|rfl
  ·exact Zb (h.rows i p hp) u (fun k e=>h.apart i p hp k e)
  ·exact World.ownsRow_nil _ _ _ _
 ·rcases key i p hp with hp|hp
  ·intro e;have e':g=k:=by simpa[Own,Value.ownBlock]using e
   rcases hg k e'.symm with h1|h1
   ·exact h.apart i p hp k hk h1
   ·have:=((h.rows i p hp).lt k hk).2;omega
  ·exact absurd hk (e1 p k hp)
 ·rcases key i p hp with hp|hp
  ·rcases key j q hq with hq|hq
   ·exact h.two i j p q hij hp hq k hk hk2
   ·exact absurd hk2 (e1 q k hq)
  ·exact absurd hk (e1 p k hp)
theorem PartsW.add {w w':World} {base j:Nat} {O:Value} {ps:List PV} {p p':PV} {S:Nat→Prop} (h:PartsW w base O ps) (hj:ps[j]? =some p) (u:Upd S w w') (hS:∀i,S i→Own p.v i∨Own O i)
  (ho:w'.ownsRow base 24 1 O ps.length ((ps.map PV.v).set j p'.v)) (hr:w'.ownsRow base 3 1 p'.v p'.l.length (Zpt p'.l)) (hg:∀i,Own p'.v i→Own p.v i∨w.heap.size≤i):
  PartsW w' base O (ps.set j p'):=by
 have hl:j<ps.length:=(List.getElem?_eq_some_iff.1 hj).1
 have key:∀(i:Nat) (q:PV),(ps.set j p')[i]? =some q→(i≠j∧ps[i]? =some q)∨(i=j∧q=p'):=by
  intro i q hq;rw[List.getElem?_set]at hq
  by_cases e:j=i
  ·rw[if_pos e]at hq
   by_cases e2:i<ps.length
   ·rw[if_pos (by omega)]at hq;exact Or.inr ⟨e.symm,(Option.some.inj hq).symm⟩
   ·omega
  ·rw[if_neg e]at hq;exact Or.inl ⟨fun e'=>e e'.symm,hq⟩
 refine⟨?_,fun i q hq=> ?_,fun i q hq k hk hO=> ?_,fun i i' q q' hij hq hq' k hk hk2=> ?_⟩
 ·rw[List.length_set,List.map_set];exact ho
 ·rcases key i q hq with ⟨hne,hq⟩|⟨rfl,rfl⟩
  ·exact Zb (h.rows i q hq) u (fun k e hs=>(hS k hs).elim (fun e2=>h.two i j q p hne hq hj k e e2) (fun e2=>h.apart i q hq k e e2))
  ·exact hr
 ·rcases key i q hq with ⟨hne,hq⟩|⟨rfl,rfl⟩
  ·exact h.apart i q hq k hk hO
  ·rcases hg k hk with h1|h1
   ·exact h.apart i p hj k h1 hO
   ·have:=(h.own.lt k hO).2;omega
 ·rcases key i q hq with ⟨hne,hq⟩|⟨e1,e2⟩
  ·rcases key i' q' hq' with ⟨hne',hq'⟩|⟨e1,e2⟩
   ·exact h.two i i' q q' hij hq hq' k hk hk2
   ·rw[e1]at hij;rw[e2]at hk2;rcases hg k hk2 with h1|h1
    ·exact h.two i j q p hij hq hj k hk h1
    ·have:=((h.rows i q hq).lt k hk).2;omega
  ·rcases key i' q' hq' with ⟨hne',hq'⟩|⟨e3,e4⟩
   ·rw[e2]at hk;rcases hg k hk with h1|h1
    ·exact h.two j i' p q' (fun e=>hne' e.symm) hj hq' k h1 hk2
    ·have:=((h.rows i' q' hq').lt k hk2).2;omega
   ·exact hij (e1.trans e3.symm)
end
end Go.Proofs.YtonblekdfinpkaaGreat
