/- Closed walks, the document's: the first walk of so many steps. -/
import Derived.Test.YticmndpiehinjaaGreatMbr
namespace Go.Proofs.YticmndpiehinjaaGreat
set_option linter.unusedVariables false
set_option linter.unusedSimpArgs false
section
open Go.RowKit
theorem ZbR {p:Edge→Bool} {l:List Edge} {k:Nat} {x:Edge} (hk:k<l.length) (hx:l[k]=x) (hp:p x=false):(l.drop k).find? p=(l.drop (k+1)).find? p:=by
 rw[List.drop_eq_getElem_cons hk,hx,List.find?_cons_of_neg (by rw[hp];decide)]
theorem ZeF {p:Edge→Bool} {l:List Edge} {k:Nat} {x:Edge} (hk:k<l.length) (hx:l[k]=x) (hp:p x=true):(l.drop k).find? p=some x:=by
 rw[List.drop_eq_getElem_cons hk,hx,List.find?_cons_of_pos hp]
theorem ZeD {must:Int} {l:List Edge} {f:Nat→List Int×List Int} {n:Nat} {here:Int} {need:Bool} {e:Edge} (h:l.find? (isR must (f n).1 (f n).2 here need)=some e):
  ZA must l f (n+1) here need=e::ZA must l f n e.t (need&& !Zm must e.k):=by
 show(match l.find? (isR must (f n).1 (f n).2 here need)with|some e=>e::ZA must l f n e.t (need&& !Zm must e.k)|none=>ZA must l f n here need)=_
 rw[h]
theorem Zk9 {must:Int} {l:List Edge} {f:Nat→List Int×List Int} {n:Nat} {here:Int} {need:Bool} (h:l.find? (isR must (f n).1 (f n).2 here need)=none):
  ZA must l f (n+1) here need=ZA must l f n here need:=by
 show(match l.find? (isR must (f n).1 (f n).2 here need)with|some e=>e::ZA must l f n e.t (need&& !Zm must e.k)|none=>ZA must l f n here need)=_
 rw[h]
theorem Zcg {must:Int} {pa pn:List Int} {here:Int} {need:Bool} {e:Edge} {c0 st c1:Bool} (h0:(e.f==here)=c0) (h1:(need&& !Zm must e.k)=st) (h2:(if st=true then decide (e.t∈pn) else decide (e.t∈pa))=c1):
  isR must pa pn here need e=(c0&&c1):=by
 unfold isR;rw[h0,h1,h2]
set_option maxRecDepth 100000 in
set_option maxHeartbeats 16000000 in
theorem ZrE (F:Nat→Prop) (w:World) (A:Option Addr) (c:Nat) (l:List Edge) (v:Value) (must here:Int) (n N:Nat) (need:Bool) (f:Nat→List Int×List Int) (h:Walk F w A l) (hl:l.length≤10000) (hn:n≤N) (hN:N≤100000) (hv:BackAt w v N f)
  (hf:∀j,(f j).1.length≤100000∧(f j).2.length≤100000):
  Calls Tryz.prog 61 #[.slice A l.length c,v,.int .i64 must,.int .i64 here,.int .i64 (n:Int),.bool need] w (Zgj w (ZA must l f n here need)):=by
 obtain⟨A1,c1,A2,c2,rfl,hr1,hr2⟩:=hv;obtain⟨wb,hwb⟩:∃wb,w.alloc (.cells #[.slice A1 (N+1) c1,.slice A2 (N+1) c2] 109)=wb:=⟨_,rfl⟩;have u0:Upd No w wb:=by rw[←hwb];exact(Upd.refl No w).alloc _
 have bB:Blk wb w.heap.size 109 [.slice A1 (N+1) c1,.slice A2 (N+1) c2]:=by rw[←hwb];exact Blk.new w _ _
 have HW:=Qh (fun(W:World) (u:Upd No wb W)=>h.upd (u0.trans u) (fun _ _=>id));have HR1:=Qh (fun(W:World) (u:Upd No wb W)=>hr1.upd (u0.trans u));have HR2':=Qh (fun(W:World) (u:Upd No wb W)=>hr2.upd (u0.trans u));have HBB:=Qh (fun(W:World) (u:Upd No wb W)=>bB.upd u id);have U0:=Qh u0;have HF:=Qh hf;obtain⟨R,hR⟩:∃R,ZA must l f n here need=R:=⟨_,rfl⟩;have HR:=Qh hR;rw[hR];clear h hr1 hr2 u0 bB hR hf
 go_enter Tryz.func61,Tryz.ntmps61
 go_wp2;clear hwb
 go_loopg [5,13,14,15] n (fun gk sd s a i wr=>∃(nd:Bool) (A5:Option Addr) (c5:Nat) (xs:List Edge) (ai:Int),sd= .bool nd∧s= .slice A5 xs.length c5∧a= .int .i64 ai∧i= .int .i64 (gk:Int)∧Hid (xs++ZA must l f gk ai nd=R)∧
  xs.length+gk≤n∧wr.ownsRow wb.heap.size 68 4 (.slice A5 xs.length c5) xs.length (Zh xs)∧Upd No wb wr)
 case atStart=>exact⟨need,none,0,[],here,rfl,rfl,rfl,rfl,Qh (by rw[List.nil_append];exact HR.out),by simp,World.ownsRow_nil _ _ _ _,Upd.refl _ _⟩
 case round=>
  obtain⟨nd,A5,c5,xs,ai,rfl,rfl,rfl,rfl,hR,hxl,hown,hu⟩:=hrel
  cases gk with
  |zero=>
   have HRx:=Qh (show xs=R by have:=hR.out;simpa[ZA]using this);clear hR;go_wp2
   go_ret
   have:=U0.out.size;rw[←HRx.out];exact⟨A5,c5,rfl,Zx hown this,U0.out.trans hu⟩
  |succ g1=>
   obtain⟨ad1,P,cp,e1,y1,hP⟩:=(HR1.out wr hu).at_ g1 (by omega);obtain⟨ad2,Q,cq,e2,y2,hQ⟩:=(HR2'.out wr hu).at_ g1 (by omega);subst e1;subst e2;have hln:=HF.out g1;obtain⟨pa,hpa⟩:∃pa,(f g1).1=pa:=⟨_,rfl⟩;obtain⟨pn,hpn⟩:∃pn,(f g1).2=pn:=⟨_,rfl⟩;rw[hpa]at y1 hP hln;rw[hpn]at y2 hQ hln;have HPA:=Qh hpa;have HPN:=Qh hpn;have HLN:=Qh hln;have HR2:=hR;have hg0:(0:Int)<((g1+1:Nat):Int):=by omega
   obtain⟨ng,hng⟩:∃ng:Int,((g1+1:Nat):Int)=ng:=⟨_,rfl⟩;have hng2:ng-1=(g1:Int):=by omega
   rw[hng]at hg0;have hw1:IntKind.i64.wrap (ng-1)=(g1:Int):=by rw[hng2];exact IntWalk.i64_in _ (by omega)
   have HG1:=Qh (show(g1:Int)=ng-1 by omega);have i6:(0:Int)≤(g1:Int):=Qn _;have i7:(g1:Int)<((N+1:Nat):Int):=by omega
   have i8:(g1:Int)<(N:Int)+1:=by omega
   have hxl':xs.length+(g1+1)≤n:=hxl
   generalize hgg:g1+1=m0 at*
   rw[hng];obtain⟨w3,hw3⟩:∃w3,w3=wr:=⟨_,rfl⟩;subst hw3;have HO3:=Qh hown;have HU3:=Qh hu;have HLT:=Qh (HBB.out w3 hu).lt;obtain⟨fo,hfo⟩:∃fo,l.find? (isR must pa pn ai nd)=fo:=⟨_,rfl⟩;have HFO:=Qh hfo;clear hpa hpn hln hown hfo hR hng2;go_wp2
   go_loopg [5,13,14,27] l.length (fun gk sd s a j wr=>∃(k:Nat),k+gk=l.length∧j= .int .i64 k∧sd= .bool nd∧s= .slice A5 xs.length c5∧a= .int .i64 ai∧Hid ((l.drop k).find? (isR must pa pn ai nd)=fo)∧Upd No w3 wr)
   case atStart=>exact⟨0,by omega,rfl,rfl,rfl,rfl,HFO,Upd.refl _ _⟩
   case round=>
    obtain⟨k,hgj,rfl,rfl,rfl,rfl,hfi,huj⟩:=hrel
    by_cases hk:k<l.length
    ·obtain⟨ax,rfl,q0,q1,q2,q3⟩:=(HW.out wr (HU3.out.trans huj)).at_ hk;obtain⟨x,hx⟩:∃x,l[k]=x:=⟨_,rfl⟩;rw[hx]at q0 q1 q2 q3;have HXK:=Qh hx;have i1:(0:Int)≤(k:Int):=Qn _;have i2:(k:Int)<(l.length:Int):=by omega
     obtain⟨wx,hwx⟩:∃wx,wr.alloc (.cells #[.int .i64 x.f,.int .i64 x.t,.int .i64 x.k,.int .i64 x.key] 68)=wx:=⟨_,rfl⟩;have ux:Upd No wr wx:=by rw[←hwx];exact(Upd.refl No wr).alloc _
     have bo:Blk wx wr.heap.size 68 [.int .i64 x.f,.int .i64 x.t,.int .i64 x.k,.int .i64 x.key]:=by rw[←hwx];exact Blk.new wr _ _
     have huw3:=huj.trans ux;have hszr:=huj.size;have bw:=HBB.out wx (HU3.out.trans huw3);have g0':∀W,Upd No wx W→W.cell? ⟨wr.heap.size,0,none⟩=some (.int .i64 x.f):=fun W u=>by have:=(bo.upd u id).cell 0;simpa using this
     have g1':∀W,Upd No wx W→W.cell? ⟨wr.heap.size,1,none⟩=some (.int .i64 x.t):=fun W u=>by have:=(bo.upd u id).cell 1;simpa using this
     have g2:∀W,Upd No wx W→W.cell? ⟨wr.heap.size,2,none⟩=some (.int .i64 x.k):=fun W u=>by have:=(bo.upd u id).cell 2;simpa using this
     have g3:∀W,Upd No wx W→W.cell? ⟨wr.heap.size,3,none⟩=some (.int .i64 x.key):=fun W u=>by have:=(bo.upd u id).cell 3;simpa using this
     have k0:∀W,Upd No wx W→W.cell? ⟨w.heap.size,0,none⟩=some (.slice (some ad1) (N+1) c1):=fun W u=>by have:=(bw.upd u id).cell 0;simpa using this
     have k1:∀W,Upd No wx W→W.cell? ⟨w.heap.size,1,none⟩=some (.slice (some ad2) (N+1) c2):=fun W u=>by have:=(bw.upd u id).cell 1;simpa using this
     have r1:∀W,Upd No wx W→W.cell? (ad1.add g1)=some (.slice P pa.length cp):=fun W u=>(huw3.trans u).keepNo y1
     have r2:∀W,Upd No wx W→W.cell? (ad2.add g1)=some (.slice Q pn.length cq):=fun W u=>(huw3.trans u).keepNo y2
     have HPP:=Qh (fun(W:World) (u:Upd No wx W)=>hP.upd (huw3.trans u) (fun _ _=>id));have HQ:=Qh (fun(W:World) (u:Upd No wx W)=>hQ.upd (huw3.trans u) (fun _ _=>id));have HUW:=Qh huw3;have HBO:=Qh (fun(W:World) (u:Upd No wx W)=>bo.upd u id);have hxr:Upd No wx wx:=Upd.refl _ _;clear hx ux bo bw
     cases nd
     ·have hxz:=hxr
      by_cases hf:x.f=ai
      ·have f1:(x.f==ai)=true:=by simpa using hf
       have f2:(x.f != ai)=false:=by simpa using hf
       cases htn:decide (x.t∈pa)
       ·have HIN:=Qh (fun(W:World) (u:Upd No wx W)=>Zaf W _ P cp pa x.t (HPP.out W u) (by have:=HLN.out;omega) htn);have HNX:=Qh (show(l.drop (k+1)).find? (isR must pa pn ai false)=fo by rw[←hfi.out,ZbR hk HXK.out (by rw[Zcg f1 (show(false&& !Zm must x.k)=false from rfl) (c1:=false) (by rw[if_neg (by decide)];exact htn)];rfl)]);clear hf f1 htn;go_wp2;refine wp_region_noPanic ?_;refine wp_region_held_drew (S:=(fun W'=>Upd No wx W')) (by kernel_rfl) ?_ (fun hHeld=> ?_)
        ·(first|exact(Upd.drew hxz)|exact hHeld.trans hu4|exact hHeld)
        refine wpK 0 rfl ?_;refine wpK 1 rfl ?_;refine wpK 2 rfl ?_;refine wpK 3 rfl ?_;refine wpK 4 rfl ?_;refine wpK 5 rfl ?_;refine wpK 6 rfl ?_;refine wpN 7 rfl ?_;refine wpN 8 rfl ?_;refine wpN 9 rfl ?_;refine wpN 10 rfl ?_;refine wpN 11 rfl ?_;refine wpN 12 rfl ?_;refine wpN 13 rfl ?_;refine wpN 14 rfl ?_;refine wpR [15] ?_;refine wpC rfl (fun K hK=> ?_) AllReadyH.nil;go_simp;refine hK.out _ _ ?_ (fun hHeld=> ?_)
        ·exact hHeld
        clear hK K
        try simp only[Act.put,sT,sS,sZ]
        refine wpN 16 rfl ?_;refine wpK 17 rfl ?_;refine wpK 18 rfl ?_;refine wpK 19 rfl ?_;refine wpK 20 rfl ?_;refine wpK 21 rfl ?_;refine wpK 22 rfl ?_;refine wpK 23 rfl ?_;refine wpK 24 rfl ?_;refine wpK 25 rfl ?_;refine wpK 26 rfl ?_;refine wpK 27 rfl ?_;refine wpK 28 rfl ?_;refine wpK 29 rfl ?_;refine wpK 30 rfl ?_;refine wpR [31] ?_;refine wpC rfl (fun K hK=> ?_) AllReadyH.nil;go_simp
        (first
  |(go_at_call 60;refine(HIN.out _ hHeld).mono ?_;rintro e w4 ⟨rfl,hu4⟩))
        try (go_wp2_with fail)
        refine hK.out _ _ ?_ (fun hHeld=> ?_)
        ·(first|exact(Upd.drew hxz)|exact hHeld.trans hu4|exact hHeld)
        clear hK K
        try simp only[Act.put,sT,sS,sZ]
        refine wpK 32 rfl ?_;refine wpK 33 rfl ?_;refine wpK 34 rfl ?_;refine wpD (NoPanic.normal ?_);go_wp2
        go_roundg (gk-1)
        case measure=>omega
        case rel=>exact⟨k+1,by omega,by go_num,rfl,rfl,rfl,HNX,HUW.out.trans hHeld⟩
       ·have HIN:=Qh (fun(W:World) (u:Upd No wx W)=>Zaf W _ P cp pa x.t (HPP.out W u) (by have:=HLN.out;omega) htn);have HFX:=Qh (show fo=some x by rw[←hfi.out,ZeF hk HXK.out (by rw[Zcg f1 (show(false&& !Zm must x.k)=false from rfl) (c1:=true) (by rw[if_neg (by decide)];exact htn)];rfl)])
        have HRX:=Qh (show(xs++[x])++ZA must l f g1 x.t false=R by
         have:=HR2.out;rw[←hgg,ZeD (by rw[HPA.out,HPN.out,HFO.out,HFX.out]),(show(false&& !Zm must x.k)=false from rfl)]at this;rw[List.append_assoc];exact this)
        clear hf f1 htn;go_wp2;refine wp_region_noPanic ?_;refine wp_region_held_drew (S:=(fun W'=>Upd No wx W')) (by kernel_rfl) ?_ (fun hHeld=> ?_)
        ·(first|exact(Upd.drew hxz)|exact hHeld.trans hu4|exact hHeld)
        refine wpK 0 rfl ?_;refine wpK 1 rfl ?_;refine wpK 2 rfl ?_;refine wpK 3 rfl ?_;refine wpK 4 rfl ?_;refine wpK 5 rfl ?_;refine wpK 6 rfl ?_;refine wpN 7 rfl ?_;refine wpN 8 rfl ?_;refine wpN 9 rfl ?_;refine wpN 10 rfl ?_;refine wpN 11 rfl ?_;refine wpN 12 rfl ?_;refine wpN 13 rfl ?_;refine wpN 14 rfl ?_;refine wpR [15] ?_;refine wpC rfl (fun K hK=> ?_) AllReadyH.nil;go_simp;refine hK.out _ _ ?_ (fun hHeld=> ?_)
        ·exact hHeld
        clear hK K
        try simp only[Act.put,sT,sS,sZ]
        refine wpN 16 rfl ?_;refine wpK 17 rfl ?_;refine wpK 18 rfl ?_;refine wpK 19 rfl ?_;refine wpK 20 rfl ?_;refine wpK 21 rfl ?_;refine wpK 22 rfl ?_;refine wpK 23 rfl ?_;refine wpK 24 rfl ?_;refine wpK 25 rfl ?_;refine wpK 26 rfl ?_;refine wpK 27 rfl ?_;refine wpK 28 rfl ?_;refine wpK 29 rfl ?_;refine wpK 30 rfl ?_;refine wpR [31] ?_;refine wpC rfl (fun K hK=> ?_) AllReadyH.nil;go_simp
        (first
  |(go_at_call 60;refine(HIN.out _ hHeld).mono ?_;rintro e w4 ⟨rfl,hu4⟩))
        try (go_wp2_with fail)
        refine hK.out _ _ ?_ (fun hHeld=> ?_)
        ·(first|exact(Upd.drew hxz)|exact hHeld.trans hu4|exact hHeld)
        clear hK K
        try simp only[Act.put,sT,sS,sZ]
        refine wpK 32 rfl ?_;refine wpK 33 rfl ?_;refine wpK 34 rfl ?_;refine wpD (NoPanic.normal ?_);have hx4:Upd No wx w4:=hHeld;clear hHeld hu4;have hown4:=Za HO3.out (huw3.trans hx4) (fun _ _=>id);have HGE:=Qh (fun i e=>(hown4.lt i e));have HBX:=Qh (HBO.out w4 hx4);have HLE:=Qh (Z5 xs);have hzz:=(HUW.out.trans hx4).size;have HUZ:=Qh (HUW.out.trans hx4);have hlw:=HLT.out;have hzb:=HU3.out.size;have HBS:=Qh (fun i (e:Own (.slice A5 xs.length c5) i)=>(HO3.out.lt i e).2)
        go_wp2_with (at_builtin;refine ZX rfl rfl ZJ (v:= .slice A5 xs.length c5) (n:=xs.length) (xs:=Zh xs) (cells:=[.int .i64 x.f,.int .i64 x.t,.int .i64 x.k,.int .i64 x.key]) (by rfl) rfl hown4 rfl rfl (by omega) (by omega) (by omega) ?_;intro g8 c8 w8 hown8 hu8 hg8 hlt8;have e1:=(HBX.out.upd hu8 (fun e=>by have:=HBS.out _ e;omega)).cell 1;simp only[Qz,Qs]at e1)
        go_roundg g1
        case measure=>omega
        case rel=>exact⟨false,some ⟨g8,0,none⟩,c8,xs++[x],x.t,rfl,by simp,rfl,by rw[HG1.out],HRX,by simp;omega,by simpa[Zh,Edge.cells]using hown8,(HU3.out.trans HUZ.out).then_ hu8 fun i e=> .inr (by have:=(HGE.out i e).1;omega)⟩
      ·have f1:(x.f==ai)=false:=by simpa using hf
       have f2:(x.f != ai)=true:=by simpa using hf
       have HNX:=Qh (show(l.drop (k+1)).find? (isR must pa pn ai false)=fo by rw[←hfi.out,ZbR hk HXK.out (by rw[Zcg f1 rfl rfl];rfl)]);clear hf f1;go_wp2;refine wp_region_noPanic ?_;refine wp_region_held_drew (S:=(fun W'=>Upd No wx W')) (by kernel_rfl) ?_ (fun hHeld=> ?_)
       ·(first|exact(Upd.drew hxz)|exact hHeld)
       refine wpK 0 rfl ?_;refine wpK 1 rfl ?_;refine wpK 2 rfl ?_;refine wpK 3 rfl ?_;refine wpK 4 rfl ?_;refine wpN 5 rfl ?_;refine wpN 6 rfl ?_;refine wpN 7 rfl ?_;refine wpN 8 rfl ?_;refine wpN 9 rfl ?_;refine wpN 10 rfl ?_;refine wpN 11 rfl ?_;refine wpN 12 rfl ?_;refine wpN 13 rfl ?_;refine wpN 14 rfl ?_;refine wpR [15] ?_;refine wpC rfl (fun K hK=> ?_) AllReadyH.nil;go_simp;refine hK.out _ _ ?_ (fun hHeld=> ?_)
       ·exact hHeld
       clear hK K
       try simp only[Act.put,sT,sS,sZ]
       refine wpN 16 rfl ?_;refine wpN 17 rfl ?_;refine wpK 18 rfl ?_;refine wpK 19 rfl ?_;refine wpN 20 rfl ?_;refine wpN 21 rfl ?_;refine wpN 22 rfl ?_;refine wpN 23 rfl ?_;refine wpN 24 rfl ?_;refine wpN 25 rfl ?_;refine wpN 26 rfl ?_;refine wpN 27 rfl ?_;refine wpN 28 rfl ?_;refine wpN 29 rfl ?_;refine wpN 30 rfl ?_;refine wpR [31] ?_;refine wpC rfl (fun K hK=> ?_) AllReadyH.nil;go_simp;refine hK.out _ _ ?_ (fun hHeld=> ?_)
       ·exact hHeld
       clear hK K
       try simp only[Act.put,sT,sS,sZ]
       refine wpN 32 rfl ?_;refine wpN 33 rfl ?_;refine wpK 34 rfl ?_;refine wpD (NoPanic.normal ?_);go_wp2
       go_roundg (gk-1)
       case measure=>omega
       case rel=>exact⟨k+1,by omega,by go_num,rfl,rfl,rfl,HNX,HUW.out.trans hHeld⟩
     ·cases hbk:Zm must x.k
      ·have HB5:=Qh (Zbc wx must x.k hbk);have HBK:=Qh hbk;clear hbk
       go_wp2_with fail
       refine(HB5.out).mono ?_;rintro e w5 ⟨rfl,hxz⟩
       by_cases hf:x.f=ai
       ·have f1:(x.f==ai)=true:=by simpa using hf
        have f2:(x.f != ai)=false:=by simpa using hf
        cases htn:decide (x.t∈pn)
        ·have HIN:=Qh (fun(W:World) (u:Upd No wx W)=>Zaf W _ Q cq pn x.t (HQ.out W u) (by have:=HLN.out;omega) htn);have HNX:=Qh (show(l.drop (k+1)).find? (isR must pa pn ai true)=fo by rw[←hfi.out,ZbR hk HXK.out (by rw[Zcg f1 (show(true&& !Zm must x.k)=true by rw[HBK.out];rfl) (c1:=false) (by rw[if_pos rfl];exact htn)];rfl)]);clear hf f1 htn;go_wp2;refine wp_region_noPanic ?_;refine wp_region_held_drew (S:=(fun W'=>Upd No wx W')) (by kernel_rfl) ?_ (fun hHeld=> ?_)
         ·(first|exact(Upd.drew hxz)|exact hHeld.trans hu4|exact hHeld)
         refine wpK 0 rfl ?_;refine wpK 1 rfl ?_;refine wpK 2 rfl ?_;refine wpK 3 rfl ?_;refine wpK 4 rfl ?_;refine wpK 5 rfl ?_;refine wpK 6 rfl ?_;refine wpK 7 rfl ?_;refine wpK 8 rfl ?_;refine wpK 9 rfl ?_;refine wpK 10 rfl ?_;refine wpK 11 rfl ?_;refine wpK 12 rfl ?_;refine wpK 13 rfl ?_;refine wpK 14 rfl ?_;refine wpR [15] ?_;refine wpC rfl (fun K hK=> ?_) AllReadyH.nil;go_simp
         (first
  |(go_at_call 60;refine(HIN.out _ hHeld).mono ?_;rintro e w4 ⟨rfl,hu4⟩))
         try (go_wp2_with fail)
         refine hK.out _ _ ?_ (fun hHeld=> ?_)
         ·(first|exact(Upd.drew hxz)|exact hHeld.trans hu4|exact hHeld)
         clear hK K
         try simp only[Act.put,sT,sS,sZ]
         refine wpK 16 rfl ?_;refine wpK 17 rfl ?_;refine wpK 18 rfl ?_;refine wpK 19 rfl ?_;refine wpN 20 rfl ?_;refine wpN 21 rfl ?_;refine wpN 22 rfl ?_;refine wpN 23 rfl ?_;refine wpN 24 rfl ?_;refine wpN 25 rfl ?_;refine wpN 26 rfl ?_;refine wpN 27 rfl ?_;refine wpN 28 rfl ?_;refine wpN 29 rfl ?_;refine wpN 30 rfl ?_;refine wpR [31] ?_;refine wpC rfl (fun K hK=> ?_) AllReadyH.nil;go_simp;refine hK.out _ _ ?_ (fun hHeld=> ?_)
         ·exact hHeld
         clear hK K
         try simp only[Act.put,sT,sS,sZ]
         refine wpN 32 rfl ?_;refine wpN 33 rfl ?_;refine wpK 34 rfl ?_;refine wpD (NoPanic.normal ?_);go_wp2
         go_roundg (gk-1)
         case measure=>omega
         case rel=>exact⟨k+1,by omega,by go_num,rfl,rfl,rfl,HNX,HUW.out.trans hHeld⟩
        ·have HIN:=Qh (fun(W:World) (u:Upd No wx W)=>Zaf W _ Q cq pn x.t (HQ.out W u) (by have:=HLN.out;omega) htn);have HFX:=Qh (show fo=some x by rw[←hfi.out,ZeF hk HXK.out (by rw[Zcg f1 (show(true&& !Zm must x.k)=true by rw[HBK.out];rfl) (c1:=true) (by rw[if_pos rfl];exact htn)];rfl)])
         have HRX:=Qh (show(xs++[x])++ZA must l f g1 x.t true=R by
          have:=HR2.out;rw[←hgg,ZeD (by rw[HPA.out,HPN.out,HFO.out,HFX.out]),(show(true&& !Zm must x.k)=true by rw[HBK.out];rfl)]at this;rw[List.append_assoc];exact this)
         clear hf f1 htn;go_wp2;refine wp_region_noPanic ?_;refine wp_region_held_drew (S:=(fun W'=>Upd No wx W')) (by kernel_rfl) ?_ (fun hHeld=> ?_)
         ·(first|exact(Upd.drew hxz)|exact hHeld.trans hu4|exact hHeld)
         refine wpK 0 rfl ?_;refine wpK 1 rfl ?_;refine wpK 2 rfl ?_;refine wpK 3 rfl ?_;refine wpK 4 rfl ?_;refine wpK 5 rfl ?_;refine wpK 6 rfl ?_;refine wpK 7 rfl ?_;refine wpK 8 rfl ?_;refine wpK 9 rfl ?_;refine wpK 10 rfl ?_;refine wpK 11 rfl ?_;refine wpK 12 rfl ?_;refine wpK 13 rfl ?_;refine wpK 14 rfl ?_;refine wpR [15] ?_;refine wpC rfl (fun K hK=> ?_) AllReadyH.nil;go_simp
         (first
  |(go_at_call 60;refine(HIN.out _ hHeld).mono ?_;rintro e w4 ⟨rfl,hu4⟩))
         try (go_wp2_with fail)
         refine hK.out _ _ ?_ (fun hHeld=> ?_)
         ·(first|exact(Upd.drew hxz)|exact hHeld.trans hu4|exact hHeld)
         clear hK K
         try simp only[Act.put,sT,sS,sZ]
         refine wpK 16 rfl ?_;refine wpK 17 rfl ?_;refine wpK 18 rfl ?_;refine wpK 19 rfl ?_;refine wpK 20 rfl ?_;refine wpK 21 rfl ?_;refine wpK 22 rfl ?_;refine wpN 23 rfl ?_;refine wpN 24 rfl ?_;refine wpN 25 rfl ?_;refine wpN 26 rfl ?_;refine wpN 27 rfl ?_;refine wpN 28 rfl ?_;refine wpN 29 rfl ?_;refine wpN 30 rfl ?_;refine wpR [31] ?_;refine wpC rfl (fun K hK=> ?_) AllReadyH.nil;go_simp;refine hK.out _ _ ?_ (fun hHeld=> ?_)
         ·exact hHeld
         clear hK K
         try simp only[Act.put,sT,sS,sZ]
         refine wpN 32 rfl ?_;refine wpK 33 rfl ?_;refine wpK 34 rfl ?_;refine wpD (NoPanic.normal ?_);have hx4:Upd No wx w4:=hHeld;clear hHeld hu4;have hown4:=Za HO3.out (huw3.trans hx4) (fun _ _=>id);have HGE:=Qh (fun i e=>(hown4.lt i e));have HBX:=Qh (HBO.out w4 hx4);have HLE:=Qh (Z5 xs);have hzz:=(HUW.out.trans hx4).size;have HUZ:=Qh (HUW.out.trans hx4);have hlw:=HLT.out;have hzb:=HU3.out.size;have HBS:=Qh (fun i (e:Own (.slice A5 xs.length c5) i)=>(HO3.out.lt i e).2)
         go_wp2_with (at_builtin;refine ZX rfl rfl ZJ (v:= .slice A5 xs.length c5) (n:=xs.length) (xs:=Zh xs) (cells:=[.int .i64 x.f,.int .i64 x.t,.int .i64 x.k,.int .i64 x.key]) (by rfl) rfl hown4 rfl rfl (by omega) (by omega) (by omega) ?_;intro g8 c8 w8 hown8 hu8 hg8 hlt8;have e1:=(HBX.out.upd hu8 (fun e=>by have:=HBS.out _ e;omega)).cell 1;simp only[Qz,Qs]at e1)
         go_roundg g1
         case measure=>omega
         case rel=>exact⟨true,some ⟨g8,0,none⟩,c8,xs++[x],x.t,rfl,by simp,rfl,by rw[HG1.out],HRX,by simp;omega,by simpa[Zh,Edge.cells]using hown8,(HU3.out.trans HUZ.out).then_ hu8 fun i e=> .inr (by have:=(HGE.out i e).1;omega)⟩
       ·have f1:(x.f==ai)=false:=by simpa using hf
        have f2:(x.f != ai)=true:=by simpa using hf
        have HNX:=Qh (show(l.drop (k+1)).find? (isR must pa pn ai true)=fo by rw[←hfi.out,ZbR hk HXK.out (by rw[Zcg f1 rfl rfl];rfl)]);clear hf f1;go_wp2;refine wp_region_noPanic ?_;refine wp_region_held_drew (S:=(fun W'=>Upd No wx W')) (by kernel_rfl) ?_ (fun hHeld=> ?_)
        ·(first|exact(Upd.drew hxz)|exact hHeld)
        refine wpK 0 rfl ?_;refine wpK 1 rfl ?_;refine wpK 2 rfl ?_;refine wpK 3 rfl ?_;refine wpK 4 rfl ?_;refine wpN 5 rfl ?_;refine wpN 6 rfl ?_;refine wpN 7 rfl ?_;refine wpN 8 rfl ?_;refine wpN 9 rfl ?_;refine wpN 10 rfl ?_;refine wpN 11 rfl ?_;refine wpN 12 rfl ?_;refine wpN 13 rfl ?_;refine wpN 14 rfl ?_;refine wpR [15] ?_;refine wpC rfl (fun K hK=> ?_) AllReadyH.nil;go_simp;refine hK.out _ _ ?_ (fun hHeld=> ?_)
        ·exact hHeld
        clear hK K
        try simp only[Act.put,sT,sS,sZ]
        refine wpN 16 rfl ?_;refine wpN 17 rfl ?_;refine wpK 18 rfl ?_;refine wpK 19 rfl ?_;refine wpN 20 rfl ?_;refine wpN 21 rfl ?_;refine wpN 22 rfl ?_;refine wpN 23 rfl ?_;refine wpN 24 rfl ?_;refine wpN 25 rfl ?_;refine wpN 26 rfl ?_;refine wpN 27 rfl ?_;refine wpN 28 rfl ?_;refine wpN 29 rfl ?_;refine wpN 30 rfl ?_;refine wpR [31] ?_;refine wpC rfl (fun K hK=> ?_) AllReadyH.nil;go_simp;refine hK.out _ _ ?_ (fun hHeld=> ?_)
        ·exact hHeld
        clear hK K
        try simp only[Act.put,sT,sS,sZ]
        refine wpN 32 rfl ?_;refine wpN 33 rfl ?_;refine wpK 34 rfl ?_;refine wpD (NoPanic.normal ?_);go_wp2
        go_roundg (gk-1)
        case measure=>omega
        case rel=>exact⟨k+1,by omega,by go_num,rfl,rfl,rfl,HNX,HUW.out.trans hHeld⟩
      ·have HB5:=Qh (Zbc wx must x.k hbk);have HBK:=Qh hbk;clear hbk
       go_wp2_with fail
       refine(HB5.out).mono ?_;rintro e w5 ⟨rfl,hxz⟩
       by_cases hf:x.f=ai
       ·have f1:(x.f==ai)=true:=by simpa using hf
        have f2:(x.f != ai)=false:=by simpa using hf
        cases htn:decide (x.t∈pa)
        ·have HIN:=Qh (fun(W:World) (u:Upd No wx W)=>Zaf W _ P cp pa x.t (HPP.out W u) (by have:=HLN.out;omega) htn);have HNX:=Qh (show(l.drop (k+1)).find? (isR must pa pn ai true)=fo by rw[←hfi.out,ZbR hk HXK.out (by rw[Zcg f1 (show(true&& !Zm must x.k)=false by rw[HBK.out];rfl) (c1:=false) (by rw[if_neg (by decide)];exact htn)];rfl)]);clear hf f1 htn;go_wp2;refine wp_region_noPanic ?_;refine wp_region_held_drew (S:=(fun W'=>Upd No wx W')) (by kernel_rfl) ?_ (fun hHeld=> ?_)
         ·(first|exact(Upd.drew hxz)|exact hHeld.trans hu4|exact hHeld)
         refine wpK 0 rfl ?_;refine wpK 1 rfl ?_;refine wpK 2 rfl ?_;refine wpK 3 rfl ?_;refine wpK 4 rfl ?_;refine wpK 5 rfl ?_;refine wpK 6 rfl ?_;refine wpN 7 rfl ?_;refine wpN 8 rfl ?_;refine wpN 9 rfl ?_;refine wpN 10 rfl ?_;refine wpN 11 rfl ?_;refine wpN 12 rfl ?_;refine wpN 13 rfl ?_;refine wpN 14 rfl ?_;refine wpR [15] ?_;refine wpC rfl (fun K hK=> ?_) AllReadyH.nil;go_simp;refine hK.out _ _ ?_ (fun hHeld=> ?_)
         ·exact hHeld
         clear hK K
         try simp only[Act.put,sT,sS,sZ]
         refine wpN 16 rfl ?_;refine wpK 17 rfl ?_;refine wpK 18 rfl ?_;refine wpK 19 rfl ?_;refine wpK 20 rfl ?_;refine wpK 21 rfl ?_;refine wpK 22 rfl ?_;refine wpK 23 rfl ?_;refine wpK 24 rfl ?_;refine wpK 25 rfl ?_;refine wpK 26 rfl ?_;refine wpK 27 rfl ?_;refine wpK 28 rfl ?_;refine wpK 29 rfl ?_;refine wpK 30 rfl ?_;refine wpR [31] ?_;refine wpC rfl (fun K hK=> ?_) AllReadyH.nil;go_simp
         (first
  |(go_at_call 60;refine(HIN.out _ hHeld).mono ?_;rintro e w4 ⟨rfl,hu4⟩))
         try (go_wp2_with fail)
         refine hK.out _ _ ?_ (fun hHeld=> ?_)
         ·(first|exact(Upd.drew hxz)|exact hHeld.trans hu4|exact hHeld)
         clear hK K
         try simp only[Act.put,sT,sS,sZ]
         refine wpK 32 rfl ?_;refine wpK 33 rfl ?_;refine wpK 34 rfl ?_;refine wpD (NoPanic.normal ?_);go_wp2
         go_roundg (gk-1)
         case measure=>omega
         case rel=>exact⟨k+1,by omega,by go_num,rfl,rfl,rfl,HNX,HUW.out.trans hHeld⟩
        ·have HIN:=Qh (fun(W:World) (u:Upd No wx W)=>Zaf W _ P cp pa x.t (HPP.out W u) (by have:=HLN.out;omega) htn);have HFX:=Qh (show fo=some x by rw[←hfi.out,ZeF hk HXK.out (by rw[Zcg f1 (show(true&& !Zm must x.k)=false by rw[HBK.out];rfl) (c1:=true) (by rw[if_neg (by decide)];exact htn)];rfl)])
         have HRX:=Qh (show(xs++[x])++ZA must l f g1 x.t false=R by
          have:=HR2.out;rw[←hgg,ZeD (by rw[HPA.out,HPN.out,HFO.out,HFX.out]),(show(true&& !Zm must x.k)=false by rw[HBK.out];rfl)]at this;rw[List.append_assoc];exact this)
         clear hf f1 htn;go_wp2;refine wp_region_noPanic ?_;refine wp_region_held_drew (S:=(fun W'=>Upd No wx W')) (by kernel_rfl) ?_ (fun hHeld=> ?_)
         ·(first|exact(Upd.drew hxz)|exact hHeld.trans hu4|exact hHeld)
         refine wpK 0 rfl ?_;refine wpK 1 rfl ?_;refine wpK 2 rfl ?_;refine wpK 3 rfl ?_;refine wpK 4 rfl ?_;refine wpK 5 rfl ?_;refine wpK 6 rfl ?_;refine wpN 7 rfl ?_;refine wpN 8 rfl ?_;refine wpN 9 rfl ?_;refine wpN 10 rfl ?_;refine wpN 11 rfl ?_;refine wpN 12 rfl ?_;refine wpN 13 rfl ?_;refine wpN 14 rfl ?_;refine wpR [15] ?_;refine wpC rfl (fun K hK=> ?_) AllReadyH.nil;go_simp;refine hK.out _ _ ?_ (fun hHeld=> ?_)
         ·exact hHeld
         clear hK K
         try simp only[Act.put,sT,sS,sZ]
         refine wpN 16 rfl ?_;refine wpK 17 rfl ?_;refine wpK 18 rfl ?_;refine wpK 19 rfl ?_;refine wpK 20 rfl ?_;refine wpK 21 rfl ?_;refine wpK 22 rfl ?_;refine wpK 23 rfl ?_;refine wpK 24 rfl ?_;refine wpK 25 rfl ?_;refine wpK 26 rfl ?_;refine wpK 27 rfl ?_;refine wpK 28 rfl ?_;refine wpK 29 rfl ?_;refine wpK 30 rfl ?_;refine wpR [31] ?_;refine wpC rfl (fun K hK=> ?_) AllReadyH.nil;go_simp
         (first
  |(go_at_call 60;refine(HIN.out _ hHeld).mono ?_;rintro e w4 ⟨rfl,hu4⟩))
         try (go_wp2_with fail)
         refine hK.out _ _ ?_ (fun hHeld=> ?_)
         ·(first|exact(Upd.drew hxz)|exact hHeld.trans hu4|exact hHeld)
         clear hK K
         try simp only[Act.put,sT,sS,sZ]
         refine wpK 32 rfl ?_;refine wpK 33 rfl ?_;refine wpK 34 rfl ?_;refine wpD (NoPanic.normal ?_);have hx4:Upd No wx w4:=hHeld;clear hHeld hu4;have hown4:=Za HO3.out (huw3.trans hx4) (fun _ _=>id);have HGE:=Qh (fun i e=>(hown4.lt i e));have HBX:=Qh (HBO.out w4 hx4);have HLE:=Qh (Z5 xs);have hzz:=(HUW.out.trans hx4).size;have HUZ:=Qh (HUW.out.trans hx4);have hlw:=HLT.out;have hzb:=HU3.out.size;have HBS:=Qh (fun i (e:Own (.slice A5 xs.length c5) i)=>(HO3.out.lt i e).2)
         go_wp2_with (at_builtin;refine ZX rfl rfl ZJ (v:= .slice A5 xs.length c5) (n:=xs.length) (xs:=Zh xs) (cells:=[.int .i64 x.f,.int .i64 x.t,.int .i64 x.k,.int .i64 x.key]) (by rfl) rfl hown4 rfl rfl (by omega) (by omega) (by omega) ?_;intro g8 c8 w8 hown8 hu8 hg8 hlt8;have e1:=(HBX.out.upd hu8 (fun e=>by have:=HBS.out _ e;omega)).cell 1;simp only[Qz,Qs]at e1)
         go_roundg g1
         case measure=>omega
         case rel=>exact⟨false,some ⟨g8,0,none⟩,c8,xs++[x],x.t,rfl,by simp,rfl,by rw[HG1.out],HRX,by simp;omega,by simpa[Zh,Edge.cells]using hown8,(HU3.out.trans HUZ.out).then_ hu8 fun i e=> .inr (by have:=(HGE.out i e).1;omega)⟩
       ·have f1:(x.f==ai)=false:=by simpa using hf
        have f2:(x.f != ai)=true:=by simpa using hf
        have HNX:=Qh (show(l.drop (k+1)).find? (isR must pa pn ai true)=fo by rw[←hfi.out,ZbR hk HXK.out (by rw[Zcg f1 rfl rfl];rfl)]);clear hf f1;go_wp2;refine wp_region_noPanic ?_;refine wp_region_held_drew (S:=(fun W'=>Upd No wx W')) (by kernel_rfl) ?_ (fun hHeld=> ?_)
        ·(first|exact(Upd.drew hxz)|exact hHeld)
        refine wpK 0 rfl ?_;refine wpK 1 rfl ?_;refine wpK 2 rfl ?_;refine wpK 3 rfl ?_;refine wpK 4 rfl ?_;refine wpN 5 rfl ?_;refine wpN 6 rfl ?_;refine wpN 7 rfl ?_;refine wpN 8 rfl ?_;refine wpN 9 rfl ?_;refine wpN 10 rfl ?_;refine wpN 11 rfl ?_;refine wpN 12 rfl ?_;refine wpN 13 rfl ?_;refine wpN 14 rfl ?_;refine wpR [15] ?_;refine wpC rfl (fun K hK=> ?_) AllReadyH.nil;go_simp;refine hK.out _ _ ?_ (fun hHeld=> ?_)
        ·exact hHeld
        clear hK K
        try simp only[Act.put,sT,sS,sZ]
        refine wpN 16 rfl ?_;refine wpN 17 rfl ?_;refine wpK 18 rfl ?_;refine wpK 19 rfl ?_;refine wpN 20 rfl ?_;refine wpN 21 rfl ?_;refine wpN 22 rfl ?_;refine wpN 23 rfl ?_;refine wpN 24 rfl ?_;refine wpN 25 rfl ?_;refine wpN 26 rfl ?_;refine wpN 27 rfl ?_;refine wpN 28 rfl ?_;refine wpN 29 rfl ?_;refine wpN 30 rfl ?_;refine wpR [31] ?_;refine wpC rfl (fun K hK=> ?_) AllReadyH.nil;go_simp;refine hK.out _ _ ?_ (fun hHeld=> ?_)
        ·exact hHeld
        clear hK K
        try simp only[Act.put,sT,sS,sZ]
        refine wpN 32 rfl ?_;refine wpN 33 rfl ?_;refine wpK 34 rfl ?_;refine wpD (NoPanic.normal ?_);go_wp2
        go_roundg (gk-1)
        case measure=>omega
        case rel=>exact⟨k+1,by omega,by go_num,rfl,rfl,rfl,HNX,HUW.out.trans hHeld⟩
    ·obtain rfl:k=l.length:=by omega
     have HRX:=Qh (show xs++ZA must l f g1 ai nd=R by
      have hfo:=hfi.out;rw[List.drop_length,List.find?_nil]at hfo;have:=HR2.out;rw[←hgg,Zk9 (by rw[HPA.out,HPN.out,HFO.out,←hfo])]at this;exact this)
     clear hfi HFO;go_wp2
     go_roundg g1
     case measure=>omega
     case rel=>exact⟨nd,A5,c5,xs,ai,rfl,rfl,rfl,by rw[HG1.out],HRX,by omega,Za HO3.out huj (fun _ _=>id),HU3.out.trans huj⟩
end
/- Closed walks,the document's:the first of the shortest. -/
section
open Go.RowKit
theorem ZnV {l:List Edge} {mask must:Int} (h:NoWay ((Z2 l mask).map Edge.arc) must (Zak must)):(Zec (Za3 l mask) must).1=0:=by
 have h2:=h.mem (fun a ha=>(Zf5 (l:=l) (mask:=mask) a).1 ha);obtain⟨lo,hlo⟩:=Zkl (Za3 l mask);have hk:∀e∈Za3 l mask,1≤e.k∧e.k≤3:=fun e he=>⟨(Zbl (mem_docQ.1 he).2).1,(Zbl (mem_docQ.1 he).2).2.1⟩
 exact ZhE hlo hk (ZeN _ _ List.Pairwise.nil) _ h2
theorem Zq1 {l:List Edge} {mask must:Int} (hl:l.length≤100000) (h:(Zec (Za3 l mask) must).1≠0):ZaU l mask must≠[]:=by
 rcases ZlI l mask must hl with ⟨_,h2⟩|⟨v,h2⟩
 ·exact absurd (ZnV h2) h
 ·intro e;have:=h2.ne;rw[e]at this;exact this rfl
theorem Zq2 {q:List Edge} {must:Int}:(Zec q must).1≤2*(ZbE [] q).length:=by
 have hF:=ZdL (hit:=Zag must (Zak must) q) (most:=2*(ZbE [] q).length) (ZbE [] q) [] (0,0) (ZeN _ _ List.Pairwise.nil) (.inl ⟨rfl,fun x hx=>by cases hx⟩);rcases hF with h|h
 ·have:(Zec q must).1=0:=h.1;omega
 ·exact h.2.1
theorem Zo3 {must:Int} (h:Zm must 1=true):Zak must=true:=by unfold Zak;rw[h];rfl
theorem Zo2 {must:Int} (h:Zm must 1=false) (h2:Zm must 2=true):Zak must=true:=by unfold Zak;rw[h,h2];rfl
theorem Zke {must:Int} (h:Zm must 1=false) (h2:Zm must 2=false) {b:Bool} (h3:Zm must 3=b):Zak must=b:=by unfold Zak;rw[h,h2,h3];rfl
theorem Zkt {hit:Nat→Bool} {most:Nat} {id:Int} {g i:Nat} {s:Nat×Int} (h:¬(i≤most∧(s.1=0∨i<s.1))):inR hit most id g i s=s:=by
 cases g with
 |zero=>rfl
 |succ g=>
  unfold inR;rw[if_neg];rw[Bool.and_eq_true,Bool.or_eq_true,beq_iff_eq,decide_eq_true_eq,decide_eq_true_eq];exact h
theorem Zb8 {hit:Nat→Bool} {most:Nat} {id:Int} {g i:Nat} {s:Nat×Int} (h:i≤most∧(s.1=0∨i<s.1)):inR hit most id (g+1) i s=inR hit most id g (i+1) (if hit i=true then (i,id) else s):=by
 conv=>lhs;unfold inR
 rw[if_pos];rw[Bool.and_eq_true,Bool.or_eq_true,beq_iff_eq,decide_eq_true_eq,decide_eq_true_eq];exact h
theorem Zl8 (hit:Int→Nat→Bool) (most:Nat) (id:Int) (l:List Int) (s:Nat×Int):ZbY hit most (id::l) s=ZbY hit most l (inR (hit id) most id most 1 s):=rfl
set_option maxRecDepth 100000 in
set_option maxHeartbeats 16000000 in
theorem Zni (F:Nat→Prop) (w:World) (A:Option Addr) (c:Nat) (l:List Edge) (mask must:Int) (h:Walk F w A l) (hl:l.length≤2000):
  Calls Tryz.prog 26 #[.slice A l.length c,.int .i64 mask,.int .i64 must] w (ToldC w (ZaU l mask must)):=by
 have HOf:=Qh (ZtE F w A c l mask h (by omega));obtain⟨kp,hkp⟩:∃kp,(l.filter fun e=>Zm mask e.k)=kp:=⟨_,rfl⟩;have hkl:kp.length≤2000:=by rw[←hkp];exact Nat.le_trans (List.length_filter_le _ _) hl
 obtain⟨q,hq⟩:∃q,Za3 l mask=q:=⟨_,rfl⟩;have hq2:Zb1 [] kp=q:=by rw[←hq,←hkp];rfl
 have hql:q.length≤2000:=by rw[←hq2];have:=Zjm kp [];simp at this;omega
 obtain⟨ids,hids⟩:∃ids,ZbE [] q=ids:=⟨_,rfl⟩;have hil:ids.length≤4000:=by rw[←hids];have:=Zkv q [];simp at this;omega
 obtain⟨need,hnd⟩:∃need,Zak must=need:=⟨_,rfl⟩;obtain⟨M,hM⟩:∃M,2*ids.length=M:=⟨_,rfl⟩;have hMw:IntKind.i64.wrap (2*(ids.length:Int))=(M:Int):=by rw[←hM];exact(IntWalk.i64_in _ (by omega)).trans (by omega)
 obtain⟨RR,hRR⟩:∃RR,Zec q must=RR:=⟨_,rfl⟩;have hov:ZbY (Zag must need q) M ids (0,0)=RR:=by rw[←hRR,←hM,←hids,←hnd];rfl
 have hle:RR.1≤M:=by rw[←hRR,←hM,←hids];exact Zq2
 have hdoc:ZaU l mask must=if RR.1=0 then [] else ZA must q (Zi must q RR.2) RR.1 RR.2 need:=by unfold ZaU;rw[hq,hRR,hnd]
 have hdne:RR.1≠0→ZaU l mask must≠[]:=fun e=>Zq1 (by omega) (by rw[hq,hRR];exact e)
 obtain⟨doc,hdd⟩:∃doc,ZaU l mask must=doc:=⟨_,rfl⟩;rw[hdd]at hdoc hdne ⊢;rw[hkp]at HOf;have HSo:=Qh (fun(W:World) (B:Option Addr) (d:Nat) (G:Nat→Prop) (hw:Walk G W B kp)=>hq2▸Zsy G W B d kp hw (by omega));have HId:=Qh (fun(W:World) (B:Option Addr) (d:Nat) (G:Nat→Prop) (hw:Walk G W B q)=>hids▸ZtB G W B d q hw (by omega));have HWk:=Qh (fun(W:World) (B:Option Addr) (d:Nat) (G:Nat→Prop) (tgt:Int) (steps:Nat) (hs:steps≤100000) (hw:Walk G W B q)=>Zrt G W B d q must tgt steps hw (by omega) hs);have HNd:=Qh hnd;have HOV0:=Qh hov;have HDoc:=Qh hdoc;have HDne:=Qh hdne;have HQL:=Qh hql;have HRl:=Qh (fun(tgt:Int)=>ZiN must q tgt);have HLE:=Qh hle;clear h hkp hq hq2 hids hnd hRR hov hdoc hdne hdd hle
 go_enter Tryz.func26,Tryz.ntmps26
 go_wp2_with fail
 refine(HOf.out).mono ?_;rintro e w1 ⟨A1,c1,rfl,ho1,hu1⟩;have HW1:=Qh (ZfD ho1);clear ho1 HOf
 go_wp2_with fail
 refine(HSo.out w1 A1 c1 _ HW1.out).mono ?_;rintro e w2 ⟨A2,c2,rfl,ho2,hu2⟩;have HW2:=Qh (ZfD ho2);clear ho2 HSo
 go_wp2_with fail
 refine(HId.out w2 A2 c2 _ HW2.out).mono ?_;rintro e w3 ⟨A3,c3,rfl,ho3,hu3⟩;have HI3:=Qh (Ints.weak (G:=fun _=>True) (Ints.of_owned ho3) (fun _ _ _=>trivial));have HW3:=Qh (Walk.upd HW2.out hu3 (fun _ _=>id));have HU3:=Qh ((hu1.trans hu2).trans hu3);clear ho3 hu1 hu2 hu3 HId HW1 HW2
 go_upto_region 3 with fail
 go_cut [10] (fun s wc=>s= .bool need∧Upd No w3 wc)
 case first=>
  cases h1:Zm must 1
  ·cases h2:Zm must 2
   ·cases h3:Zm must 3
    ·have HB1:=Qh (fun W=>Zbc W must 1 h1);have HB2:=Qh (fun W=>Zbc W must 2 h2);have HB3:=Qh (fun W=>Zbc W must 3 h3);have HNV:=Qh (show false=need by rw[←HNd.out,Zke h1 h2 h3]);clear h1 h2 h3
     go_wp2_with fail
     refine(HB1.out w3).mono ?_;rintro e w4 ⟨rfl,hu4⟩
     go_wp2_with fail
     refine(HB2.out w4).mono ?_;rintro e w5 ⟨rfl,hu5⟩
     go_wp2_with fail
     refine(HB3.out w5).mono ?_;rintro e w6 ⟨rfl,hu6⟩
     go_wp2_with fail
     go_meet
     exact⟨by rw[HNV.out],(hu4.trans hu5).trans hu6⟩
    ·have HB1:=Qh (fun W=>Zbc W must 1 h1);have HB2:=Qh (fun W=>Zbc W must 2 h2);have HB3:=Qh (fun W=>Zbc W must 3 h3);have HNV:=Qh (show true=need by rw[←HNd.out,Zke h1 h2 h3]);clear h1 h2 h3
     go_wp2_with fail
     refine(HB1.out w3).mono ?_;rintro e w4 ⟨rfl,hu4⟩
     go_wp2_with fail
     refine(HB2.out w4).mono ?_;rintro e w5 ⟨rfl,hu5⟩
     go_wp2_with fail
     refine(HB3.out w5).mono ?_;rintro e w6 ⟨rfl,hu6⟩
     go_wp2_with fail
     go_meet
     exact⟨by rw[HNV.out],(hu4.trans hu5).trans hu6⟩
   ·have HB1:=Qh (fun W=>Zbc W must 1 h1);have HB2:=Qh (fun W=>Zbc W must 2 h2);have HNV:=Qh (show true=need by rw[←HNd.out,Zo2 h1 h2]);clear h1 h2
    go_wp2_with fail
    refine(HB1.out w3).mono ?_;rintro e w4 ⟨rfl,hu4⟩
    go_wp2_with fail
    refine(HB2.out w4).mono ?_;rintro e w5 ⟨rfl,hu5⟩
    go_wp2_with fail
    go_meet
    exact⟨by rw[HNV.out],hu4.trans hu5⟩
  ·have HB1:=Qh (fun W=>Zbc W must 1 h1);have HNV:=Qh (show true=need by rw[←HNd.out,Zo3 h1]);clear h1
   go_wp2_with fail
   refine(HB1.out w3).mono ?_;rintro e w4 ⟨rfl,hu4⟩
   go_wp2_with fail
   go_meet
   exact⟨by rw[HNV.out],hu4⟩
 case rest=>
  obtain⟨rfl,hu4⟩:=hcut;obtain⟨w4,hw4⟩:∃w4,w4=wc:=⟨_,rfl⟩;subst hw4;have HI4:=Qh (HI3.out.upd hu4 (fun _ _=>id));have HW4:=Qh (Walk.upd HW3.out hu4 (fun _ _=>id));have HU4:=Qh (HU3.out.trans hu4);clear hu4 HI3 HW3;go_wp2
  go_loopg [12,13,39] ids.length (fun gk sb sf i wr=>∃(k b:Nat) (fr:Int),k+gk=ids.length∧i= .int .i64 k∧sb= .int .i64 (b:Int)∧sf= .int .i64 fr∧Hid (ZbY (Zag must need q) M (ids.drop k) (b,fr)=RR)∧Upd No w4 wr)
  case atStart=>exact⟨0,0,0,by omega,rfl,rfl,rfl,HOV0,Upd.refl _ _⟩
  case round=>
   obtain⟨k,b0,fr0,hgk,rfl,rfl,rfl,hov,hu⟩:=hrel;obtain⟨wo,hwo⟩:∃wo,wo=wr:=⟨_,rfl⟩;subst hwo;obtain⟨gk0,hg0⟩:∃gk0,gk0=gk:=⟨_,rfl⟩;subst hg0
   by_cases hk:k<ids.length
   ·obtain⟨ax,rfl,y0⟩:=(HI4.out.upd hu (fun _ _=>id)).at_ hk;obtain⟨xid,hx⟩:∃xid,ids[k]=xid:=⟨_,rfl⟩;have hdr:=List.drop_eq_getElem_cons hk;rw[hx]at y0 hdr;have i1:(0:Int)≤(k:Int):=Qn _;have i2:(k:Int)<(ids.length:Int):=by omega
    obtain⟨SS,hSS⟩:∃SS,inR (Zag must need q xid) M xid M 1 (b0,fr0)=SS:=⟨_,rfl⟩;have HOV:=Qh (show ZbY (Zag must need q) M (ids.drop (k+1)) SS=RR by rw[←hov.out,hdr,Zl8,hSS]);have HSS:=Qh hSS;have HW5:=Qh (HWk.out wo A2 c2 _ xid M (by omega) (Walk.upd HW4.out hu (fun _ _=>id)));have HUO:=Qh hu;have HRL:=Qh (HRl.out xid);clear hx hdr hSS hov hu
    go_wp2_with fail
    refine(HW5.out).mono ?_;rintro e w5 ⟨v5,rfl,hb5,hu5⟩;obtain⟨B1,d1,B2,d2,rfl,hr1,hr2⟩:=hb5;obtain⟨w6,hw6⟩:∃w6,w5.alloc (.cells #[.slice B1 (M+1) d1,.slice B2 (M+1) d2] 109)=w6:=⟨_,rfl⟩;have u6:Upd No w5 w6:=by rw[←hw6];exact(Upd.refl No w5).alloc _
    have HBX:=Qh (show Blk w6 w5.heap.size 109 [.slice B1 (M+1) d1,.slice B2 (M+1) d2] by rw[←hw6];exact Blk.new w5 _ _);have HR1:=Qh (hr1.upd u6);have HR2:=Qh (hr2.upd u6);have HU6:=Qh (hu5.trans u6);clear hr1 hr2 hu5 u6 HW5;go_wp2;clear hw6
    go_loopg [12,13,17] M (fun gk sb sf i wr=>∃(j b:Nat) (fr:Int),gk+j=M+1∧i= .int .i64 (j:Int)∧sb= .int .i64 (b:Int)∧sf= .int .i64 fr∧Hid (inR (Zag must need q xid) M xid gk j (b,fr)=SS)∧Upd No w6 wr)
    case atStart=>exact⟨1,b0,fr0,by omega,rfl,rfl,rfl,HSS,Upd.refl _ _⟩
    case round=>
     obtain⟨i,b,fr,hgi,rfl,rfl,rfl,HS,huj⟩:=hrel;have j1:(0:Int)≤(i:Int):=Qn _
     cases gk with
     |zero=>
      have e1:decide ((i:Int)≤(M:Int))=false:=decide_eq_false (by omega)
      have HX:=Qh (show(b,fr)=SS by
       have:=HS.out;rw[Zkt (fun e=>by omega)]at this;exact this)
      go_wp2
      go_roundg (gk0-1)
      case measure=>omega
      case rel=>exact⟨k+1,b,fr,by omega,by go_num,rfl,rfl,Qh (by rw[HX.out];exact HOV.out),(HUO.out.trans HU6.out).trans huj⟩
     |succ g0=>
      have e1:decide ((i:Int)≤(M:Int))=true:=decide_eq_true (by omega)
      by_cases hb0:b=0
      ·have e2:((b:Int)==0)=true:=by rw[beq_iff_eq];omega
       have r0:=(HBX.out.upd huj id).cell 0;have r1:=(HBX.out.upd huj id).cell 1;simp only[Qz,Qs]at r0 r1;have i5:(i:Int)<((M+1:Nat):Int):=by omega
       have i6:(i:Int)<(M:Int)+1:=by omega
       cases need
       ·obtain⟨ad1,P,cp,e1,y1,hP⟩:=(HR1.out.upd huj).at_ i (by omega);subst e1;have HPP:=Qh (fun(W:World) (u:Upd No wr W)=>hP.upd u (fun _ _=>id));clear hP
        cases hh:decide (xid∈(Zi must q xid i).1)
        ·have HIN:=Qh (fun(W:World) (u:Upd No wr W)=>Zaf W _ P cp (Zi must q xid i).1 xid (HPP.out W u) (by have:=HRL.out i;have:=HQL.out;omega) hh)
         have HNX:=Qh (show inR (Zag must false q xid) M xid g0 (i+1) (b,fr)=SS by
          have:=HS.out;rw[Zb8 ⟨by omega,.inl hb0⟩]at this;rw[show Zag must false q xid i=false from hh]at this;exact this)
         clear hh
         go_wp2_with fail
         refine(HIN.out wr (Upd.refl _ _)).mono ?_;rintro e w7 ⟨rfl,hu7⟩;go_wp2
         go_roundg g0
         case measure=>omega
         case rel=>exact⟨i+1,b,fr,by omega,by go_num,by first|rfl|(rw[hb0];rfl),rfl,HNX,huj.trans hu7⟩
        ·have HIN:=Qh (fun(W:World) (u:Upd No wr W)=>Zaf W _ P cp (Zi must q xid i).1 xid (HPP.out W u) (by have:=HRL.out i;have:=HQL.out;omega) hh)
         have HNX:=Qh (show inR (Zag must false q xid) M xid g0 (i+1) (i,xid)=SS by
          have:=HS.out;rw[Zb8 ⟨by omega,.inl hb0⟩]at this;rw[show Zag must false q xid i=true from hh]at this;exact this)
         clear hh
         go_wp2_with fail
         refine(HIN.out wr (Upd.refl _ _)).mono ?_;rintro e w7 ⟨rfl,hu7⟩;go_wp2
         go_roundg g0
         case measure=>omega
         case rel=>exact⟨i+1,i,xid,by omega,by go_num,rfl,rfl,HNX,huj.trans hu7⟩
       ·obtain⟨ad2,P,cp,e1,y1,hP⟩:=(HR2.out.upd huj).at_ i (by omega);subst e1;have HPP:=Qh (fun(W:World) (u:Upd No wr W)=>hP.upd u (fun _ _=>id));clear hP
        cases hh:decide (xid∈(Zi must q xid i).2)
        ·have HIN:=Qh (fun(W:World) (u:Upd No wr W)=>Zaf W _ P cp (Zi must q xid i).2 xid (HPP.out W u) (by have:=HRL.out i;have:=HQL.out;omega) hh)
         have HNX:=Qh (show inR (Zag must true q xid) M xid g0 (i+1) (b,fr)=SS by
          have:=HS.out;rw[Zb8 ⟨by omega,.inl hb0⟩]at this;rw[show Zag must true q xid i=false from hh]at this;exact this)
         clear hh
         go_wp2_with fail
         refine(HIN.out wr (Upd.refl _ _)).mono ?_;rintro e w7 ⟨rfl,hu7⟩;go_wp2
         go_roundg g0
         case measure=>omega
         case rel=>exact⟨i+1,b,fr,by omega,by go_num,by first|rfl|(rw[hb0];rfl),rfl,HNX,huj.trans hu7⟩
        ·have HIN:=Qh (fun(W:World) (u:Upd No wr W)=>Zaf W _ P cp (Zi must q xid i).2 xid (HPP.out W u) (by have:=HRL.out i;have:=HQL.out;omega) hh)
         have HNX:=Qh (show inR (Zag must true q xid) M xid g0 (i+1) (i,xid)=SS by
          have:=HS.out;rw[Zb8 ⟨by omega,.inl hb0⟩]at this;rw[show Zag must true q xid i=true from hh]at this;exact this)
         clear hh
         go_wp2_with fail
         refine(HIN.out wr (Upd.refl _ _)).mono ?_;rintro e w7 ⟨rfl,hu7⟩;go_wp2
         go_roundg g0
         case measure=>omega
         case rel=>exact⟨i+1,i,xid,by omega,by go_num,rfl,rfl,HNX,huj.trans hu7⟩
      ·have e2:((b:Int)==0)=false:=by rw[beq_eq_false_iff_ne];omega
       by_cases hib:i<b
       ·have e3:decide ((i:Int)<(b:Int))=true:=decide_eq_true (by omega);have r0:=(HBX.out.upd huj id).cell 0;have r1:=(HBX.out.upd huj id).cell 1;simp only[Qz,Qs]at r0 r1;have i5:(i:Int)<((M+1:Nat):Int):=by omega
        have i6:(i:Int)<(M:Int)+1:=by omega
        cases need
        ·obtain⟨ad1,P,cp,e1,y1,hP⟩:=(HR1.out.upd huj).at_ i (by omega);subst e1;have HPP:=Qh (fun(W:World) (u:Upd No wr W)=>hP.upd u (fun _ _=>id));clear hP
         cases hh:decide (xid∈(Zi must q xid i).1)
         ·have HIN:=Qh (fun(W:World) (u:Upd No wr W)=>Zaf W _ P cp (Zi must q xid i).1 xid (HPP.out W u) (by have:=HRL.out i;have:=HQL.out;omega) hh)
          have HNX:=Qh (show inR (Zag must false q xid) M xid g0 (i+1) (b,fr)=SS by
           have:=HS.out;rw[Zb8 ⟨by omega,.inr hib⟩]at this;rw[show Zag must false q xid i=false from hh]at this;exact this)
          clear hh
          go_wp2_with fail
          refine(HIN.out wr (Upd.refl _ _)).mono ?_;rintro e w7 ⟨rfl,hu7⟩;go_wp2
          go_roundg g0
          case measure=>omega
          case rel=>exact⟨i+1,b,fr,by omega,by go_num,by first|rfl|(rw[hb0];rfl),rfl,HNX,huj.trans hu7⟩
         ·have HIN:=Qh (fun(W:World) (u:Upd No wr W)=>Zaf W _ P cp (Zi must q xid i).1 xid (HPP.out W u) (by have:=HRL.out i;have:=HQL.out;omega) hh)
          have HNX:=Qh (show inR (Zag must false q xid) M xid g0 (i+1) (i,xid)=SS by
           have:=HS.out;rw[Zb8 ⟨by omega,.inr hib⟩]at this;rw[show Zag must false q xid i=true from hh]at this;exact this)
          clear hh
          go_wp2_with fail
          refine(HIN.out wr (Upd.refl _ _)).mono ?_;rintro e w7 ⟨rfl,hu7⟩;go_wp2
          go_roundg g0
          case measure=>omega
          case rel=>exact⟨i+1,i,xid,by omega,by go_num,rfl,rfl,HNX,huj.trans hu7⟩
        ·obtain⟨ad2,P,cp,e1,y1,hP⟩:=(HR2.out.upd huj).at_ i (by omega);subst e1;have HPP:=Qh (fun(W:World) (u:Upd No wr W)=>hP.upd u (fun _ _=>id));clear hP
         cases hh:decide (xid∈(Zi must q xid i).2)
         ·have HIN:=Qh (fun(W:World) (u:Upd No wr W)=>Zaf W _ P cp (Zi must q xid i).2 xid (HPP.out W u) (by have:=HRL.out i;have:=HQL.out;omega) hh)
          have HNX:=Qh (show inR (Zag must true q xid) M xid g0 (i+1) (b,fr)=SS by
           have:=HS.out;rw[Zb8 ⟨by omega,.inr hib⟩]at this;rw[show Zag must true q xid i=false from hh]at this;exact this)
          clear hh
          go_wp2_with fail
          refine(HIN.out wr (Upd.refl _ _)).mono ?_;rintro e w7 ⟨rfl,hu7⟩;go_wp2
          go_roundg g0
          case measure=>omega
          case rel=>exact⟨i+1,b,fr,by omega,by go_num,by first|rfl|(rw[hb0];rfl),rfl,HNX,huj.trans hu7⟩
         ·have HIN:=Qh (fun(W:World) (u:Upd No wr W)=>Zaf W _ P cp (Zi must q xid i).2 xid (HPP.out W u) (by have:=HRL.out i;have:=HQL.out;omega) hh)
          have HNX:=Qh (show inR (Zag must true q xid) M xid g0 (i+1) (i,xid)=SS by
           have:=HS.out;rw[Zb8 ⟨by omega,.inr hib⟩]at this;rw[show Zag must true q xid i=true from hh]at this;exact this)
          clear hh
          go_wp2_with fail
          refine(HIN.out wr (Upd.refl _ _)).mono ?_;rintro e w7 ⟨rfl,hu7⟩;go_wp2
          go_roundg g0
          case measure=>omega
          case rel=>exact⟨i+1,i,xid,by omega,by go_num,rfl,rfl,HNX,huj.trans hu7⟩
       ·have e3:decide ((i:Int)<(b:Int))=false:=decide_eq_false (by omega)
        have HX:=Qh (show(b,fr)=SS by
         have:=HS.out;rw[Zkt (fun e=>e.2.elim hb0 hib)]at this;exact this)
        go_wp2
        go_roundg (gk0-1)
        case measure=>omega
        case rel=>exact⟨k+1,b,fr,by omega,by go_num,rfl,rfl,Qh (by rw[HX.out];exact HOV.out),(HUO.out.trans HU6.out).trans huj⟩
   ·obtain rfl:k=ids.length:=by omega
    have hrr:(b0,fr0)=RR:=by have:=hov.out;rw[List.drop_length]at this;exact this
    have HUO:=Qh hu
    by_cases hb0:b0=0
    ·have e2:((b0:Int)==0)=true:=by rw[beq_iff_eq];omega
     have HD0:=Qh (show doc=[] by rw[HDoc.out,←hrr];exact if_pos hb0);clear hrr hov;go_wp2
     go_ret2
     rw[HD0.out];exact⟨none,0,rfl,World.ownsRow_nil _ _ _ _,HU4.out.trans HUO.out⟩
    ·have e2:((b0:Int)==0)=false:=by rw[beq_eq_false_iff_ne];omega
     have hd1:doc=ZA must q (Zi must q fr0) b0 fr0 need:=by rw[HDoc.out,←hrr];exact if_neg hb0
     have hd2:doc≠[]:=HDne.out (by rw[←hrr];exact hb0);have hbM:b0≤M:=by have:=HLE.out;rw[←hrr]at this;exact this
     have HD1:=Qh hd1;have HD2:=Qh (show¬doc.length=0 from fun e=>hd2 (List.eq_nil_of_length_eq_zero e));have HW5:=Qh (HWk.out wo A2 c2 _ fr0 b0 (by omega) (Walk.upd HW4.out hu (fun _ _=>id)));have HFi:=Qh (fun(W:World) (u:Upd No wo W) (v:Value) (hv:BackAt W v b0 (Zi must q fr0))=>hd1▸ZrE _ W A2 c2 q v must fr0 b0 b0 need (Zi must q fr0) (Walk.upd HW4.out (HUO.out.trans u) (fun _ _=>id)) (by omega) (Nat.le_refl _) (by omega) hv (fun j=>by have:=HRl.out fr0 j;omega));clear hrr hov hd1 hd2 hu
     go_wp2_with fail
     refine(HW5.out).mono ?_;rintro e w5 ⟨v5,rfl,hb5,hu5⟩
     go_wp2_with fail
     refine(HFi.out w5 hu5 v5 hb5).mono ?_;rintro e w6 ⟨A6,c6,rfl,ho6,hu6⟩;have HO6:=Qh (Zx ho6 (show w.heap.size≤w5.heap.size from((HU4.out.trans HUO.out).trans hu5).size));have HU6:=Qh (((HU4.out.trans HUO.out).trans hu5).trans hu6);clear ho6 hu6 hu5 hb5;go_wp2
     go_ret2
     refine⟨A6,c6,?_,HO6.out,HU6.out⟩;rw[if_neg HD2.out];rfl
end
end Go.Proofs.YticmndpiehinjaaGreat
