/- Closed walks, the document's: the first walk of so many steps. -/
import Derived.Test.YtdbjokfejmgepaaRabr
namespace Go.Proofs.Ytdbjokfejmgepaa
set_option linter.unusedVariables false
set_option linter.unusedSimpArgs false
section
open Go.RowKit
theorem ZaL {p:Edge→Bool} {l:List Edge} {k:Nat} {x:Edge} (hk:k<l.length) (hx:l[k]=x) (hp:p x=false):(l.drop k).find? p=(l.drop (k+1)).find? p:=by
 rw[List.drop_eq_getElem_cons hk,hx,List.find?_cons_of_neg (by rw[hp];decide)]
theorem Zc8 {p:Edge→Bool} {l:List Edge} {k:Nat} {x:Edge} (hk:k<l.length) (hx:l[k]=x) (hp:p x=true):(l.drop k).find? p=some x:=by
 rw[List.drop_eq_getElem_cons hk,hx,List.find?_cons_of_pos hp]
theorem Zc7 {must:Int} {l:List Edge} {f:Nat→List Int×List Int} {n:Nat} {here:Int} {need:Bool} {e:Edge} (h:l.find? (isR must (f n).1 (f n).2 here need)=some e):
  Zm must l f (n+1) here need=e::Zm must l f n e.t (need&& !Zh must e.k):=by
 show(match l.find? (isR must (f n).1 (f n).2 here need)with|some e=>e::Zm must l f n e.t (need&& !Zh must e.k)|none=>Zm must l f n here need)=_
 rw[h]
theorem Zh8 {must:Int} {l:List Edge} {f:Nat→List Int×List Int} {n:Nat} {here:Int} {need:Bool} (h:l.find? (isR must (f n).1 (f n).2 here need)=none):
  Zm must l f (n+1) here need=Zm must l f n here need:=by
 show(match l.find? (isR must (f n).1 (f n).2 here need)with|some e=>e::Zm must l f n e.t (need&& !Zh must e.k)|none=>Zm must l f n here need)=_
 rw[h]
theorem Zbc {must:Int} {pa pn:List Int} {here:Int} {need:Bool} {e:Edge} {c0 st c1:Bool} (h0:(e.f==here)=c0) (h1:(need&& !Zh must e.k)=st) (h2:(if st=true then decide (e.t∈pn) else decide (e.t∈pa))=c1):
  isR must pa pn here need e=(c0&&c1):=by
 unfold isR;rw[h0,h1,h2]
set_option maxRecDepth 100000 in
set_option maxHeartbeats 16000000 in
theorem Zmm (F:Nat→Prop) (w:World) (A:Option Addr) (c:Nat) (l:List Edge) (v:Value) (must here:Int) (n N:Nat) (need:Bool) (f:Nat→List Int×List Int) (h:Walk F w A l) (hl:l.length≤10000) (hn:n≤N) (hN:N≤100000) (hv:BackAt w v N f)
  (hf:∀j,(f j).1.length≤100000∧(f j).2.length≤100000):
  Calls Try.prog 83 #[.slice A l.length c,v,.int .i64 must,.int .i64 here,.int .i64 (n:Int),.bool need] w (ZfR w (Zm must l f n here need)):=by
 obtain⟨A1,c1,A2,c2,rfl,hr1,hr2⟩:=hv;obtain⟨wb,hwb⟩:∃wb,w.alloc (.cells #[.slice A1 (N+1) c1,.slice A2 (N+1) c2] 125)=wb:=⟨_,rfl⟩;have u0:Upd No w wb:=by rw[←hwb];exact(Upd.refl No w).alloc _
 have bB:Blk wb w.heap.size 125 [.slice A1 (N+1) c1,.slice A2 (N+1) c2]:=by rw[←hwb];exact Blk.new w _ _
 have HW:=Qh (fun(W:World) (u:Upd No wb W)=>h.upd (u0.trans u) (fun _ _=>id));have HR1:=Qh (fun(W:World) (u:Upd No wb W)=>hr1.upd (u0.trans u));have HR2':=Qh (fun(W:World) (u:Upd No wb W)=>hr2.upd (u0.trans u));have HBB:=Qh (fun(W:World) (u:Upd No wb W)=>bB.upd u id);have U0:=Qh u0;have HF:=Qh hf;obtain⟨R,hR⟩:∃R,Zm must l f n here need=R:=⟨_,rfl⟩;have HR:=Qh hR;rw[hR];clear h hr1 hr2 u0 bB hR hf
 go_enter Try.func83,Try.ntmps83
 go_wp2;clear hwb
 go_loopg [5,13,14,15] n (fun gk sd s a i wr=>∃(nd:Bool) (A5:Option Addr) (c5:Nat) (xs:List Edge) (ai:Int),sd= .bool nd∧s= .slice A5 xs.length c5∧a= .int .i64 ai∧i= .int .i64 (gk:Int)∧Hid (xs++Zm must l f gk ai nd=R)∧
  xs.length+gk≤n∧wr.ownsRow wb.heap.size 89 4 (.slice A5 xs.length c5) xs.length (Zu xs)∧Upd No wb wr)
 case atStart=>exact⟨need,none,0,[],here,rfl,rfl,rfl,rfl,Qh (by rw[List.nil_append];exact HR.out),by simp,World.ownsRow_nil _ _ _ _,Upd.refl _ _⟩
 case round=>
  obtain⟨nd,A5,c5,xs,ai,rfl,rfl,rfl,rfl,hR,hxl,hown,hu⟩:=hrel
  cases gk with
  |zero=>
   have HRx:=Qh (show xs=R by have:=hR.out;simpa[Zm]using this);clear hR;go_wp2
   go_ret
   have:=U0.out.size;rw[←HRx.out];exact⟨A5,c5,rfl,Z1 hown this,U0.out.trans hu⟩
  |succ g1=>
   obtain⟨ad1,P,cp,e1,y1,hP⟩:=(HR1.out wr hu).at_ g1 (by omega);obtain⟨ad2,Q,cq,e2,y2,hQ⟩:=(HR2'.out wr hu).at_ g1 (by omega);subst e1;subst e2;have hln:=HF.out g1;obtain⟨pa,hpa⟩:∃pa,(f g1).1=pa:=⟨_,rfl⟩;obtain⟨pn,hpn⟩:∃pn,(f g1).2=pn:=⟨_,rfl⟩;rw[hpa]at y1 hP hln;rw[hpn]at y2 hQ hln;have HPA:=Qh hpa;have HPN:=Qh hpn;have HLN:=Qh hln;have HR2:=hR;have hg0:(0:Int)<((g1+1:Nat):Int):=by omega
   obtain⟨ng,hng⟩:∃ng:Int,((g1+1:Nat):Int)=ng:=⟨_,rfl⟩;have hng2:ng-1=(g1:Int):=by omega
   rw[hng]at hg0;have hw1:IntKind.i64.wrap (ng-1)=(g1:Int):=by rw[hng2];exact IntWalk.i64_in _ (by omega)
   have HG1:=Qh (show(g1:Int)=ng-1 by omega);have i6:(0:Int)≤(g1:Int):=Qn _;have i7:(g1:Int)<((N+1:Nat):Int):=by omega
   have i8:(g1:Int)<(N:Int)+1:=by omega
   have hxl':xs.length+(g1+1)≤n:=hxl
   generalize hgg:g1+1=m0 at*
   rw[hng];obtain⟨w3,hw3⟩:∃w3,w3=wr:=⟨_,rfl⟩;subst hw3;have HO3:=Qh hown;have HU3:=Qh hu;have HLT:=Qh (HBB.out w3 hu).lt;obtain⟨fo,hfo⟩:∃fo,l.find? (isR must pa pn ai nd)=fo:=⟨_,rfl⟩;have HFO:=Qh hfo;clear hpa hpn hln hown hfo hR hng2;go_wp2
   go_loopg [5,13,14,27] l.length (fun gk sd s a j wr=>∃(k:Nat),k+gk=l.length∧j= .int .i64 k∧sd= .bool nd∧s= .slice A5 xs.length c5∧a= .int .i64 ai∧Hid ((l.drop k).find? (isR must pa pn ai nd)=fo)∧Upd No w3 wr)
   case atStart=>exact⟨0,by omega,rfl,rfl,rfl,rfl,HFO,Upd.refl _ _⟩
   case round=>
    obtain⟨k,hgj,rfl,rfl,rfl,rfl,hfi,huj⟩:=hrel
    by_cases hk:k<l.length
    ·obtain⟨ax,rfl,q0,q1,q2,q3⟩:=(HW.out wr (HU3.out.trans huj)).at_ hk;obtain⟨x,hx⟩:∃x,l[k]=x:=⟨_,rfl⟩;rw[hx]at q0 q1 q2 q3;have HXK:=Qh hx;have i1:(0:Int)≤(k:Int):=Qn _;have i2:(k:Int)<(l.length:Int):=by omega
     obtain⟨wx,hwx⟩:∃wx,wr.alloc (.cells #[.int .i64 x.f,.int .i64 x.t,.int .i64 x.k,.int .i64 x.key] 89)=wx:=⟨_,rfl⟩;have ux:Upd No wr wx:=by rw[←hwx];exact(Upd.refl No wr).alloc _
     have bo:Blk wx wr.heap.size 89 [.int .i64 x.f,.int .i64 x.t,.int .i64 x.k,.int .i64 x.key]:=by rw[←hwx];exact Blk.new wr _ _
     have huw3:=huj.trans ux;have hszr:=huj.size;have bw:=HBB.out wx (HU3.out.trans huw3);have g0':∀W,Upd No wx W→W.cell? ⟨wr.heap.size,0,none⟩=some (.int .i64 x.f):=fun W u=>by have:=(bo.upd u id).cell 0;simpa using this
     have g1':∀W,Upd No wx W→W.cell? ⟨wr.heap.size,1,none⟩=some (.int .i64 x.t):=fun W u=>by have:=(bo.upd u id).cell 1;simpa using this
     have g2:∀W,Upd No wx W→W.cell? ⟨wr.heap.size,2,none⟩=some (.int .i64 x.k):=fun W u=>by have:=(bo.upd u id).cell 2;simpa using this
     have g3:∀W,Upd No wx W→W.cell? ⟨wr.heap.size,3,none⟩=some (.int .i64 x.key):=fun W u=>by have:=(bo.upd u id).cell 3;simpa using this
     have k0:∀W,Upd No wx W→W.cell? ⟨w.heap.size,0,none⟩=some (.slice (some ad1) (N+1) c1):=fun W u=>by have:=(bw.upd u id).cell 0;simpa using this
     have k1:∀W,Upd No wx W→W.cell? ⟨w.heap.size,1,none⟩=some (.slice (some ad2) (N+1) c2):=fun W u=>by have:=(bw.upd u id).cell 1;simpa using this
     have r1:∀W,Upd No wx W→W.cell? (ad1.add g1)=some (.slice P pa.length cp):=fun W u=>(huw3.trans u).keepNo y1
     have r2:∀W,Upd No wx W→W.cell? (ad2.add g1)=some (.slice Q pn.length cq):=fun W u=>(huw3.trans u).keepNo y2
     have HPP:=Qh (fun(W:World) (u:Upd No wx W)=>hP.upd (huw3.trans u) (fun _ _=>id));have HQ:=Qh (fun(W:World) (u:Upd No wx W)=>hQ.upd (huw3.trans u) (fun _ _=>id));have HUW:=Qh huw3;have HBO:=Qh (fun(W:World) (u:Upd No wx W)=>bo.upd u id);have hxr:Upd No wx wx:=Upd.refl _ _;clear hx ux bo bw
     cases nd
     ·have hxz:=hxr
      by_cases hf:x.f=ai
      ·have f1:(x.f==ai)=true:=by simpa using hf
       have f2:(x.f != ai)=false:=by simpa using hf
       cases htn:decide (x.t∈pa)
       ·have HIN:=Qh (fun(W:World) (u:Upd No wx W)=>ZE W _ P cp pa x.t (HPP.out W u) (by have:=HLN.out;omega) htn);have HNX:=Qh (show(l.drop (k+1)).find? (isR must pa pn ai false)=fo by rw[←hfi.out,ZaL hk HXK.out (by rw[Zbc f1 (show(false&& !Zh must x.k)=false from rfl) (c1:=false) (by rw[if_neg (by decide)];exact htn)];rfl)]);clear hf f1 htn;go_wp2;refine wp_region_noPanic ?_;refine wp_region_held_drew (S:=(fun W'=>Upd No wx W')) (by kernel_rfl) ?_ (fun hHeld=> ?_)
        ·(first|exact(Upd.drew hxz)|exact hHeld.trans hu4|exact hHeld)
        refine wpK 0 rfl ?_;refine wpK 1 rfl ?_;refine wpK 2 rfl ?_;refine wpK 3 rfl ?_;refine wpK 4 rfl ?_;refine wpK 5 rfl ?_;refine wpK 6 rfl ?_;refine wpN 7 rfl ?_;refine wpN 8 rfl ?_;refine wpN 9 rfl ?_;refine wpN 10 rfl ?_;refine wpN 11 rfl ?_;refine wpN 12 rfl ?_;refine wpN 13 rfl ?_;refine wpN 14 rfl ?_;refine wpR [15] ?_;refine wpC rfl (fun K hK=> ?_) AllReadyH.nil;go_simp;refine hK.out _ _ ?_ (fun hHeld=> ?_)
        ·exact hHeld
        clear hK K
        try simp only[Act.put,sT,sS,sZ]
        refine wpN 16 rfl ?_;refine wpK 17 rfl ?_;refine wpK 18 rfl ?_;refine wpK 19 rfl ?_;refine wpK 20 rfl ?_;refine wpK 21 rfl ?_;refine wpK 22 rfl ?_;refine wpK 23 rfl ?_;refine wpK 24 rfl ?_;refine wpK 25 rfl ?_;refine wpK 26 rfl ?_;refine wpK 27 rfl ?_;refine wpK 28 rfl ?_;refine wpK 29 rfl ?_;refine wpK 30 rfl ?_;refine wpR [31] ?_;refine wpC rfl (fun K hK=> ?_) AllReadyH.nil;go_simp
        (first
  |(go_at_call 82;refine(HIN.out _ hHeld).mono ?_;rintro e w4 ⟨rfl,hu4⟩))
        try (go_wp2_with fail)
        refine hK.out _ _ ?_ (fun hHeld=> ?_)
        ·(first|exact(Upd.drew hxz)|exact hHeld.trans hu4|exact hHeld)
        clear hK K
        try simp only[Act.put,sT,sS,sZ]
        refine wpK 32 rfl ?_;refine wpK 33 rfl ?_;refine wpK 34 rfl ?_;refine wpD (NoPanic.normal ?_);go_wp2
        go_roundg (gk-1)
        case measure=>omega
        case rel=>exact⟨k+1,by omega,by go_num,rfl,rfl,rfl,HNX,HUW.out.trans hHeld⟩
       ·have HIN:=Qh (fun(W:World) (u:Upd No wx W)=>ZE W _ P cp pa x.t (HPP.out W u) (by have:=HLN.out;omega) htn);have HFX:=Qh (show fo=some x by rw[←hfi.out,Zc8 hk HXK.out (by rw[Zbc f1 (show(false&& !Zh must x.k)=false from rfl) (c1:=true) (by rw[if_neg (by decide)];exact htn)];rfl)])
        have HRX:=Qh (show(xs++[x])++Zm must l f g1 x.t false=R by
         have:=HR2.out;rw[←hgg,Zc7 (by rw[HPA.out,HPN.out,HFO.out,HFX.out]),(show(false&& !Zh must x.k)=false from rfl)]at this;rw[List.append_assoc];exact this)
        clear hf f1 htn;go_wp2;refine wp_region_noPanic ?_;refine wp_region_held_drew (S:=(fun W'=>Upd No wx W')) (by kernel_rfl) ?_ (fun hHeld=> ?_)
        ·(first|exact(Upd.drew hxz)|exact hHeld.trans hu4|exact hHeld)
        refine wpK 0 rfl ?_;refine wpK 1 rfl ?_;refine wpK 2 rfl ?_;refine wpK 3 rfl ?_;refine wpK 4 rfl ?_;refine wpK 5 rfl ?_;refine wpK 6 rfl ?_;refine wpN 7 rfl ?_;refine wpN 8 rfl ?_;refine wpN 9 rfl ?_;refine wpN 10 rfl ?_;refine wpN 11 rfl ?_;refine wpN 12 rfl ?_;refine wpN 13 rfl ?_;refine wpN 14 rfl ?_;refine wpR [15] ?_;refine wpC rfl (fun K hK=> ?_) AllReadyH.nil;go_simp;refine hK.out _ _ ?_ (fun hHeld=> ?_)
        ·exact hHeld
        clear hK K
        try simp only[Act.put,sT,sS,sZ]
        refine wpN 16 rfl ?_;refine wpK 17 rfl ?_;refine wpK 18 rfl ?_;refine wpK 19 rfl ?_;refine wpK 20 rfl ?_;refine wpK 21 rfl ?_;refine wpK 22 rfl ?_;refine wpK 23 rfl ?_;refine wpK 24 rfl ?_;refine wpK 25 rfl ?_;refine wpK 26 rfl ?_;refine wpK 27 rfl ?_;refine wpK 28 rfl ?_;refine wpK 29 rfl ?_;refine wpK 30 rfl ?_;refine wpR [31] ?_;refine wpC rfl (fun K hK=> ?_) AllReadyH.nil;go_simp
        (first
  |(go_at_call 82;refine(HIN.out _ hHeld).mono ?_;rintro e w4 ⟨rfl,hu4⟩))
        try (go_wp2_with fail)
        refine hK.out _ _ ?_ (fun hHeld=> ?_)
        ·(first|exact(Upd.drew hxz)|exact hHeld.trans hu4|exact hHeld)
        clear hK K
        try simp only[Act.put,sT,sS,sZ]
        refine wpK 32 rfl ?_;refine wpK 33 rfl ?_;refine wpK 34 rfl ?_;refine wpD (NoPanic.normal ?_);have hx4:Upd No wx w4:=hHeld;clear hHeld hu4;have hown4:=Zc HO3.out (huw3.trans hx4) (fun _ _=>id);have HGE:=Qh (fun i e=>(hown4.lt i e));have HBX:=Qh (HBO.out w4 hx4);have HLE:=Qh (Zbd xs);have hzz:=(HUW.out.trans hx4).size;have HUZ:=Qh (HUW.out.trans hx4);have hlw:=HLT.out;have hzb:=HU3.out.size;have HBS:=Qh (fun i (e:Own (.slice A5 xs.length c5) i)=>(HO3.out.lt i e).2)
        go_wp2_with (at_builtin;refine ZS rfl rfl ZV (v:= .slice A5 xs.length c5) (n:=xs.length) (xs:=Zu xs) (cells:=[.int .i64 x.f,.int .i64 x.t,.int .i64 x.k,.int .i64 x.key]) (by rfl) rfl hown4 rfl rfl (by omega) (by omega) (by omega) ?_;intro g8 c8 w8 hown8 hu8 hg8 hlt8;have e1:=(HBX.out.upd hu8 (fun e=>by have:=HBS.out _ e;omega)).cell 1;simp only[Qz,Qs]at e1)
        go_roundg g1
        case measure=>omega
        case rel=>exact⟨false,some ⟨g8,0,none⟩,c8,xs++[x],x.t,rfl,by simp,rfl,by rw[HG1.out],HRX,by simp;omega,by simpa[Zu,Edge.cells]using hown8,(HU3.out.trans HUZ.out).then_ hu8 fun i e=> .inr (by have:=(HGE.out i e).1;omega)⟩
      ·have f1:(x.f==ai)=false:=by simpa using hf
       have f2:(x.f != ai)=true:=by simpa using hf
       have HNX:=Qh (show(l.drop (k+1)).find? (isR must pa pn ai false)=fo by rw[←hfi.out,ZaL hk HXK.out (by rw[Zbc f1 rfl rfl];rfl)]);clear hf f1;go_wp2;refine wp_region_noPanic ?_;refine wp_region_held_drew (S:=(fun W'=>Upd No wx W')) (by kernel_rfl) ?_ (fun hHeld=> ?_)
       ·(first|exact(Upd.drew hxz)|exact hHeld)
       refine wpK 0 rfl ?_;refine wpK 1 rfl ?_;refine wpK 2 rfl ?_;refine wpK 3 rfl ?_;refine wpK 4 rfl ?_;refine wpN 5 rfl ?_;refine wpN 6 rfl ?_;refine wpN 7 rfl ?_;refine wpN 8 rfl ?_;refine wpN 9 rfl ?_;refine wpN 10 rfl ?_;refine wpN 11 rfl ?_;refine wpN 12 rfl ?_;refine wpN 13 rfl ?_;refine wpN 14 rfl ?_;refine wpR [15] ?_;refine wpC rfl (fun K hK=> ?_) AllReadyH.nil;go_simp;refine hK.out _ _ ?_ (fun hHeld=> ?_)
       ·exact hHeld
       clear hK K
       try simp only[Act.put,sT,sS,sZ]
       refine wpN 16 rfl ?_;refine wpN 17 rfl ?_;refine wpK 18 rfl ?_;refine wpK 19 rfl ?_;refine wpN 20 rfl ?_;refine wpN 21 rfl ?_;refine wpN 22 rfl ?_;refine wpN 23 rfl ?_;refine wpN 24 rfl ?_;refine wpN 25 rfl ?_;refine wpN 26 rfl ?_;refine wpN 27 rfl ?_;refine wpN 28 rfl ?_;refine wpN 29 rfl ?_;refine wpN 30 rfl ?_;refine wpR [31] ?_;refine wpC rfl (fun K hK=> ?_) AllReadyH.nil;go_simp;refine hK.out _ _ ?_ (fun hHeld=> ?_)
       ·exact hHeld
       clear hK K
       try simp only[Act.put,sT,sS,sZ]
       refine wpN 32 rfl ?_;refine wpN 33 rfl ?_;refine wpK 34 rfl ?_;refine wpD (NoPanic.normal ?_);go_wp2
       go_roundg (gk-1)
       case measure=>omega
       case rel=>exact⟨k+1,by omega,by go_num,rfl,rfl,rfl,HNX,HUW.out.trans hHeld⟩
     ·cases hbk:Zh must x.k
      ·have HB5:=Qh (Zal wx must x.k hbk);have HBK:=Qh hbk;clear hbk
       go_wp2_with fail
       refine(HB5.out).mono ?_;rintro e w5 ⟨rfl,hxz⟩
       by_cases hf:x.f=ai
       ·have f1:(x.f==ai)=true:=by simpa using hf
        have f2:(x.f != ai)=false:=by simpa using hf
        cases htn:decide (x.t∈pn)
        ·have HIN:=Qh (fun(W:World) (u:Upd No wx W)=>ZE W _ Q cq pn x.t (HQ.out W u) (by have:=HLN.out;omega) htn);have HNX:=Qh (show(l.drop (k+1)).find? (isR must pa pn ai true)=fo by rw[←hfi.out,ZaL hk HXK.out (by rw[Zbc f1 (show(true&& !Zh must x.k)=true by rw[HBK.out];rfl) (c1:=false) (by rw[if_pos rfl];exact htn)];rfl)]);clear hf f1 htn;go_wp2;refine wp_region_noPanic ?_;refine wp_region_held_drew (S:=(fun W'=>Upd No wx W')) (by kernel_rfl) ?_ (fun hHeld=> ?_)
         ·(first|exact(Upd.drew hxz)|exact hHeld.trans hu4|exact hHeld)
         refine wpK 0 rfl ?_;refine wpK 1 rfl ?_;refine wpK 2 rfl ?_;refine wpK 3 rfl ?_;refine wpK 4 rfl ?_;refine wpK 5 rfl ?_;refine wpK 6 rfl ?_;refine wpK 7 rfl ?_;refine wpK 8 rfl ?_;refine wpK 9 rfl ?_;refine wpK 10 rfl ?_;refine wpK 11 rfl ?_;refine wpK 12 rfl ?_;refine wpK 13 rfl ?_;refine wpK 14 rfl ?_;refine wpR [15] ?_;refine wpC rfl (fun K hK=> ?_) AllReadyH.nil;go_simp
         (first
  |(go_at_call 82;refine(HIN.out _ hHeld).mono ?_;rintro e w4 ⟨rfl,hu4⟩))
         try (go_wp2_with fail)
         refine hK.out _ _ ?_ (fun hHeld=> ?_)
         ·(first|exact(Upd.drew hxz)|exact hHeld.trans hu4|exact hHeld)
         clear hK K
         try simp only[Act.put,sT,sS,sZ]
         refine wpK 16 rfl ?_;refine wpK 17 rfl ?_;refine wpK 18 rfl ?_;refine wpK 19 rfl ?_;refine wpN 20 rfl ?_;refine wpN 21 rfl ?_;refine wpN 22 rfl ?_;refine wpN 23 rfl ?_;refine wpN 24 rfl ?_;refine wpN 25 rfl ?_;refine wpN 26 rfl ?_;refine wpN 27 rfl ?_;refine wpN 28 rfl ?_;refine wpN 29 rfl ?_;refine wpN 30 rfl ?_;refine wpR [31] ?_;refine wpC rfl (fun K hK=> ?_) AllReadyH.nil;go_simp;refine hK.out _ _ ?_ (fun hHeld=> ?_)
         ·exact hHeld
         clear hK K
         try simp only[Act.put,sT,sS,sZ]
         refine wpN 32 rfl ?_;refine wpN 33 rfl ?_;refine wpK 34 rfl ?_;refine wpD (NoPanic.normal ?_);go_wp2
         go_roundg (gk-1)
         case measure=>omega
         case rel=>exact⟨k+1,by omega,by go_num,rfl,rfl,rfl,HNX,HUW.out.trans hHeld⟩
        ·have HIN:=Qh (fun(W:World) (u:Upd No wx W)=>ZE W _ Q cq pn x.t (HQ.out W u) (by have:=HLN.out;omega) htn);have HFX:=Qh (show fo=some x by rw[←hfi.out,Zc8 hk HXK.out (by rw[Zbc f1 (show(true&& !Zh must x.k)=true by rw[HBK.out];rfl) (c1:=true) (by rw[if_pos rfl];exact htn)];rfl)])
         have HRX:=Qh (show(xs++[x])++Zm must l f g1 x.t true=R by
          have:=HR2.out;rw[←hgg,Zc7 (by rw[HPA.out,HPN.out,HFO.out,HFX.out]),(show(true&& !Zh must x.k)=true by rw[HBK.out];rfl)]at this;rw[List.append_assoc];exact this)
         clear hf f1 htn;go_wp2;refine wp_region_noPanic ?_;refine wp_region_held_drew (S:=(fun W'=>Upd No wx W')) (by kernel_rfl) ?_ (fun hHeld=> ?_)
         ·(first|exact(Upd.drew hxz)|exact hHeld.trans hu4|exact hHeld)
         refine wpK 0 rfl ?_;refine wpK 1 rfl ?_;refine wpK 2 rfl ?_;refine wpK 3 rfl ?_;refine wpK 4 rfl ?_;refine wpK 5 rfl ?_;refine wpK 6 rfl ?_;refine wpK 7 rfl ?_;refine wpK 8 rfl ?_;refine wpK 9 rfl ?_;refine wpK 10 rfl ?_;refine wpK 11 rfl ?_;refine wpK 12 rfl ?_;refine wpK 13 rfl ?_;refine wpK 14 rfl ?_;refine wpR [15] ?_;refine wpC rfl (fun K hK=> ?_) AllReadyH.nil;go_simp
         (first
  |(go_at_call 82;refine(HIN.out _ hHeld).mono ?_;rintro e w4 ⟨rfl,hu4⟩))
         try (go_wp2_with fail)
         refine hK.out _ _ ?_ (fun hHeld=> ?_)
         ·(first|exact(Upd.drew hxz)|exact hHeld.trans hu4|exact hHeld)
         clear hK K
         try simp only[Act.put,sT,sS,sZ]
         refine wpK 16 rfl ?_;refine wpK 17 rfl ?_;refine wpK 18 rfl ?_;refine wpK 19 rfl ?_;refine wpK 20 rfl ?_;refine wpK 21 rfl ?_;refine wpK 22 rfl ?_;refine wpN 23 rfl ?_;refine wpN 24 rfl ?_;refine wpN 25 rfl ?_;refine wpN 26 rfl ?_;refine wpN 27 rfl ?_;refine wpN 28 rfl ?_;refine wpN 29 rfl ?_;refine wpN 30 rfl ?_;refine wpR [31] ?_;refine wpC rfl (fun K hK=> ?_) AllReadyH.nil;go_simp;refine hK.out _ _ ?_ (fun hHeld=> ?_)
         ·exact hHeld
         clear hK K
         try simp only[Act.put,sT,sS,sZ]
         refine wpN 32 rfl ?_;refine wpK 33 rfl ?_;refine wpK 34 rfl ?_;refine wpD (NoPanic.normal ?_);have hx4:Upd No wx w4:=hHeld;clear hHeld hu4;have hown4:=Zc HO3.out (huw3.trans hx4) (fun _ _=>id);have HGE:=Qh (fun i e=>(hown4.lt i e));have HBX:=Qh (HBO.out w4 hx4);have HLE:=Qh (Zbd xs);have hzz:=(HUW.out.trans hx4).size;have HUZ:=Qh (HUW.out.trans hx4);have hlw:=HLT.out;have hzb:=HU3.out.size;have HBS:=Qh (fun i (e:Own (.slice A5 xs.length c5) i)=>(HO3.out.lt i e).2)
         go_wp2_with (at_builtin;refine ZS rfl rfl ZV (v:= .slice A5 xs.length c5) (n:=xs.length) (xs:=Zu xs) (cells:=[.int .i64 x.f,.int .i64 x.t,.int .i64 x.k,.int .i64 x.key]) (by rfl) rfl hown4 rfl rfl (by omega) (by omega) (by omega) ?_;intro g8 c8 w8 hown8 hu8 hg8 hlt8;have e1:=(HBX.out.upd hu8 (fun e=>by have:=HBS.out _ e;omega)).cell 1;simp only[Qz,Qs]at e1)
         go_roundg g1
         case measure=>omega
         case rel=>exact⟨true,some ⟨g8,0,none⟩,c8,xs++[x],x.t,rfl,by simp,rfl,by rw[HG1.out],HRX,by simp;omega,by simpa[Zu,Edge.cells]using hown8,(HU3.out.trans HUZ.out).then_ hu8 fun i e=> .inr (by have:=(HGE.out i e).1;omega)⟩
       ·have f1:(x.f==ai)=false:=by simpa using hf
        have f2:(x.f != ai)=true:=by simpa using hf
        have HNX:=Qh (show(l.drop (k+1)).find? (isR must pa pn ai true)=fo by rw[←hfi.out,ZaL hk HXK.out (by rw[Zbc f1 rfl rfl];rfl)]);clear hf f1;go_wp2;refine wp_region_noPanic ?_;refine wp_region_held_drew (S:=(fun W'=>Upd No wx W')) (by kernel_rfl) ?_ (fun hHeld=> ?_)
        ·(first|exact(Upd.drew hxz)|exact hHeld)
        refine wpK 0 rfl ?_;refine wpK 1 rfl ?_;refine wpK 2 rfl ?_;refine wpK 3 rfl ?_;refine wpK 4 rfl ?_;refine wpN 5 rfl ?_;refine wpN 6 rfl ?_;refine wpN 7 rfl ?_;refine wpN 8 rfl ?_;refine wpN 9 rfl ?_;refine wpN 10 rfl ?_;refine wpN 11 rfl ?_;refine wpN 12 rfl ?_;refine wpN 13 rfl ?_;refine wpN 14 rfl ?_;refine wpR [15] ?_;refine wpC rfl (fun K hK=> ?_) AllReadyH.nil;go_simp;refine hK.out _ _ ?_ (fun hHeld=> ?_)
        ·exact hHeld
        clear hK K
        try simp only[Act.put,sT,sS,sZ]
        refine wpN 16 rfl ?_;refine wpN 17 rfl ?_;refine wpK 18 rfl ?_;refine wpK 19 rfl ?_;refine wpN 20 rfl ?_;refine wpN 21 rfl ?_;refine wpN 22 rfl ?_;refine wpN 23 rfl ?_;refine wpN 24 rfl ?_;refine wpN 25 rfl ?_;refine wpN 26 rfl ?_;refine wpN 27 rfl ?_;refine wpN 28 rfl ?_;refine wpN 29 rfl ?_;refine wpN 30 rfl ?_;refine wpR [31] ?_;refine wpC rfl (fun K hK=> ?_) AllReadyH.nil;go_simp;refine hK.out _ _ ?_ (fun hHeld=> ?_)
        ·exact hHeld
        clear hK K
        try simp only[Act.put,sT,sS,sZ]
        refine wpN 32 rfl ?_;refine wpN 33 rfl ?_;refine wpK 34 rfl ?_;refine wpD (NoPanic.normal ?_);go_wp2
        go_roundg (gk-1)
        case measure=>omega
        case rel=>exact⟨k+1,by omega,by go_num,rfl,rfl,rfl,HNX,HUW.out.trans hHeld⟩
      ·have HB5:=Qh (Zal wx must x.k hbk);have HBK:=Qh hbk;clear hbk
       go_wp2_with fail
       refine(HB5.out).mono ?_;rintro e w5 ⟨rfl,hxz⟩
       by_cases hf:x.f=ai
       ·have f1:(x.f==ai)=true:=by simpa using hf
        have f2:(x.f != ai)=false:=by simpa using hf
        cases htn:decide (x.t∈pa)
        ·have HIN:=Qh (fun(W:World) (u:Upd No wx W)=>ZE W _ P cp pa x.t (HPP.out W u) (by have:=HLN.out;omega) htn);have HNX:=Qh (show(l.drop (k+1)).find? (isR must pa pn ai true)=fo by rw[←hfi.out,ZaL hk HXK.out (by rw[Zbc f1 (show(true&& !Zh must x.k)=false by rw[HBK.out];rfl) (c1:=false) (by rw[if_neg (by decide)];exact htn)];rfl)]);clear hf f1 htn;go_wp2;refine wp_region_noPanic ?_;refine wp_region_held_drew (S:=(fun W'=>Upd No wx W')) (by kernel_rfl) ?_ (fun hHeld=> ?_)
         ·(first|exact(Upd.drew hxz)|exact hHeld.trans hu4|exact hHeld)
         refine wpK 0 rfl ?_;refine wpK 1 rfl ?_;refine wpK 2 rfl ?_;refine wpK 3 rfl ?_;refine wpK 4 rfl ?_;refine wpK 5 rfl ?_;refine wpK 6 rfl ?_;refine wpN 7 rfl ?_;refine wpN 8 rfl ?_;refine wpN 9 rfl ?_;refine wpN 10 rfl ?_;refine wpN 11 rfl ?_;refine wpN 12 rfl ?_;refine wpN 13 rfl ?_;refine wpN 14 rfl ?_;refine wpR [15] ?_;refine wpC rfl (fun K hK=> ?_) AllReadyH.nil;go_simp;refine hK.out _ _ ?_ (fun hHeld=> ?_)
         ·exact hHeld
         clear hK K
         try simp only[Act.put,sT,sS,sZ]
         refine wpN 16 rfl ?_;refine wpK 17 rfl ?_;refine wpK 18 rfl ?_;refine wpK 19 rfl ?_;refine wpK 20 rfl ?_;refine wpK 21 rfl ?_;refine wpK 22 rfl ?_;refine wpK 23 rfl ?_;refine wpK 24 rfl ?_;refine wpK 25 rfl ?_;refine wpK 26 rfl ?_;refine wpK 27 rfl ?_;refine wpK 28 rfl ?_;refine wpK 29 rfl ?_;refine wpK 30 rfl ?_;refine wpR [31] ?_;refine wpC rfl (fun K hK=> ?_) AllReadyH.nil;go_simp
         (first
  |(go_at_call 82;refine(HIN.out _ hHeld).mono ?_;rintro e w4 ⟨rfl,hu4⟩))
         try (go_wp2_with fail)
         refine hK.out _ _ ?_ (fun hHeld=> ?_)
         ·(first|exact(Upd.drew hxz)|exact hHeld.trans hu4|exact hHeld)
         clear hK K
         try simp only[Act.put,sT,sS,sZ]
         refine wpK 32 rfl ?_;refine wpK 33 rfl ?_;refine wpK 34 rfl ?_;refine wpD (NoPanic.normal ?_);go_wp2
         go_roundg (gk-1)
         case measure=>omega
         case rel=>exact⟨k+1,by omega,by go_num,rfl,rfl,rfl,HNX,HUW.out.trans hHeld⟩
        ·have HIN:=Qh (fun(W:World) (u:Upd No wx W)=>ZE W _ P cp pa x.t (HPP.out W u) (by have:=HLN.out;omega) htn);have HFX:=Qh (show fo=some x by rw[←hfi.out,Zc8 hk HXK.out (by rw[Zbc f1 (show(true&& !Zh must x.k)=false by rw[HBK.out];rfl) (c1:=true) (by rw[if_neg (by decide)];exact htn)];rfl)])
         have HRX:=Qh (show(xs++[x])++Zm must l f g1 x.t false=R by
          have:=HR2.out;rw[←hgg,Zc7 (by rw[HPA.out,HPN.out,HFO.out,HFX.out]),(show(true&& !Zh must x.k)=false by rw[HBK.out];rfl)]at this;rw[List.append_assoc];exact this)
         clear hf f1 htn;go_wp2;refine wp_region_noPanic ?_;refine wp_region_held_drew (S:=(fun W'=>Upd No wx W')) (by kernel_rfl) ?_ (fun hHeld=> ?_)
         ·(first|exact(Upd.drew hxz)|exact hHeld.trans hu4|exact hHeld)
         refine wpK 0 rfl ?_;refine wpK 1 rfl ?_;refine wpK 2 rfl ?_;refine wpK 3 rfl ?_;refine wpK 4 rfl ?_;refine wpK 5 rfl ?_;refine wpK 6 rfl ?_;refine wpN 7 rfl ?_;refine wpN 8 rfl ?_;refine wpN 9 rfl ?_;refine wpN 10 rfl ?_;refine wpN 11 rfl ?_;refine wpN 12 rfl ?_;refine wpN 13 rfl ?_;refine wpN 14 rfl ?_;refine wpR [15] ?_;refine wpC rfl (fun K hK=> ?_) AllReadyH.nil;go_simp;refine hK.out _ _ ?_ (fun hHeld=> ?_)
         ·exact hHeld
         clear hK K
         try simp only[Act.put,sT,sS,sZ]
         refine wpN 16 rfl ?_;refine wpK 17 rfl ?_;refine wpK 18 rfl ?_;refine wpK 19 rfl ?_;refine wpK 20 rfl ?_;refine wpK 21 rfl ?_;refine wpK 22 rfl ?_;refine wpK 23 rfl ?_;refine wpK 24 rfl ?_;refine wpK 25 rfl ?_;refine wpK 26 rfl ?_;refine wpK 27 rfl ?_;refine wpK 28 rfl ?_;refine wpK 29 rfl ?_;refine wpK 30 rfl ?_;refine wpR [31] ?_;refine wpC rfl (fun K hK=> ?_) AllReadyH.nil;go_simp
         (first
  |(go_at_call 82;refine(HIN.out _ hHeld).mono ?_;rintro e w4 ⟨rfl,hu4⟩))
         try (go_wp2_with fail)
         refine hK.out _ _ ?_ (fun hHeld=> ?_)
         ·(first|exact(Upd.drew hxz)|exact hHeld.trans hu4|exact hHeld)
         clear hK K
         try simp only[Act.put,sT,sS,sZ]
         refine wpK 32 rfl ?_;refine wpK 33 rfl ?_;refine wpK 34 rfl ?_;refine wpD (NoPanic.normal ?_);have hx4:Upd No wx w4:=hHeld;clear hHeld hu4;have hown4:=Zc HO3.out (huw3.trans hx4) (fun _ _=>id);have HGE:=Qh (fun i e=>(hown4.lt i e));have HBX:=Qh (HBO.out w4 hx4);have HLE:=Qh (Zbd xs);have hzz:=(HUW.out.trans hx4).size;have HUZ:=Qh (HUW.out.trans hx4);have hlw:=HLT.out;have hzb:=HU3.out.size;have HBS:=Qh (fun i (e:Own (.slice A5 xs.length c5) i)=>(HO3.out.lt i e).2)
         go_wp2_with (at_builtin;refine ZS rfl rfl ZV (v:= .slice A5 xs.length c5) (n:=xs.length) (xs:=Zu xs) (cells:=[.int .i64 x.f,.int .i64 x.t,.int .i64 x.k,.int .i64 x.key]) (by rfl) rfl hown4 rfl rfl (by omega) (by omega) (by omega) ?_;intro g8 c8 w8 hown8 hu8 hg8 hlt8;have e1:=(HBX.out.upd hu8 (fun e=>by have:=HBS.out _ e;omega)).cell 1;simp only[Qz,Qs]at e1)
         go_roundg g1
         case measure=>omega
         case rel=>exact⟨false,some ⟨g8,0,none⟩,c8,xs++[x],x.t,rfl,by simp,rfl,by rw[HG1.out],HRX,by simp;omega,by simpa[Zu,Edge.cells]using hown8,(HU3.out.trans HUZ.out).then_ hu8 fun i e=> .inr (by have:=(HGE.out i e).1;omega)⟩
       ·have f1:(x.f==ai)=false:=by simpa using hf
        have f2:(x.f != ai)=true:=by simpa using hf
        have HNX:=Qh (show(l.drop (k+1)).find? (isR must pa pn ai true)=fo by rw[←hfi.out,ZaL hk HXK.out (by rw[Zbc f1 rfl rfl];rfl)]);clear hf f1;go_wp2;refine wp_region_noPanic ?_;refine wp_region_held_drew (S:=(fun W'=>Upd No wx W')) (by kernel_rfl) ?_ (fun hHeld=> ?_)
        ·(first|exact(Upd.drew hxz)|exact hHeld)
        refine wpK 0 rfl ?_;refine wpK 1 rfl ?_;refine wpK 2 rfl ?_;refine wpK 3 rfl ?_;refine wpK 4 rfl ?_;refine wpN 5 rfl ?_;refine wpN 6 rfl ?_;refine wpN 7 rfl ?_;refine wpN 8 rfl ?_;refine wpN 9 rfl ?_;refine wpN 10 rfl ?_;refine wpN 11 rfl ?_;refine wpN 12 rfl ?_;refine wpN 13 rfl ?_;refine wpN 14 rfl ?_;refine wpR [15] ?_;refine wpC rfl (fun K hK=> ?_) AllReadyH.nil;go_simp;refine hK.out _ _ ?_ (fun hHeld=> ?_)
        ·exact hHeld
        clear hK K
        try simp only[Act.put,sT,sS,sZ]
        refine wpN 16 rfl ?_;refine wpN 17 rfl ?_;refine wpK 18 rfl ?_;refine wpK 19 rfl ?_;refine wpN 20 rfl ?_;refine wpN 21 rfl ?_;refine wpN 22 rfl ?_;refine wpN 23 rfl ?_;refine wpN 24 rfl ?_;refine wpN 25 rfl ?_;refine wpN 26 rfl ?_;refine wpN 27 rfl ?_;refine wpN 28 rfl ?_;refine wpN 29 rfl ?_;refine wpN 30 rfl ?_;refine wpR [31] ?_;refine wpC rfl (fun K hK=> ?_) AllReadyH.nil;go_simp;refine hK.out _ _ ?_ (fun hHeld=> ?_)
        ·exact hHeld
        clear hK K
        try simp only[Act.put,sT,sS,sZ]
        refine wpN 32 rfl ?_;refine wpN 33 rfl ?_;refine wpK 34 rfl ?_;refine wpD (NoPanic.normal ?_);go_wp2
        go_roundg (gk-1)
        case measure=>omega
        case rel=>exact⟨k+1,by omega,by go_num,rfl,rfl,rfl,HNX,HUW.out.trans hHeld⟩
    ·obtain rfl:k=l.length:=by omega
     have HRX:=Qh (show xs++Zm must l f g1 ai nd=R by
      have hfo:=hfi.out;rw[List.drop_length,List.find?_nil]at hfo;have:=HR2.out;rw[←hgg,Zh8 (by rw[HPA.out,HPN.out,HFO.out,←hfo])]at this;exact this)
     clear hfi HFO;go_wp2
     go_roundg g1
     case measure=>omega
     case rel=>exact⟨nd,A5,c5,xs,ai,rfl,rfl,rfl,by rw[HG1.out],HRX,by omega,Zc HO3.out huj (fun _ _=>id),HU3.out.trans huj⟩
end
end Go.Proofs.Ytdbjokfejmgepaa
