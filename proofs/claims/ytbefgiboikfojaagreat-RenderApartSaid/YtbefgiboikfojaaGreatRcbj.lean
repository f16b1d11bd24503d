/- Closed walks, the document's: the first walk of so many steps. -/
import Derived.Test.YtbefgiboikfojaaGreatRcbi
namespace Go.Proofs.YtbefgiboikfojaaGreat
open Go.RowKit
set_option linter.unusedVariables false
set_option linter.unusedSimpArgs false
set_option maxRecDepth 100000
set_option maxHeartbeats 16000000
theorem Zco{p:Edge->Bool}{l:List Edge}{k:Nat}{x:Edge}(hk:k<l.length)(hx:l[k]=x)(hp:p x=false):(l.drop k).find? p=(l.drop (k+1)).find? p:=by
 rw[Ev hk,hx,List.find?_cons_of_neg (by rw[hp];decide)]
theorem Zfm{p:Edge->Bool}{l:List Edge}{k:Nat}{x:Edge}(hk:k<l.length)(hx:l[k]=x)(hp:p x=true):(l.drop k).find? p=some x:=by
 rw[Ev hk,hx,List.find?_cons_of_pos hp]
theorem Zfk{must:Int}{l:List Edge}{f:Nat->Gv×Gv}{n:Nat}{aq:Int}{need:Bool}{e:Edge}(h:l.find? (isR must (f n).1 (f n).2 aq need)=some e):
  ZF must l f (n+1) aq need=e::ZF must l f n e.t (need&& !Zl must e.k):=by
 show(match l.find? (isR must (f n).1 (f n).2 aq need)with|some e=>e::ZF must l f n e.t (need&& !Zl must e.k)|none=>ZF must l f n aq need)=_
 rw[h]
theorem ZmX{must:Int}{l:List Edge}{f:Nat->Gv×Gv}{n:Nat}{aq:Int}{need:Bool}(h:l.find? (isR must (f n).1 (f n).2 aq need)=none):
  ZF must l f (n+1) aq need=ZF must l f n aq need:=by
 show(match l.find? (isR must (f n).1 (f n).2 aq need)with|some e=>e::ZF must l f n e.t (need&& !Zl must e.k)|none=>ZF must l f n aq need)=_
 rw[h]
theorem ZcP{must:Int}{pa pn:Gv}{aq:Int}{need:Bool}{e:Edge}{c0 st c1:Bool}(h0:(e.f==aq)=c0)(h1:(need&& !Zl must e.k)=st)(h2:(if st=true then decide (e.t∈pn) else decide (e.t∈pa))=c1):
  isR must pa pn aq need e=(c0&&c1):=by
 unfold isR;rw[h0,h1,h2]
theorem Zt9(F:Gt)(w:Gy)(A:OA)(c:Nat)(l:List Edge)(v:Gz)(must aq:Int)(n N:Nat)(need:Bool)(f:Nat->Gv×Gv)(h:Walk F w A l)(hl:l.length<=10000)(hn:n<=N)(hN:N<=100000)(hv:BackAt w v N f)
  (hf:∀j,(f j).1.length<=100000∧(f j).2.length<=100000):
  Calls Tryz.prog 95 #[.slice A l.length c,v,Qi must,Qi aq,Qi (n:Int),.bool need] w (Zhf w (ZF must l f n aq need)):=by
 obtain⟨A1,c1,A2,c2,rfl,ni,lB⟩:=hv;obtain⟨wb,ah⟩:=Qe (w.alloc (.cells #[.slice A1 (N+1) c1,.slice A2 (N+1) c2] 153));have u0:Upd No w wb:=by rw[<-ah];exact(Gg No w).alloc _
 have bB:Blk wb w.heap.size 153 [.slice A1 (N+1) c1,.slice A2 (N+1) c2]:=by rw[<-ah];exact Gh w _ _
 have HW:=Qh (fun(W:Gy) (u:Upd No wb W)=>h.upd (u0.trans u) Qo);have jS:=Qh (fun(W:Gy) (u:Upd No wb W)=>ni.upd (u0.trans u));have vZ:=Qh (fun(W:Gy) (u:Upd No wb W)=>lB.upd (u0.trans u));have zi:=Qh (fun(W:Gy) (u:Upd No wb W)=>bB.upd u id);have U0:=Qh u0;have HF:=Qh hf;obtain⟨R,hR⟩:=Qe (ZF must l f n aq need);have HR:=Qh hR;rw[hR];clear h ni lB u0 bB hR hf;go_enter Tryz.func95,Tryz.ntmps95;go_wp2;clear ah
 go_loopg [5,13,14,15] n (fun gk sd s a i wr=>∃(nd:Bool) (A5:OA) (c5:Nat) (xs:List Edge) (ai:Int),sd= .bool nd∧s= .slice A5 xs.length c5∧a= Qi ai∧i= Qi (gk:Int)∧Hid (xs++ZF must l f gk ai nd=R)∧
  xs.length+gk<=n∧wr.ownsRow wb.heap.size 94 4 (.slice A5 xs.length c5) xs.length (Zi xs)∧Upd No wb wr)
 case atStart=>exact⟨need,none,0,[],aq,rfl,rfl,rfl,rfl,Qh (by rw[Fy];exact HR.out),by simp,Gf _ _ _ _,Gg _ _⟩
 case round=>
  obtain⟨nd,A5,c5,xs,ai,rfl,rfl,rfl,rfl,hR,hxl,ae,hu⟩:=hrel
  cases gk with
  |zero=>
   have wO:=Qh (show xs=R by have:=hR.out;simpa[ZF]using this);clear hR;go_wp2;go_ret;have:=U0.out.size;rw[<-wO.out];exact⟨A5,c5,rfl,Zz ae this,U0.out.trans hu⟩
  |succ g1=>
   obtain⟨ad1,P,cp,e1,y1,hP⟩:=(jS.out wr hu).at_ g1 (by omega);obtain⟨ad2,Q,cq,e2,y2,hQ⟩:=(vZ.out wr hu).at_ g1 (by omega);subst e1;subst e2;have cF:=HF.out g1;obtain⟨pa,jV⟩:=Qe ((f g1).1);obtain⟨pn,hpn⟩:=Qe ((f g1).2);rw[jV]at y1 hP cF;rw[hpn]at y2 hQ cF;have oQ:=Qh jV;have j5:=Qh hpn;have ee:=Qh cF;have aP:=hR;have e7:(0:Int)<((g1+1:Nat):Int):=by omega
   obtain⟨ng,io⟩:=Qe (((g1+1:Nat):Int):Int);have pM:ng-1=(g1:Int):=by omega
   rw[io]at e7;have au:IntKind.i64.wrap (ng-1)=(g1:Int):=by rw[pM];exact IntWalk.i64_in _ (by omega)
   have aU:=Qh (show(g1:Int)=ng-1 by omega);have i6:(0:Int)<=(g1:Int):=Qn _;have i7:(g1:Int)<((N+1:Nat):Int):=by omega
   have i8:(g1:Int)<(N:Int)+1:=by omega
   have AG:xs.length+(g1+1)<=n:=hxl;generalize hgg:g1+1=m0 at*;rw[io];obtain⟨w3,fe⟩:∃w3,w3=wr:=⟨_,rfl⟩;subst fe;have eY:=Qh ae;have bJ:=Qh hu;have iu:=Qh (zi.out w3 hu).lt;obtain⟨fo,eh⟩:=Qe (l.find? (isR must pa pn ai nd));have jh:=Qh eh;clear jV hpn cF ae eh hR pM;go_wp2
   go_loopg [5,13,14,27] l.length (fun gk sd s a j wr=>∃(k:Nat),k+gk=l.length∧j= Qi k∧sd= .bool nd∧s= .slice A5 xs.length c5∧a= Qi ai∧Hid ((l.drop k).find? (isR must pa pn ai nd)=fo)∧Upd No w3 wr)
   case atStart=>exact⟨0,by omega,rfl,rfl,rfl,rfl,jh,Gg _ _⟩
   case round=>
    obtain⟨k,iK,rfl,rfl,rfl,rfl,jO,bI⟩:=hrel
    by_cases hk:k<l.length
    ·obtain⟨ax,rfl,q0,q1,q2,q3⟩:=(HW.out wr (bJ.out.trans bI)).at_ hk;obtain⟨x,hx⟩:=Qe (l[k]);rw[hx]at q0 q1 q2 q3;have kL:=Qh hx;have i1:(0:Int)<=(k:Int):=Qn _;have i2:(k:Int)<(l.length:Int):=by omega
     obtain⟨wx,aJ⟩:=Qe (wr.alloc (.cells #[Qi x.f,Qi x.t,Qi x.k,Qi x.key] 94));have ux:Upd No wr wx:=by rw[<-aJ];exact(Gg No wr).alloc _
     have bo:Blk wx wr.heap.size 94 [Qi x.f,Qi x.t,Qi x.k,Qi x.key]:=by rw[<-aJ];exact Gh wr _ _
     have eT:=bI.trans ux;have Db:=bI.size;have bw:=zi.out wx (bJ.out.trans eT);have g0':∀W,Upd No wx W->W.cell? ⟨wr.heap.size,0,none⟩=some (Qi x.f):=fun W u=>by have:=(bo.upd u id).cell 0;simpa using this
     have g1':∀W,Upd No wx W->W.cell? ⟨wr.heap.size,1,none⟩=some (Qi x.t):=fun W u=>by have:=(bo.upd u id).cell 1;simpa using this
     have g2:∀W,Upd No wx W->W.cell? ⟨wr.heap.size,2,none⟩=some (Qi x.k):=fun W u=>by have:=(bo.upd u id).cell 2;simpa using this
     have g3:∀W,Upd No wx W->W.cell? ⟨wr.heap.size,3,none⟩=some (Qi x.key):=fun W u=>by have:=(bo.upd u id).cell 3;simpa using this
     have k0:∀W,Upd No wx W->W.cell? ⟨w.heap.size,0,none⟩=some (.slice (some ad1) (N+1) c1):=fun W u=>by have:=(bw.upd u id).cell 0;simpa using this
     have k1:∀W,Upd No wx W->W.cell? ⟨w.heap.size,1,none⟩=some (.slice (some ad2) (N+1) c2):=fun W u=>by have:=(bw.upd u id).cell 1;simpa using this
     have r1:∀W,Upd No wx W->W.cell? (ad1.add g1)=some (.slice P pa.length cp):=fun W u=>(eT.trans u).keepNo y1
     have r2:∀W,Upd No wx W->W.cell? (ad2.add g1)=some (.slice Q pn.length cq):=fun W u=>(eT.trans u).keepNo y2
     have eW:=Qh (fun(W:Gy) (u:Upd No wx W)=>hP.upd (eT.trans u) Qo);have HQ:=Qh (fun(W:Gy) (u:Upd No wx W)=>hQ.upd (eT.trans u) Qo);have df:=Qh eT;have oM:=Qh (fun(W:Gy) (u:Upd No wx W)=>bo.upd u id);have xM:Upd No wx wx:=Gg _ _;clear hx ux bo bw
     cases nd
     ·have bP:=xM
      by_cases hf:x.f=ai
      ·have f1:(x.f==ai)=true:=by simpa using hf
       have f2:(x.f != ai)=false:=by simpa using hf
       cases htn:decide (x.t∈pa)
       ·have cg:=Qh (fun(W:Gy) (u:Upd No wx W)=>Zap W _ P cp pa x.t (eW.out W u) (by have:=ee.out;omega) htn);have br:=Qh (show(l.drop (k+1)).find? (isR must pa pn ai false)=fo by rw[<-jO.out,Zco hk kL.out (by rw[ZcP f1 (show(false&& !Zl must x.k)=false from rfl) (c1:=false) (by rw[if_neg (by decide)];exact htn)];rfl)]);clear hf f1 htn;go_wp2;refine wpS (fun W'=>Upd No wx W') ?_ fun jH=>?_
        ·(first|exact(Upd.drew bP)|exact jH.trans hu4|exact jH)
        (iterate 15 refine wpF ?_);refine wpZ 15 rfl fun K hK=>?_;go_simp;refine hK.out _ _ ?_ fun jH=>?_
        ·exact jH
        try simp only[Qa]
        (iterate 15 refine wpF ?_);refine wpZ 31 rfl fun K hK=>?_;go_simp
        (first
  |(go_at_call 94;refine Ck (cg.out _ jH) fun w4 hu4=>?_))
        try (go_wp2_with fail)
        refine hK.out _ _ ?_ fun jH=>?_
        ·(first|exact(Upd.drew bP)|exact jH.trans hu4|exact jH)
        try simp only[Qa]
        (iterate 3 refine wpF ?_);refine wpD (Gd ?_);go_wp2;go_roundg (gk-1);exact⟨k+1,by omega,by go_num,rfl,rfl,rfl,br,df.out.trans jH⟩;omega
       ·have cg:=Qh (fun(W:Gy) (u:Upd No wx W)=>Zap W _ P cp pa x.t (eW.out W u) (by have:=ee.out;omega) htn);have lz:=Qh (show fo=some x by rw[<-jO.out,Zfm hk kL.out (by rw[ZcP f1 (show(false&& !Zl must x.k)=false from rfl) (c1:=true) (by rw[if_neg (by decide)];exact htn)];rfl)])
        have eK:=Qh (show(xs++[x])++ZF must l f g1 x.t false=R by
         have:=aP.out;rw[<-hgg,Zfk (by rw[oQ.out,j5.out,jh.out,lz.out]),(show(false&& !Zl must x.k)=false from rfl)]at this;rw[Fg];exact this)
        clear hf f1 htn;go_wp2;refine wpS (fun W'=>Upd No wx W') ?_ fun jH=>?_
        ·(first|exact(Upd.drew bP)|exact jH.trans hu4|exact jH)
        (iterate 15 refine wpF ?_);refine wpZ 15 rfl fun K hK=>?_;go_simp;refine hK.out _ _ ?_ fun jH=>?_
        ·exact jH
        try simp only[Qa]
        (iterate 15 refine wpF ?_);refine wpZ 31 rfl fun K hK=>?_;go_simp
        (first
  |(go_at_call 94;refine Ck (cg.out _ jH) fun w4 hu4=>?_))
        try (go_wp2_with fail)
        refine hK.out _ _ ?_ fun jH=>?_
        ·(first|exact(Upd.drew bP)|exact jH.trans hu4|exact jH)
        try simp only[Qa]
        (iterate 3 refine wpF ?_);refine wpD (Gd ?_);have dA:Upd No wx w4:=jH;clear jH hu4;have ar:=Za eY.out (eT.trans dA) Qo;have eQ:=Qh (fun i e=>(ar.lt i e));have iP:=Qh (oM.out w4 dA);have oK:=Qh (Zaf xs);have hzz:=(df.out.trans dA).size;have lA:=Qh (df.out.trans dA);have oq:=iu.out;have eH:=bJ.out.size;have pg:=Qh (fun i (e:Own (.slice A5 xs.length c5) i)=>(eY.out.lt i e).2);go_wp2_with (at_builtin;refine ZX rfl rfl ZQ (v:= .slice A5 xs.length c5) (n:=xs.length) (xs:=Zi xs) (cells:=[Qi x.f,Qi x.t,Qi x.k,Qi x.key]) (by rfl) rfl ar rfl rfl (by omega) (by omega) (by omega) ?_;intro g8 c8 w8 dN hu8 vy mH;have e1:=(iP.out.upd hu8 (fun e=>by have:=pg.out _ e;omega)).cell 1;simp only[Qz,Qs]at e1);go_roundg g1;exact⟨false,some ⟨g8,0,none⟩,c8,xs++[x],x.t,rfl,by simp,rfl,by rw[aU.out],eK,by simp;omega,by simpa[Zi,Edge.cells]using dN,(bJ.out.trans lA.out).then_ hu8 fun i e=> .inr (by have:=(eQ.out i e).1;omega)⟩;omega
      ·have f1:(x.f==ai)=false:=by simpa using hf
       have f2:(x.f != ai)=true:=by simpa using hf
       have br:=Qh (show(l.drop (k+1)).find? (isR must pa pn ai false)=fo by rw[<-jO.out,Zco hk kL.out (by rw[ZcP f1 rfl rfl];rfl)]);clear hf f1;go_wp2;refine wpS (fun W'=>Upd No wx W') ?_ fun jH=>?_
       ·(first|exact(Upd.drew bP)|exact jH)
       (iterate 15 refine wpF ?_);refine wpZ 15 rfl fun K hK=>?_;go_simp;refine hK.out _ _ ?_ fun jH=>?_
       ·exact jH
       try simp only[Qa]
       (iterate 15 refine wpF ?_);refine wpZ 31 rfl fun K hK=>?_;go_simp;refine hK.out _ _ ?_ fun jH=>?_
       ·exact jH
       try simp only[Qa]
       (iterate 3 refine wpF ?_);refine wpD (Gd ?_);go_wp2;go_roundg (gk-1);exact⟨k+1,by omega,by go_num,rfl,rfl,rfl,br,df.out.trans jH⟩;omega
     ·cases hbk:Zl must x.k
      ·have gJ:=Qh (Zby wx must x.k hbk);have eG:=Qh hbk;clear hbk;go_wp2_with fail;refine Ck gJ.out fun w5 bP=>?_
       by_cases hf:x.f=ai
       ·have f1:(x.f==ai)=true:=by simpa using hf
        have f2:(x.f != ai)=false:=by simpa using hf
        cases htn:decide (x.t∈pn)
        ·have cg:=Qh (fun(W:Gy) (u:Upd No wx W)=>Zap W _ Q cq pn x.t (HQ.out W u) (by have:=ee.out;omega) htn);have br:=Qh (show(l.drop (k+1)).find? (isR must pa pn ai true)=fo by rw[<-jO.out,Zco hk kL.out (by rw[ZcP f1 (show(true&& !Zl must x.k)=true by rw[eG.out];rfl) (c1:=false) (by rw[if_pos rfl];exact htn)];rfl)]);clear hf f1 htn;go_wp2;refine wpS (fun W'=>Upd No wx W') ?_ fun jH=>?_
         ·(first|exact(Upd.drew bP)|exact jH.trans hu4|exact jH)
         (iterate 15 refine wpF ?_);refine wpZ 15 rfl fun K hK=>?_;go_simp
         (first
  |(go_at_call 94;refine Ck (cg.out _ jH) fun w4 hu4=>?_))
         try (go_wp2_with fail)
         refine hK.out _ _ ?_ fun jH=>?_
         ·(first|exact(Upd.drew bP)|exact jH.trans hu4|exact jH)
         try simp only[Qa]
         (iterate 15 refine wpF ?_);refine wpZ 31 rfl fun K hK=>?_;go_simp;refine hK.out _ _ ?_ fun jH=>?_
         ·exact jH
         try simp only[Qa]
         (iterate 3 refine wpF ?_);refine wpD (Gd ?_);go_wp2;go_roundg (gk-1);exact⟨k+1,by omega,by go_num,rfl,rfl,rfl,br,df.out.trans jH⟩;omega
        ·have cg:=Qh (fun(W:Gy) (u:Upd No wx W)=>Zap W _ Q cq pn x.t (HQ.out W u) (by have:=ee.out;omega) htn);have lz:=Qh (show fo=some x by rw[<-jO.out,Zfm hk kL.out (by rw[ZcP f1 (show(true&& !Zl must x.k)=true by rw[eG.out];rfl) (c1:=true) (by rw[if_pos rfl];exact htn)];rfl)])
         have eK:=Qh (show(xs++[x])++ZF must l f g1 x.t true=R by
          have:=aP.out;rw[<-hgg,Zfk (by rw[oQ.out,j5.out,jh.out,lz.out]),(show(true&& !Zl must x.k)=true by rw[eG.out];rfl)]at this;rw[Fg];exact this)
         clear hf f1 htn;go_wp2;refine wpS (fun W'=>Upd No wx W') ?_ fun jH=>?_
         ·(first|exact(Upd.drew bP)|exact jH.trans hu4|exact jH)
         (iterate 15 refine wpF ?_);refine wpZ 15 rfl fun K hK=>?_;go_simp
         (first
  |(go_at_call 94;refine Ck (cg.out _ jH) fun w4 hu4=>?_))
         try (go_wp2_with fail)
         refine hK.out _ _ ?_ fun jH=>?_
         ·(first|exact(Upd.drew bP)|exact jH.trans hu4|exact jH)
         try simp only[Qa]
         (iterate 15 refine wpF ?_);refine wpZ 31 rfl fun K hK=>?_;go_simp;refine hK.out _ _ ?_ fun jH=>?_
         ·exact jH
         try simp only[Qa]
         (iterate 3 refine wpF ?_);refine wpD (Gd ?_);have dA:Upd No wx w4:=jH;clear jH hu4;have ar:=Za eY.out (eT.trans dA) Qo;have eQ:=Qh (fun i e=>(ar.lt i e));have iP:=Qh (oM.out w4 dA);have oK:=Qh (Zaf xs);have hzz:=(df.out.trans dA).size;have lA:=Qh (df.out.trans dA);have oq:=iu.out;have eH:=bJ.out.size;have pg:=Qh (fun i (e:Own (.slice A5 xs.length c5) i)=>(eY.out.lt i e).2);go_wp2_with (at_builtin;refine ZX rfl rfl ZQ (v:= .slice A5 xs.length c5) (n:=xs.length) (xs:=Zi xs) (cells:=[Qi x.f,Qi x.t,Qi x.k,Qi x.key]) (by rfl) rfl ar rfl rfl (by omega) (by omega) (by omega) ?_;intro g8 c8 w8 dN hu8 vy mH;have e1:=(iP.out.upd hu8 (fun e=>by have:=pg.out _ e;omega)).cell 1;simp only[Qz,Qs]at e1);go_roundg g1;exact⟨true,some ⟨g8,0,none⟩,c8,xs++[x],x.t,rfl,by simp,rfl,by rw[aU.out],eK,by simp;omega,by simpa[Zi,Edge.cells]using dN,(bJ.out.trans lA.out).then_ hu8 fun i e=> .inr (by have:=(eQ.out i e).1;omega)⟩;omega
       ·have f1:(x.f==ai)=false:=by simpa using hf
        have f2:(x.f != ai)=true:=by simpa using hf
        have br:=Qh (show(l.drop (k+1)).find? (isR must pa pn ai true)=fo by rw[<-jO.out,Zco hk kL.out (by rw[ZcP f1 rfl rfl];rfl)]);clear hf f1;go_wp2;refine wpS (fun W'=>Upd No wx W') ?_ fun jH=>?_
        ·(first|exact(Upd.drew bP)|exact jH)
        (iterate 15 refine wpF ?_);refine wpZ 15 rfl fun K hK=>?_;go_simp;refine hK.out _ _ ?_ fun jH=>?_
        ·exact jH
        try simp only[Qa]
        (iterate 15 refine wpF ?_);refine wpZ 31 rfl fun K hK=>?_;go_simp;refine hK.out _ _ ?_ fun jH=>?_
        ·exact jH
        try simp only[Qa]
        (iterate 3 refine wpF ?_);refine wpD (Gd ?_);go_wp2;go_roundg (gk-1);exact⟨k+1,by omega,by go_num,rfl,rfl,rfl,br,df.out.trans jH⟩;omega
      ·have gJ:=Qh (Zby wx must x.k hbk);have eG:=Qh hbk;clear hbk;go_wp2_with fail;refine Ck gJ.out fun w5 bP=>?_
       by_cases hf:x.f=ai
       ·have f1:(x.f==ai)=true:=by simpa using hf
        have f2:(x.f != ai)=false:=by simpa using hf
        cases htn:decide (x.t∈pa)
        ·have cg:=Qh (fun(W:Gy) (u:Upd No wx W)=>Zap W _ P cp pa x.t (eW.out W u) (by have:=ee.out;omega) htn);have br:=Qh (show(l.drop (k+1)).find? (isR must pa pn ai true)=fo by rw[<-jO.out,Zco hk kL.out (by rw[ZcP f1 (show(true&& !Zl must x.k)=false by rw[eG.out];rfl) (c1:=false) (by rw[if_neg (by decide)];exact htn)];rfl)]);clear hf f1 htn;go_wp2;refine wpS (fun W'=>Upd No wx W') ?_ fun jH=>?_
         ·(first|exact(Upd.drew bP)|exact jH.trans hu4|exact jH)
         (iterate 15 refine wpF ?_);refine wpZ 15 rfl fun K hK=>?_;go_simp;refine hK.out _ _ ?_ fun jH=>?_
         ·exact jH
         try simp only[Qa]
         (iterate 15 refine wpF ?_);refine wpZ 31 rfl fun K hK=>?_;go_simp
         (first
  |(go_at_call 94;refine Ck (cg.out _ jH) fun w4 hu4=>?_))
         try (go_wp2_with fail)
         refine hK.out _ _ ?_ fun jH=>?_
         ·(first|exact(Upd.drew bP)|exact jH.trans hu4|exact jH)
         try simp only[Qa]
         (iterate 3 refine wpF ?_);refine wpD (Gd ?_);go_wp2;go_roundg (gk-1);exact⟨k+1,by omega,by go_num,rfl,rfl,rfl,br,df.out.trans jH⟩;omega
        ·have cg:=Qh (fun(W:Gy) (u:Upd No wx W)=>Zap W _ P cp pa x.t (eW.out W u) (by have:=ee.out;omega) htn);have lz:=Qh (show fo=some x by rw[<-jO.out,Zfm hk kL.out (by rw[ZcP f1 (show(true&& !Zl must x.k)=false by rw[eG.out];rfl) (c1:=true) (by rw[if_neg (by decide)];exact htn)];rfl)])
         have eK:=Qh (show(xs++[x])++ZF must l f g1 x.t false=R by
          have:=aP.out;rw[<-hgg,Zfk (by rw[oQ.out,j5.out,jh.out,lz.out]),(show(true&& !Zl must x.k)=false by rw[eG.out];rfl)]at this;rw[Fg];exact this)
         clear hf f1 htn;go_wp2;refine wpS (fun W'=>Upd No wx W') ?_ fun jH=>?_
         ·(first|exact(Upd.drew bP)|exact jH.trans hu4|exact jH)
         (iterate 15 refine wpF ?_);refine wpZ 15 rfl fun K hK=>?_;go_simp;refine hK.out _ _ ?_ fun jH=>?_
         ·exact jH
         try simp only[Qa]
         (iterate 15 refine wpF ?_);refine wpZ 31 rfl fun K hK=>?_;go_simp
         (first
  |(go_at_call 94;refine Ck (cg.out _ jH) fun w4 hu4=>?_))
         try (go_wp2_with fail)
         refine hK.out _ _ ?_ fun jH=>?_
         ·(first|exact(Upd.drew bP)|exact jH.trans hu4|exact jH)
         try simp only[Qa]
         (iterate 3 refine wpF ?_);refine wpD (Gd ?_);have dA:Upd No wx w4:=jH;clear jH hu4;have ar:=Za eY.out (eT.trans dA) Qo;have eQ:=Qh (fun i e=>(ar.lt i e));have iP:=Qh (oM.out w4 dA);have oK:=Qh (Zaf xs);have hzz:=(df.out.trans dA).size;have lA:=Qh (df.out.trans dA);have oq:=iu.out;have eH:=bJ.out.size;have pg:=Qh (fun i (e:Own (.slice A5 xs.length c5) i)=>(eY.out.lt i e).2);go_wp2_with (at_builtin;refine ZX rfl rfl ZQ (v:= .slice A5 xs.length c5) (n:=xs.length) (xs:=Zi xs) (cells:=[Qi x.f,Qi x.t,Qi x.k,Qi x.key]) (by rfl) rfl ar rfl rfl (by omega) (by omega) (by omega) ?_;intro g8 c8 w8 dN hu8 vy mH;have e1:=(iP.out.upd hu8 (fun e=>by have:=pg.out _ e;omega)).cell 1;simp only[Qz,Qs]at e1);go_roundg g1;exact⟨false,some ⟨g8,0,none⟩,c8,xs++[x],x.t,rfl,by simp,rfl,by rw[aU.out],eK,by simp;omega,by simpa[Zi,Edge.cells]using dN,(bJ.out.trans lA.out).then_ hu8 fun i e=> .inr (by have:=(eQ.out i e).1;omega)⟩;omega
       ·have f1:(x.f==ai)=false:=by simpa using hf
        have f2:(x.f != ai)=true:=by simpa using hf
        have br:=Qh (show(l.drop (k+1)).find? (isR must pa pn ai true)=fo by rw[<-jO.out,Zco hk kL.out (by rw[ZcP f1 rfl rfl];rfl)]);clear hf f1;go_wp2;refine wpS (fun W'=>Upd No wx W') ?_ fun jH=>?_
        ·(first|exact(Upd.drew bP)|exact jH)
        (iterate 15 refine wpF ?_);refine wpZ 15 rfl fun K hK=>?_;go_simp;refine hK.out _ _ ?_ fun jH=>?_
        ·exact jH
        try simp only[Qa]
        (iterate 15 refine wpF ?_);refine wpZ 31 rfl fun K hK=>?_;go_simp;refine hK.out _ _ ?_ fun jH=>?_
        ·exact jH
        try simp only[Qa]
        (iterate 3 refine wpF ?_);refine wpD (Gd ?_);go_wp2;go_roundg (gk-1);exact⟨k+1,by omega,by go_num,rfl,rfl,rfl,br,df.out.trans jH⟩;omega
    ·obtain rfl:k=l.length:=by omega
     have eK:=Qh (show xs++ZF must l f g1 ai nd=R by
      have eh:=jO.out;rw[Fq,List.find?_nil]at eh;have:=aP.out;rw[<-hgg,ZmX (by rw[oQ.out,j5.out,jh.out,<-eh])]at this;exact this)
     clear jO jh;go_wp2;go_roundg g1;exact⟨nd,A5,c5,xs,ai,rfl,rfl,rfl,by rw[aU.out],eK,by omega,Za eY.out bI Qo,bJ.out.trans bI⟩;omega
/- Closed walks,the document's:the first of the shortest. -/
theorem Zqh{l:List Edge}{mask must:Int}(h:NoWay ((Zaa l mask).map Edge.arc) must (Zae must)):(ZeQ (Zbp l mask) must).1=0:=by
 have h2:=h.mem (fun a ha=>(Zg0 (l:=l) (mask:=mask) a).1 ha);obtain⟨lo,aM⟩:=Zl1 (Zbp l mask);have hk:∀e∈Zbp l mask,1<=e.k∧e.k<=3:=fun e he=>⟨(Zbi (mem_docQ.1 he).2).1,(Zbi (mem_docQ.1 he).2).2.1⟩
 exact ZiN aM hk (Zfw _ _ List.Pairwise.nil) _ h2
theorem Ztt{l:List Edge}{mask must:Int}(hl:l.length<=100000)(h:(ZeQ (Zbp l mask) must).1≠0):ZaL l mask must≠[]:=by
 rcases ZjN l mask must hl with ⟨_,h2⟩|⟨v,h2⟩
 ·exact absurd (Zqh h2) h
 ·intro e;have:=h2.ne;rw[e]at this;exact this rfl
theorem Ztu{q:List Edge}{must:Int}:(ZeQ q must).1<=2*(Zb6 [] q).length:=by
 have hF:=Zer (hit:=Zar must (Zae must) q) (most:=2*(Zb6 [] q).length) (Zb6 [] q) [] (0,0) (Zfw _ _ List.Pairwise.nil) (.inl ⟨rfl,fun x hx=>by cases hx⟩);rcases hF with h|h
 ·have:(ZeQ q must).1=0:=h.1;omega
 ·exact h.2.1
theorem Zrw{must:Int}(h:Zl must 1=true):Zae must=true:=by unfold Zae;rw[h];rfl
theorem Zrv{must:Int}(h:Zl must 1=false)(h2:Zl must 2=true):Zae must=true:=by unfold Zae;rw[h,h2];rfl
theorem ZlS{must:Int}(h:Zl must 1=false)(h2:Zl must 2=false){b:Bool}(h3:Zl must 3=b):Zae must=b:=by unfold Zae;rw[h,h2,h3];rfl
theorem Zma{hit:Nat->Bool}{most:Nat}{id:Int}{g i:Nat}{s:Nat×Int}(h:¬(i<=most∧(s.1=0∨i<s.1))):inR hit most id g i s=s:=by
 cases g with
 |zero=>rfl
 |succ g=>
  unfold inR;rw[if_neg];rw[Fp,F3,beq_iff_eq,Ff,Ff];exact h
theorem ZcD{hit:Nat->Bool}{most:Nat}{id:Int}{g i:Nat}{s:Nat×Int}(h:i<=most∧(s.1=0∨i<s.1)):inR hit most id (g+1) i s=inR hit most id g (i+1) (if hit i=true then (i,id) else s):=by
 conv=>lhs;unfold inR
 rw[if_pos];rw[Fp,F3,beq_iff_eq,Ff,Ff];exact h
theorem ZnY(hit:Int->Nat->Bool)(most:Nat)(id:Int)(l:Gv)(s:Nat×Int):Zct hit most (id::l) s=Zct hit most l (inR (hit id) most id most 1 s):=rfl
theorem Zpu(F:Gt)(w:Gy)(A:OA)(c:Nat)(l:List Edge)(mask must:Int)(h:Walk F w A l)(hl:l.length<=2000):
  Calls Tryz.prog 54 #[.slice A l.length c,Qi mask,Qi must] w (ToldC w (ZaL l mask must)):=by
 have sY:=Qh (ZnU F w A c l mask h (by omega));obtain⟨kp,gR⟩:∃kp,(l.filter fun e=>Zl mask e.k)=kp:=⟨_,rfl⟩;have fL:kp.length<=2000:=by rw[<-gR];exact Nat.le_trans (E3 _ _) hl
 obtain⟨q,hq⟩:=Qe (Zbp l mask);have kQ:Zcv [] kp=q:=by rw[<-hq,<-gR];rfl
 have tj:q.length<=2000:=by rw[<-kQ];have:=ZkQ kp [];simp at this;omega
 obtain⟨ids,cC⟩:=Qe (Zb6 [] q);have dp:ids.length<=4000:=by rw[<-cC];have:=Zmc q [];simp at this;omega
 obtain⟨need,cn⟩:=Qe (Zae must);obtain⟨M,hM⟩:=Qe (2*ids.length);have Ej:IntKind.i64.wrap (2*(ids.length:Int))=(M:Int):=by rw[<-hM];exact(IntWalk.i64_in _ (by omega)).trans (by omega)
 obtain⟨RR,gh⟩:=Qe (ZeQ q must);have eC:Zct (Zar must need q) M ids (0,0)=RR:=by rw[<-gh,<-hM,<-cC,<-cn];rfl
 have hle:RR.1<=M:=by rw[<-gh,<-hM,<-cC];exact Ztu
 have eP:ZaL l mask must=if RR.1=0 then [] else ZF must q (Zk must q RR.2) RR.1 RR.2 need:=by unfold ZaL;rw[hq,gh,cn]
 have nV:RR.1≠0->ZaL l mask must≠[]:=fun e=>Ztt (by omega) (by rw[hq,gh];exact e)
 obtain⟨doc,lX⟩:=Qe (ZaL l mask must);rw[lX]at eP nV ⊢;rw[gR]at sY;have Ad:=Qh (fun(W:Gy) (B:OA) (d:Nat) (G:Gt) (hw:Walk G W B kp)=>kQ▸Zu7 G W B d kp hw (by omega));have zR:=Qh (fun(W:Gy) (B:OA) (d:Nat) (G:Gt) (hw:Walk G W B q)=>cC▸Zv8 G W B d q hw (by omega));have pU:=Qh (fun(W:Gy) (B:OA) (d:Nat) (G:Gt) (tgt:Int) (steps:Nat) (hs:steps<=100000) (hw:Walk G W B q)=>Zt2 G W B d q must tgt steps hw (by omega) hs);have mY:=Qh cn;have xj:=Qh eC;have iH:=Qh eP;have wQ:=Qh nV;have lK:=Qh tj;have yv:=Qh (fun(tgt:Int)=>Zj9 must q tgt);have oK:=Qh hle;clear h gR hq kQ cC cn gh eC eP nV lX hle;go_enter Tryz.func54,Tryz.ntmps54;go_wp2_with fail;refine(sY.out).mono ?_;rintro e w1 ⟨A1,c1,rfl,aW,hu1⟩;have fc:=Qh (Zgy aW);clear aW sY;go_wp2_with fail;refine(Ad.out w1 A1 c1 _ fc.out).mono ?_;rintro e w2 ⟨A2,c2,rfl,bi,hu2⟩;have dX:=Qh (Zgy bi);clear bi Ad;go_wp2_with fail;refine(zR.out w2 A2 c2 _ dX.out).mono ?_;rintro e w3 ⟨A3,c3,rfl,cW,hu3⟩;have jQ:=Qh (Ints.weak (G:=fun _=>True) (Ints.of_owned cW) (fun _ _ _=>trivial));have j6:=Qh (Walk.upd dX.out hu3 Qo);have bJ:=Qh ((hu1.trans hu2).trans hu3);clear cW hu1 hu2 hu3 zR fc dX
 go_upto_region 3 with fail
 go_cut [10] (fun s wc=>s= .bool need∧Upd No w3 wc)
 case first=>
  cases h1:Zl must 1
  ·cases h2:Zl must 2
   ·cases h3:Zl must 3
    ·have cR:=Qh (fun W=>Zby W must 1 h1);have gY:=Qh (fun W=>Zby W must 2 h2);have iV:=Qh (fun W=>Zby W must 3 h3);have mz:=Qh (show false=need by rw[<-mY.out,ZlS h1 h2 h3]);clear h1 h2 h3;go_wp2_with fail;refine Ck (cR.out w3) fun w4 hu4=>?_;go_wp2_with fail;refine Ck (gY.out w4) fun w5 hu5=>?_;go_wp2_with fail;refine Ck (iV.out w5) fun w6 hu6=>?_;go_wp2_with fail;go_meet;exact⟨by rw[mz.out],(hu4.trans hu5).trans hu6⟩
    ·have cR:=Qh (fun W=>Zby W must 1 h1);have gY:=Qh (fun W=>Zby W must 2 h2);have iV:=Qh (fun W=>Zby W must 3 h3);have mz:=Qh (show true=need by rw[<-mY.out,ZlS h1 h2 h3]);clear h1 h2 h3;go_wp2_with fail;refine Ck (cR.out w3) fun w4 hu4=>?_;go_wp2_with fail;refine Ck (gY.out w4) fun w5 hu5=>?_;go_wp2_with fail;refine Ck (iV.out w5) fun w6 hu6=>?_;go_wp2_with fail;go_meet;exact⟨by rw[mz.out],(hu4.trans hu5).trans hu6⟩
   ·have cR:=Qh (fun W=>Zby W must 1 h1);have gY:=Qh (fun W=>Zby W must 2 h2);have mz:=Qh (show true=need by rw[<-mY.out,Zrv h1 h2]);clear h1 h2;go_wp2_with fail;refine Ck (cR.out w3) fun w4 hu4=>?_;go_wp2_with fail;refine Ck (gY.out w4) fun w5 hu5=>?_;go_wp2_with fail;go_meet;exact⟨by rw[mz.out],hu4.trans hu5⟩
  ·have cR:=Qh (fun W=>Zby W must 1 h1);have mz:=Qh (show true=need by rw[<-mY.out,Zrw h1]);clear h1;go_wp2_with fail;refine Ck (cR.out w3) fun w4 hu4=>?_;go_wp2_with fail;go_meet;exact⟨by rw[mz.out],hu4⟩
 case rest=>
  obtain⟨rfl,hu4⟩:=hcut;obtain⟨w4,eq⟩:∃w4,w4=wc:=⟨_,rfl⟩;subst eq;have A0:=Qh (jQ.out.upd hu4 Qo);have tX:=Qh (Walk.upd j6.out hu4 Qo);have cN:=Qh (bJ.out.trans hu4);clear hu4 jQ j6;go_wp2
  go_loopg [12,13,39] ids.length (fun gk sb sf i wr=>∃(k b:Nat) (fr:Int),k+gk=ids.length∧i= Qi k∧sb= Qi (b:Int)∧sf= Qi fr∧Hid (Zct (Zar must need q) M (ids.drop k) (b,fr)=RR)∧Upd No w4 wr)
  case atStart=>exact⟨0,0,0,by omega,rfl,rfl,rfl,xj,Gg _ _⟩
  case round=>
   obtain⟨k,b0,fr0,aK,rfl,rfl,rfl,eC,hu⟩:=hrel;obtain⟨wo,dR⟩:∃wo,wo=wr:=⟨_,rfl⟩;subst dR;obtain⟨gk0,e7⟩:∃gk0,gk0=gk:=⟨_,rfl⟩;subst e7
   by_cases hk:k<ids.length
   ·obtain⟨ax,rfl,y0⟩:=(A0.out.upd hu Qo).at_ hk;obtain⟨xid,hx⟩:=Qe (ids[k]);have db:=Ev hk;rw[hx]at y0 db;have i1:(0:Int)<=(k:Int):=Qn _;have i2:(k:Int)<(ids.length:Int):=by omega
    obtain⟨SS,vK⟩:=Qe (inR (Zar must need q xid) M xid M 1 (b0,fr0));have xW:=Qh (show Zct (Zar must need q) M (ids.drop (k+1)) SS=RR by rw[<-eC.out,db,ZnY,vK]);have wd:=Qh vK;have rT:=Qh (pU.out wo A2 c2 _ xid M (by omega) (Walk.upd tX.out hu Qo));have fU:=Qh hu;have f8:=Qh (yv.out xid);clear hx db vK eC hu;go_wp2_with fail;refine(rT.out).mono ?_;rintro e w5 ⟨v5,rfl,aS,hu5⟩;obtain⟨B1,d1,B2,d2,rfl,ni,lB⟩:=aS;obtain⟨w6,j7⟩:=Qe (w5.alloc (.cells #[.slice B1 (M+1) d1,.slice B2 (M+1) d2] 153));have u6:Upd No w5 w6:=by rw[<-j7];exact(Gg No w5).alloc _
    have iP:=Qh (show Blk w6 w5.heap.size 153 [.slice B1 (M+1) d1,.slice B2 (M+1) d2] by rw[<-j7];exact Gh w5 _ _);have jS:=Qh (ni.upd u6);have aP:=Qh (lB.upd u6);have eu:=Qh (hu5.trans u6);clear ni lB hu5 u6 rT;go_wp2;clear j7
    go_loopg [12,13,17] M (fun gk sb sf i wr=>∃(j b:Nat) (fr:Int),gk+j=M+1∧i= Qi (j:Int)∧sb= Qi (b:Int)∧sf= Qi fr∧Hid (inR (Zar must need q xid) M xid gk j (b,fr)=SS)∧Upd No w6 wr)
    case atStart=>exact⟨1,b0,fr0,by omega,rfl,rfl,rfl,wd,Gg _ _⟩
    case round=>
     obtain⟨i,b,fr,Ca,rfl,rfl,rfl,HS,bI⟩:=hrel;have j1:(0:Int)<=(i:Int):=Qn _
     cases gk with
     |zero=>
      have e1:decide ((i:Int)<=(M:Int))=false:=Qf (by omega)
      have HX:=Qh (show(b,fr)=SS by
       have:=HS.out;rw[Zma (fun e=>by omega)]at this;exact this)
      go_wp2;go_roundg (gk0-1);exact⟨k+1,b,fr,by omega,by go_num,rfl,rfl,Qh (by rw[HX.out];exact xW.out),(fU.out.trans eu.out).trans bI⟩;omega
     |succ g0=>
      have e1:decide ((i:Int)<=(M:Int))=true:=Qt (by omega)
      by_cases hb0:b=0
      ·have e2:((b:Int)==0)=true:=by rw[beq_iff_eq];omega
       have r0:=(iP.out.upd bI id).cell 0;have r1:=(iP.out.upd bI id).cell 1;simp only[Qz,Qs]at r0 r1;have i5:(i:Int)<((M+1:Nat):Int):=by omega
       have i6:(i:Int)<(M:Int)+1:=by omega
       cases need
       ·obtain⟨ad1,P,cp,e1,y1,hP⟩:=(jS.out.upd bI).at_ i (by omega);subst e1;have eW:=Qh (fun(W:Gy) (u:Upd No wr W)=>hP.upd u Qo);clear hP
        cases hh:decide (xid∈(Zk must q xid i).1)
        ·have cg:=Qh (fun(W:Gy) (u:Upd No wr W)=>Zap W _ P cp (Zk must q xid i).1 xid (eW.out W u) (by have:=f8.out i;have:=lK.out;omega) hh)
         have br:=Qh (show inR (Zar must false q xid) M xid g0 (i+1) (b,fr)=SS by
          have:=HS.out;rw[ZcD ⟨by omega,.inl hb0⟩]at this;rw[show Zar must false q xid i=false from hh]at this;exact this)
         clear hh;go_wp2_with fail;refine Ck (cg.out wr (Gg _ _)) fun w7 hu7=>?_;go_wp2;go_roundg g0;exact⟨i+1,b,fr,by omega,by go_num,by first|rfl|(rw[hb0];rfl),rfl,br,bI.trans hu7⟩;omega
        ·have cg:=Qh (fun(W:Gy) (u:Upd No wr W)=>Zap W _ P cp (Zk must q xid i).1 xid (eW.out W u) (by have:=f8.out i;have:=lK.out;omega) hh)
         have br:=Qh (show inR (Zar must false q xid) M xid g0 (i+1) (i,xid)=SS by
          have:=HS.out;rw[ZcD ⟨by omega,.inl hb0⟩]at this;rw[show Zar must false q xid i=true from hh]at this;exact this)
         clear hh;go_wp2_with fail;refine Ck (cg.out wr (Gg _ _)) fun w7 hu7=>?_;go_wp2;go_roundg g0;exact⟨i+1,i,xid,by omega,by go_num,rfl,rfl,br,bI.trans hu7⟩;omega
       ·obtain⟨ad2,P,cp,e1,y1,hP⟩:=(aP.out.upd bI).at_ i (by omega);subst e1;have eW:=Qh (fun(W:Gy) (u:Upd No wr W)=>hP.upd u Qo);clear hP
        cases hh:decide (xid∈(Zk must q xid i).2)
        ·have cg:=Qh (fun(W:Gy) (u:Upd No wr W)=>Zap W _ P cp (Zk must q xid i).2 xid (eW.out W u) (by have:=f8.out i;have:=lK.out;omega) hh)
         have br:=Qh (show inR (Zar must true q xid) M xid g0 (i+1) (b,fr)=SS by
          have:=HS.out;rw[ZcD ⟨by omega,.inl hb0⟩]at this;rw[show Zar must true q xid i=false from hh]at this;exact this)
         clear hh;go_wp2_with fail;refine Ck (cg.out wr (Gg _ _)) fun w7 hu7=>?_;go_wp2;go_roundg g0;exact⟨i+1,b,fr,by omega,by go_num,by first|rfl|(rw[hb0];rfl),rfl,br,bI.trans hu7⟩;omega
        ·have cg:=Qh (fun(W:Gy) (u:Upd No wr W)=>Zap W _ P cp (Zk must q xid i).2 xid (eW.out W u) (by have:=f8.out i;have:=lK.out;omega) hh)
         have br:=Qh (show inR (Zar must true q xid) M xid g0 (i+1) (i,xid)=SS by
          have:=HS.out;rw[ZcD ⟨by omega,.inl hb0⟩]at this;rw[show Zar must true q xid i=true from hh]at this;exact this)
         clear hh;go_wp2_with fail;refine Ck (cg.out wr (Gg _ _)) fun w7 hu7=>?_;go_wp2;go_roundg g0;exact⟨i+1,i,xid,by omega,by go_num,rfl,rfl,br,bI.trans hu7⟩;omega
      ·have e2:((b:Int)==0)=false:=by rw[beq_eq_false_iff_ne];omega
       by_cases hib:i<b
       ·have e3:decide ((i:Int)<(b:Int))=true:=Qt (by omega);have r0:=(iP.out.upd bI id).cell 0;have r1:=(iP.out.upd bI id).cell 1;simp only[Qz,Qs]at r0 r1;have i5:(i:Int)<((M+1:Nat):Int):=by omega
        have i6:(i:Int)<(M:Int)+1:=by omega
        cases need
        ·obtain⟨ad1,P,cp,e1,y1,hP⟩:=(jS.out.upd bI).at_ i (by omega);subst e1;have eW:=Qh (fun(W:Gy) (u:Upd No wr W)=>hP.upd u Qo);clear hP
         cases hh:decide (xid∈(Zk must q xid i).1)
         ·have cg:=Qh (fun(W:Gy) (u:Upd No wr W)=>Zap W _ P cp (Zk must q xid i).1 xid (eW.out W u) (by have:=f8.out i;have:=lK.out;omega) hh)
          have br:=Qh (show inR (Zar must false q xid) M xid g0 (i+1) (b,fr)=SS by
           have:=HS.out;rw[ZcD ⟨by omega,.inr hib⟩]at this;rw[show Zar must false q xid i=false from hh]at this;exact this)
          clear hh;go_wp2_with fail;refine Ck (cg.out wr (Gg _ _)) fun w7 hu7=>?_;go_wp2;go_roundg g0;exact⟨i+1,b,fr,by omega,by go_num,by first|rfl|(rw[hb0];rfl),rfl,br,bI.trans hu7⟩;omega
         ·have cg:=Qh (fun(W:Gy) (u:Upd No wr W)=>Zap W _ P cp (Zk must q xid i).1 xid (eW.out W u) (by have:=f8.out i;have:=lK.out;omega) hh)
          have br:=Qh (show inR (Zar must false q xid) M xid g0 (i+1) (i,xid)=SS by
           have:=HS.out;rw[ZcD ⟨by omega,.inr hib⟩]at this;rw[show Zar must false q xid i=true from hh]at this;exact this)
          clear hh;go_wp2_with fail;refine Ck (cg.out wr (Gg _ _)) fun w7 hu7=>?_;go_wp2;go_roundg g0;exact⟨i+1,i,xid,by omega,by go_num,rfl,rfl,br,bI.trans hu7⟩;omega
        ·obtain⟨ad2,P,cp,e1,y1,hP⟩:=(aP.out.upd bI).at_ i (by omega);subst e1;have eW:=Qh (fun(W:Gy) (u:Upd No wr W)=>hP.upd u Qo);clear hP
         cases hh:decide (xid∈(Zk must q xid i).2)
         ·have cg:=Qh (fun(W:Gy) (u:Upd No wr W)=>Zap W _ P cp (Zk must q xid i).2 xid (eW.out W u) (by have:=f8.out i;have:=lK.out;omega) hh)
          have br:=Qh (show inR (Zar must true q xid) M xid g0 (i+1) (b,fr)=SS by
           have:=HS.out;rw[ZcD ⟨by omega,.inr hib⟩]at this;rw[show Zar must true q xid i=false from hh]at this;exact this)
          clear hh;go_wp2_with fail;refine Ck (cg.out wr (Gg _ _)) fun w7 hu7=>?_;go_wp2;go_roundg g0;exact⟨i+1,b,fr,by omega,by go_num,by first|rfl|(rw[hb0];rfl),rfl,br,bI.trans hu7⟩;omega
         ·have cg:=Qh (fun(W:Gy) (u:Upd No wr W)=>Zap W _ P cp (Zk must q xid i).2 xid (eW.out W u) (by have:=f8.out i;have:=lK.out;omega) hh)
          have br:=Qh (show inR (Zar must true q xid) M xid g0 (i+1) (i,xid)=SS by
           have:=HS.out;rw[ZcD ⟨by omega,.inr hib⟩]at this;rw[show Zar must true q xid i=true from hh]at this;exact this)
          clear hh;go_wp2_with fail;refine Ck (cg.out wr (Gg _ _)) fun w7 hu7=>?_;go_wp2;go_roundg g0;exact⟨i+1,i,xid,by omega,by go_num,rfl,rfl,br,bI.trans hu7⟩;omega
       ·have e3:decide ((i:Int)<(b:Int))=false:=Qf (by omega)
        have HX:=Qh (show(b,fr)=SS by
         have:=HS.out;rw[Zma (fun e=>e.2.elim hb0 hib)]at this;exact this)
        go_wp2;go_roundg (gk0-1);exact⟨k+1,b,fr,by omega,by go_num,rfl,rfl,Qh (by rw[HX.out];exact xW.out),(fU.out.trans eu.out).trans bI⟩;omega
   ·obtain rfl:k=ids.length:=by omega
    have lO:(b0,fr0)=RR:=by have:=eC.out;rw[Fq]at this;exact this
    have fU:=Qh hu
    by_cases hb0:b0=0
    ·have e2:((b0:Int)==0)=true:=by rw[beq_iff_eq];omega
     have rD:=Qh (show doc=[] by rw[iH.out,<-lO];exact if_pos hb0);clear lO eC;go_wp2;go_ret2;rw[rD.out];exact⟨none,0,rfl,Gf _ _ _ _,cN.out.trans fU.out⟩
    ·have e2:((b0:Int)==0)=false:=by rw[beq_eq_false_iff_ne];omega
     have hd1:doc=ZF must q (Zk must q fr0) b0 fr0 need:=by rw[iH.out,<-lO];exact if_neg hb0
     have hd2:doc≠[]:=wQ.out (by rw[<-lO];exact hb0);have D7:b0<=M:=by have:=oK.out;rw[<-lO]at this;exact this
     have D9:=Qh hd1;have iF:=Qh (show¬doc.length=0 from fun e=>hd2 (Et e));have rT:=Qh (pU.out wo A2 c2 _ fr0 b0 (by omega) (Walk.upd tX.out hu Qo));have CZ:=Qh (fun(W:Gy) (u:Upd No wo W) (v:Gz) (hv:BackAt W v b0 (Zk must q fr0))=>hd1▸Zt9 _ W A2 c2 q v must fr0 b0 b0 need (Zk must q fr0) (Walk.upd tX.out (fU.out.trans u) Qo) (by omega) (Nat.le_refl _) (by omega) hv (fun j=>by have:=yv.out fr0 j;omega));clear lO eC hd1 hd2 hu;go_wp2_with fail;refine(rT.out).mono ?_;rintro e w5 ⟨v5,rfl,aS,hu5⟩;go_wp2_with fail;refine(CZ.out w5 hu5 v5 aS).mono ?_;rintro e w6 ⟨A6,c6,rfl,gV,hu6⟩;have ec:=Qh (Zz gV (show w.heap.size<=w5.heap.size from((cN.out.trans fU.out).trans hu5).size));have eu:=Qh (((cN.out.trans fU.out).trans hu5).trans hu6);clear gV hu6 hu5 aS;go_wp2;go_ret2;refine⟨A6,c6,?_,ec.out,eu.out⟩;rw[if_neg iF.out];rfl
