/- Edges of a history: dsg.list. -/
import Derived.Test.YtbefgiboikfojaaGreatRcax
import Derived.Test.YtbefgiboikfojaaGreatRcbt
namespace Go.Proofs.YtbefgiboikfojaaGreat
open Go.RowKit
set_option linter.unusedVariables false
set_option linter.unusedSimpArgs false
set_option maxRecDepth 100000
set_option maxHeartbeats 8000000
theorem ZvL(w:Gy)(bc:Nat)(mc:List (Edge×Gz))(g:Edge->Nat)(hm:MapE w bc Zad mc)(hg:CntM mc g)(hl:mc.length<=1000000):
  Calls Tryz.prog 44 #[.map (some bc)] w (ZoL w (hvL g (ddE (mc.map (·.1))))):=by
 obtain⟨es,vh⟩:=Qe (ddE (mc.map (·.1)));rw[vh];have xS:=Qh vh;clear vh;obtain⟨w1,au⟩:=Qe (w.alloc (.cells #[.map (some bc)] 98));have u1:Upd No w w1:=by rw[<-au];exact(Gg No w).alloc _
 have b1:Blk w1 w.heap.size 98 [.map (some bc)]:=by rw[<-au];exact Gh w _ _
 have HK:=Qh (ZvC w (some bc));rw[au]at HK;have HC:=Qh (ZrS w1 w.heap.size bc mc (by simpa using b1.cell 0) (hm.upd u1 id) hl);have HM:=Qh hm;have HG:=Qh hg;have gL:=Qh u1;have nl:=Qh (show(mc.map (·.1)).length<=1000000 by rw[F6];exact hl);clear hm hg au u1 b1;go_enter Tryz.func44,Tryz.ntmps44;go_wp2_with fail;refine(HK.out).mono ?_;rintro e w2 ⟨rfl,rfl⟩;go_wp2_with fail;refine(HC.out).mono ?_;rintro e w3 ⟨A3,c3,ks,rfl,lF,cW,hu3⟩;have HP:=Qh (Zvn (Own (.slice A3 ks.length c3)) w3 A3 c3 ks (Recs.of_own Zao (by omega) cW) (by have:=lF.length_eq;have:=nl.out;omega));rw[Zmt lF]at HP;have eZ:=gL.out.trans hu3;clear lF cW hu3
 have oN:es.length<=1000000:=by
  rw[<-xS.out];have h1:=ZnA (ZbN (mc.map (·.1))) (mc.map (·.1)).length;have h2:=nl.out;unfold ddE;omega
 rw[xS.out]at HP;go_wp2_with fail;refine(HP.out).mono ?_;rintro e w4 ⟨A4,c4,rfl,dA,hu4⟩;have rX:=Qh (eZ.trans hu4);obtain⟨G4,dA⟩:=dA;have Dn:=Qh dA;clear dA hu4 eZ;go_wp2
 go_loopg [3,11] es.length (fun gk s i wr=>∃(k:Nat) (A5:OA) (c5:Nat) (xs:List Hvy),k+gk=es.length∧i= Qi k∧s= .slice A5 xs.length c5∧Hid (xs=hvL g (es.take k))∧Hid (wr.ownsRow w4.heap.size 96 5 (.slice A5 xs.length c5) xs.length (Zef xs))∧Upd No w4 wr)
 case atStart=>exact⟨0,none,0,[],by omega,rfl,rfl,Qh rfl,Qh (Gf _ _ _ _),Gg _ _⟩
 case round=>
  obtain⟨k,A5,c5,xs,aK,rfl,rfl,hs,ae,hu⟩:=hrel;have hxl:xs.length<=1000000:=by rw[hs.out];unfold hvL;rw[F6,Fl];omega
  by_cases hlt:k<es.length
  ·obtain⟨ax,rfl,q0,q1,q2,q3⟩:=Walk.at_ (Walk.upd Dn.out hu Qo) hlt;obtain⟨x,dE⟩:=Qe (es[k]);rw[dE]at q0 q1 q2 q3;have HS:=Qh (show xs++[⟨x,(g x:Int)⟩]=hvL g (es.take (k+1)) by rw[hs.out];exact(ZrF hlt dE).symm);have i1:(0:Int)<=(k:Int):=Qn _;have i2:(k:Int)<(es.length:Int):=by omega
   obtain⟨wx,aJ⟩:=Qe (wr.alloc (.cells #[Qi x.f,Qi x.t,Qi x.k,Qi x.key] 94));have ux:Upd No wr wx:=by rw[<-aJ];exact(Gg No wr).alloc _
   have bo:Blk wx wr.heap.size 94 [Qi x.f,Qi x.t,Qi x.k,Qi x.key]:=by rw[<-aJ];exact Gh wr _ _
   have d0:∀W,Upd (Own (.slice A5 xs.length c5)) wx W->W.cell? ⟨wr.heap.size,0,none⟩=some (Qi x.f):=fun W u=>by have:=(bo.upd u (fun e=>by have:=(ae.out.lt _ e).2;omega)).cell 0;simpa using this
   have d1:∀W,Upd (Own (.slice A5 xs.length c5)) wx W->W.cell? ⟨wr.heap.size,1,none⟩=some (Qi x.t):=fun W u=>by have:=(bo.upd u (fun e=>by have:=(ae.out.lt _ e).2;omega)).cell 1;simpa using this
   have d2:∀W,Upd (Own (.slice A5 xs.length c5)) wx W->W.cell? ⟨wr.heap.size,2,none⟩=some (Qi x.k):=fun W u=>by have:=(bo.upd u (fun e=>by have:=(ae.out.lt _ e).2;omega)).cell 2;simpa using this
   have d3:∀W,Upd (Own (.slice A5 xs.length c5)) wx W->W.cell? ⟨wr.heap.size,3,none⟩=some (Qi x.key):=fun W u=>by have:=(bo.upd u (fun e=>by have:=(ae.out.lt _ e).2;omega)).cell 3;simpa using this
   obtain⟨N,hN⟩:=Qe (g x);rw[hN]at HS;have se:=Qh ((rX.out.trans hu).trans ux)
   have L1:∀W,Upd (Own (.slice A5 xs.length c5)) wx W->(Instr.lookup 98 (.map (some bc)) (.agg #[Qi x.f,Qi x.t,Qi x.k,Qi x.key]) false).run Tryz.prog W= .ok (Qi (N:Int)) W:=fun W u=>by
    have:=ZO Zb5 Tryz.underlying98 ZaN ((HM.out.upd (S:=No) se.out id).upd u (fun e=>by have h1:=(ae.out.lt _ e).1;have h2:=HM.out.lt;have h3:=rX.out.size;omega)).is x
    rwa [HG.out.val,hN]at this
   have HO:=Qh (Za ae.out ux Qo);have aX:=Qh (hu.trans ux);have ox:=Qh (show w4.heap.size<=wx.heap.size from(hu.trans ux).size);have bP:Upd (Own (.slice A5 xs.length c5)) wx wx:=Gg _ _;have Cw:Upd No wx (wx.alloc (.cells #[Qi x.f,Qi x.t,Qi x.k,Qi x.key,Qi (N:Int)] 96)).drew:=((Gg No wx).alloc _).drew;clear dE bo ux hN ae;go_wp2;refine wpS (fun W'=>Upd (Own (.slice A5 xs.length c5)) wx W') ?_ fun jH=>?_
   ·(first|exact(Gg _ wx).drew|exact jH|exact jH.alloc _|exact de)
   (iterate 4 refine wpF ?_);refine wpZ 4 rfl fun K hK=>?_;go_simp;refine hK.out _ _ ?_ fun jH=>?_
   ·(first|exact(Gg _ wx).drew|exact jH|exact jH.alloc _|exact de)
   try simp only[Qa]
   refine wpK 5 rfl ?_;refine wpZ 6 rfl fun K hK=>?_;go_simp;refine hK.out _ _ ?_ fun jH=>?_
   ·(first|exact(Gg _ wx).drew|exact jH|exact jH.alloc _|exact de)
   try simp only[Qa]
   refine wpZ 7 rfl fun K hK=>?_
   (first
  |(refine ZeX (by rfl) (by rfl) Znc (v:= .slice A5 xs.length c5) (n:=xs.length) (xs:=Zef xs) (cells:=[Qi x.f,Qi x.t,Qi x.k,Qi x.key,Qi (N:Int)]) (by rfl) (by rfl) (by exact Za HO.out Cw Qo) rfl (by exact Zbn) (by rfl) (by omega) (by omega) (by have:=ox.out;simp;omega) ?_;intro g6 c6 w6 av hu6 dC dv;have de:Upd (Own (.slice A5 xs.length c5)) wx w6:=jH.trans hu6))
   refine hK.out _ _ ?_ fun jH=>?_
   ·(first|exact(Gg _ wx).drew|exact jH|exact jH.alloc _|exact de)
   try simp only[Qa]
   refine wpK 8 rfl ?_;refine wpD (Gd ?_);have eu:=Qh jH;clear jH;go_wp2;go_roundg (gk-1)
   case measure=>omega
   case rel=>
    have co:(xs++[(⟨x,(N:Int)⟩:Hvy)]).length=xs.length+1:=by simp
    exact⟨k+1,some ⟨g6,0,none⟩,c6,xs++[⟨x,(N:Int)⟩],by omega,by go_num,by rw[co],HS,Qh (by rw[co,ZkH];exact av),aX.out.then_ eu.out (fun i e=>Or.inr (HO.out.lt i e).1)⟩
  ·obtain rfl:k=es.length:=by omega
   go_wp2;go_ret;have h1:=hs.out;rw[Fj]at h1;subst h1;exact⟨A5,c5,rfl,Zz ae.out rX.out.size,rX.out.trans hu⟩
def ZoN(g:Edge->Nat)(l:List Hvy):Prop:=∀mc:List (Edge×Gz),CntM mc g->hvL g (ddE (mc.map (·.1)))=l
section
variable {F:Gt} {w:Gy} {txs:List HTx} {ords:Gq} {A:OA} {c:Nat} {B:OA} {d:Nat} {l:List Hvy}
theorem ZuD(H:Hist.lies F w ⟨txs,ords,A,c,B,d⟩)(hf:ZrP (Zeh (fun _=>true) ⟨txs,ords,A,c,B,d⟩))(he:ZoN (Zeh (fun _=>true) ⟨txs,ords,A,c,B,d⟩) l):
  Calls Tryz.prog 24 #[.agg #[.slice A txs.length c,.slice B ords.length d]] w (ZoL w l):=by
 obtain⟨w1,au⟩:=Qe (w.alloc (.cells #[.slice A txs.length c,.slice B ords.length d] 29));have u1:Upd No w w1:=by rw[<-au];exact(Gg No w).alloc _
 have b1:Blk w1 w.heap.size 29 [.slice A txs.length c,.slice B ords.length d]:=by rw[<-au];exact Gh w _ _
 have HC:=Qh (Zqk F w1 txs ords A c B d (fun _=>true) (H.upd u1 Qo) (Qh (fun W key _=>Ztx W key)));obtain⟨d0,d1⟩:=b1.c2;have gL:=Qh u1;have HF:=Qh hf;have HE:=Qh he;clear b1 u1 hf he H;go_enter Tryz.func24,Tryz.ntmps24;go_wp2_with fail;refine(HC.out).mono ?_;rintro e w2 ⟨bc,mc,rfl,qS,hm,hg,hu2⟩;have HL:=Qh (ZvL w2 bc mc _ hm hg (HF.out mc hg));rw[HE.out mc hg]at HL;have hv2:=gL.out.trans hu2;clear qS hm hg hu2;go_wp2_with fail;refine(HL.out).mono ?_;rintro e w3 ⟨A3,c3,rfl,cW,hu3⟩;go_wp2;go_ret;exact⟨A3,c3,rfl,Zz cW hv2.size,hv2.trans hu3⟩
end
theorem Hvys.at_{F:Gt}{w:Gy}{A:OA}{l:List Hvy}(h:Hvys F w A l){k:Nat}(hk:k<l.length):∃ad,A=some ad∧
  w.cell? (ad.add (k*5))=some (Qi l[k].e.f)∧w.cell? ⟨(ad.add (k*5)).block,(ad.add (k*5)).off+1,none⟩=some (Qi l[k].e.t)∧
  w.cell? ⟨(ad.add (k*5)).block,(ad.add (k*5)).off+2,none⟩=some (Qi l[k].e.k)∧w.cell? ⟨(ad.add (k*5)).block,(ad.add (k*5)).off+3,none⟩=some (Qi l[k].e.key)∧
  w.cell? ⟨(ad.add (k*5)).block,(ad.add (k*5)).off+4,none⟩=some (Qi l[k].n):=by
 have dq:k<(l.map Hvy.cells).length:=by simpa using hk
 obtain⟨ad,e,_,_,hc⟩:=Recs.at_ h dq;rw[Fk]at hc;exact⟨ad,e,by simpa using hc 0 _ rfl,by simpa using hc 1 _ rfl,by simpa using hc 2 _ rfl,by simpa using hc 3 _ rfl,by simpa using hc 4 _ rfl⟩
theorem ZuC(F:Gt)(w:Gy)(A:OA)(c:Nat)(l:List Hvy)(h:Hvys F w A l)(hl:l.length<=1000000):Calls Tryz.prog 23 #[.slice A l.length c] w (ZsD w (ZR l)):=by
 go_enter Tryz.func23,Tryz.ntmps23;go_wp2
 go_loopg [3,8] l.length (fun gk s i wr=>∃(k:Nat) (A5:OA) (c5:Nat) (xs:List Edge),k+gk=l.length∧i= Qi k∧s= .slice A5 xs.length c5∧Hid (xs=ZR (l.take k))∧Hid (wr.ownsRow w.heap.size 94 4 (.slice A5 xs.length c5) xs.length (ZeY xs))∧Upd No w wr)
 case atStart=>exact⟨0,none,0,[],by omega,rfl,rfl,Qh rfl,Qh (Gf _ _ _ _),Gg _ _⟩
 case round=>
  obtain⟨k,A5,c5,xs,aK,rfl,rfl,hs,ae,hu⟩:=hrel;have hxl:xs.length<=1000000:=by rw[hs.out];unfold ZR;rw[F6,Fl];omega
  by_cases hlt:k<l.length
  ·obtain⟨ax,rfl,q0,q1,q2,q3,q4⟩:=(h.upd hu Qo).at_ hlt;obtain⟨⟨⟨xf,xt,xk,xy⟩,xn⟩,dE⟩:∃x,l[k]=x:=⟨_,rfl⟩;rw[dE]at q0 q1 q2 q3 q4;simp only at q0 q1 q2 q3 q4;have i1:(0:Int)<=(k:Int):=Qn _;have i2:(k:Int)<(l.length:Int):=by omega
   obtain⟨wx,aJ⟩:=Qe (wr.alloc (.cells #[Qi xf,Qi xt,Qi xk,Qi xy,Qi xn] 96));have ux:Upd No wr wx:=by rw[<-aJ];exact(Gg No wr).alloc _
   have bo:Blk wx wr.heap.size 96 [Qi xf,Qi xt,Qi xk,Qi xy,Qi xn]:=by rw[<-aJ];exact Gh wr _ _
   obtain⟨d0,d1,d2,d3,d4⟩:=bo.c5;have aX:=Qh (hu.trans ux);have HO:=Qh (Za ae.out ux Qo);have ci:=(hu.trans ux).size;have HS:=Qh (show xs++[⟨xf,xt,xk,xy⟩]=ZR (l.take (k+1)) by rw[hs.out];exact(ZhC hlt dE).symm);clear dE bo ux ae;go_wp2_with (at_builtin;refine ZX rfl rfl ZQ (base:=w.heap.size) (v:= .slice A5 xs.length c5) (n:=xs.length) (xs:=ZeY xs) (cells:=[Qi xf,Qi xt,Qi xk,Qi xy]) (by rfl) (by rfl) HO.out rfl rfl (by omega) (by omega) (by omega) ?_;intro g9 c9 w9 aG aI gu d8);go_roundg (gk-1)
   case measure=>omega
   case rel=>
    have co:(xs++[(⟨xf,xt,xk,xy⟩:Edge)]).length=xs.length+1:=by simp
    exact⟨k+1,some ⟨g9,0,none⟩,c9,xs++[⟨xf,xt,xk,xy⟩],by omega,by go_num,by rw[co],HS,Qh (by rw[co,Ziw];exact aG),aX.out.then_ aI (fun i e=>Or.inr (HO.out.lt i e).1)⟩
  ·obtain rfl:k=l.length:=by omega
   go_wp2;go_ret;have h1:=hs.out;rw[Fj]at h1;subst h1;exact⟨A5,c5,rfl,ae.out,hu⟩
theorem Zq7(F:Gt)(w:Gy)(A:OA)(c:Nat)(l:List Hvy)(h:Hvys F w A l)(hl:l.length<=1000000):Calls Tryz.prog 30 #[.slice A l.length c] w (ZsD w (ZR l)):=by
 go_enter Tryz.func30,Tryz.ntmps30;go_wp2
 go_loopg [3,8] l.length (fun gk s i wr=>∃(k:Nat) (A5:OA) (c5:Nat) (xs:List Edge),k+gk=l.length∧i= Qi k∧s= .slice A5 xs.length c5∧Hid (xs=ZR (l.take k))∧Hid (wr.ownsRow w.heap.size 94 4 (.slice A5 xs.length c5) xs.length (ZeY xs))∧Upd No w wr)
 case atStart=>exact⟨0,none,0,[],by omega,rfl,rfl,Qh rfl,Qh (Gf _ _ _ _),Gg _ _⟩
 case round=>
  obtain⟨k,A5,c5,xs,aK,rfl,rfl,hs,ae,hu⟩:=hrel;have hxl:xs.length<=1000000:=by rw[hs.out];unfold ZR;rw[F6,Fl];omega
  by_cases hlt:k<l.length
  ·obtain⟨ax,rfl,q0,q1,q2,q3,q4⟩:=(h.upd hu Qo).at_ hlt;obtain⟨⟨⟨xf,xt,xk,xy⟩,xn⟩,dE⟩:∃x,l[k]=x:=⟨_,rfl⟩;rw[dE]at q0 q1 q2 q3 q4;simp only at q0 q1 q2 q3 q4;have i1:(0:Int)<=(k:Int):=Qn _;have i2:(k:Int)<(l.length:Int):=by omega
   obtain⟨wx,aJ⟩:=Qe (wr.alloc (.cells #[Qi xf,Qi xt,Qi xk,Qi xy,Qi xn] 96));have ux:Upd No wr wx:=by rw[<-aJ];exact(Gg No wr).alloc _
   have bo:Blk wx wr.heap.size 96 [Qi xf,Qi xt,Qi xk,Qi xy,Qi xn]:=by rw[<-aJ];exact Gh wr _ _
   obtain⟨d0,d1,d2,d3,d4⟩:=bo.c5;have aX:=Qh (hu.trans ux);have HO:=Qh (Za ae.out ux Qo);have ci:=(hu.trans ux).size;have HS:=Qh (show xs++[⟨xf,xt,xk,xy⟩]=ZR (l.take (k+1)) by rw[hs.out];exact(ZhC hlt dE).symm);clear dE bo ux ae;go_wp2_with (at_builtin;refine ZX rfl rfl ZQ (base:=w.heap.size) (v:= .slice A5 xs.length c5) (n:=xs.length) (xs:=ZeY xs) (cells:=[Qi xf,Qi xt,Qi xk,Qi xy]) (by rfl) (by rfl) HO.out rfl rfl (by omega) (by omega) (by omega) ?_;intro g9 c9 w9 aG aI gu d8);go_roundg (gk-1)
   case measure=>omega
   case rel=>
    have co:(xs++[(⟨xf,xt,xk,xy⟩:Edge)]).length=xs.length+1:=by simp
    exact⟨k+1,some ⟨g9,0,none⟩,c9,xs++[⟨xf,xt,xk,xy⟩],by omega,by go_num,by rw[co],HS,Qh (by rw[co,Ziw];exact aG),aX.out.then_ aI (fun i e=>Or.inr (HO.out.lt i e).1)⟩
  ·obtain rfl:k=l.length:=by omega
   go_wp2;go_ret;have h1:=hs.out;rw[Fj]at h1;subst h1;exact⟨A5,c5,rfl,ae.out,hu⟩
theorem ZsW(F:Gt)(w:Gy)(txs:List HTx)(ords:Gq)(A:OA)(c:Nat)(B:OA)(d:Nat)(H:Hist.lies F w ⟨txs,ords,A,c,B,d⟩)(n1:txs.length<=4096)(n2:∀t∈txs,t.ops.length<=4095):
  Calls Tryz.prog 56 #[.agg #[.slice A txs.length c,.slice B ords.length d]] w (ZwE w (Zcr txs)):=by
 have HH:=Qh H;obtain⟨wb,ah⟩:=Qe (w.alloc (.cells #[.slice A txs.length c,.slice B ords.length d] 29));have u1:Upd No w wb:=by rw[<-ah];exact(Gg No w).alloc _
 have b1:Blk wb w.heap.size 29 [.slice A txs.length c,.slice B ords.length d]:=by rw[<-ah];exact Gh w _ _
 have d0:=b1.cell 0;simp only[Qz]at d0;have HU:=Qh u1;clear b1 u1 H;go_enter Tryz.func56,Tryz.ntmps56;go_wp2
 go_loopg [3,11] txs.length (fun gk s i wr=>∃(k:Nat) (A5:OA) (c5:Nat) (xs:Gv),k+gk=txs.length∧i= Qi k∧s= .slice A5 xs.length c5∧Hid (xs=Z2 [] (txK (txs.take k)))∧Hid (xs.length<=4095*k)∧Hid (Ints (fun i=>w.heap.size<=i) wr A5 xs)∧Upd No w wr)
 case atStart=>exact⟨0,none,0,[],by omega,rfl,rfl,Qh rfl,Qh (by simp),Qh Ints.nil_,HU.out⟩
 case round=>
  obtain⟨k,A5,c5,xs,aK,rfl,rfl,hs,cF,hi,hu⟩:=hrel
  by_cases hlt:k<txs.length
  ·obtain⟨ad,aA,q0,q1,q2⟩:=(HH.out.upd hu Qo).tx_at hlt;simp only at aA q0 q1 q2;have a7:=n2 _ (Fr hlt);have aQ:=HH.out.tx txs[k] (Fr hlt);obtain⟨⟨xi,xd,xo,xA,xc⟩,hx⟩:∃x,txs[k]=x:=⟨_,rfl⟩;rw[hx]at q0 q1 q2 a7 aQ;simp only at q0 q1 q2 a7;subst aA;have kf:Hid (HOps F w xA xo):=Qh aQ.1;have b1:(0:Int)<=(k:Int):=Qn _;have b2:(k:Int)<(txs.length:Int):=by omega
   obtain⟨wx,aJ⟩:=Qe (wr.alloc (.cells #[Qi xi,.bool xd,.slice xA xo.length xc] 53));have ux:Upd No wr wx:=by rw[<-aJ];exact(Gg No wr).alloc _
   have bo:Blk wx wr.heap.size 53 [Qi xi,.bool xd,.slice xA xo.length xc]:=by rw[<-aJ];exact Gh wr _ _
   have t2:=bo.cell 2;simp only[Qz,Qs]at t2;have aX:=Qh (hu.trans ux);have Ba:=Qh (hi.out.upd ux Qo);have HT:=Qh (ZqJ hlt hx);simp only at HT;have HP:=Qh hs.out;clear hx bo ux aQ hs hi;obtain⟨wo,dR⟩:∃wo,wo=wr:=⟨_,rfl⟩;subst dR;generalize gk=GK at*;go_wp2
   go_loopg [3,18] xo.length (fun gj s i wr=>∃(j:Nat) (A5:OA) (c5:Nat) (ys:Gv),j+gj=xo.length∧i= Qi j∧s= .slice A5 ys.length c5∧Hid (ys=Z2 xs (opK (xo.take j)))∧Hid (ys.length<=4095*k+j)∧Hid (Ints (fun i=>w.heap.size<=i) wr A5 ys)∧Upd No w wr)
   case atStart=>exact⟨0,A5,c5,xs,by omega,rfl,rfl,Qh rfl,Qh (by have:=cF.out;omega),Ba,aX.out⟩
   case round=>
    obtain⟨j,A6,c6,ys,iK,rfl,rfl,er,aN,hi2,hu2⟩:=hrel
    by_cases hltj:j<xo.length
    ·obtain⟨ad2,aT,p0,p1,p2,p3⟩:=(kf.out.upd hu2 Qo).at_ hltj;obtain⟨⟨yr,yk,yt,yn⟩,hy⟩:∃y,xo[j]=y:=⟨_,rfl⟩;rw[hy]at p0 p1 p2 p3;simp only at p0 p1 p2 p3;subst aT;have c1:(0:Int)<=(j:Int):=Qn _;have c2:(j:Int)<(xo.length:Int):=by omega
     obtain⟨wy,gt⟩:=Qe (wr.alloc (.cells #[.bool yr,Qi yk,Qi yt,Qi yn] 50));have uy:Upd No wr wy:=by rw[<-gt];exact(Gg No wr).alloc _
     have bo:Blk wy wr.heap.size 50 [.bool yr,Qi yk,Qi yt,Qi yn]:=by rw[<-gt];exact Gh wr _ _
     have o1:=bo.cell 1;simp only[Qz,Qs]at o1;have gs:ys.length<=100000000:=by have:=aN.out;omega
     have np:=Qh (ZlF _ wy A6 c6 ys yk (hi2.out.upd uy Qo) gs);have fX:=Qh (hu2.trans uy);have HO:=Qh (show Zg yk ys=Z2 xs (opK (xo.take (j+1))) by rw[Zrq hltj hy,Zgq,<-er.out];rfl);have ee:=Qh (Zq yk ys);clear hy bo uy;go_wp2_with fail;refine(np.out).mono ?_;rintro e w5 ⟨A7,c7,rfl,fm,hu7⟩;have B7:=Qh ((Ints.of_owned fm).weak (G:=fun i=>w.heap.size<=i) (fun i _ h=>Nat.le_trans fX.out.size h));have mI:=Qh (fX.out.trans hu7);clear fm hu7;go_wp2;go_roundg (gk-1);exact⟨j+1,A7,c7,_,by omega,by go_num,rfl,HO,Qh (by have:=ee.out;have:=aN.out;omega),B7,mI.out⟩;omega
    ·obtain rfl:j=xo.length:=by omega
     have HN:=Qh (show ys=Z2 [] (txK (txs.take (k+1))) by rw[HT.out,Zgq,<-HP.out];have:=er.out;rwa [Fj]at this);go_wp2;go_roundg (GK-1);exact⟨k+1,A6,c6,ys,by omega,by go_num,rfl,HN,Qh (by have:=aN.out;omega),hi2,hu2⟩;omega
  ·obtain rfl:k=txs.length:=by omega
   go_wp2;go_ret;have h1:=hs.out;rw[Fj]at h1;subst h1;exact⟨A5,c5,rfl,hi.out,hu⟩
section
variable {h:Hist}
end
section
variable {β:Type} [DecidableEq β]
end
section
variable {h:Hist}
end
theorem Zq8(F:Gt)(w:Gy)(txs:List HTx)(ords:Gq)(A:OA)(c:Nat)(B:OA)(d:Nat)(H:Hist.lies F w ⟨txs,ords,A,c,B,d⟩)(n1:txs.length<=12)(n2:∀t∈txs,t.ops.length<=24):
  Calls Tryz.prog 31 #[.agg #[.slice A txs.length c,.slice B ords.length d]] w (ZoL w (ZB ⟨txs,ords,A,c,B,d⟩)):=by
 have HH:=Qh H;obtain⟨z,hz⟩:=Qe w.heap.size;obtain⟨wb,ah⟩:=Qe (w.alloc (.cells #[.slice A txs.length c,.slice B ords.length d] 29));have u1:Upd No w wb:=by rw[<-ah];exact(Gg No w).alloc _
 have bH:Blk wb z 29 [.slice A txs.length c,.slice B ords.length d]:=by rw[<-ah,<-hz];exact Gh w _ _
 have g0:∀W,Upd No wb W->W.cell? ⟨z,0,none⟩=some (.slice A txs.length c):=fun W u=>by have:=(bH.upd u id).cell 0;simpa using this
 have g1:∀W,Upd No wb W->W.cell? ⟨z,1,none⟩=some (.slice B ords.length d):=fun W u=>by have:=(bH.upd u id).cell 1;simpa using this
 have hbz:Upd No wb wb:=Gg _ _;have HU:=Qh u1;have HR:=Qh (fun W (u:Upd No w W)=>Znh F W txs ords A c B d (H.upd u Qo));have xQ:=Qh (fun W (u:Upd No w W)=>ZsW F W txs ords A c B d (H.upd u Qo) (by omega) (fun t ht=>by have:=n2 t ht;omega));have xr:=Qh (fun W (u:Upd No w W) e=>Zq3 F W txs ords A c B d e (H.upd u Qo));unfold Edge.cells at xr;have nl:=Qh (ZmE txs n2);have HZ:=Qh hz;clear bH u1 H;obtain⟨ks,ep⟩:=Qe (Zcr txs);rw[ep]at xQ nl;have j4:=Qh ep;have fL:ks.length<=288:=by have:=nl.out;omega
 cases hr:Zc ⟨txs,ords,A,c,B,d⟩
 ·rw[hr]at HR;have HE:=Qh (show ZB ⟨txs,ords,A,c,B,d⟩=[] by unfold ZB;rw[hr];rfl);clear hr ep;go_enter Tryz.func31,Tryz.ntmps31;go_wp2_with fail;refine Ck (HR.out _ HU.out) fun w2 hu2=>?_;go_wp2;go_ret;exact⟨none,0,by rw[HE.out];rfl,by rw[HE.out];exact Gf _ _ _ _,HU.out.trans hu2⟩
 ·rw[hr]at HR;have HE:=Qh (show hrA ⟨txs,ords,A,c,B,d⟩ txs=ZB ⟨txs,ords,A,c,B,d⟩ by unfold ZB;rw[hr];rfl);obtain⟨hh,ot⟩:=Qe ((⟨txs,ords,A,c,B,d⟩:Hist));have yJ:hh.txs=txs:=by rw[<-ot]
  rw[ot]at HE xr;rw[ot];have yq:=Qh yJ;clear hr ep ot yJ;go_enter Tryz.func31,Tryz.ntmps31;go_wp2_with fail;refine Ck (HR.out _ HU.out) fun w2 hu2=>?_;have hv2:=HU.out.trans hu2;go_wp2_with fail;refine(xQ.out _ hv2).mono ?_;rintro e w3 ⟨AK,cK,rfl,yY,hu3⟩;have hb3:=hu2.trans hu3;have mM:=Qh (hv2.trans hu3);have Bj:=Qh yY;have g0:∀W,Upd No w3 W->W.cell? ⟨z,0,none⟩=some (.slice A txs.length c):=fun W u=>g0 W (hb3.trans u)
  have g1:∀W,Upd No w3 W->W.cell? ⟨z,1,none⟩=some (.slice B ords.length d):=fun W u=>g1 W (hb3.trans u)
  have eF:Upd No w3 w3:=Gg _ _;clear yY hu2 hu3 hv2 hb3 hbz ah hz;go_wp2
  go_loopg [4,22] txs.length (fun gk s i wr=>∃(k:Nat) (A5:OA) (c5:Nat) (xs:List Hvy),k+gk=txs.length∧i= Qi k∧s= .slice A5 xs.length c5∧Hid (xs=hrA hh (txs.take k))∧Hid (xs.length<=10368*k)∧Hid (wr.ownsRow w3.heap.size 96 5 (.slice A5 xs.length c5) xs.length (Zef xs))∧Upd No w3 wr)
  case atStart=>exact⟨0,none,0,[],by omega,rfl,rfl,Qh rfl,Qh (by simp),Qh (Gf _ _ _ _),eF⟩
  case round=>
   obtain⟨k,A5,c5,xs,aK,rfl,rfl,hs,cF,ae,hu⟩:=hrel
   by_cases hlt:k<txs.length
   ·obtain⟨ad,aA,q0,q1,q2⟩:=(HH.out.upd (mM.out.trans hu) Qo).tx_at hlt;simp only at aA q0 q1 q2;obtain⟨⟨xi,xd,xo,xA,xc⟩,hx⟩:∃x,txs[k]=x:=⟨_,rfl⟩;rw[hx]at q0 q1 q2;simp only at q0 q1 q2;subst aA;have b1:(0:Int)<=(k:Int):=Qn _;have b2:(k:Int)<(txs.length:Int):=by omega
    obtain⟨wx,aJ⟩:=Qe (wr.alloc (.cells #[Qi xi,.bool xd,.slice xA xo.length xc] 53));have ux:Upd No wr wx:=by rw[<-aJ];exact(Gg No wr).alloc _
    have bo:Blk wx wr.heap.size 53 [Qi xi,.bool xd,.slice xA xo.length xc]:=by rw[<-aJ];exact Gh wr _ _
    have oM:=Qh bo;have aX:=Qh (hu.trans ux);have qM:=Qh (Za ae.out ux Qo);have z6:=Qh (show∀i,Own (.slice A5 xs.length c5) i->i≠wr.heap.size from fun i e=>by have:=(ae.out.lt i e).2;omega);have HT:=Qh (ZrJ (h:=hh) hlt hx);simp only at HT;have HS:=Qh hs.out;clear hx bo ux hs ae;obtain⟨wo,dR⟩:∃wo,wo=wr:=⟨_,rfl⟩;subst dR;generalize gk=GK at*;go_wp2
    go_loopg [4,7] 3 (fun gn s i wr=>∃(n:Nat) (A6:OA) (c6:Nat) (ys:List Hvy),n+gn=3∧i= Qi ((n:Int)+1)∧s= .slice A6 ys.length c6∧Hid (ys=xs++hrN hh xi n)∧Hid (ys.length<=10368*k+3456*n)∧Hid (wr.ownsRow w3.heap.size 96 5 (.slice A6 ys.length c6) ys.length (Zef ys))∧Hid (Blk wr wo.heap.size 53 [Qi xi,.bool xd,.slice xA xo.length xc])∧Hid (∀i,Own (.slice A6 ys.length c6) i->i≠wo.heap.size)∧Upd No w3 wr)
    case atStart=>exact⟨0,A5,c5,xs,by omega,rfl,rfl,Qh (by simp[hrN]),Qh (by have:=cF.out;omega),qM,oM,z6,aX.out⟩
    case round=>
     clear qM oM z6;obtain⟨n,A6,c6,ys,rZ,rfl,rfl,er,aN,bi,bK,kX,hu2⟩:=hrel
     by_cases hn3:n<3
     ·have e1:(n:Int)+1<=3:=by omega
      have e2:(0:Int)<=(n:Int):=Qn _;generalize gk=GN at*;go_wp2
      go_loopg [4,32] ks.length (fun gj s i wr=>∃(j:Nat) (A7:OA) (c7:Nat) (vs:List Hvy),j+gj=ks.length∧i= Qi j∧s= .slice A7 vs.length c7∧Hid (vs=ys++hrK hh xi ((n:Int)+1) (ks.take j))∧Hid (vs.length<=10368*k+3456*n+12*j)∧Hid (wr.ownsRow w3.heap.size 96 5 (.slice A7 vs.length c7) vs.length (Zef vs))∧Hid (Blk wr wo.heap.size 53 [Qi xi,.bool xd,.slice xA xo.length xc])∧Hid (∀i,Own (.slice A7 vs.length c7) i->i≠wo.heap.size)∧Upd No w3 wr)
      case atStart=>exact⟨0,A6,c6,ys,by omega,rfl,rfl,Qh (by simp[hrK]),Qh (by have:=aN.out;omega),bi,bK,kX,hu2⟩
      case round=>
       obtain⟨j,A7,c7,vs,iK,rfl,rfl,ye,yQ,cW,qs,qH,hu3⟩:=hrel
       by_cases hltj:j<ks.length
       ·obtain⟨adk,Cd,_,_,pk⟩:=(Bj.out.upd hu3 Qo).at_ hltj;obtain⟨ky,hky⟩:=Qe (ks[j]);rw[hky]at pk;subst Cd;have c1:(0:Int)<=(j:Int):=Qn _;have c2:(j:Int)<(ks.length:Int):=by omega
        have Ao:=Qh (ZrH (h:=hh) (a:=xi) (kind:=(n:Int)+1) hltj hky);rw[yq.out]at Ao;clear hky;generalize gk=GJ at*;go_wp2
        go_loopg [4,39] txs.length (fun gi s i wr=>∃(m:Nat) (A8:OA) (c8:Nat) (us:List Hvy),m+gi=txs.length∧i= Qi m∧s= .slice A8 us.length c8∧Hid (us=vs++hrB hh xi ((n:Int)+1) ky (txs.take m))∧Hid (us.length<=10368*k+3456*n+12*j+m)∧Hid (wr.ownsRow w3.heap.size 96 5 (.slice A8 us.length c8) us.length (Zef us))∧Hid (Blk wr wo.heap.size 53 [Qi xi,.bool xd,.slice xA xo.length xc])∧Hid (∀i,Own (.slice A8 us.length c8) i->i≠wo.heap.size)∧Upd No w3 wr)
        case atStart=>exact⟨0,A7,c7,vs,by omega,rfl,rfl,Qh (by simp[hrB]),Qh (by have:=yQ.out;omega),cW,qs,qH,hu3⟩
        case round=>
         obtain⟨m,A8,c8,us,Ca,rfl,rfl,rF,oy,cU,mw,kY,hu4⟩:=hrel
         by_cases hltm:m<txs.length
         ·obtain⟨ad2,aT,r0,r1,r2⟩:=(HH.out.upd (mM.out.trans hu4) Qo).tx_at hltm;simp only at aT r0 r1 r2;obtain rfl:ad=ad2:=Option.some.inj aT;obtain⟨⟨yi,yd,yo,yA,yc⟩,hy⟩:∃y,txs[m]=y:=⟨_,rfl⟩;rw[hy]at r0 r1 r2;simp only at r0 r1 r2;have f1:(0:Int)<=(m:Int):=Qn _;have f2:(m:Int)<(txs.length:Int):=by omega
          obtain⟨wy,gt⟩:=Qe (wr.alloc (.cells #[Qi yi,.bool yd,.slice yA yo.length yc] 53));have uy:Upd No wr wy:=by rw[<-gt];exact(Gg No wr).alloc _
          have bY:Blk wy wr.heap.size 53 [Qi yi,.bool yd,.slice yA yo.length yc]:=by rw[<-gt];exact Gh wr _ _
          have sy:wy.heap.size=wr.heap.size+1:=by rw[<-gt];simp
          obtain⟨wz,g7⟩:=Qe (wy.alloc (.cells #[Qi xi,Qi yi,Qi ((n:Int)+1),Qi ky] 94));have uz:Upd No wy wz:=by rw[<-g7];exact(Gg No wy).alloc _
          have bZ:Blk wz (wr.heap.size+1) 94 [Qi xi,Qi yi,Qi ((n:Int)+1),Qi ky]:=by rw[<-g7,<-sy];exact Gh wy _ _
          have x0:∀W,Upd No wr W->W.cell? ⟨wo.heap.size,0,none⟩=some (Qi xi):=fun W u=>by have:=(mw.out.upd u id).cell 0;simpa using this
          have y0:∀W,Upd No wy W->W.cell? ⟨wr.heap.size,0,none⟩=some (Qi yi):=fun W u=>by have:=(bY.upd u id).cell 0;simpa using this
          have z0:∀W,Upd No wz W->W.cell? ⟨wr.heap.size+1,0,none⟩=some (Qi xi):=fun W u=>by have:=(bZ.upd u id).cell 0;simpa using this
          have z1:∀W,Upd No wz W->W.cell? ⟨wr.heap.size+1,1,none⟩=some (Qi yi):=fun W u=>by have:=(bZ.upd u id).cell 1;simpa using this
          have z2:∀W,Upd No wz W->W.cell? ⟨wr.heap.size+1,2,none⟩=some (Qi ((n:Int)+1)):=fun W u=>by have:=(bZ.upd u id).cell 2;simpa using this
          have z3:∀W,Upd No wz W->W.cell? ⟨wr.heap.size+1,3,none⟩=some (Qi ky):=fun W u=>by have:=(bZ.upd u id).cell 3;simpa using this
          have x0y:=x0 wy uy;have CK:Upd No wy wy:=Gg _ _;have hzz:Upd No wz wz:=Gg _ _;have rv:=hu4.trans (uy.trans uz);have g0z:=g0 wz rv;have g1z:=g1 wz rv;have wM:=Qh (uy.trans uz);have lA:=Qh rv;obtain⟨N,hN⟩:=Qe (ZH hh ⟨xi,yi,(n:Int)+1,ky⟩);have iM:=xr.out wz (mM.out.trans rv) ⟨xi,yi,(n:Int)+1,ky⟩;rw[hN]at iM;have HC:=Qh iM;have mE:=Qh (ZrI (h:=hh) (a:=xi) (kind:=(n:Int)+1) (key:=ky) hltm hy);simp only at mE;rw[hN]at mE;clear hy bY bZ uy uz hN iM rv x0;go_wp2_with fail;refine Ck HC.out fun w5 hu5=>?_;have ff:=Qh (lA.out.trans hu5);have iT:=Qh (wM.out.trans hu5);have sQ:=Qh (Za cU.out (wM.out.trans hu5) Qo);have gJ:=Qh (mw.out.upd (wM.out.trans hu5) id);have DF:=(lA.out.trans hu5).size;have uS:us.length<=200000:=by have:=oy.out;have:=nl.out;omega
          by_cases hN0:N=0
          ·have HN:=Qh (show us=vs++hrB hh xi ((n:Int)+1) ky (txs.take (m+1)) by rw[mE.out,if_neg (by omega),Fv];exact rF.out);subst hN0;go_wp2;go_roundg (gk-1);exact⟨m+1,A8,c8,us,by omega,by go_num,rfl,HN,Qh (by have:=oy.out;omega),sQ,gJ,kY,ff.out⟩;omega
          ·have Ep:(0:Int)<(N:Int):=by omega
           have HN:=Qh (show us++[⟨⟨xi,yi,(n:Int)+1,ky⟩,(N:Int)⟩]=vs++hrB hh xi ((n:Int)+1) ky (txs.take (m+1)) by rw[mE.out,if_pos (by omega),<-Fg,<-rF.out]);clear hN0;go_wp2_with (at_builtin;refine ZX rfl rfl Znc (base:=w3.heap.size) (v:= .slice A8 us.length c8) (n:=us.length) (xs:=Zef us) (cells:=[Qi xi,Qi yi,Qi ((n:Int)+1),Qi ky,Qi (N:Int)]) (by rfl) (by rfl) sQ.out rfl rfl (by omega) (by omega) (by omega) ?_;intro g9 c9 w9 aG aI gu d8);go_roundg (gk-1)
           case measure=>omega
           case rel=>
            have co:(us++[(⟨⟨xi,yi,(n:Int)+1,ky⟩,(N:Int)⟩:Hvy)]).length=us.length+1:=by simp
            refine⟨m+1,some ⟨g9,0,none⟩,c9,us++[⟨⟨xi,yi,(n:Int)+1,ky⟩,(N:Int)⟩],by omega,by go_num,by rw[co],HN,Qh (by rw[co];have:=oy.out;omega),Qh (by rw[co,ZkH];exact aG),Qh (gJ.out.upd aI (fun e=>kY.out _ e rfl)),Qh (fun i e=>?_),ff.out.then_ aI (fun i e=>Or.inr (sQ.out.lt i e).1)⟩;have e2:g9=i:=by simpa[Own,Value.ownBlock]using e
            rcases gu with h1|h1
            ·exact kY.out i (show _=some i by rw[<-e2];exact h1)
            ·have:=gJ.out.lt;omega
         ·obtain rfl:m=txs.length:=by omega
          have HN:=Qh (show us=ys++hrK hh xi ((n:Int)+1) (ks.take (j+1)) by rw[Ao.out,<-Fg,<-ye.out];have:=rF.out;rwa [Fj]at this);go_wp2;go_roundg (GJ-1);exact⟨j+1,A8,c8,us,by omega,by go_num,rfl,HN,Qh (by have:=oy.out;omega),cU,mw,kY,hu4⟩;omega
       ·obtain rfl:j=ks.length:=by omega
        have HN:=Qh (show vs=xs++hrN hh xi (n+1) by
         have h1:=ye.out;rw[Fj]at h1
         show vs=xs++(hrN hh xi n++hrK hh xi ((n:Int)+1) (Zcr hh.txs))
         rw[yq.out,j4.out,<-Fg,<-er.out];exact h1)
        go_wp2;go_roundg (GN-1);exact⟨n+1,A7,c7,vs,by omega,by go_num,rfl,HN,Qh (by have:=yQ.out;have:=nl.out;omega),cW,qs,qH,hu3⟩;omega
     ·obtain rfl:n=3:=by omega
      have HN:=Qh (show ys=hrA hh (txs.take (k+1)) by rw[HT.out,<-HS.out];exact er.out);clear rZ;go_wp2;go_roundg (GK-1);exact⟨k+1,A6,c6,ys,by omega,by go_num,rfl,HN,Qh (by have:=aN.out;omega),bi,hu2⟩;omega
   ·obtain rfl:k=txs.length:=by omega
    have aV:xs=ZB hh:=by rw[<-HE.out];have:=hs.out;rwa [Fj]at this
    subst aV;go_wp2;go_ret;exact⟨A5,c5,rfl,Zz ae.out mM.out.size,mM.out.trans hu⟩
theorem Zjl{s:List Edge}(h:s.Pairwise fun a b=>ltE a b=true):∀k,k<=s.length->ddF s k=s.take k
 |0,_=>by simp[ddF]
 |k+1,hk=>by
  have ih:=Zjl h k (by omega);rw[ZjQ (by omega),ih,Es (by omega)]
  cases k with
  |zero=>exact Or.inl rfl
  |succ k=>
   right
   rw[Nat.add_sub_cancel,Qg (by omega),Qg (by omega)];intro e;have:=List.pairwise_iff_getElem.1 h k (k+1) (by omega) (by omega) (by omega);rw[Option.some.inj e,Zhm]at this
   cases this
theorem Zlr{s:List Edge}(h:s.Pairwise fun a b=>ltE a b=true):ZbN s=s:=by
 unfold ZbN;refine List.Perm.eq_of_pairwise (le:=fun a b=>(!ltOf Zbd b a)=true) (fun a b _ _ h1 h2=>?_) (List.pairwise_mergeSort ZgQ ZgR s) (h.imp fun {a b} hab=>?_) (List.mergeSort_perm _ _)
 ·simp only[Zbf,Bool.not_eq_true']at h1 h2;exact ZjJ h2 h1
 ·simp only[Zbf,Bool.not_eq_true']
  cases hba:ltE b a with
  |false=>rfl
  |true=>have:=Zkz hab hba;rw[Zhm]at this;cases this
theorem ZoB{s:List Edge}(h:s.Pairwise fun a b=>ltE a b=true):ddE s=s:=by
 unfold ddE;rw[Zlr h,Zjl h _ (Nat.le_refl _),Fj]
theorem ZvD{g:Edge->Nat}{l:List Hvy}(h1:(l.map (·.e)).Pairwise fun a b=>ltE a b=true)(h2:∀e,e∈l.map (·.e)↔g e≠0)(h3:∀x∈l,x.n=(g x.e:Int)):ZoN g l:=fun mc hm=>by
 have hp:(mc.map (·.1)).Perm (l.map (·.e)):=(List.perm_ext_iff_of_nodup hm.nd (Zln h1)).2 fun a=>by rw[hm.mem,h2]
 rw[Zmt hp,ZoB h1];unfold hvL;rw[List.map_map]
 conv=>rhs;rw[<-List.map_id l]
 refine List.map_congr_left fun x hx=>?_
 have:=h3 x hx;obtain⟨e,n⟩:=x;simp only at this;simp[this]
section
variable {h:Hist}
theorem Zop:ZoN (Zeh (fun _=>true) h) (ZB h):=by
 refine ZvD Zgt (fun e=>?_) fun x hx=>?_
 ·rw[ZjM]
  by_cases hr:Zc h=true
  ·rw[if_pos hr,if_pos rfl,Gc]
   constructor
   ·rintro⟨x,hx,rfl⟩;exact((Zce hr).1 hx).1
   ·intro hc;exact⟨⟨e,(ZH h e:Int)⟩,(Zce hr).2 ⟨hc,rfl⟩,rfl⟩
  ·rw[if_neg hr];unfold ZB;rw[if_neg hr];simp
 ·by_cases hr:Zc h=true
  ·rw[ZjM,if_pos hr,if_pos rfl];exact((Zce hr).1 hx).2
  ·unfold ZB at hx;rw[if_neg hr]at hx;cases hx
end
section
variable (n:Nat)
end
section
variable {F:Gt} {w:Gy} {txs:List HTx} {ords:Gq} {A:OA} {c:Nat} {B:OA} {d:Nat} {n m:Nat}
theorem ZtO(H:Hist.lies F w ⟨txs,ords,A,c,B,d⟩)(n1:txs.length<=12)(n2:∀t∈txs,t.ops.length<=24)(hn:txs.length=n)(hm:ords.length=m){l:List Hvy}{k:Nat}(he:ZB ⟨txs,ords,A,c,B,d⟩=l)(hk:l.length=k):
  Calls Tryz.prog 24 #[.agg #[.slice A n c,.slice B m d]] w fun e w'=>∃A' c',e= .returned (.slice A' k c')∧HvX w' A' l∧Upd No w w':=by
 subst hn hm hk;refine(ZuD H (Ztq (h:=⟨txs,ords,A,c,B,d⟩) n1 n2 _) (he▸Zop)).mono ?_;rintro e w' ⟨A',c',rfl,ho,hu⟩;exact⟨A',c',rfl,HvX.own ho,hu⟩
theorem ZtN{l:List Hvy}(hx:HvX w A l)(hl:l.length<=1000000)(hn:l.length=n){k:List Edge}(he:ZR l=k)(hm:k.length=m):
  Calls Tryz.prog 23 #[.slice A n c] w fun e w'=>∃A' c',e= .returned (.slice A' m c')∧EdX w' A' k∧Upd No w w':=by
 subst hn hm he;obtain⟨F,hx⟩:=hx;refine(ZuC F w A c l hx hl).mono ?_;rintro e w' ⟨A',c',rfl,ho,hu⟩;exact⟨A',c',rfl,⟨_,Recs.of_own Zao (by omega) ho⟩,hu⟩
end
section
variable {F:Gt} {w:Gy} {txs:List HTx} {ords:Gq} {A:OA} {c:Nat} {B:OA} {d:Nat} {n m:Nat}
theorem Zm7(H:Hist.lies F w ⟨txs,ords,A,c,B,d⟩)(n1:txs.length<=12)(n2:∀t∈txs,t.ops.length<=24){l:List Hvy}(he:ZB ⟨txs,ords,A,c,B,d⟩=l):
  Calls Tryz.prog 31 #[.agg #[.slice A txs.length c,.slice B ords.length d]] w fun e w'=>∃A' c',e= .returned (.slice A' l.length c')∧HvX w' A' l∧Upd No w w':=by
 subst he;refine(Zq8 F w txs ords A c B d H n1 n2).mono ?_;rintro e w' ⟨A',c',rfl,ho,hu⟩;exact⟨A',c',rfl,HvX.own ho,hu⟩
theorem Zm6{l:List Hvy}(hx:HvX w A l)(hl:l.length<=1000000):
  Calls Tryz.prog 30 #[.slice A l.length c] w fun e w'=>∃A' c',e= .returned (.slice A' (ZR l).length c')∧EdX w' A' (ZR l)∧Upd No w w':=by
 obtain⟨F,hx⟩:=hx;refine(Zq7 F w A c l hx hl).mono ?_;rintro e w' ⟨A',c',rfl,ho,hu⟩;exact⟨A',c',rfl,⟨_,Recs.of_own Zao (by omega) ho⟩,hu⟩
end
