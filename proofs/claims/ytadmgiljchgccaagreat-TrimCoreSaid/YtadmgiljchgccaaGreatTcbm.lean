/- Edges of a history: dsg.list. -/
import Derived.Test.YtadmgiljchgccaaGreatTcaw
import Derived.Test.YtadmgiljchgccaaGreatTcbb
import Derived.Test.YtadmgiljchgccaaGreatTcbc
namespace Go.Proofs.YtadmgiljchgccaaGreat
open Go.RowKit
set_option linter.unusedVariables false
set_option linter.unusedSimpArgs false
set_option maxRecDepth 100000
set_option maxHeartbeats 8000000
structure Hvy where
 e:Edge
 n:Int
deriving DecidableEq
def Hvy.cells(h:Hvy):Ip:=[Qi h.e.f,Qi h.e.t,Qi h.e.k,Qi h.e.key,Qi h.n]
def Zic(l:List Hvy):Ip:=(l.map Hvy.cells).flatten
theorem Zu8{l:List Hvy}:∀r∈l.map Hvy.cells,r.length=5:=fun r hr=>by
 obtain⟨e,_,rfl⟩:=Ih.1 hr;rfl
theorem Zq8(l:List Hvy)(x:Hvy):Zic (l++[x])=Zic l++x.cells:=by unfold Zic;simp
def Hvys(F:Iw)(w:I0)(A:OA)(l:List Hvy):Prop:=Recs F w A 5 (l.map Hvy.cells)
theorem Hvys.upd{F S:Iw}{w w':I0}{A:OA}{l:List Hvy}(h:Hvys F w A l)(k:Upd S w w')(hn:∀i,F i->¬S i):Hvys F w' A l:=Recs.upd h k hn
theorem ZuJ:SlT Tryz.prog 80 128 5 40:=SlT.mk_ Tryz.underlying80 (z:= .agg #[Qi 0,Qi 0,Qi 0,Qi 0,Qi 0]) (by kernel_rfl) rfl (by omega)
def Zul(w:I0)(l:List Hvy)(e:Ending)(w':I0):Prop:=∃A c,e= .returned (.slice A l.length c)∧w'.ownsRow w.heap.size 128 5 (.slice A l.length c) l.length (Zic l)∧Upd No w w'
def hvL(g:Edge->Nat)(l:List Edge):List Hvy:=l.map fun e=>⟨e,(g e:Int)⟩
theorem Zs5{g:Edge->Nat}{l:List Edge}{k:Nat}{x:Edge}(hk:k<l.length)(hx:l[k]=x):hvL g (l.take (k+1))=hvL g (l.take k)++[⟨x,(g x:Int)⟩]:=by
 subst hx;unfold hvL;rw[Gb hk,Hu];rfl
theorem ZxB(w:I0)(bc:Nat)(mc:List (Edge×Iz))(g:Edge->Nat)(hm:MapE w bc Zaa mc)(hg:CntM mc g)(hl:mc.length<=1000000):
  Calls Tryz.prog 82 #[.map (some bc)] w (Zul w (hvL g (ddE (mc.map (·.1))))):=by
 obtain⟨es,wG⟩:=Qe (ddE (mc.map (·.1)));rw[wG];have Cu:=Qh wG;clear wG;obtain⟨w1,ap⟩:=Qe (w.alloc (.cells #[.map (some bc)] 130));have u1:Upd No w w1:=by rw[<-ap];exact(Il No w).alloc _
 have b1:Blk w1 w.heap.size 130 [.map (some bc)]:=by rw[<-ap];exact Im w _ _
 have HK:=Qh (Zxr w (some bc));rw[ap]at HK;have HC:=Qh (Zts w1 w.heap.size bc mc (by simpa using b1.cell 0) (hm.upd u1 id) hl);have HM:=Qh hm;have HG:=Qh hg;have fF:=Qh u1;have sW:=Qh (show(mc.map (·.1)).length<=1000000 by rw[Hw];exact hl);clear hm hg ap u1 b1;go_enter Tryz.func82,Tryz.ntmps82;go_wp2_with fail;refine(HK.out).mono ?_;rintro e w2 ⟨rfl,rfl⟩;go_wp2_with fail;refine(HC.out).mono ?_;rintro e w3 ⟨A3,c3,ks,rfl,eU,j6,hu3⟩;have HP:=Qh (Zw9 (Own (.slice A3 ks.length c3)) w3 A3 c3 ks (Recs.of_own Zbn (by omega) j6) (by have:=eU.length_eq;have:=sW.out;omega));rw[ZmT eU]at HP;have fW:=fF.out.trans hu3;clear eU j6 hu3
 have jn:es.length<=1000000:=by
  rw[<-Cu.out];have h1:=Zoj (ZbK (mc.map (·.1))) (mc.map (·.1)).length;have h2:=sW.out;unfold ddE;omega
 rw[Cu.out]at HP;go_wp2_with fail;refine(HP.out).mono ?_;rintro e w4 ⟨A4,c4,rfl,tE,hu4⟩;have tg:=Qh (fW.trans hu4);obtain⟨G4,tE⟩:=tE;have E6:=Qh tE;clear tE hu4 fW;go_wp2
 go_loopg [3,11] es.length (fun gk s i wr=>∃(k:Nat) (A5:OA) (c5:Nat) (xs:List Hvy),k+gk=es.length∧i= Qi k∧s= .slice A5 xs.length c5∧Hid (xs=hvL g (es.take k))∧Hid (wr.ownsRow w4.heap.size 128 5 (.slice A5 xs.length c5) xs.length (Zic xs))∧Upd No w4 wr)
 case atStart=>exact⟨0,none,0,[],by omega,rfl,rfl,Qh rfl,Qh (Ik _ _ _ _),Il _ _⟩
 case round=>
  obtain⟨k,A5,c5,xs,aI,rfl,rfl,hs,ae,hu⟩:=hrel;have hxl:xs.length<=1000000:=by rw[hs.out];unfold hvL;rw[Hw,Hm];omega
  by_cases hlt:k<es.length
  ·obtain⟨ax,rfl,q0,q1,q2,q3⟩:=Walk.at_ (Walk.upd E6.out hu Qo) hlt;obtain⟨x,eR⟩:=Qe (es[k]);rw[eR]at q0 q1 q2 q3;have HS:=Qh (show xs++[⟨x,(g x:Int)⟩]=hvL g (es.take (k+1)) by rw[hs.out];exact(Zs5 hlt eR).symm);have i1:(0:Int)<=(k:Int):=Qn _;have i2:(k:Int)<(es.length:Int):=by omega
   obtain⟨wx,aJ⟩:=Qe (wr.alloc (.cells #[Qi x.f,Qi x.t,Qi x.k,Qi x.key] 58));have ux:Upd No wr wx:=by rw[<-aJ];exact(Il No wr).alloc _
   have bo:Blk wx wr.heap.size 58 [Qi x.f,Qi x.t,Qi x.k,Qi x.key]:=by rw[<-aJ];exact Im wr _ _
   have d0:∀W,Upd (Own (.slice A5 xs.length c5)) wx W->W.cell? ⟨wr.heap.size,0,none⟩=some (Qi x.f):=fun W u=>by have:=(bo.upd u (fun e=>by have:=(ae.out.lt _ e).2;omega)).cell 0;simpa using this
   have d1:∀W,Upd (Own (.slice A5 xs.length c5)) wx W->W.cell? ⟨wr.heap.size,1,none⟩=some (Qi x.t):=fun W u=>by have:=(bo.upd u (fun e=>by have:=(ae.out.lt _ e).2;omega)).cell 1;simpa using this
   have d2:∀W,Upd (Own (.slice A5 xs.length c5)) wx W->W.cell? ⟨wr.heap.size,2,none⟩=some (Qi x.k):=fun W u=>by have:=(bo.upd u (fun e=>by have:=(ae.out.lt _ e).2;omega)).cell 2;simpa using this
   have d3:∀W,Upd (Own (.slice A5 xs.length c5)) wx W->W.cell? ⟨wr.heap.size,3,none⟩=some (Qi x.key):=fun W u=>by have:=(bo.upd u (fun e=>by have:=(ae.out.lt _ e).2;omega)).cell 3;simpa using this
   obtain⟨N,hN⟩:=Qe (g x);rw[hN]at HS;have ta:=Qh ((tg.out.trans hu).trans ux)
   have L1:∀W,Upd (Own (.slice A5 xs.length c5)) wx W->(Instr.lookup 130 (.map (some bc)) (.agg #[Qi x.f,Qi x.t,Qi x.k,Qi x.key]) false).run Tryz.prog W= .ok (Qi (N:Int)) W:=fun W u=>by
    have:=ZP ZbV Tryz.underlying130 ZaN ((HM.out.upd (S:=No) ta.out id).upd u (fun e=>by have h1:=(ae.out.lt _ e).1;have h2:=HM.out.lt;have h3:=tg.out.size;omega)).is x
    rwa [HG.out.val,hN]at this
   have HO:=Qh (Za ae.out ux Qo);have a9:=Qh (hu.trans ux);have lE:=Qh (show w4.heap.size<=wx.heap.size from(hu.trans ux).size);have hxz:Upd (Own (.slice A5 xs.length c5)) wx wx:=Il _ _;have Da:Upd No wx (wx.alloc (.cells #[Qi x.f,Qi x.t,Qi x.k,Qi x.key,Qi (N:Int)] 128)).drew:=((Il No wx).alloc _).drew;clear eR bo ux hN ae;go_wp2;refine wpS (fun W'=>Upd (Own (.slice A5 xs.length c5)) wx W') ?_ fun jH=>?_
   ·(first|exact(Il _ wx).drew|exact jH|exact jH.alloc _|exact aw)
   (iterate 4 refine wpF ?_);refine wpZ 4 rfl fun K hK=>?_;go_simp;refine hK.out _ _ ?_ fun jH=>?_
   ·(first|exact(Il _ wx).drew|exact jH|exact jH.alloc _|exact aw)
   try simp only[Qa]
   refine wpK 5 rfl ?_;refine wpZ 6 rfl fun K hK=>?_;go_simp;refine hK.out _ _ ?_ fun jH=>?_
   ·(first|exact(Il _ wx).drew|exact jH|exact jH.alloc _|exact aw)
   try simp only[Qa]
   refine wpZ 7 rfl fun K hK=>?_
   (first
  |(refine Zaq (by rfl) (by rfl) ZuJ (v:= .slice A5 xs.length c5) (n:=xs.length) (xs:=Zic xs) (cells:=[Qi x.f,Qi x.t,Qi x.k,Qi x.key,Qi (N:Int)]) (by rfl) (by rfl) (by exact Za HO.out Da Qo) rfl (by exact Zah) (by rfl) (by omega) (by omega) (by have:=lE.out;simp;omega) ?_;intro g6 c6 w6 ar hu6 cI cU;have aw:Upd (Own (.slice A5 xs.length c5)) wx w6:=jH.trans hu6))
   refine hK.out _ _ ?_ fun jH=>?_
   ·(first|exact(Il _ wx).drew|exact jH|exact jH.alloc _|exact aw)
   try simp only[Qa]
   refine wpK 8 rfl ?_;refine wpD (Ii ?_);have eh:=Qh jH;clear jH;go_wp2;go_roundg (gk-1)
   case measure=>omega
   case rel=>
    have aN:(xs++[(⟨x,(N:Int)⟩:Hvy)]).length=xs.length+1:=by simp
    exact⟨k+1,some ⟨g6,0,none⟩,c6,xs++[⟨x,(N:Int)⟩],by omega,by go_num,by rw[aN],HS,Qh (by rw[aN,Zq8];exact ar),a9.out.then_ eh.out (fun i e=>Or.inr (HO.out.lt i e).1)⟩
  ·obtain rfl:k=es.length:=by omega
   go_wp2;go_ret;have h1:=hs.out;rw[G7]at h1;subst h1;exact⟨A5,c5,rfl,ZK ae.out tg.out.size,tg.out.trans hu⟩
/- Edges of a history:dsg.Edges,Of,Count,Plain. -/
def Ztl(g:Edge->Nat):Prop:=∀mc:List (Edge×Iz),CntM mc g->mc.length<=1000000
def ZpK(g:Edge->Nat)(l:List Hvy):Prop:=∀mc:List (Edge×Iz),CntM mc g->hvL g (ddE (mc.map (·.1)))=l
section
variable {F:Iw} {w:I0} {txs:List HTx} {ords:List HOrd} {A:OA} {c:Nat} {B:OA} {d:Nat} {l:List Hvy}
theorem Zwt(H:Hist.lies F w ⟨txs,ords,A,c,B,d⟩)(hf:Ztl (Zei (fun _=>true) ⟨txs,ords,A,c,B,d⟩))(he:ZpK (Zei (fun _=>true) ⟨txs,ords,A,c,B,d⟩) l):
  Calls Tryz.prog 40 #[.agg #[.slice A txs.length c,.slice B ords.length d]] w (Zul w l):=by
 obtain⟨w1,ap⟩:=Qe (w.alloc (.cells #[.slice A txs.length c,.slice B ords.length d] 25));have u1:Upd No w w1:=by rw[<-ap];exact(Il No w).alloc _
 have b1:Blk w1 w.heap.size 25 [.slice A txs.length c,.slice B ords.length d]:=by rw[<-ap];exact Im w _ _
 have HC:=Qh (Zru F w1 txs ords A c B d (fun _=>true) (H.upd u1 Qo) (Qh (fun W key _=>Zvr W key)));obtain⟨d0,d1⟩:=b1.c2;have fF:=Qh u1;have HF:=Qh hf;have HE:=Qh he;clear b1 u1 hf he H;go_enter Tryz.func40,Tryz.ntmps40;go_wp2_with fail;refine(HC.out).mono ?_;rintro e w2 ⟨bc,mc,rfl,cN,hm,hg,hu2⟩;have HL:=Qh (ZxB w2 bc mc _ hm hg (HF.out mc hg));rw[HE.out mc hg]at HL;have dH:=fF.out.trans hu2;clear cN hm hg hu2;go_wp2_with fail;refine(HL.out).mono ?_;rintro e w3 ⟨A3,c3,rfl,j6,hu3⟩;go_wp2;go_ret;exact⟨A3,c3,rfl,ZK j6 dH.size,dH.trans hu3⟩
end
/- Edges of a history,the document's:those of a key,without counts;whether two lists are one. -/
theorem Hvys.at_{F:Iw}{w:I0}{A:OA}{l:List Hvy}(h:Hvys F w A l){k:Nat}(hk:k<l.length):∃ad,A=some ad∧
  w.cell? (ad.add (k*5))=some (Qi l[k].e.f)∧w.cell? ⟨(ad.add (k*5)).block,(ad.add (k*5)).off+1,none⟩=some (Qi l[k].e.t)∧
  w.cell? ⟨(ad.add (k*5)).block,(ad.add (k*5)).off+2,none⟩=some (Qi l[k].e.k)∧w.cell? ⟨(ad.add (k*5)).block,(ad.add (k*5)).off+3,none⟩=some (Qi l[k].e.key)∧
  w.cell? ⟨(ad.add (k*5)).block,(ad.add (k*5)).off+4,none⟩=some (Qi l[k].n):=by
 have dJ:k<(l.map Hvy.cells).length:=by simpa using hk
 obtain⟨ad,e,_,_,hc⟩:=Recs.at_ h dJ;rw[G8]at hc;exact⟨ad,e,by simpa using hc 0 _ rfl,by simpa using hc 1 _ rfl,by simpa using hc 2 _ rfl,by simpa using hc 3 _ rfl,by simpa using hc 4 _ rfl⟩
def ZM(l:List Hvy):List Edge:=l.map (·.e)
theorem Znh{l:List Hvy}{k:Nat}{x:Hvy}(hk:k<l.length)(hx:l[k]=x):ZM (l.take (k+1))=ZM (l.take k)++[x.e]:=by
 subst hx;unfold ZM;rw[Gb hk,Hu];rfl
def Zhi(l:List Edge):Ip:=(l.map Edge.cells).flatten
theorem ZoF(xs:List Edge)(e:Edge):Zhi (xs++[e])=Zhi xs++e.cells:=by unfold Zhi;simp
def ZxQ(w:I0)(l:List Edge)(e:Ending)(w':I0):Prop:=∃A c,e= .returned (.slice A l.length c)∧w'.ownsRow w.heap.size 58 4 (.slice A l.length c) l.length (Zhi l)∧Upd No w w'
theorem Zws(F:Iw)(w:I0)(A:OA)(c:Nat)(l:List Hvy)(h:Hvys F w A l)(hl:l.length<=1000000):Calls Tryz.prog 39 #[.slice A l.length c] w (ZxQ w (ZM l)):=by
 go_enter Tryz.func39,Tryz.ntmps39;go_wp2
 go_loopg [3,8] l.length (fun gk s i wr=>∃(k:Nat) (A5:OA) (c5:Nat) (xs:List Edge),k+gk=l.length∧i= Qi k∧s= .slice A5 xs.length c5∧Hid (xs=ZM (l.take k))∧Hid (wr.ownsRow w.heap.size 58 4 (.slice A5 xs.length c5) xs.length (Zhi xs))∧Upd No w wr)
 case atStart=>exact⟨0,none,0,[],by omega,rfl,rfl,Qh rfl,Qh (Ik _ _ _ _),Il _ _⟩
 case round=>
  obtain⟨k,A5,c5,xs,aI,rfl,rfl,hs,ae,hu⟩:=hrel;have hxl:xs.length<=1000000:=by rw[hs.out];unfold ZM;rw[Hw,Hm];omega
  by_cases hlt:k<l.length
  ·obtain⟨ax,rfl,q0,q1,q2,q3,q4⟩:=(h.upd hu Qo).at_ hlt;obtain⟨⟨⟨xf,xt,xk,xy⟩,xn⟩,eR⟩:∃x,l[k]=x:=⟨_,rfl⟩;rw[eR]at q0 q1 q2 q3 q4;simp only at q0 q1 q2 q3 q4;have i1:(0:Int)<=(k:Int):=Qn _;have i2:(k:Int)<(l.length:Int):=by omega
   obtain⟨wx,aJ⟩:=Qe (wr.alloc (.cells #[Qi xf,Qi xt,Qi xk,Qi xy,Qi xn] 128));have ux:Upd No wr wx:=by rw[<-aJ];exact(Il No wr).alloc _
   have bo:Blk wx wr.heap.size 128 [Qi xf,Qi xt,Qi xk,Qi xy,Qi xn]:=by rw[<-aJ];exact Im wr _ _
   obtain⟨d0,d1,d2,d3,d4⟩:=bo.c5;have a9:=Qh (hu.trans ux);have HO:=Qh (Za ae.out ux Qo);have dE:=(hu.trans ux).size;have HS:=Qh (show xs++[⟨xf,xt,xk,xy⟩]=ZM (l.take (k+1)) by rw[hs.out];exact(Znh hlt eR).symm);clear eR bo ux ae;go_wp2_with (at_builtin;refine ZbG rfl rfl ZbY (base:=w.heap.size) (v:= .slice A5 xs.length c5) (n:=xs.length) (xs:=Zhi xs) (cells:=[Qi xf,Qi xt,Qi xk,Qi xy]) (by rfl) (by rfl) HO.out rfl rfl (by omega) (by omega) (by omega) ?_;intro g9 c9 w9 aO aL fI eG);go_roundg (gk-1)
   case measure=>omega
   case rel=>
    have aN:(xs++[(⟨xf,xt,xk,xy⟩:Edge)]).length=xs.length+1:=by simp
    exact⟨k+1,some ⟨g9,0,none⟩,c9,xs++[⟨xf,xt,xk,xy⟩],by omega,by go_num,by rw[aN],HS,Qh (by rw[aN,ZoF];exact aO),a9.out.then_ aL (fun i e=>Or.inr (HO.out.lt i e).1)⟩
  ·obtain rfl:k=l.length:=by omega
   go_wp2;go_ret;have h1:=hs.out;rw[G7]at h1;subst h1;exact⟨A5,c5,rfl,ae.out,hu⟩
/- Edges of a history,the document's:all keys;all edges. -/
def opK(l:Is):Iv:=l.map (·.key)
def txK(txs:List HTx):Iv:=txs.flatMap fun t=>opK t.ops
def Zcf(txs:List HTx):Iv:=ZdG [] (txK txs)
/-! all edges -/
def hrB(h:Hist)(a kind key:Int)(bs:List HTx):List Hvy:=bs.flatMap fun b=>if 0<Zap h ⟨a,b.id,kind,key⟩ then [⟨⟨a,b.id,kind,key⟩,(Zap h ⟨a,b.id,kind,key⟩:Int)⟩] else []
def hrK(h:Hist)(a kind:Int)(ks:Iv):List Hvy:=ks.flatMap fun key=>hrB h a kind key h.txs
def hrN(h:Hist)(a:Int):Nat->List Hvy
 |0=>[]
 |n+1=>hrN h a n++hrK h a ((n:Int)+1) (Zcf h.txs)
def hrA(h:Hist)(ts:List HTx):List Hvy:=ts.flatMap fun t=>hrN h t.id 3
def ZB(h:Hist):List Hvy:=if Zb h=true then hrA h h.txs else []
/- Histories by what they hold:nothing hangs on where it lies. -/
section
variable (l:List HTx) (m:List HOrd)
theorem Zfd(i:Int):Ze (l.map HTx.nrm) i=(Ze l i).map HTx.nrm:=by unfold Ze;rw[List.find?_map];rfl
theorem Ztc:Zam (l.map HTx.nrm)=Zam l:=by
 funext v;unfold Zam;rw[Zfd]
 cases Ze l v.tx<;>rfl
theorem Znl:Za0 (l.map HTx.nrm)=Za0 l:=by
 funext a b;unfold Za0;rw[Ztc]
theorem Zr9:Zdf (l.map HTx.nrm)=Zdf l:=by
 funext i;unfold Zdf;rw[List.getElem?_map,Znl]
 cases h:l[i]? with
 |none=>rfl
 |some t=>
  cases i with
  |zero=>rfl
  |succ j=>
   simp only[Option.map_some,List.getElem?_map]
   cases l[j]? <;>rfl
theorem ZpQ(s:Iv):ZE (l.map HTx.nrm) s=ZE l s:=by
 induction l generalizing s with
 |nil=>rfl
 |cons t l ih=>exact ih _
theorem Zlh:Zj (l.map HTx.nrm)=Zj l:=by
 funext k;unfold Zj;rw[List.filter_map,List.map_map];rfl
theorem Zqy:Zb4 (l.map HTx.nrm) (m.map HOrd.nrm)=Zb4 l m:=by
 funext i;unfold Zb4;rw[List.getElem?_map,Zlh]
 cases h:m[i]? with
 |none=>rfl
 |some t=>
  cases i with
  |zero=>rfl
  |succ j=>
   simp only[Option.map_some,List.getElem?_map]
   cases m[j]? <;>rfl
theorem ZkZ(i:Int):Zh (l.map HTx.nrm) i=(Zh l i).map HTx.nrm:=by
 unfold Zh;rw[Zfd]
 cases Ze l i with
 |none=>rfl
 |some t=>
  show(if t.done then some t.nrm else none)=_
  cases h:t.done<;>simp[h]
theorem ZtI(t:HTx)(p:Int):Zcp (l.map HTx.nrm) t.nrm p=Zcp l t p:=by
 funext o;unfold Zcp;rw[Zfd]
 cases Ze l o.tx<;>rfl
theorem Zld(t:HTx)(p:Int):∀(ops:Is) (i:Nat) (acc:Ir),Zce (l.map HTx.nrm) p t.nrm i acc ops=Zce l p t i acc ops
 |[],_,_=>rfl
 |o::ops,i,acc=>by
  show Zce (l.map HTx.nrm) p t.nrm (i+1) (if Zcp (l.map HTx.nrm) t.nrm p o then acc++[⟨t.id,i,Zk o⟩] else acc) ops=_
  rw[ZtI,Zld t p ops];rfl
theorem Zle(p:Int):∀(n:List HTx) (acc:Ir),ZcY (l.map HTx.nrm) p acc (n.map HTx.nrm)=ZcY l p acc n
 |[],_=>rfl
 |t::n,acc=>by
  show ZcY (l.map HTx.nrm) p (Zce (l.map HTx.nrm) p t.nrm 0 acc t.ops) (n.map HTx.nrm)=_
  rw[Zld,Zle p n];rfl
theorem Znj:ZaA (m.map HOrd.nrm)=ZaA m:=by
 funext k
 have h:Zcm (m.map HOrd.nrm) k=Zcm m k:=by unfold Zcm;rw[List.findIdx_map];rfl
 unfold ZaA;rw[h,List.getElem?_map]
 cases m[Zcm m k]? <;>rfl
theorem Zkw:Zav (m.map HOrd.nrm)=Zav m:=by
 funext k x y;unfold Zav;rw[Znj]
theorem ZqY:ZU (l.map HTx.nrm)=ZU l:=by
 funext v;unfold ZU;rw[ZkZ]
 cases Zh l v.tx<;>rfl
theorem ZuA:txK (l.map HTx.nrm)=txK l:=by unfold txK;rw[List.flatMap_map];rfl
end
section
variable (h:Hist)
theorem ZdF:Zb h.nrm=Zb h:=by
 unfold Zb Hist.nrm;simp only[Hw,Zr9,ZpQ,Zqy]
theorem ZrM(p:Int):ZW h.nrm p=ZW h p:=by
 unfold ZW;rw[ZdF];exact congrArg (fun x=>if Zb h=true then x else []) (Zle _ _ _ _)
theorem Zv1:p3 h.nrm=p3 h:=by
 funext a b c d;unfold p3 Hist.nrm;simp only[ZqY,Zkw]
theorem ZtA:Zap h.nrm=Zap h:=by
 funext e;unfold Zap
 rw[Zv1];simp only[Hist.nrm,ZkZ,Zkw]
 cases Zh h.txs e.f<;>cases Zh h.txs e.t<;>rfl
theorem Zvb(a k key:Int)(bs:List HTx):hrB h.nrm a k key (bs.map HTx.nrm)=hrB h a k key bs:=by
 unfold hrB;rw[ZtA,List.flatMap_map];rfl
theorem Zva(a k:Int)(ks:Iv):hrK h.nrm a k ks=hrK h a k ks:=by
 unfold hrK;have:∀key,hrB h.nrm a k key h.nrm.txs=hrB h a k key h.txs:=fun key=>Zvb h a k key h.txs
 simp only[this]
theorem Zn2(a:Int):∀n,hrN h.nrm a n=hrN h a n
 |0=>rfl
 |n+1=>by
  show hrN h.nrm a n++hrK h.nrm a ((n:Int)+1) (Zcf h.nrm.txs)=_
  rw[Zn2 a n,Zva];have:Zcf h.nrm.txs=Zcf h.txs:=by unfold Zcf;exact congrArg _ (ZuA _)
  rw[this];rfl
theorem Zpg:ZB h.nrm=ZB h:=by
 unfold ZB hrA;rw[ZdF];simp only[Zn2];have:(h.nrm.txs.flatMap fun t=>hrN h t.id 3)=h.txs.flatMap fun t=>hrN h t.id 3:=List.flatMap_map ..
 rw[this]
theorem Zi6:Zd h.nrm=Zd h:=by
 unfold Zd Hist.nrm;simp only[Hw,List.all_map];rfl
end
/- Edges of a history,in plain words:what is counted is what the document counts. -/
theorem ZjN(key:Int)(e:Edge):∀l:Iv,e∈wwO key l↔e.k=1∧e.key=key∧∃i:Nat,l[i]? =some e.f∧l[i+1]? =some e.t
 |[]=>by simp[wwO]
 |[a]=>by
  simp[wwO]
 |a::b::l=>by
  have ih:=ZjN key e (b::l)
  show e∈[⟨a,b,1,key⟩]++wwO key (b::l)↔_
  rw[Ib,Gq,ih]
  constructor
  ·rintro(rfl|⟨h1,h2,i,h3,h4⟩)
   ·exact⟨rfl,rfl,0,rfl,rfl⟩
   ·exact⟨h1,h2,i+1,h3,h4⟩
  ·rintro⟨h1,h2,i,h3,h4⟩
   cases i with
   |zero=>
    left
    simp at h3 h4;obtain⟨ef,et,ek,ey⟩:=e;simp only at h1 h2 h3 h4;subst h1 h2 h3 h4;rfl
   |succ i=>exact Or.inr ⟨h1,h2,i,h3,h4⟩
theorem Zu0(cnt:Int->Bool)(ords:List HOrd)(e:Edge):e∈wwL cnt ords↔e.k=1∧cnt e.key=true∧∃o∈ords,o.key=e.key∧∃i:Nat,o.txs[i]? =some e.f∧o.txs[i+1]? =some e.t:=by
 unfold wwL;rw[List.mem_flatMap]
 constructor
 ·rintro⟨o,ho,h⟩;unfold wwC at h
  split at h
  ·rename_i hc
   obtain⟨h1,h2,h3⟩:=(ZjN _ _ _).1 h;exact⟨h1,by rw[h2];exact hc,o,ho,h2.symm,h3⟩
  ·cases h
 ·rintro⟨h1,h2,o,ho,h3,h4⟩;refine⟨o,ho,?_⟩;unfold wwC;rw[if_pos (by rw[h3];exact h2)];exact(ZjN _ _ _).2 ⟨h1,h3.symm,h4⟩
/-! what was laid last -/
theorem Zi7(p:Int×Int):∀(L:List ((Int×Int)×Int)) (a:Int),(∀e∈L,e.1≠p)->L.foldl (fun a e=>if e.1=p then e.2 else a) a=a
 |[],_,_=>rfl
 |e::L,a,h=>by
  rw[List.foldl_cons,if_neg (h e (Gv ..))];exact Zi7 p L a fun x hx=>h x (Gk _ hx)
theorem ZkJ(p:Int×Int)(v:Int):∀(L:List ((Int×Int)×Int)) (a:Int),(∀e∈L,e.1=p->e.2=v)->(a=v∨∃e∈L,e.1=p)->L.foldl (fun a e=>if e.1=p then e.2 else a) a=v
 |[],a,_,h=>by
  rcases h with h|⟨e,he,_⟩
  ·exact h
  ·cases he
 |e::L,a,h,h2=>by
  rw[List.foldl_cons];refine ZkJ p v L _ (fun x hx=>h x (Gk _ hx)) ?_
  by_cases hp:e.1=p
  ·rw[if_pos hp];exact Or.inl (h e (Gv ..) hp)
  ·rw[if_neg hp];rcases h2 with h2|⟨x,hx,Cx⟩
   ·exact Or.inl h2
   ·rcases Ie.1 hx with rfl|hx
    ·exact absurd Cx hp
    ·exact Or.inr ⟨x,hx,Cx⟩
theorem ZgL(key:Int)(e:(Int×Int)×Int):∀(l:Iv) (a:Int),e∈Zbd key a l↔e.1.1=key∧∃i:Nat,(a::l)[i]? =some e.1.2∧l[i]? =some e.2
 |[],a=>by simp[Zbd]
 |x::l,a=>by
  show e∈((key,a),x)::Zbd key x l↔_
  rw[Ie,ZgL key e l x]
  constructor
  ·rintro(rfl|⟨h1,i,h2,h3⟩)
   ·exact⟨rfl,0,rfl,rfl⟩
   ·exact⟨h1,i+1,h2,h3⟩
  ·rintro⟨h1,i,h2,h3⟩
   cases i with
   |zero=>
    left
    obtain⟨⟨e1,e2⟩,e3⟩:=e;simp at h1 h2 h3;subst h1 h2 h3;rfl
   |succ i=>exact Or.inr ⟨h1,i,h2,h3⟩
def Nx(ords:List HOrd)(key x y:Int):Prop:=∃o∈ords,o.key=key∧∃i:Nat,(0::o.txs)[i]? =some x∧o.txs[i]? =some y
theorem ZgM(ords:List HOrd)(key x y:Int):((key,x),y)∈ZL ords↔Nx ords key x y:=by
 unfold ZL Nx;rw[List.mem_flatMap]
 constructor
 ·rintro⟨o,ho,h⟩;obtain⟨h1,h2⟩:=(ZgL _ _ _ _).1 h;exact⟨o,ho,h1.symm,h2⟩
 ·rintro⟨o,ho,h1,h2⟩;exact⟨o,ho,(ZgL _ _ _ _).2 ⟨h1.symm,h2⟩⟩
section
variable {h:Hist}
theorem Zfk(hr:Zb h=true){i:Nat}(hi:i<h.ords.length):Zb4 h.txs h.ords i=true:=by
 unfold Zb at hr;simp only[Hj,Hd,Ic]at hr;exact hr.2 i hi
theorem Zde(hr:Zb h=true):(h.ords.map (·.key)).Pairwise (·<·):=ZnG fun j hj=>by
 rw[Hw]at hj;have:=((ZhV hj).1 (Zfk hr hj)).1 j rfl;rw[show(h.ords.map (·.key)).getD (j+1) 0=h.ords[j+1].key by rw[List.getD_eq_getElem?_getD,List.getElem?_map,Qg hj];rfl];exact this
theorem ZaY(hr:Zb h=true){o:HOrd}(ho:o∈h.ords):o.txs.Perm (Zj h.txs o.key):=by
 obtain⟨j,hj,rfl⟩:=Gl.1 ho;have:=((ZhV hj).1 (Zfk hr hj)).2.2;rw[ZlZ,beq_iff_eq]at this;exact(Zat _).symm.trans (this▸Zat _)
theorem Zfl(hr:Zb h=true):(h.txs.map (·.id)).Nodup:=ZoI (Zbf hr)
theorem ZiI(hr:Zb h=true){o:HOrd}(ho:o∈h.ords):o.txs.Nodup:=by
 refine(ZaY hr ho).nodup_iff.2 ?_;unfold Zj;exact(Zfl hr).sublist (List.filter_sublist.map _)
theorem Zdd(hr:Zb h=true){o:HOrd}(ho:o∈h.ords){x:Int}(hx:x∈o.txs):∃t,Zh h.txs x=some t∧1<=x:=by
 have h1:=(ZaY hr ho).mem_iff.1 hx;unfold Zj at h1;obtain⟨t,ht,rfl⟩:=Ih.1 h1;rw[Hy,Hj]at ht;refine⟨t,?_,ZfY hr ht.1⟩;unfold Zh;rw[ZfZ hr ht.1];simp[ht.2.1]
theorem Zgw(hr:Zb h=true){o u:HOrd}(ho:o∈h.ords)(hu:u∈h.ords)(hk:o.key=u.key):o=u:=by
 obtain⟨i,hi,rfl⟩:=Gl.1 ho;obtain⟨j,hj,rfl⟩:=Gl.1 hu;have hp:=List.pairwise_iff_getElem.1 (Zde hr);rcases Nat.lt_trichotomy i j with h1|h1|h1
 ·have:=hp i j (by simpa using hi) (by simpa using hj) h1;simp only[G8]at this;omega
 ·subst h1;rfl
 ·have:=hp j i (by simpa using hj) (by simpa using hi) h1;simp only[G8]at this;omega
theorem Ze5{l:Iv}(hn:l.Nodup){i j:Nat}{x:Int}(h1:l[i]? =some x)(h2:l[j]? =some x):i=j:=by
 obtain⟨hi,e1⟩:=List.getElem?_eq_some_iff.1 h1;obtain⟨hj,e2⟩:=List.getElem?_eq_some_iff.1 h2;exact(List.getElem_inj hn).1 (e1.trans e2.symm)
theorem Zdh(hr:Zb h=true){o:HOrd}(ho:o∈h.ords):(0::o.txs).Nodup:=by
 refine H3.2 ⟨fun hm=>?_,ZiI hr ho⟩;obtain⟨_,_,h1⟩:=Zdd hr ho hm;omega
theorem Nx.one(hr:Zb h=true){key x y z:Int}(h1:Nx h.ords key x y)(h2:Nx h.ords key x z):y=z:=by
 obtain⟨o,ho,hk,i,hi,hy⟩:=h1;obtain⟨u,hu,hk2,j,hj,hz⟩:=h2;obtain rfl:=Zgw hr ho hu (hk.trans hk2.symm);obtain rfl:=Ze5 (Zdh hr ho) hi hj;rw[hy]at hz;exact Option.some.inj hz
theorem Nx.ids(hr:Zb h=true){key x y:Int}(h1:Nx h.ords key x y):(∃t,Zh h.txs y=some t)∧1<=y∧x≠y∧(x=0∨∃t,Zh h.txs x=some t):=by
 obtain⟨o,ho,hk,i,hi,hy⟩:=h1;obtain⟨t,ht,h2⟩:=Zdd hr ho (Gn hy);refine⟨⟨t,ht⟩,h2,fun e=>?_,?_⟩
 ·subst e;have h3:(0::o.txs)[i+1]? =some x:=hy;have:=Ze5 (Zdh hr ho) hi h3;omega
 ·cases i with
  |zero=>left;simpa using hi.symm
  |succ i=>
   right
   obtain⟨t2,io,_⟩:=Zdd hr ho (Gn (show o.txs[i]? =some x from hi));exact⟨t2,io⟩
theorem ZnT(hr:Zb h=true)(key x:Int):(Zaf (ZL h.ords) (key,x)=0∧∀y,¬Nx h.ords key x y)∨Nx h.ords key x (Zaf (ZL h.ords) (key,x)):=by
 by_cases hx:∃y,Nx h.ords key x y
 ·obtain⟨y,hy⟩:=hx
  right
  have:Zaf (ZL h.ords) (key,x)=y:=by
   unfold Zaf;refine ZkJ (key,x) y _ 0 (fun e he hp=>?_) (Or.inr ⟨((key,x),y),(ZgM _ _ _ _).2 hy,rfl⟩);obtain⟨p,v⟩:=e;simp only at hp;subst hp;exact Nx.one hr ((ZgM _ _ _ _).1 he) hy
  rw[this];exact hy
 ·left
  refine⟨?_,fun y hy=>hx ⟨y,hy⟩⟩;unfold Zaf;refine Zi7 (key,x) _ 0 fun e he hp=>hx ⟨e.2,?_⟩
  obtain⟨p,v⟩:=e;simp only at hp;subst hp;exact(ZgM _ _ _ _).1 he
theorem Zmr(hr:Zb h=true)(key x y:Int)(hy:y≠0):Zaf (ZL h.ords) (key,x)=y↔Nx h.ords key x y:=by
 rcases ZnT hr key x with ⟨h1,h2⟩|h1
 ·rw[h1];exact⟨fun e=>absurd e.symm hy,fun e=>absurd e (h2 y)⟩
 ·constructor
  ·intro e;rw[<-e];exact h1
  ·intro e;exact Nx.one hr h1 e
theorem Zl3(hr:Zb h=true){o:HOrd}(ho:o∈h.ords):ZaA h.ords o.key=o.txs:=by
 obtain⟨k,hk,rfl⟩:=Gl.1 ho;have hp:=List.pairwise_iff_getElem.1 (Zde hr)
 have:Zcm h.ords h.ords[k].key=k:=ZlW hk (fun j hj=>by
  have:=hp j k (by simp;omega) (by simpa using hk) hj;simp only[G8]at this;rw[beq_eq_false_iff_ne];omega) (by simp)
 unfold ZaA;rw[this,Qg hk]
theorem Zl4{key:Int}(hn:∀o∈h.ords,o.key≠key):ZaA h.ords key=[]:=by
 have:Zcm h.ords key=h.ords.length:=by
  unfold Zcm;rw[List.findIdx_eq_length];intro o ho
  simpa using hn o ho
 unfold ZaA;rw[this,List.getElem?_eq_none (Nat.le_refl _)]
theorem ZqF{l:Iv}(hn:(0::l).Nodup)(x y:Int):ZbL l x=some y↔∃i:Nat,(0::l)[i]? =some x∧l[i]? =some y:=by
 unfold ZbL
 by_cases h0:x=0
 ·subst h0;rw[if_pos rfl]
  constructor
  ·intro h;exact⟨0,rfl,h⟩
  ·rintro⟨i,h1,h2⟩;obtain rfl:=Ze5 hn h1 (show(0::l)[0]? =some 0 from rfl);exact h2
 ·rw[if_neg h0]
  by_cases hm:x∈l
  ·obtain⟨k,hk,hx⟩:=Gl.1 hm
   have aA:Zr l x<l.length:=by
    unfold Zr;rw[List.findIdx_lt_length];exact⟨x,hm,by simp⟩
   have qp:l[Zr l x]? =some x:=by
    have:=List.findIdx_getElem (p:=(·==x)) (xs:=l) (w:=aA);rw[beq_iff_eq]at this;rw[Qg aA];exact congrArg some this
   rw[if_pos aA]
   constructor
   ·intro h;exact⟨Zr l x+1,qp,h⟩
   ·rintro⟨i,h1,h2⟩;have:=Ze5 hn h1 (show(0::l)[Zr l x+1]? =some x from qp);rw[<-this];exact h2
  ·have aA:¬Zr l x<l.length:=by
    unfold Zr;rw[List.findIdx_lt_length];rintro⟨z,hz,e⟩;simp at e;subst e;exact hm hz
   rw[if_neg aA]
   constructor
   ·intro h;cases h
   ·rintro⟨i,h1,h2⟩
    cases i with
    |zero=>exact absurd (by simpa using h1.symm) h0
    |succ i=>exact absurd (Gn (show l[i]? =some x from h1)) hm
theorem ZcG(hr:Zb h=true)(key x y:Int):Zav h.ords key x y=true↔Nx h.ords key x y:=by
 unfold Zav;rw[beq_iff_eq]
 by_cases hk:∃o∈h.ords,o.key=key
 ·obtain⟨o,ho,rfl⟩:=hk;rw[Zl3 hr ho,ZqF (Zdh hr ho)]
  constructor
  ·intro h1;exact⟨o,ho,rfl,h1⟩
  ·rintro⟨u,hu,hk,h1⟩;obtain rfl:=Zgw hr hu ho hk;exact h1
 ·rw[Zl4 (fun o ho e=>hk ⟨o,ho,e⟩)]
  constructor
  ·intro h1;unfold ZbL Zr at h1;simp at h1
  ·rintro⟨u,hu,hk2,_⟩;exact absurd ⟨u,hu,hk2⟩ hk
end
/- Edges of a history,in plain words:each is counted as often as the document counts it. -/
section
variable {β:Type} [DecidableEq β]
theorem Zg5(f:HTx->List β)(a:β):∀ts:List HTx,(∀u∈ts,ZD (f u) a=0)->ZD (ts.flatMap f) a=0
 |[],_=>rfl
 |u::ts,h=>by
  rw[List.flatMap_cons,Za3,h u (Gv ..),Zg5 f a ts fun x hx=>h x (Gk _ hx)]
theorem Zg6(f:HTx->List β)(a:β):∀ts:List HTx,(ts.map (·.id)).Nodup->∀t∈ts,(∀u∈ts,u.id≠t.id->ZD (f u) a=0)->ZD (ts.flatMap f) a=ZD (f t) a
 |[],_,_,ht,_=>by cases ht
 |u::ts,hn,t,ht,h=>by
  rw[Id,H3]at hn;rw[List.flatMap_cons,Za3];rcases Ie.1 ht with rfl|ht
  ·rw[Zg5 f a ts fun x hx=>h x (Gk _ hx) fun e=>hn.1 (e▸Ih.2 ⟨x,hx,rfl⟩)];rfl
  ·rw[h u (Gv ..) fun e=>hn.1 (e▸Ih.2 ⟨t,ht,rfl⟩),Zg6 f a ts hn.2 t ht fun x hx=>h x (Gk _ hx)];omega
end
theorem Zk8(id key:Int):∀l:Is,ZD (ZbN id l) (id,key)=(l.filter (isW key)).length
 |[]=>rfl
 |o::l=>by
  have ih:=Zk8 id key l;unfold ZbN at ih ⊢
  by_cases h:isW key o=true
  ·have h2:(!o.read)=true∧o.key=key:=by unfold isW at h;simpa using h
   rw[List.filter_cons_of_pos (p:=fun o:HOp=> !o.read) h2.1,List.filter_cons_of_pos h,Id,G1,<-ih];have:=Za3 [(id,o.key)] ((l.filter fun o=> !o.read).map fun o=>(id,o.key)) (id,key);rw[List.singleton_append]at this;rw[this,ZeW,if_pos (by rw[h2.2])];omega
  ·rw[List.filter_cons_of_neg h,<-ih]
   by_cases hr:(!o.read)=true
   ·rw[List.filter_cons_of_pos (p:=fun o:HOp=> !o.read) hr,Id];have:=Za3 [(id,o.key)] ((l.filter fun o=> !o.read).map fun o=>(id,o.key)) (id,key);rw[List.singleton_append]at this;rw[this,ZeW,if_neg (fun e=>h (by unfold isW;rw[hr];simp[(Prod.mk.inj e).2]))];omega
   ·rw[List.filter_cons_of_neg (p:=fun o:HOp=> !o.read) hr]
theorem ZmW(id i key:Int)(hne:id≠i)(l:Is):ZD (ZbN id l) (i,key)=0:=by
 unfold ZD ZbN;rw[List.length_eq_zero_iff,List.filter_eq_nil_iff];intro x hx;obtain⟨o,_,rfl⟩:=Ih.1 hx;simp[hne]
section
variable {h:Hist}
theorem ZeU(hr:Zb h=true)(i:Int):i∈ZV h.txs↔∃t,Zh h.txs i=some t:=by
 unfold ZV;rw[Ih]
 constructor
 ·rintro⟨t,ht,rfl⟩;rw[Hy]at ht;refine⟨t,?_⟩;unfold Zh;rw[ZfZ hr ht.1];simp[ht.2]
 ·rintro⟨t,ht⟩;have h1:=ZaK ht;have h2:=Zck h1.1;exact⟨t,Hy.2 ⟨h2.1,h1.2⟩,h2.2⟩
theorem Zg1{i:Int}{t:HTx}(ht:Zh h.txs i=some t):t∈h.txs.filter (·.done)∧t.id=i:=by
 have h1:=ZaK ht;have h2:=Zck h1.1;exact⟨Hy.2 ⟨h2.1,h1.2⟩,h2.2⟩
theorem Zjm(hr:Zb h=true):((h.txs.filter (·.done)).map (·.id)).Nodup:=(Zfl hr).sublist (List.filter_sublist.map _)
theorem ZfM(hr:Zb h=true){i:Int}{t:HTx}(ht:Zh h.txs i=some t)(key:Int):ZD (Zn h.txs) (i,key)=Z9 t.ops key:=by
 obtain⟨h1,rfl⟩:=Zg1 ht;unfold Zn;rw[Zg6 (fun t=>ZbN t.id t.ops) (t.id,key) _ (Zjm hr) t h1 (fun u _ hne=>ZmW _ _ _ hne _),Zk8];unfold Z9 wrN;rw[G7]
def ZfD(h:Hist)(o:HOp):Prop:=o.tx=0∨(o.tx∈ZV h.txs∧(ZD (Zn h.txs) (o.tx,o.key):Int)=o.nth)
instance (o:HOp):Decidable (ZfD h o):=inferInstanceAs (Decidable (_∨_))
theorem Zi8(hr:Zb h=true)(o:HOp):ZfD h o↔ZU h.txs ⟨o.tx,o.key,o.nth⟩=true:=by
 unfold ZfD ZU
 by_cases h0:o.tx=0
 ·simp[h0]
 ·rw[if_neg h0,ZeU hr]
  cases hd:Zh h.txs o.tx with
  |none=>simp[h0]
  |some t=>
   have:=ZfM hr hd o.key;rw[this];simp[h0];exact eq_comm
theorem Zqm(ti:Int)(o:HOp)(e:Edge):ZD (Z2 (ZV h.txs) (Zn h.txs) (ZL h.ords) ti o) e=
  (if (o.tx≠ti∧ZfD h o)∧o.tx≠0∧e=⟨o.tx,ti,2,o.key⟩ then 1 else 0)+if (o.tx≠ti∧ZfD h o)∧(Zaf (ZL h.ords) (o.key,o.tx)≠0∧Zaf (ZL h.ords) (o.key,o.tx)≠ti)∧e=⟨ti,Zaf (ZL h.ords) (o.key,o.tx),3,o.key⟩ then 1 else 0:=by
 unfold Z2 ZfD
 by_cases h1:o.tx=ti
 ·rw[if_pos h1,if_neg (fun h=>h.1.1 h1),if_neg (fun h=>h.1.1 h1),ZcI]
 ·rw[if_neg h1]
  by_cases h2:o.tx≠0∧o.tx∉ZV h.txs
  ·rw[if_pos h2,ZcI,if_neg,if_neg]
   ·rintro⟨⟨_,h3|h3⟩,_⟩
    ·exact h2.1 h3
    ·exact h2.2 h3.1
   ·rintro⟨⟨_,h3|h3⟩,_⟩
    ·exact h2.1 h3
    ·exact h2.2 h3.1
  ·rw[if_neg h2]
   by_cases h3:o.tx≠0∧(ZD (Zn h.txs) (o.tx,o.key):Int)≠o.nth
   ·rw[if_pos h3,ZcI,if_neg,if_neg]
    ·rintro⟨⟨_,h4|h4⟩,_⟩
     ·exact h3.1 h4
     ·exact h3.2 h4.2
    ·rintro⟨⟨_,h4|h4⟩,_⟩
     ·exact h3.1 h4
     ·exact h3.2 h4.2
   ·rw[if_neg h3,Za3]
    have hL:o.tx=0∨(o.tx∈ZV h.txs∧(ZD (Zn h.txs) (o.tx,o.key):Int)=o.nth):=by
     by_cases h0:o.tx=0
     ·exact Or.inl h0
     ·exact Or.inr ⟨Classical.byContradiction fun hh=>h2 ⟨h0,hh⟩,Classical.byContradiction fun hh=>h3 ⟨h0,hh⟩⟩
    congr 1
    ·by_cases h0:o.tx≠0
     ·rw[if_pos h0,ZeW]
      by_cases he:e=⟨o.tx,ti,2,o.key⟩
      ·rw[if_pos he,if_pos ⟨⟨h1,hL⟩,h0,he⟩]
      ·rw[if_neg he,if_neg (fun hh=>he hh.2.2)]
     ·rw[if_neg h0,ZcI,if_neg (fun hh=>h0 hh.2.1)]
    ·by_cases h0:Zaf (ZL h.ords) (o.key,o.tx)≠0∧Zaf (ZL h.ords) (o.key,o.tx)≠ti
     ·rw[if_pos h0,ZeW]
      by_cases he:e=⟨ti,Zaf (ZL h.ords) (o.key,o.tx),3,o.key⟩
      ·rw[if_pos he,if_pos ⟨⟨h1,hL⟩,h0,he⟩]
      ·rw[if_neg he,if_neg (fun hh=>he hh.2.2)]
     ·rw[if_neg h0,ZcI,if_neg (fun hh=>h0 hh.2.1)]
theorem Zio(f:HOp->List Edge)(e:Edge)(p q:HOp->Bool):∀l:Is,(∀o∈l,(if q o=true then ZD (f o) e else 0)=if p o=true then 1 else 0)->ZD ((l.filter q).flatMap f) e=l.countP p
 |[],_=>rfl
 |o::l,hh=>by
  have ih:=Zio f e p q l fun x hx=>hh x (Gk _ hx)
  have h1:=hh o (Gv ..);rw[Hl]
  by_cases hq:q o=true
  ·rw[List.filter_cons_of_pos hq,List.flatMap_cons,Za3,ih];rw[if_pos hq]at h1;omega
  ·rw[List.filter_cons_of_neg hq,ih];rw[if_neg hq]at h1;omega
theorem Zg7(f:HOp->List Edge)(e:Edge)(q:HOp->Bool)(l:Is)(hh:∀o∈l,q o=true->ZD (f o) e=0):ZD ((l.filter q).flatMap f) e=0:=by
 rw[Zio f e (fun _=>false) q l (fun o ho=>by
  by_cases hq:q o=true
  ·rw[if_pos hq,hh o ho hq];rfl
  ·rw[if_neg hq];rfl)]
 simp
theorem ZcE(cnt:Int->Bool)(LD:Iv)(LW:List (Int×Int))(LN:List ((Int×Int)×Int))(e:Edge)(hh:∀u∈h.txs.filter (·.done),∀o∈u.ops,ZD (Z2 LD LW LN u.id o) e=0):ZD (rdL cnt LD LW LN h.txs) e=0:=by
 unfold rdL;exact Zg5 _ _ _ fun u hu=>Zg7 _ _ _ _ fun o ho _=>hh u hu o ho
theorem Zhk(hr:Zb h=true)(cnt:Int->Bool)(LD:Iv)(LW:List (Int×Int))(LN:List ((Int×Int)×Int))(e:Edge){t:HTx}(ht:t∈h.txs.filter (·.done))(hh:∀u∈h.txs.filter (·.done),u.id≠t.id->∀o∈u.ops,ZD (Z2 LD LW LN u.id o) e=0)
  (p:HOp->Bool) (hp:∀o∈t.ops,(if (o.read&&cnt o.key)=true then ZD (Z2 LD LW LN t.id o) e else 0)=if p o=true then 1 else 0):ZD (rdL cnt LD LW LN h.txs) e=t.ops.countP p:=by
 unfold rdL;rw[Zg6 (fun t=>rdO cnt LD LW LN t.id t.ops) e _ (Zjm hr) t ht (fun u hu hne=>Zg7 _ _ _ _ fun o ho _=>hh u hu hne o ho)];exact Zio _ _ _ _ _ hp
theorem Zer(cnt:Int->Bool)(e:Edge)(hr:Zb h=true):e∈wwL cnt h.ords↔e.k=1∧cnt e.key=true∧e.f≠0∧Nx h.ords e.key e.f e.t:=by
 rw[Zu0]
 constructor
 ·rintro⟨h1,h2,o,ho,hk,i,h3,h4⟩;refine⟨h1,h2,fun e0=>?_,o,ho,hk,i+1,h3,h4⟩;obtain⟨_,_,h5⟩:=Zdd hr ho (Gn h3);omega
 ·rintro⟨h1,h2,h0,o,ho,hk,i,h3,h4⟩;refine⟨h1,h2,o,ho,hk,?_⟩
  cases i with
  |zero=>exact absurd (by simpa using h3.symm) h0
  |succ i=>exact⟨i,h3,h4⟩
theorem ZgX(hr:Zb h=true){t:HTx}(ht:Zh h.txs 0=some t):False:=by
 have h1:=Zck (ZaK ht).1;have:=ZfY hr h1.1;omega
theorem Zoa(hr:Zb h=true)(cnt:Int->Bool)(e:Edge):Zo7 cnt h.txs h.ords e=if cnt e.key=true then Zap h e else 0:=by
 obtain⟨ef,et,ek,ey⟩:=e;unfold Zo7;have eD:=Zqm (h:=h)
 by_cases k1:ek=1
 ·subst k1;rw[ZcE (h:=h) cnt _ _ _ _ (fun u _ o _=>by rw[eD,if_neg (fun hh=>by have:=congrArg Edge.k hh.2.2;simp at this),if_neg (fun hh=>by have:=congrArg Edge.k hh.2.2;simp at this)])];unfold Zbw;rw[Nat.add_zero]
  by_cases hc:cnt ey=true
  ·rw[if_pos hc]
   by_cases hm:(⟨ef,et,1,ey⟩:Edge)∈wwL cnt h.ords
   ·rw[if_pos hm];obtain⟨_,_,h0,hx⟩:=(Zer cnt _ hr).1 hm;simp only at h0 hx;obtain⟨⟨t,ht⟩,h2,h3,h4⟩:=Nx.ids hr hx;obtain⟨a,ha⟩:=h4.resolve_left h0;unfold Zap;simp only[ha,ht,if_neg h3,if_true,(ZcG hr ey ef et).2 hx]
   ·rw[if_neg hm]
    symm
    unfold Zap
    cases ha:Zh h.txs ef with
    |none=>rfl
    |some a=>
     cases hb:Zh h.txs et with
     |none=>rfl
     |some b=>
      simp only
      split
      ·rfl
      ·simp only[if_true];rw[if_neg];intro hn;have hx:=(ZcG hr ey ef et).1 hn;refine hm ((Zer cnt _ hr).2 ⟨rfl,hc,fun e0=>?_,hx⟩);simp only at e0;subst e0;exact ZgX hr ha
  ·rw[if_neg hc,if_neg (fun hm=>hc ((Zer cnt _ hr).1 hm).2.1)]
 ·have hw:Zbw (wwL cnt h.ords) ⟨ef,et,ek,ey⟩=0:=by
   unfold Zbw;rw[if_neg (fun hm=>k1 ((Zer cnt _ hr).1 hm).1)]
  rw[hw,Nat.zero_add]
  by_cases k2:ek=2
  ·subst k2
   have hz:∀u∈h.txs.filter (·.done),u.id≠et->∀o∈u.ops,ZD (Z2 (ZV h.txs) (Zn h.txs) (ZL h.ords) u.id o) (⟨ef,et,2,ey⟩:Edge)=0:=fun u _ hne o _=>by
    rw[eD,if_neg (fun hh=>hne (congrArg Edge.t hh.2.2).symm),if_neg (fun hh=>by have:=congrArg Edge.k hh.2.2;simp at this)]
   cases hb:Zh h.txs et with
   |none=>
    rw[ZcE (h:=h) cnt _ _ _ _ (fun u hu o ho=>hz u hu (fun e=>by
     have:=(ZeU hr et).1 (by unfold ZV;exact Ih.2 ⟨u,hu,e⟩);rw[hb]at this;obtain⟨_,h9⟩:=this
     cases h9) o ho)]
    unfold Zap;simp only[hb]
    cases Zh h.txs ef<;>simp
   |some b=>
    obtain⟨hbm,ir⟩:=Zg1 hb;have eI:∀u∈h.txs.filter (·.done),u.id≠b.id->∀o∈u.ops,ZD (Z2 (ZV h.txs) (Zn h.txs) (ZL h.ords) u.id o) (⟨ef,et,2,ey⟩:Edge)=0:=fun u hu hne=>hz u hu (by rw[<-ir];exact hne)
    cases ha:Zh h.txs ef with
    |none=>
     rw[ZcE (h:=h) cnt _ _ _ _ (fun u hu o ho=>by
      rw[eD,if_neg (c:=_∧o.tx≠0∧_),if_neg (fun hh=>by have:=congrArg Edge.k hh.2.2;simp at this)];rintro⟨⟨_,h3⟩,h4,h5⟩;rcases h3 with h3|h3
      ·exact h4 h3
      ·obtain⟨_,h6⟩:=(ZeU hr _).1 h3.1;have e1:=congrArg Edge.f h5;simp only at e1;rw[<-e1,ha]at h6
       cases h6)]
     unfold Zap;simp[ha]
    |some a=>
     by_cases hft:ef=et
     ·rw[ZcE (h:=h) cnt _ _ _ _ (fun u hu o ho=>by
       rw[eD,if_neg (c:=_∧o.tx≠0∧_),if_neg (fun hh=>by have:=congrArg Edge.k hh.2.2;simp at this)];rintro⟨⟨h3,_⟩,h4,h5⟩;have e1:=congrArg Edge.f h5;have e2:=congrArg Edge.t h5;simp only at e1 e2;exact h3 (by rw[<-e1,<-e2,hft]))]
      unfold Zap;simp[hb,hft]
     ·by_cases hc:cnt ey=true
      ·rw[if_pos hc,Zhk (h:=h) hr cnt _ _ _ _ hbm eI (p2 ef ey (Z9 a.ops ey)) (fun o ho=>?_)]
       ·unfold Zap;simp only[ha,hb,if_neg hft];rfl
       ·rw[eD,if_neg (c:=_∧(_∧_)∧_) (fun hh=>by have:=congrArg Edge.k hh.2.2;simp at this),Nat.add_zero]
        by_cases hp:p2 ef ey (Z9 a.ops ey) o=true
        ·rw[if_pos hp];unfold p2 at hp;simp only[Hj,beq_iff_eq]at hp;obtain⟨⟨⟨q1,q2⟩,q3⟩,q4⟩:=hp;rw[if_pos (by rw[q1,q2,hc];rfl),if_pos];refine⟨⟨by rw[q3,ir];exact hft,Or.inr ⟨by rw[q3];exact(ZeU hr _).2 ⟨a,ha⟩,?_⟩⟩,fun e0=>?_,by rw[q3,q2,ir]⟩
         ·rw[q3,q2,ZfM hr ha];exact q4.symm
         ·rw[q3]at e0;subst e0;exact ZgX hr ha
        ·rw[if_neg hp]
         split
         ·rename_i hrd
          rw[if_neg];rintro⟨⟨h3,h4⟩,h5,h6⟩;have e1:=congrArg Edge.f h6;have e2:=congrArg Edge.key h6;simp only at e1 e2
          apply hp
          unfold p2;rcases h4 with h4|⟨h4,h7⟩
          ·exact absurd h4 h5
          ·rw[<-e1,<-e2,ZfM hr ha]at h7;rw[Hj]at hrd;simp[hrd.1,<-e1,<-e2,h7]
         ·rfl
      ·rw[if_neg hc,Zhk (h:=h) hr cnt _ _ _ _ hbm eI (fun _=>false) (fun o ho=>by
        by_cases hq:(o.read&&cnt o.key)=true
        ·rw[if_pos hq,eD,if_neg,if_neg (fun hh=>by have:=congrArg Edge.k hh.2.2;simp at this)]
         ·rfl
         ·rintro⟨_,_,h6⟩;have e2:=congrArg Edge.key h6;simp only at e2;rw[Hj,<-e2]at hq;exact hc hq.2
        ·rw[if_neg hq];rfl)]
       simp
  ·by_cases k3:ek=3
   ·subst k3
    have hz:∀u∈h.txs.filter (·.done),u.id≠ef->∀o∈u.ops,ZD (Z2 (ZV h.txs) (Zn h.txs) (ZL h.ords) u.id o) (⟨ef,et,3,ey⟩:Edge)=0:=fun u _ hne o _=>by
     rw[eD,if_neg (c:=_∧o.tx≠0∧_) (fun hh=>by have:=congrArg Edge.k hh.2.2;simp at this),if_neg (fun hh=>hne (congrArg Edge.f hh.2.2).symm)]
    cases ha:Zh h.txs ef with
    |none=>
     rw[ZcE (h:=h) cnt _ _ _ _ (fun u hu o ho=>hz u hu (fun e=>by
      have:=(ZeU hr ef).1 (by unfold ZV;exact Ih.2 ⟨u,hu,e⟩);rw[ha]at this;obtain⟨_,h9⟩:=this
      cases h9) o ho)]
     unfold Zap;simp[ha]
    |some a=>
     obtain⟨pL,sr⟩:=Zg1 ha;have eI:∀u∈h.txs.filter (·.done),u.id≠a.id->∀o∈u.ops,ZD (Z2 (ZV h.txs) (Zn h.txs) (ZL h.ords) u.id o) (⟨ef,et,3,ey⟩:Edge)=0:=fun u hu hne=>hz u hu (by rw[<-sr];exact hne)
     cases hb:Zh h.txs et with
     |none=>
      rw[ZcE (h:=h) cnt _ _ _ _ (fun u hu o ho=>by
       rw[eD,if_neg (c:=_∧o.tx≠0∧_) (fun hh=>by have:=congrArg Edge.k hh.2.2;simp at this),if_neg];rintro⟨_,⟨h3,h4⟩,h5⟩;have e1:=congrArg Edge.t h5;simp only at e1;rcases ZnT hr o.key o.tx with h6|h6
       ·exact h3 h6.1
       ·obtain⟨⟨_,h7⟩,_⟩:=Nx.ids hr h6;rw[<-e1,hb]at h7
        cases h7)]
      unfold Zap;simp[ha,hb]
     |some b=>
      by_cases hft:ef=et
      ·rw[ZcE (h:=h) cnt _ _ _ _ (fun u hu o ho=>by
        rw[eD,if_neg (c:=_∧o.tx≠0∧_) (fun hh=>by have:=congrArg Edge.k hh.2.2;simp at this),if_neg];rintro⟨_,⟨h3,h4⟩,h5⟩;have e1:=congrArg Edge.t h5;have e2:=congrArg Edge.f h5;simp only at e1 e2;exact h4 (by rw[<-e1,<-e2,hft]))]
       unfold Zap;simp[hb,hft]
      ·by_cases hc:cnt ey=true
       ·rw[if_pos hc,Zhk (h:=h) hr cnt _ _ _ _ pL eI (p3 h a.id ey et) (fun o ho=>?_)]
        ·unfold Zap;simp only[ha,hb,if_neg hft];rfl
        ·rw[eD,if_neg (c:=_∧o.tx≠0∧_) (fun hh=>by have:=congrArg Edge.k hh.2.2;simp at this),Nat.zero_add];have zg:et≠0:=fun e0=>by subst e0;exact ZgX hr hb
         by_cases hp:p3 h a.id ey et o=true
         ·rw[if_pos hp];unfold p3 at hp;simp only[Hj,beq_iff_eq,Bool.not_eq_true',beq_eq_false_iff_ne]at hp;obtain⟨⟨⟨⟨q1,q2⟩,q3⟩,q4⟩,q5⟩:=hp;have hl:=(Zmr hr ey o.tx et zg).2 ((ZcG hr _ _ _).1 q5);rw[if_pos (by rw[q1,q2,hc];rfl),if_pos];refine⟨⟨q3,(Zi8 hr o).2 q4⟩,⟨by rw[q2,hl];exact zg,by rw[q2,hl,sr];exact fun e=>hft e.symm⟩,by rw[q2,hl,sr]⟩
         ·rw[if_neg hp]
          split
          ·rename_i hrd
           rw[if_neg];rintro⟨⟨h3,h4⟩,⟨h5,h6⟩,h7⟩;have e1:=congrArg Edge.t h7;have e2:=congrArg Edge.key h7;simp only at e1 e2
           apply hp
           unfold p3;rw[Hj]at hrd;have h8:=(Zi8 hr o).1 h4;have h9:Zav h.ords ey o.tx et=true:=(ZcG hr _ _ _).2 ((Zmr hr ey o.tx et zg).1 (by rw[e2];exact e1.symm));simp[hrd.1,<-e2,h3,h9];rw[e2];exact h8
          ·rfl
       ·rw[if_neg hc,Zhk (h:=h) hr cnt _ _ _ _ pL eI (fun _=>false) (fun o ho=>by
         by_cases hq:(o.read&&cnt o.key)=true
         ·rw[if_pos hq,eD,if_neg (c:=_∧o.tx≠0∧_) (fun hh=>by have:=congrArg Edge.k hh.2.2;simp at this),if_neg]
          ·rfl
          ·rintro⟨_,_,h6⟩;have e2:=congrArg Edge.key h6;simp only at e2;rw[Hj,<-e2]at hq;exact hc hq.2
         ·rw[if_neg hq];rfl)]
        simp
   ·rw[ZcE (h:=h) cnt _ _ _ _ (fun u _ o _=>by rw[eD,if_neg (fun hh=>k2 (congrArg Edge.k hh.2.2)),if_neg (fun hh=>k3 (congrArg Edge.k hh.2.2))])];unfold Zap
    cases Zh h.txs ef<;>cases Zh h.txs et<;>simp[k1,k2,k3]
end
/- Edges of a history,the document's:all edges are walked. -/
theorem ZnB:∀(txs:List HTx),(∀t∈txs,t.ops.length<=24)->(txK txs).length<=24*txs.length
 |[],_=>by simp[txK]
 |x::l,h=>by
  have h1:=ZnB l fun t ht=>h t (Gk _ ht)
  have h2:=h x (Gv ..);unfold txK at h1 ⊢;rw[List.flatMap_cons,Gt,G1];unfold opK at h1 ⊢;rw[Hw];omega
theorem ZtQ(txs:List HTx)(h:∀t∈txs,t.ops.length<=24):(Zcf txs).length<=24*txs.length:=by
 have h1:=ZiK (txK txs) [];have h2:=ZnB txs h;unfold Zcf;simp at h1;omega
/- Edges of a history,in plain words:the lists. -/
theorem Zjp{s:List Edge}(h:s.Pairwise fun a b=>ltE a b=true):∀k,k<=s.length->ddF s k=s.take k
 |0,_=>by simp[ddF]
 |k+1,hk=>by
  have ih:=Zjp h k (by omega);rw[Zj1 (by omega),ih,Gb (by omega)]
  cases k with
  |zero=>exact Or.inl rfl
  |succ k=>
   right
   rw[Nat.add_sub_cancel,Qg (by omega),Qg (by omega)];intro e;have:=List.pairwise_iff_getElem.1 h k (k+1) (by omega) (by omega) (by omega);rw[Option.some.inj e,Zho]at this
   cases this
theorem ZlD{s:List Edge}(h:s.Pairwise fun a b=>ltE a b=true):ZbK s=s:=by
 unfold ZbK;refine List.Perm.eq_of_pairwise (le:=fun a b=>(!ltOf Zbj b a)=true) (fun a b _ _ h1 h2=>?_) (List.pairwise_mergeSort ZgQ ZgR s) (h.imp fun {a b} hab=>?_) (List.mergeSort_perm _ _)
 ·simp only[Zbm,Bool.not_eq_true']at h1 h2;exact ZjP h2 h1
 ·simp only[Zbm,Bool.not_eq_true']
  cases hba:ltE b a with
  |false=>rfl
  |true=>have:=ZkF hab hba;rw[Zho]at this;cases this
theorem Zps{s:List Edge}(h:s.Pairwise fun a b=>ltE a b=true):ddE s=s:=by
 unfold ddE;rw[ZlD h,Zjp h _ (Nat.le_refl _),G7]
theorem ZlA{s:List Edge}(h:s.Pairwise fun a b=>ltE a b=true):s.Nodup:=h.imp fun {a b} hab e=>by subst e;rw[Zho]at hab;cases hab
theorem Zxs{g:Edge->Nat}{l:List Hvy}(h1:(l.map (·.e)).Pairwise fun a b=>ltE a b=true)(h2:∀e,e∈l.map (·.e)↔g e≠0)(h3:∀x∈l,x.n=(g x.e:Int)):ZpK g l:=fun mc hm=>by
 have hp:(mc.map (·.1)).Perm (l.map (·.e)):=(List.perm_ext_iff_of_nodup hm.nd (ZlA h1)).2 fun a=>by rw[hm.mem,h2]
 rw[ZmT hp,Zps h1];unfold hvL;rw[List.map_map]
 conv=>rhs;rw[<-List.map_id l]
 refine List.map_congr_left fun x hx=>?_
 have:=h3 x hx;obtain⟨e,n⟩:=x;simp only at this;simp[this]
theorem Zxp{g:Edge->Nat}{l:List Edge}(h:∀e,g e≠0->e∈l)(hl:l.length<=1000000):Ztl g:=fun mc hm=>by
 have h1:=hm.nd.length_le_of_subset (l₂:=l) fun a ha=>h a ((hm.mem a).1 ha)
 rw[Hw]at h1;omega
section
variable {h:Hist}
theorem mem_hrB{a kind key:Int}{bs:List HTx}{x:Hvy}:x∈hrB h a kind key bs↔∃b∈bs,0<Zap h ⟨a,b.id,kind,key⟩∧x=⟨⟨a,b.id,kind,key⟩,(Zap h ⟨a,b.id,kind,key⟩:Int)⟩:=by
 unfold hrB;rw[List.mem_flatMap]
 constructor
 ·rintro⟨b,hb,hx⟩
  split at hx
  ·rename_i hp;exact⟨b,hb,hp,by simpa using hx⟩
  ·cases hx
 ·rintro⟨b,hb,hp,rfl⟩;exact⟨b,hb,by rw[if_pos hp];simp⟩
theorem mem_hrK{a kind:Int}{ks:Iv}{x:Hvy}:x∈hrK h a kind ks↔∃key∈ks,∃b∈h.txs,0<Zap h ⟨a,b.id,kind,key⟩∧x=⟨⟨a,b.id,kind,key⟩,(Zap h ⟨a,b.id,kind,key⟩:Int)⟩:=by
 unfold hrK;rw[List.mem_flatMap];simp only[mem_hrB]
theorem Zs7(a:Int):hrN h a 3=hrK h a 1 (Zcf h.txs)++hrK h a 2 (Zcf h.txs)++hrK h a 3 (Zcf h.txs):=rfl
theorem mem_hrA{ts:List HTx}{x:Hvy}:x∈hrA h ts↔∃t∈ts,∃kind,(kind=1∨kind=2∨kind=3)∧x∈hrK h t.id kind (Zcf h.txs):=by
 unfold hrA;rw[List.mem_flatMap];simp only[Zs7,Ib]
 constructor
 ·rintro⟨t,ht,(h1|h1)|h1⟩
  ·exact⟨t,ht,1,Or.inl rfl,h1⟩
  ·exact⟨t,ht,2,Or.inr (Or.inl rfl),h1⟩
  ·exact⟨t,ht,3,Or.inr (Or.inr rfl),h1⟩
 ·rintro⟨t,ht,kind,rfl|rfl|rfl,h1⟩
  ·exact⟨t,ht,Or.inl (Or.inl h1)⟩
  ·exact⟨t,ht,Or.inl (Or.inr h1)⟩
  ·exact⟨t,ht,Or.inr h1⟩
theorem Zjd{a kind key:Int}:∀{bs:List HTx},(bs.map (·.id)).Pairwise (·<·)->((hrB h a kind key bs).map (·.e)).Pairwise fun a b=>ltE a b=true
 |[],_=>List.Pairwise.nil
 |b::bs,hp=>by
  rw[Id,Gr]at hp;have ih:=Zjd (a:=a) (kind:=kind) (key:=key) hp.2
  show((((if 0<Zap h ⟨a,b.id,kind,key⟩ then [_] else []):List Hvy)++hrB h a kind key bs).map (·.e)).Pairwise _
  rw[Hu]
  split
  ·refine Gr.2 ⟨fun y hy=>?_,ih⟩;obtain⟨x,hx,rfl⟩:=Ih.1 hy;obtain⟨u,hu,_,rfl⟩:=mem_hrB.1 hx;have:=hp.1 u.id (Ih.2 ⟨u,hu,rfl⟩);exact(ZbT _ _).2 (Or.inr ⟨rfl,Or.inr ⟨rfl,Or.inr ⟨rfl,this⟩⟩⟩)
  ·exact ih
theorem Zjc(hr:(h.txs.map (·.id)).Pairwise (·<·)){a kind:Int}:∀{ks:Iv},ks.Pairwise (·<·)->((hrK h a kind ks).map (·.e)).Pairwise fun a b=>ltE a b=true
 |[],_=>List.Pairwise.nil
 |k::ks,hp=>by
  rw[Gr]at hp;have ih:=Zjc hr (a:=a) (kind:=kind) hp.2
  show((hrB h a kind k h.txs++hrK h a kind ks).map (·.e)).Pairwise _
  rw[Hu,Gm];refine⟨Zjd hr,ih,fun y hy z hz=>?_⟩;obtain⟨x,hx,rfl⟩:=Ih.1 hy;obtain⟨v,hv,rfl⟩:=Ih.1 hz;obtain⟨u,hu,_,rfl⟩:=mem_hrB.1 hx;obtain⟨k2,hk2,u2,hu2,_,rfl⟩:=mem_hrK.1 hv;have:=hp.1 k2 hk2;exact(ZbT _ _).2 (Or.inr ⟨rfl,Or.inr ⟨rfl,Or.inl this⟩⟩)
theorem ZvD(txs:List HTx):(Zcf txs).Pairwise (·<·):=Zko _ _ List.Pairwise.nil
theorem Zje(hr:(h.txs.map (·.id)).Pairwise (·<·)):∀{ts:List HTx},(ts.map (·.id)).Pairwise (·<·)->((hrA h ts).map (·.e)).Pairwise fun a b=>ltE a b=true
 |[],_=>List.Pairwise.nil
 |t::ts,hp=>by
  rw[Id,Gr]at hp;have ih:=Zje hr hp.2
  show((hrN h t.id 3++hrA h ts).map (·.e)).Pairwise _
  have bJ:=fun kind=>Zjc hr (a:=t.id) (kind:=kind) (ZvD h.txs)
  rw[Zs7,Hu,Hu,Hu,Gm,Gm,Gm];refine⟨⟨⟨bJ 1,bJ 2,fun y hy z hz=>?_⟩,bJ 3,fun y hy z hz=>?_⟩,ih,fun y hy z hz=>?_⟩
  ·obtain⟨x,hx,rfl⟩:=Ih.1 hy;obtain⟨v,hv,rfl⟩:=Ih.1 hz;obtain⟨k2,_,u,_,_,rfl⟩:=mem_hrK.1 hx;obtain⟨k3,_,u3,_,_,rfl⟩:=mem_hrK.1 hv;exact(ZbT _ _).2 (Or.inr ⟨rfl,Or.inl (show(1:Int)<2 by decide)⟩)
  ·obtain⟨v,hv,rfl⟩:=Ih.1 hz;obtain⟨k3,_,u3,_,_,rfl⟩:=mem_hrK.1 hv;rcases Ib.1 hy with hy|hy
   ·obtain⟨x,hx,rfl⟩:=Ih.1 hy;obtain⟨k2,_,u,_,_,rfl⟩:=mem_hrK.1 hx;exact(ZbT _ _).2 (Or.inr ⟨rfl,Or.inl (show(1:Int)<3 by decide)⟩)
   ·obtain⟨x,hx,rfl⟩:=Ih.1 hy;obtain⟨k2,_,u,_,_,rfl⟩:=mem_hrK.1 hx;exact(ZbT _ _).2 (Or.inr ⟨rfl,Or.inl (show(2:Int)<3 by decide)⟩)
  ·obtain⟨v,hv,rfl⟩:=Ih.1 hz;obtain⟨t2,io,kind,_,cO⟩:=mem_hrA.1 hv;obtain⟨k3,_,u3,_,_,rfl⟩:=mem_hrK.1 cO;have:=hp.1 t2.id (Ih.2 ⟨t2,io,rfl⟩)
   have fE:y.f=t.id:=by
    rcases Ib.1 hy with hy|hy
    ·rcases Ib.1 hy with hy|hy
     ·obtain⟨x,hx,rfl⟩:=Ih.1 hy;obtain⟨k2,_,u,_,_,rfl⟩:=mem_hrK.1 hx;rfl
     ·obtain⟨x,hx,rfl⟩:=Ih.1 hy;obtain⟨k2,_,u,_,_,rfl⟩:=mem_hrK.1 hx;rfl
    ·obtain⟨x,hx,rfl⟩:=Ih.1 hy;obtain⟨k2,_,u,_,_,rfl⟩:=mem_hrK.1 hx;rfl
   exact(ZbT _ _).2 (Or.inl (by rw[fE];exact this))
theorem ZsT(txs:List HTx)(key:Int):key∈Zcf txs↔∃t∈txs,∃o∈t.ops,o.key=key:=by
 unfold Zcf txK opK;rw[Zi2,List.mem_flatMap];simp only[Ih,G6,false_or]
theorem Zrz(hr:Zb h=true){e:Edge}(hc:Zap h e≠0):(∃a∈h.txs,a.id=e.f)∧(∃b∈h.txs,b.id=e.t)∧(e.k=1∨e.k=2∨e.k=3)∧e.key∈Zcf h.txs:=by
 unfold Zap at hc
 cases ha:Zh h.txs e.f with
 |none=>rw[ha]at hc;exact absurd rfl hc
 |some a=>
  cases hb:Zh h.txs e.t with
  |none=>rw[ha,hb]at hc;exact absurd rfl hc
  |some b=>
   rw[ha,hb]at hc;simp only at hc;obtain⟨AX,yu⟩:=Zck (ZaK ha).1;obtain⟨aX,aS⟩:=Zck (ZaK hb).1;refine⟨⟨a,AX,yu⟩,⟨b,aX,aS⟩,?_⟩;rw[ZsT]
   split at hc
   ·exact absurd rfl hc
   ·split at hc
    ·rename_i hk
     refine⟨Or.inl hk,?_⟩
     split at hc
     ·rename_i hn
      obtain⟨o,ho,aC,i,hi,hy⟩:=(ZcG hr _ _ _).1 hn;have hw:=(ZaY hr ho).mem_iff.1 (Gn hy);unfold Zj at hw;obtain⟨t,ht,_⟩:=Ih.1 hw;rw[Hy,Hj,List.contains_iff_mem]at ht;have hk2:=ht.2.2;unfold ZbB at hk2;rw[ZdX]at hk2;unfold ZbU at hk2;obtain⟨op,oe,xz⟩:=Ih.1 hk2;rw[Hy]at oe;exact⟨t,ht.1,op,oe.1,xz.trans aC⟩
     ·exact absurd rfl hc
    ·split at hc
     ·rename_i hk
      refine⟨Or.inr (Or.inl hk),?_⟩;obtain⟨o,ho,hp⟩:=List.countP_pos_iff.1 (Nat.pos_of_ne_zero hc);unfold p2 at hp;simp only[Hj,beq_iff_eq]at hp;exact⟨b,aX,o,ho,hp.1.1.2⟩
     ·split at hc
      ·rename_i hk
       refine⟨Or.inr (Or.inr hk),?_⟩;obtain⟨o,ho,hp⟩:=List.countP_pos_iff.1 (Nat.pos_of_ne_zero hc);unfold p3 at hp;simp only[Hj,beq_iff_eq]at hp;exact⟨a,AX,o,ho,hp.1.1.1.2⟩
      ·exact absurd rfl hc
theorem Zb7(hr:Zb h=true){x:Hvy}:x∈ZB h↔Zap h x.e≠0∧x.n=(Zap h x.e:Int):=by
 unfold ZB;rw[if_pos hr,mem_hrA]
 constructor
 ·rintro⟨t,_,kind,_,hx⟩;obtain⟨key,_,b,_,h1,rfl⟩:=mem_hrK.1 hx;exact⟨by simp only;omega,rfl⟩
 ·rintro⟨h1,h2⟩;obtain⟨⟨a,ha,Ex⟩,⟨b,hb,pD⟩,hk,hkey⟩:=Zrz hr h1;refine⟨a,ha,x.e.k,hk,mem_hrK.2 ⟨x.e.key,hkey,b,hb,?_⟩⟩;obtain⟨⟨ef,et,ek,ey⟩,n⟩:=x;simp only at*;subst Ex pD h2;exact⟨by omega,rfl⟩
theorem Zgy:((ZB h).map (·.e)).Pairwise fun a b=>ltE a b=true:=by
 unfold ZB
 split
 ·rename_i hr;exact Zje (Zbf hr) (Zbf hr)
 ·exact List.Pairwise.nil
theorem ZjX(cnt:Int->Bool)(e:Edge):Zei cnt h e=if Zb h=true then (if cnt e.key=true then Zap h e else 0) else 0:=by
 unfold Zei
 split
 ·rename_i hr;exact Zoa hr cnt e
 ·rfl
theorem Zpi:ZpK (Zei (fun _=>true) h) (ZB h):=by
 refine Zxs Zgy (fun e=>?_) fun x hx=>?_
 ·rw[ZjX]
  by_cases hr:Zb h=true
  ·rw[if_pos hr,if_pos rfl,Ih]
   constructor
   ·rintro⟨x,hx,rfl⟩;exact((Zb7 hr).1 hx).1
   ·intro hc;exact⟨⟨e,(Zap h e:Int)⟩,(Zb7 hr).2 ⟨hc,rfl⟩,rfl⟩
  ·rw[if_neg hr];unfold ZB;rw[if_neg hr];simp
 ·by_cases hr:Zb h=true
  ·rw[ZjX,if_pos hr,if_pos rfl];exact((Zb7 hr).1 hx).2
  ·unfold ZB at hx;rw[if_neg hr]at hx;cases hx
theorem Zn3(a kind key:Int):∀bs:List HTx,(hrB h a kind key bs).length<=bs.length
 |[]=>Nat.le_refl _
 |b::bs=>by
  have:=Zn3 a kind key bs
  show((((if 0<Zap h ⟨a,b.id,kind,key⟩ then [_] else []):List Hvy)++hrB h a kind key bs)).length<=_
  rw[Gt,G1]
  split<;>simp<;>omega
theorem Zhq(a kind:Int)(n:h.txs.length<=12):∀ks:Iv,(hrK h a kind ks).length<=12*ks.length
 |[]=>Nat.le_refl _
 |k::ks=>by
  have h1:=Zhq a kind n ks;have h2:=Zn3 (h:=h) a kind k h.txs
  show(hrB h a kind k h.txs++hrK h a kind ks).length<=_
  rw[Gt,G1];omega
theorem Zn4(n:h.txs.length<=12)(n2:(Zcf h.txs).length<=288):∀ts:List HTx,(hrA h ts).length<=10368*ts.length
 |[]=>Nat.le_refl _
 |t::ts=>by
  have h1:=Zn4 n n2 ts;have h2:=Zhq (h:=h) t.id 1 n (Zcf h.txs);have h3:=Zhq (h:=h) t.id 2 n (Zcf h.txs);have h4:=Zhq (h:=h) t.id 3 n (Zcf h.txs)
  show(hrN h t.id 3++hrA h ts).length<=_
  rw[Zs7,Gt,Gt,Gt,G1];omega
theorem Zph(n:h.txs.length<=12)(n2:∀t∈h.txs,t.ops.length<=24):(ZB h).length<=200000:=by
 unfold ZB
 split
 ·have h1:=ZtQ h.txs n2;have:=Zn4 n (by omega) h.txs;omega
 ·simp
theorem Zvm(n:h.txs.length<=12)(n2:∀t∈h.txs,t.ops.length<=24)(cnt:Int->Bool):Ztl (Zei cnt h):=by
 refine Zxp (l:=(ZB h).map (·.e)) (fun e hg=>?_) (by rw[Hw];have:=Zph n n2;omega);rw[ZjX]at hg
 by_cases hr:Zb h=true
 ·rw[if_pos hr]at hg
  by_cases hc:cnt e.key=true
  ·rw[if_pos hc]at hg;exact Ih.2 ⟨⟨e,(Zap h e:Int)⟩,(Zb7 hr).2 ⟨hg,rfl⟩,rfl⟩
  ·rw[if_neg hc]at hg;exact absurd rfl hg
 ·rw[if_neg hr]at hg;exact absurd rfl hg
end
/- Edges of a history:the example's history. -/
def s1:Hvy:=⟨⟨1,2,1,5⟩,1⟩
def s2:Hvy:=⟨⟨1,2,2,5⟩,1⟩
def s3:Hvy:=⟨⟨3,1,3,5⟩,2⟩
section
variable (n:Nat)
end
/- Edges of a history:the answers that the document gives. -/
def HvX(w:I0)(A:OA)(l:List Hvy):Prop:=∃G,Hvys G w A l
theorem HvX.own{w:I0}{b c:Nat}{A:OA}{l:List Hvy}(h:w.ownsRow b 128 5 (.slice A l.length c) l.length (Zic l)):HvX w A l:=⟨_,Recs.of_own Zu8 (by omega) h⟩
def EdX(w:I0)(A:OA)(l:List Edge):Prop:=∃G,Walk G w A l
section
variable {F:Iw} {w:I0} {txs:List HTx} {ords:List HOrd} {A:OA} {c:Nat} {B:OA} {d:Nat} {n m:Nat}
theorem ZpX(H:Hist.lies F w ⟨txs,ords,A,c,B,d⟩)(n1:txs.length<=12)(n2:∀t∈txs,t.ops.length<=24)(hn:txs.length=n)(hm:ords.length=m){l:List Hvy}{k:Nat}(he:ZB ⟨txs,ords,A,c,B,d⟩=l)(hk:l.length=k):
  Calls Tryz.prog 40 #[.agg #[.slice A n c,.slice B m d]] w fun e w'=>∃A' c',e= .returned (.slice A' k c')∧HvX w' A' l∧Upd No w w':=by
 subst hn hm hk;refine(Zwt H (Zvm (h:=⟨txs,ords,A,c,B,d⟩) n1 n2 _) (he▸Zpi)).mono ?_;rintro e w' ⟨A',c',rfl,ho,hu⟩;exact⟨A',c',rfl,HvX.own ho,hu⟩
theorem ZpW{l:List Hvy}(hx:HvX w A l)(hl:l.length<=1000000)(hn:l.length=n){k:List Edge}(he:ZM l=k)(hm:k.length=m):
  Calls Tryz.prog 39 #[.slice A n c] w fun e w'=>∃A' c',e= .returned (.slice A' m c')∧EdX w' A' k∧Upd No w w':=by
 subst hn hm he;obtain⟨F,hx⟩:=hx;refine(Zws F w A c l hx hl).mono ?_;rintro e w' ⟨A',c',rfl,ho,hu⟩;exact⟨A',c',rfl,⟨_,Recs.of_own Zbn (by omega) ho⟩,hu⟩
end
/- Edges of a history:the law that what is told is what the document says. -/
theorem ZgP{h:Hist}(hl:Zd h=true):h.txs.length<=12∧∀t∈h.txs,t.ops.length<=24:=by
 unfold Zd at hl;simp only[Hj,Gw,Hd]at hl;exact⟨hl.1.1.1,fun t ht=>hl.1.2 t ht⟩
section
variable {F:Iw} {w:I0} {txs:List HTx} {ords:List HOrd} {A:OA} {c:Nat} {B:OA} {d:Nat} {n m:Nat}
end
