/- Witnesses, plain: how many edges there are, what a witness is. -/
import Derived.Test.YtadmgiljchgccaaGreatTcas
import Derived.Test.YtadmgiljchgccaaGreatTcbd
import Derived.Test.YtadmgiljchgccaaGreatTcbk
import Derived.Test.YtadmgiljchgccaaGreatTcbo
namespace Go.Proofs.YtadmgiljchgccaaGreat
open Go.RowKit
set_option linter.unusedVariables false
set_option linter.unusedSimpArgs false
set_option maxRecDepth 100000
set_option maxHeartbeats 2000000
theorem ZfC{α:Type}[DecidableEq α]:∀(l m:List α),l.Nodup->(∀x∈l,x∈m)->l.length<=m.length
 |[],_,_,_=>Nat.zero_le _
 |x::l,m,hn,hs=>by
  obtain⟨h1,h2⟩:=H3.1 hn;have hx:=hs x (Gv ..);have:=ZfC l (m.erase x) h2 fun y hy=>(List.mem_erase_of_ne (fun e:y=x=>h1 (by rw[<-e];exact hy))).2 (hs y (Gk _ hy))
  rw[List.length_erase_of_mem hx]at this;have:=Gg hx;rw[G1];omega
theorem ZpN(key:Int):∀l:Iv,(wwO key l).length<=l.length
 |[]=>by simp[wwO]
 |[a]=>by simp[wwO]
 |a::b::l=>by
  have:=ZpN key (b::l)
  show(⟨a,b,1,key⟩::wwO key (b::l)).length<=_
  rw[G1];simp only[G1]at*;omega
theorem Zhr{α β:Type}(f:α->List β)(K:Nat):∀l:List α,(∀x∈l,(f x).length<=K)->(l.flatMap f).length<=K*l.length
 |[],_=>by simp
 |x::l,h=>by
  have h1:=h x (Gv ..);have h2:=Zhr f K l fun y hy=>h y (Gk _ hy)
  rw[List.flatMap_cons,Gt,G1,Nat.mul_succ];omega
theorem ZoU{h:Hist}(hl:Zd h=true):h.ords.length<=24∧∀o∈h.ords,o.txs.length<=24:=by
 unfold Zd at hl;simp only[Hj,Gw,Hd]at hl;exact⟨hl.1.1.2,fun t ht=>hl.2 t ht⟩
theorem Zfe{h:Hist}(hl:Zd h=true):(ZB h).length<=1152:=by
 by_cases hr:Zb h=true
 ·obtain⟨n1,n2⟩:=ZgP hl;obtain⟨n3,n4⟩:=ZoU hl
  have h1:((ZB h).map (·.e)).length<=(wwL (fun _=>true) h.ords++rdL (fun _=>true) (ZV h.txs) (Zn h.txs) (ZL h.ords) h.txs).length:=by
   refine ZfC _ _ ?_ fun e he=>?_
   ·rw[List.nodup_iff_pairwise_ne,List.pairwise_map];exact Zrl
   ·obtain⟨x,hx,rfl⟩:=Ih.1 he;have hc:=((Zb7 hr).1 hx).1;have hg:=Zoa hr (fun _=>true) x.e;rw[if_pos rfl]at hg;rw[<-hg]at hc;unfold Zo7 at hc;rw[Ib]
    apply Classical.byContradiction
    intro hn;rw[not_or]at hn
    apply hc
    unfold Zbw;rw[if_neg hn.1,Nat.zero_add];unfold ZD;rw[List.length_eq_zero_iff,List.filter_eq_nil_iff];intro y hy;simp only[Gw];intro e;rw[e]at hy;exact hn.2 hy
  rw[Hw,Gt]at h1
  have h2:(wwL (fun _=>true) h.ords).length<=24*h.ords.length:=Zhr _ 24 _ fun o ho=>by
   unfold wwC;rw[if_pos rfl];exact Nat.le_trans (ZpN _ _) (n4 o ho)
  have h3:(rdL (fun _=>true) (ZV h.txs) (Zn h.txs) (ZL h.ords) h.txs).length<=48*(h.txs.filter (·.done)).length:=Zhr _ 48 _ fun t ht=>by
   have h4:(rdO (fun _=>true) (ZV h.txs) (Zn h.txs) (ZL h.ords) t.id t.ops).length<=2*(t.ops.filter fun o=>o.read&&true).length:=Zhr _ 2 _ fun o _=>Zkj _ _ _ _ _
   have h5:=Gj (fun o:HOp=>o.read&&true) t.ops;have h6:=n2 t (Hy.1 ht).1;exact Nat.le_trans h4 (by omega)
  have h7:=Gj (fun t:HTx=>t.done) h.txs;omega
 ·unfold ZB;rw[if_neg hr];simp
structure HWit where
 p:Int
 walk:List Edge
 read:HBad
deriving DecidableEq
def zeroW:HWit:=⟨0,[],⟨0,0,⟨0,0,0⟩⟩⟩
def HWit.at_(x:HWit)(A:OA)(c:Nat):Ip:=[Qi x.p,.slice A x.walk.length c,Qi x.read.tx,Qi x.read.place,Qi x.read.of.tx,Qi x.read.of.key,Qi x.read.of.nth]
def Zd3(l:List Edge)(p:Int):HWit×Bool:=
 if Zal p=0 then (zeroW,false) else if ZaQ l (Zal p) (ZaU p)=[] then (zeroW,false) else (⟨p,ZaQ l (Zal p) (ZaU p),⟨0,0,⟨0,0,0⟩⟩⟩,true)
def ZcQ(l:Ir)(p:Int):HWit×Bool:=match l with|[]=>(zeroW,false)|b::_=>(⟨p,[],b⟩,true)
def ofX(h:Hist)(p:Int):HWit×Bool:=if p=2∨p=3 then ZcQ (ZW h p) p else Zd3 (ZM (ZB h)) p
def ToldW(w:I0)(x:HWit×Bool)(e:Ending)(w':I0):Prop:=
 ∃A c,e= .returned (.tuple #[.agg (x.1.at_ A c).toArray,.bool x.2])∧Walk (fun i=>w.heap.size<=i) w' A x.1.walk∧Upd No w w'
def ZoV(a b:HWit):Bool:=if a.walk=b.walk then Zc7 a.read b.read else ZoX a.walk b.walk
theorem Zev{F:Iw}{w:I0}{A:OA}:Walk F w A []:=fun h=>absurd rfl h
/- Phenomena:which a history has (phen.Has,phen.All,tenterref30.Has). -/
def Z7(h:Hist)(p:Int):Bool:=if p=2∨p=3 then decide (0<(ZW h p).length) else Zcg (ZM (ZB h)) (Zal p) (ZaU p)
theorem Zq2(l:List Edge):Zi l 0=[]:=by
 unfold Zi;rw[List.filter_eq_nil_iff];intro e _ h;unfold Zy Zf at h;simp at h
theorem ZiF(l:List Edge)(must:Int):Zcg l 0 must=false:=by
 have h:=Zq2 l;unfold Zi at h;unfold Zcg;simp only[h]
 split<;>rfl
theorem ZhU(F:Iw)(w:I0)(txs:List HTx)(ords:List HOrd)(A:OA)(c:Nat)(B:OA)(d:Nat)(p:Int)(H:Hist.lies F w ⟨txs,ords,A,c,B,d⟩)(hl:Zd ⟨txs,ords,A,c,B,d⟩=true):
  CN 13 #[.agg #[.slice A txs.length c,.slice B ords.length d],Qi p] w (.bool (Z7 ⟨txs,ords,A,c,B,d⟩ p)):=by
 obtain⟨wb,ag⟩:=Qe (w.alloc (.cells #[.slice A txs.length c,.slice B ords.length d] 25));have u0:Upd No w wb:=by rw[<-ag];exact(Il No w).alloc _
 have bH:Blk wb w.heap.size 25 [.slice A txs.length c,.slice B ords.length d]:=by rw[<-ag];exact Im w _ _
 have h0:=bH.ev 0 rfl
 have h1:=bH.ev 1 rfl
 have HH:=Qh (H.upd u0 Qo);have U0:=Qh u0;have hr:Upd No wb wb:=Il _ _;clear bH u0 H
 by_cases p2:p=2
 ·subst p2;have CB:=Qh (oOf F wb txs ords A c B d 2 HH.out);obtain⟨bl,ft⟩:=Qe (ZW ⟨txs,ords,A,c,B,d⟩ 2);have HV:=Qh (show Z7 ⟨txs,ords,A,c,B,d⟩ 2=decide (0<bl.length) by unfold Z7;rw[if_pos (by decide),ft]);rw[ft]at CB;rw[HV.out];clear ft;go_enter Tryz.func13,Tryz.ntmps13;go_wp2_with fail;refine(CB.out).mono ?_;rintro e w1 ⟨A1,c1,rfl,_,hu1⟩;go_wp2;go_ret;exact⟨rfl,U0.out.trans hu1⟩
 by_cases p3:p=3
 ·subst p3;have CB:=Qh (oOf F wb txs ords A c B d 3 HH.out);obtain⟨bl,ft⟩:=Qe (ZW ⟨txs,ords,A,c,B,d⟩ 3);have HV:=Qh (show Z7 ⟨txs,ords,A,c,B,d⟩ 3=decide (0<bl.length) by unfold Z7;rw[if_pos (by decide),ft]);rw[ft]at CB;rw[HV.out];clear ft;go_enter Tryz.func13,Tryz.ntmps13;go_wp2_with fail;refine(CB.out).mono ?_;rintro e w1 ⟨A1,c1,rfl,_,hu1⟩;go_wp2;go_ret;exact⟨rfl,U0.out.trans hu1⟩
 have q2:(p==2)=false:=by simpa using p2
 have q3:(p==3)=false:=by simpa using p3
 have hv:Z7 ⟨txs,ords,A,c,B,d⟩ p=Zcg (ZM (ZB ⟨txs,ords,A,c,B,d⟩)) (Zal p) (ZaU p):=by unfold Z7;rw[if_neg (by omega)]
 rw[hv];clear hv;obtain⟨l,gM⟩:=Qe (ZB ⟨txs,ords,A,c,B,d⟩);have bD:=Zfe hl;obtain⟨n1,n2⟩:=ZgP hl;have CE:=Qh (ZpX HH.out n1 n2 rfl rfl gM rfl);rw[gM]at bD ⊢;obtain⟨pl,hpl⟩:=Qe (ZM l);have hpn:pl.length=l.length:=by rw[<-hpl];unfold ZM;rw[Hw]
 have i6:=Qh hpl;rw[hpl];have mr:=Qh hpn;have HF:=Qh bD;obtain⟨M,hM⟩:=Qe (Zal p);obtain⟨T,hT⟩:=Qe (ZaU p);have PM:=Qh (fun W=>ZlY W p);rw[hM,hT]at PM ⊢;clear hM hT gM hpl hpn p2 p3 n1 n2 bD
 by_cases hm:M=0
 ·subst hm;rw[ZiF];go_enter Tryz.func13,Tryz.ntmps13;go_wp2_with fail;refine(PM.out _).mono ?_;rintro e w1 ⟨rfl,rfl⟩;go_wp2;go_ret;exact⟨rfl,U0.out⟩
 ·have sU:(M != 0)=true:=by simpa using hm
  clear hm;go_enter Tryz.func13,Tryz.ntmps13;go_wp2_with fail;refine(PM.out _).mono ?_;rintro e w1 ⟨rfl,rfl⟩;go_wp2_with fail;refine(CE.out).mono ?_;rintro e w1 ⟨A1,c1,rfl,eo,hu1⟩;have C2:=Qh (ZpW (c:=c1) eo (by have:=HF.out;omega) rfl i6.out rfl);go_wp2_with fail;refine(C2.out).mono ?_;rintro e w2 ⟨A2,c2,rfl,⟨G,cO⟩,hu2⟩;have db:=hu1.trans hu2;have C3:=Qh (Zv0 G w2 A2 c2 pl M T cO (by have:=HF.out;have:=mr.out;omega));clear eo cO hu1 hu2;go_wp2_with fail;refine Ck C3.out fun w3 hu3=>?_;go_wp2;go_ret;exact⟨rfl,U0.out.trans (db.trans hu3)⟩
/- Who goes out of a history,plain. -/
theorem Zif(h:Hist)(p:Int):Z7 h.nrm p=Z7 h p:=by unfold Z7;rw[ZrM,Zpg]
def goT(p:Int)(h:Hist)(id:Int):Bool:=Zb h&&(Ze h.txs id).isSome&& !ZbJ h.txs id&&Z7 (ZaL h id) p
def ZH(p:Int)(s:Hist×Iv)(id:Int):Hist×Iv:=if goT p s.1 id=true then (ZaL s.1 id,s.2++[id]) else s
def Zb9(h:Hist):Iv:=(h.txs.map (·.id)).reverse
def Z8(p:Int)(s:Hist×Iv):Hist×Iv:=(Zb9 s.1).foldl (ZH p) s
def Zbe(p:Int):Nat->Hist×Iv->Hist×List Int
 |0,s=>s
 |n+1,s=>if (Z8 p s).2.length=s.2.length then Z8 p s else Zbe p n (Z8 p s)
def GoT(p:Int):Hist->Iv->Hist->Prop
 |h,[],x=>x=h
 |h,id::l,x=>goT p h id=true∧GoT p (ZaL h id) l x
theorem GoT.snoc{p:Int}:∀{h:Hist} {l:Iv} {x:Hist} {id:Int},GoT p h l x->goT p x id=true->GoT p h (l++[id]) (ZaL x id)
 |h,[],x,id,e,g=>by cases e;exact⟨g,rfl⟩
 |h,a::l,x,id,e,g=>⟨e.1,GoT.snoc e.2 g⟩
theorem ZuC{p:Int}{h:Hist}{s:Hist×Iv}{id:Int}(H:GoT p h s.2 s.1):GoT p h (ZH p s id).2 (ZH p s id).1:=by
 unfold ZH
 by_cases g:goT p s.1 id=true
 ·rw[if_pos g];exact H.snoc g
 ·rw[if_neg g];exact H
theorem Zoc{p:Int}{h:Hist}:∀(l:Iv) {s:Hist×Iv},GoT p h s.2 s.1->GoT p h (l.foldl (ZH p) s).2 (l.foldl (ZH p) s).1
 |[],_,H=>H
 |id::l,s,H=>Zoc l (ZuC (id:=id) H)
theorem Zny{p:Int}{h:Hist}:∀(n:Nat) {s:Hist×Iv},GoT p h s.2 s.1->GoT p h (Zbe p n s).2 (Zbe p n s).1
 |0,_,H=>H
 |n+1,s,H=>by
  unfold Zbe;have h2:GoT p h (Z8 p s).2 (Z8 p s).1:=Zoc _ H
  split
  ·exact h2
  ·exact Zny n h2
theorem GoT.keep{p:Int}{Q:Hist->Prop}(hq:∀h id,goT p h id=true->Q h->Q (ZaL h id)):∀{h:Hist} {l:Iv} {x:Hist},GoT p h l x->Q h->Q x
 |_,[],_,e,k=>by cases e;exact k
 |_,id::_,_,e,k=>GoT.keep hq e.2 (hq _ id e.1 k)
theorem Zij{p:Int}{h:Hist}{id:Int}(g:goT p h id=true):Zb h=true∧(∃t,Ze h.txs id=some t)∧ZbJ h.txs id=false∧Z7 (ZaL h id) p=true:=by
 unfold goT at g;simp only[Hj,Bool.not_eq_true',Option.isSome_iff_exists]at g;exact⟨g.1.1.1,g.1.1.2,g.1.2,g.2⟩
theorem Zvo{p:Int}{h:Hist}{id:Int}(g:goT p h id=true):(Zao h.txs id).length+1=h.txs.length:=by
 obtain⟨hr,⟨t,ht⟩,_,_⟩:=Zij g;have hm:=List.mem_of_find?_eq_some ht;have hi:t.id=id:=by have:=List.find?_some ht;simpa using this
 have hn:=Zbf hr;clear ht g
 revert hm hn
 generalize h.txs=l;unfold Zao;intro hm hn
 induction l with
 |nil=>cases hm
 |cons a l ih=>
  rw[Id,Gr]at hn;rcases Ie.1 hm with rfl|hm
  ·have:l.filter (fun t=> !(t.id==id))=l:=List.filter_eq_self.2 fun u hu=>by
    have:=hn.1 u.id (Ih.2 ⟨u,hu,rfl⟩);simp;omega
   simp[hi,this]
  ·have h1:=ih hm hn.2;have h2:=hn.1 t.id (Ih.2 ⟨t,hm,rfl⟩);have:(!(a.id==id))=true:=by simp;omega
   simp only[List.filter_cons,this,if_true,G1];omega
theorem Zsd{p:Int}{s:Hist×Iv}{id:Int}:(ZH p s id).1.txs.length+(ZH p s id).2.length=s.1.txs.length+s.2.length:=by
 unfold ZH
 by_cases g:goT p s.1 id=true
 ·rw[if_pos g];have:=Zvo g
  show(Zao s.1.txs id).length+(s.2++[id]).length=_
  rw[Gt,Gi];omega
 ·rw[if_neg g]
theorem Zgk{p:Int}:∀(l:Iv) {s:Hist×Iv},(l.foldl (ZH p) s).1.txs.length+(l.foldl (ZH p) s).2.length=s.1.txs.length+s.2.length
 |[],_=>rfl
 |id::l,s=>by
  have:=Zgk (p:=p) l (s:=ZH p s id);rw[Zsd]at this;exact this
theorem Zfb{p:Int}:∀(l:Iv) {s:Hist×Iv},s.2.length<=(l.foldl (ZH p) s).2.length
 |[],_=>Nat.le_refl _
 |id::l,s=>by
  have h1:=Zfb (p:=p) l (s:=ZH p s id)
  have h2:s.2.length<=(ZH p s id).2.length:=by
   unfold ZH
   split
   ·rw[Gt];omega
   ·exact Nat.le_refl _
  exact Nat.le_trans h2 h1
theorem ZkV{p:Int}:∀(l:Iv) {s:Hist×Iv},(l.foldl (ZH p) s).2.length=s.2.length->l.foldl (ZH p) s=s∧∀id∈l,goT p s.1 id=false
 |[],_,_=>⟨rfl,fun _ h=>by cases h⟩
 |id::l,s,h=>by
  have h1:=Zfb (p:=p) l (s:=ZH p s id)
  by_cases g:goT p s.1 id=true
  ·exfalso
   have:ZH p s id=(ZaL s.1 id,s.2++[id]):=by unfold ZH;rw[if_pos g]
   rw[this,Gt]at h1;have h2:(l.foldl (ZH p) (ZH p s id)).2.length=s.2.length:=h;rw[this]at h2;simp at h1 h2;omega
  ·have e:ZH p s id=s:=by unfold ZH;rw[if_neg g]
   obtain⟨a,b⟩:=ZkV l (s:=s) (by rw[List.foldl_cons,e]at h;exact h);refine⟨by rw[List.foldl_cons,e];exact a,fun i hi=>?_⟩;rcases Ie.1 hi with rfl|hi
   ·simpa using g
   ·exact b i hi
theorem Zlw{p:Int}:∀(n:Nat) {s:Hist×Iv},s.1.txs.length<n->∀t∈(Zbe p n s).1.txs,goT p (Zbe p n s).1 t.id=false
 |0,_,h=>by omega
 |n+1,s,h=>by
  unfold Zbe
  by_cases e:(Z8 p s).2.length=s.2.length
  ·rw[if_pos e];obtain⟨a,b⟩:=ZkV (Zb9 s.1) e;have a:Z8 p s=s:=a;rw[a];exact fun t ht=>b t.id (by unfold Zb9;rw[List.mem_reverse,Ih];exact⟨t,ht,rfl⟩)
  ·rw[if_neg e];have h1:(Z8 p s).1.txs.length+(Z8 p s).2.length=_:=Zgk (Zb9 s.1);have h2:s.2.length<=(Z8 p s).2.length:=Zfb (Zb9 s.1);exact Zlw n (by omega)
theorem Zsc{p:Int}{s:Hist×Iv}(h:s.1.txs=[])(id:Int):ZH p s id=s:=by
 unfold ZH goT;rw[h];simp[Ze]
theorem Zik{p:Int}{s:Hist×Iv}(h:s.1.txs=[]):∀l:Iv,l.foldl (ZH p) s=s
 |[]=>rfl
 |id::l=>by rw[List.foldl_cons,Zsc h];exact Zik h l
theorem ZpT{p:Int}{s:Hist×Iv}(h:s.1.txs=[]):∀n,Zbe p n s=s
 |0=>rfl
 |n+1=>by
  unfold Zbe;have:Z8 p s=s:=Zik h _;rw[this,if_pos rfl]
/- What is left of a history,plain. -/
section
variable {p:Int}
theorem GoT.right{l:Iv}{h x:Hist}(e:GoT p h l x)(hr:Zb h=true):Zb x=true:=
 e.keep (Q:=fun h=>Zb h=true) (fun h id g hr=>Zk4 hr (Zij g).2.2.1) hr
theorem GoT.has{l:Iv}{h x:Hist}(e:GoT p h l x)(hh:Z7 h p=true):Z7 x p=true:=
 e.keep (Q:=fun h=>Z7 h p=true) (fun h id g _=>(Zij g).2.2.2) hh
def Zcx(h:Hist)(p:Int):Hist×Iv:=Zbe p (h.txs.length+1) (h,[])
theorem Zog(h:Hist):GoT p h (Zcx h p).2 (Zcx h p).1:=Zny _ rfl
theorem Zro(h:Hist):∀t∈(Zcx h p).1.txs,goT p (Zcx h p).1 t.id=false:=Zlw _ (Nat.lt_succ_self _)
theorem Zdy{h:Hist}(hl:Zd h=true)(id:Int):Zd (ZaL h id)=true:=by
 unfold Zd at hl ⊢;simp only[Hj,Gw,Hd]at hl ⊢;obtain⟨⟨⟨h1,h2⟩,h3⟩,h4⟩:=hl;refine⟨⟨⟨Nat.le_trans (Gj ..) h1,?_⟩,fun t ht=>h3 t (mem_delT.1 ht).1⟩,fun o ho=>?_⟩
 ·refine Nat.le_trans (Gj ..) ?_;rw[Hw];exact h2
 ·obtain⟨u,hu,rfl,_⟩:=mem_delO.1 ho;exact Nat.le_trans (Gj ..) (h4 u hu)
theorem GoT.light{l:Iv}{h x:Hist}(e:GoT p h l x)(hl:Zd h=true):Zd x=true:=
 e.keep (Q:=fun h=>Zd h=true) (fun h id _ hl=>Zdy hl id) hl
end
/- Who goes,whatever memory a history lies in:plain. -/
theorem ZpY(l:List HTx)(id:Int):ZbJ (l.map HTx.nrm) id=ZbJ l id:=by unfold ZbJ;rw[List.any_map];rfl
theorem Ztv(l:List HTx)(id:Int):Zao (l.map HTx.nrm) id=(Zao l id).map HTx.nrm:=by unfold Zao;rw[List.filter_map];rfl
theorem Ztw(m:List HOrd)(id:Int):ZaR (m.map HOrd.nrm) id=ZaR m id:=by unfold ZaR;rw[List.map_map];rfl
theorem Zvp(m:List HOrd)(id:Int):(ZaR m id).map HOrd.nrm=ZaR m id:=by
 conv=>rhs;rw[<-List.map_id (ZaR m id)]
 apply List.map_congr_left
 intro o ho;obtain⟨u,_,rfl,_⟩:=mem_delO.1 ho;rfl
theorem Zin(h:Hist)(id:Int):ZaL h.nrm id=(ZaL h id).nrm:=by
 show(⟨Zao (h.txs.map HTx.nrm) id,ZaR (h.ords.map HOrd.nrm) id,none,0,none,0⟩:Hist)=⟨(Zao h.txs id).map HTx.nrm,(ZaR h.ords id).map HOrd.nrm,none,0,none,0⟩
 rw[Ztv,Ztw,Zvp]
theorem Zn8(p:Int)(h:Hist)(id:Int):goT p h.nrm id=goT p h id:=by
 have h1:(Ze h.nrm.txs id).isSome=(Ze h.txs id).isSome:=by
  rw[show h.nrm.txs=h.txs.map HTx.nrm from rfl,Zfd]
  cases Ze h.txs id<;>rfl
 have h2:ZbJ h.nrm.txs id=ZbJ h.txs id:=ZpY _ _;unfold goT;rw[ZdF,Zin,Zif,h1,h2]
theorem Zmx(h:Hist):Zb9 h.nrm=Zb9 h:=by
 show((h.txs.map HTx.nrm).map (·.id)).reverse=_
 rw[List.map_map];rfl
section
variable {p:Int} {h x:Hist}
theorem Zrc(e:x.nrm=h.nrm)(id:Int):goT p x id=goT p h id:=by rw[<-Zn8 p x,e,Zn8]
theorem Zwr(e:x.nrm=h.nrm)(id:Int):(ZaL x id).nrm=(ZaL h id).nrm:=by rw[<-Zin,e,Zin]
theorem Zu6(e:x.nrm=h.nrm):Zb9 x=Zb9 h:=by rw[<-Zmx x,e,Zmx]
theorem Zso(e:x.nrm=h.nrm):Zb x=Zb h:=by rw[<-ZdF x,e,ZdF]
theorem ZdZ(e:x.nrm=h.nrm):Zd x=Zd h:=by rw[<-Zi6 x,e,Zi6]
theorem ZmC(e:x.nrm=h.nrm):Z7 x p=Z7 h p:=by rw[<-Zif x,e,Zif]
theorem ZqW(e:x.nrm=h.nrm):x.txs.length=h.txs.length:=by
 have:=congrArg (fun y:Hist=>y.txs.length) e
 simpa[Hist.nrm]using this
end
/- Whether a transaction may go (trim.without,trim.Goes). -/
def Zg2(h:Hist)(id:Int):Bool:=Zb h&&(Ze h.txs id).isSome&& !ZbJ h.txs id
theorem Zrd(p:Int)(h:Hist)(id:Int):goT p h id=(Zg2 h id&&Z7 (ZaL h id) p):=rfl
theorem ZdL{h:Hist}(hl:Zd h=true):h.txs.length<=12∧h.ords.length<=24:=by
 unfold Zd at hl;simp only[Hj,Gw]at hl;exact⟨hl.1.1.1,hl.1.1.2⟩
section
variable {F:Iw} {w:I0} {txs:List HTx} {ords:List HOrd} {A:OA} {c:Nat} {B:OA} {d:Nat}
def NoH(w:I0)(e:Ending)(w':I0):Prop:=∃k:Int,(k != 0)=true∧e= .returned (.tuple #[.agg #[.slice none 0 0,.slice none 0 0],Qi k])∧Upd No w w'
theorem Zve(i0:Int)(H:Hist.lies F w ⟨txs,ords,A,c,B,d⟩)(hl:Zd ⟨txs,ords,A,c,B,d⟩=true)(hd:Zg2 ⟨txs,ords,A,c,B,d⟩ i0=false):
  Calls Tryz.prog 85 #[.agg #[.slice A txs.length c,.slice B ords.length d],Qi i0] w (NoH w):=by
 obtain⟨l1,l2⟩:=ZdL hl;simp only at l1 l2;unfold Zg2 at hd
 cases hr:Zb ⟨txs,ords,A,c,B,d⟩with
 |false=>exact(Ztb F w txs ords A c B d i0 H hr).mono fun e w' ⟨a,b⟩=>⟨5,rfl,a,b⟩
 |true=>
  have hp:=Zbf hr
  cases hf:(Ze txs i0).isSome with
  |false=>exact(Zta F w txs ords A c B d i0 H hr (by omega) hp hf).mono fun e w' ⟨a,b⟩=>⟨3,rfl,a,b⟩
  |true=>
   simp only[hr,hf,Bool.true_and,Bool.not_eq_false']at hd;exact(Zs9 F w txs ords A c B d i0 H hr (by omega) hp hf hd).mono fun e w' ⟨a,b⟩=>⟨7,rfl,a,b⟩
theorem ZmB(i0:Int)(H:Hist.lies F w ⟨txs,ords,A,c,B,d⟩)(hl:Zd ⟨txs,ords,A,c,B,d⟩=true)(hd:Zg2 ⟨txs,ords,A,c,B,d⟩ i0=true):
  Calls Tryz.prog 85 #[.agg #[.slice A txs.length c,.slice B ords.length d],Qi i0] w fun e w'=>∃v,e= .returned (.tuple #[v,Qi 0])∧LiesN w.heap.size w' v (ZaL ⟨txs,ords,A,c,B,d⟩ i0)∧Upd No w w':=by
 obtain⟨l1,l2⟩:=ZdL hl;simp only at l1 l2;unfold Zg2 at hd;simp only[Hj,Bool.not_eq_true']at hd;exact Zvd F w txs ords A c B d i0 H hd.1.1 (by omega) (by omega) (Zbf hd.1.1) hd.1.2 hd.2
end
theorem ZvM(F:Iw)(w:I0)(txs:List HTx)(ords:List HOrd)(A:OA)(c:Nat)(B:OA)(d:Nat)(p i0:Int)(H:Hist.lies F w ⟨txs,ords,A,c,B,d⟩)(hl:Zd ⟨txs,ords,A,c,B,d⟩=true)(hd:Zg2 ⟨txs,ords,A,c,B,d⟩ i0=false):
  CN 43 #[.agg #[.slice A txs.length c,.slice B ords.length d],Qi p,Qi i0] w (.tuple #[.agg #[.slice none 0 0,.slice none 0 0],.bool false]):=by
 obtain⟨z,hz⟩:=Qe w.heap.size;obtain⟨w1,ap⟩:=Qe (w.alloc (.cells #[.slice A txs.length c,.slice B ords.length d] 25));have s1:w1.heap.size=z+1:=by rw[<-ap,<-hz];simp
 obtain⟨wb,ag⟩:=Qe (w1.alloc (.cells #[.slice none 0 0,.slice none 0 0] 25));have s2:wb.heap.size=z+2:=by rw[<-ag];simp;omega
 have u1:Upd No w w1:=by rw[<-ap];exact(Il No w).alloc _
 have u2:Upd No w1 wb:=by rw[<-ag];exact(Il No w1).alloc _
 have b0:Blk wb z 25 [.slice A txs.length c,.slice B ords.length d]:=by
  have:Blk w1 z 25 [.slice A txs.length c,.slice B ords.length d]:=by rw[<-ap,<-hz];exact Im w _ _
  exact this.upd u2 id
 have b1:Blk wb (z+1) 25 [.slice none 0 0,.slice none 0 0]:=by rw[<-ag,<-s1];exact Im w1 _ _
 have UB:=Qh (u1.trans u2);have HB:=Qh (H.upd (u1.trans u2) Qo);have BR:=Qh b1;have HZ:=Qh hz;obtain⟨c0,c1⟩:=b0.c2;clear u1 u2 b0 b1 H;have HD:=Qh (Zve i0 HB.out hl hd);clear hl hd;go_enter Tryz.func43,Tryz.ntmps43;go_wp2_with fail;refine(HD.out).mono ?_;rintro e w3 ⟨k,hk,rfl,hu3⟩;have hu4:Upd No wb (w3.alloc (.cells #[.slice none 0 0,.slice none 0 0] 25)):=hu3.alloc _;have aB:=BR.out.upd hu4 id;obtain⟨s0,s1'⟩:=aB.c2;obtain⟨t0,t1⟩:=aB.f2;have dA:=Qh aB;have UU:=Qh (UB.out.trans hu4);clear aB;go_wp2;have b3:=(dA.out.set_ 0 (.slice none 0 0)).set_ 1 (.slice none 0 0);simp only[List.set_cons_zero,List.set_cons_succ]at b3;obtain⟨r0,r1⟩:=b3.c2;refine bodyPost_ret (v:= .tuple #[.agg #[.slice none 0 0,.slice none 0 0],.bool false]) (by simp[results,Tryz.results43,go_sem,r0,r1]) rfl ⟨rfl,?_⟩;exact UU.out.then_ (((Il (One (z+1)) (w3.alloc (.cells #[.slice none 0 0,.slice none 0 0] 25))).setOne 0 _).setOne 1 _) (fun i e=> .inr (by cases e;have:=HZ.out;omega))
theorem ZvL(F:Iw)(w:I0)(txs:List HTx)(ords:List HOrd)(A:OA)(c:Nat)(B:OA)(d:Nat)(p i0:Int)(H:Hist.lies F w ⟨txs,ords,A,c,B,d⟩)(hl:Zd ⟨txs,ords,A,c,B,d⟩=true)(hd:Zg2 ⟨txs,ords,A,c,B,d⟩ i0=true)
  (hh:Z7 (ZaL ⟨txs,ords,A,c,B,d⟩ i0) p=false):
  CN 43 #[.agg #[.slice A txs.length c,.slice B ords.length d],Qi p,Qi i0] w (.tuple #[.agg #[.slice none 0 0,.slice none 0 0],.bool false]):=by
 have ql:=Zdy hl i0;obtain⟨z,hz⟩:=Qe w.heap.size;obtain⟨w1,ap⟩:=Qe (w.alloc (.cells #[.slice A txs.length c,.slice B ords.length d] 25));have s1:w1.heap.size=z+1:=by rw[<-ap,<-hz];simp
 obtain⟨wb,ag⟩:=Qe (w1.alloc (.cells #[.slice none 0 0,.slice none 0 0] 25));have s2:wb.heap.size=z+2:=by rw[<-ag];simp;omega
 have u1:Upd No w w1:=by rw[<-ap];exact(Il No w).alloc _
 have u2:Upd No w1 wb:=by rw[<-ag];exact(Il No w1).alloc _
 have b0:Blk wb z 25 [.slice A txs.length c,.slice B ords.length d]:=by
  have:Blk w1 z 25 [.slice A txs.length c,.slice B ords.length d]:=by rw[<-ap,<-hz];exact Im w _ _
  exact this.upd u2 id
 have b1:Blk wb (z+1) 25 [.slice none 0 0,.slice none 0 0]:=by rw[<-ag,<-s1];exact Im w1 _ _
 have UB:=Qh (u1.trans u2);have HB:=Qh (H.upd (u1.trans u2) Qo);have BR:=Qh b1;have HZ:=Qh hz;obtain⟨c0,c1⟩:=b0.c2;clear u1 u2 b0 b1 H;have HD:=Qh (ZmB i0 HB.out hl hd);have HL:=Qh (And.intro ql hh);clear hl hd ql hh;go_enter Tryz.func43,Tryz.ntmps43;go_wp2_with fail;refine(HD.out).mono ?_;rintro e w3 ⟨v,rfl,ik,hu3⟩;obtain⟨xt,xo,xA,xc,xB,xd,rfl,hx,hn⟩:=ik.open;obtain⟨w4,cW⟩:=Qe (w3.alloc (.cells #[.slice xA xt.length xc,.slice xB xo.length xd] 25));have u4:Upd No w3 w4:=by rw[<-cW];exact(Il No w3).alloc _
 have b4:Blk w4 w3.heap.size 25 [.slice xA xt.length xc,.slice xB xo.length xd]:=by rw[<-cW];exact Im w3 _ _
 obtain⟨q0,q1⟩:=b4.c2;have hP:=ZhU _ w4 xt xo xA xc xB xd p (hx.upd u4 Qo) ((ZdZ hn).trans HL.out.1);rw[(ZmC hn).trans HL.out.2]at hP;have HP:=Qh hP;have dl:=Qh (hu3.trans u4);clear hP hx hn u4 b4 hu3 c0 c1;go_wp2_with fail;refine Ck HP.out fun w5 hu5=>?_;have jT:=dl.out.trans hu5;have aB:=BR.out.upd jT id;obtain⟨s0,s1'⟩:=aB.c2;obtain⟨t0,t1⟩:=aB.f2;have dA:=Qh aB;have UU:=Qh (UB.out.trans jT);clear aB;go_wp2;have b3:=(dA.out.set_ 0 (.slice none 0 0)).set_ 1 (.slice none 0 0);simp only[List.set_cons_zero,List.set_cons_succ]at b3;obtain⟨r0,r1⟩:=b3.c2;refine bodyPost_ret (v:= .tuple #[.agg #[.slice none 0 0,.slice none 0 0],.bool false]) (by simp[results,Tryz.results43,go_sem,r0,r1]) rfl ⟨rfl,?_⟩;exact UU.out.then_ (((Il (One (z+1)) w5).setOne 0 _).setOne 1 _) (fun i e=> .inr (by cases e;have:=HZ.out;omega))
theorem Zp1(F:Iw)(w:I0)(txs:List HTx)(ords:List HOrd)(A:OA)(c:Nat)(B:OA)(d:Nat)(p i0:Int)(H:Hist.lies F w ⟨txs,ords,A,c,B,d⟩)(hl:Zd ⟨txs,ords,A,c,B,d⟩=true)(hg:goT p ⟨txs,ords,A,c,B,d⟩ i0=true):
  Calls Tryz.prog 43 #[.agg #[.slice A txs.length c,.slice B ords.length d],Qi p,Qi i0] w fun e w'=>∃v,e= .returned (.tuple #[v,.bool true])∧LiesN w.heap.size w' v (ZaL ⟨txs,ords,A,c,B,d⟩ i0)∧Upd No w w':=by
 have ql:=Zdy hl i0;rw[Zrd,Hj]at hg;obtain⟨hd,hh⟩:=hg;obtain⟨z,hz⟩:=Qe w.heap.size;obtain⟨w1,ap⟩:=Qe (w.alloc (.cells #[.slice A txs.length c,.slice B ords.length d] 25));have s1:w1.heap.size=z+1:=by rw[<-ap,<-hz];simp
 obtain⟨wb,ag⟩:=Qe (w1.alloc (.cells #[.slice none 0 0,.slice none 0 0] 25));have s2:wb.heap.size=z+2:=by rw[<-ag];simp;omega
 have u1:Upd No w w1:=by rw[<-ap];exact(Il No w).alloc _
 have u2:Upd No w1 wb:=by rw[<-ag];exact(Il No w1).alloc _
 have b0:Blk wb z 25 [.slice A txs.length c,.slice B ords.length d]:=by
  have:Blk w1 z 25 [.slice A txs.length c,.slice B ords.length d]:=by rw[<-ap,<-hz];exact Im w _ _
  exact this.upd u2 id
 have b1:Blk wb (z+1) 25 [.slice none 0 0,.slice none 0 0]:=by rw[<-ag,<-s1];exact Im w1 _ _
 have UB:=Qh (u1.trans u2);have HB:=Qh (H.upd (u1.trans u2) Qo);have BR:=Qh b1;have HZ:=Qh hz;obtain⟨c0,c1⟩:=b0.c2;clear u1 u2 b0 b1 H;have HD:=Qh (ZmB i0 HB.out hl hd);have HL:=Qh (And.intro ql hh);clear hl hd ql hh;go_enter Tryz.func43,Tryz.ntmps43;go_wp2_with fail;refine(HD.out).mono ?_;rintro e w3 ⟨v,rfl,ik,hu3⟩;obtain⟨xt,xo,xA,xc,xB,xd,rfl,hx,hn⟩:=ik.open;obtain⟨w4,cW⟩:=Qe (w3.alloc (.cells #[.slice xA xt.length xc,.slice xB xo.length xd] 25));have u4:Upd No w3 w4:=by rw[<-cW];exact(Il No w3).alloc _
 have b4:Blk w4 w3.heap.size 25 [.slice xA xt.length xc,.slice xB xo.length xd]:=by rw[<-cW];exact Im w3 _ _
 obtain⟨q0,q1⟩:=b4.c2;have hP:=ZhU _ w4 xt xo xA xc xB xd p (hx.upd u4 Qo) ((ZdZ hn).trans HL.out.1);rw[(ZmC hn).trans HL.out.2]at hP;have HP:=Qh hP;have dl:=Qh (hu3.trans u4);have HX:=Qh (And.intro (hx.upd u4 Qo) hn);have B4:=Qh b4;clear hP hx hn u4 b4 hu3 c0 c1;go_wp2_with fail;refine Ck HP.out fun w5 hu5=>?_;have b5:=B4.out.upd hu5 id;obtain⟨p0,p1⟩:=b5.c2;have aB:=BR.out.upd (dl.out.trans hu5) id;obtain⟨s0,s1'⟩:=aB.c2;obtain⟨t0,t1⟩:=aB.f2;have dA:=Qh aB;have cF:=Qh (dl.out.trans hu5);have Ew:=Qh (HX.out.1.upd hu5 Qo);clear aB b5 hu5 q0 q1;go_wp2;have b3:=(dA.out.set_ 0 (.slice xA xt.length xc)).set_ 1 (.slice xB xo.length xd);simp only[List.set_cons_zero,List.set_cons_succ]at b3;obtain⟨r0,r1⟩:=b3.c2;have US:=((Il (One (z+1)) w5).setOne 0 (.slice xA xt.length xc)).setOne 1 (.slice xB xo.length xd);refine bodyPost_ret (v:= .tuple #[.agg #[.slice xA xt.length xc,.slice xB xo.length xd],.bool true]) (by simp[results,Tryz.results43,go_sem,r0,r1]) rfl ⟨_,rfl,⟨⟨xt,xo,xA,xc,xB,xd⟩,rfl,?_,HX.out.2⟩,?_⟩
 ·exact(Ew.out.upd US (fun i h e=>by have e2:i=z+1:=e;omega)).weak (fun i _ h=>by have:=HZ.out;omega)
 ·exact(UB.out.trans cF.out).then_ US (fun i e=> .inr (by cases e;have:=HZ.out;omega))
/- The walk down,step by step:plain. -/
section
variable {p:Int} {S T:Hist×Iv} {k n:Nat}
def upT(p:Int)(S:Hist×Iv)(k:Nat):Hist×Iv:=((Zb9 S.1).take k).foldl (ZH p) S
theorem Zr8{id:Int}(hk:(Zb9 S.1)[k]? =some id):upT p S (k+1)=ZH p (upT p S k) id:=by
 obtain⟨h1,h2⟩:=List.getElem?_eq_some_iff.1 hk;unfold upT;rw[Gb h1,List.foldl_append,h2];rfl
theorem Zux(hk:(Zb9 S.1).length<=k):upT p S k=Z8 p S:=by
 unfold upT;rw[List.take_of_length_le hk];rfl
theorem Znz(h:(upT p S k).1.txs=[]):Z8 p S=upT p S k:=by
 have e:Zb9 S.1=(Zb9 S.1).take k++(Zb9 S.1).drop k:=(List.take_append_drop _ _).symm
 have h1:Z8 p S=((Zb9 S.1).drop k).foldl (ZH p) (upT p S k):=by
  unfold Z8 upT
  conv=>lhs;rw[e]
  rw[List.foldl_append]
 rw[h1];exact Zik h _
theorem Zoq(hT:Zbe p (n+1) S=T)(h:(upT p S k).1.txs=[]):upT p S k=T:=by
 rw[<-hT,<-Znz h];unfold Zbe
 split
 ·rfl
 ·rw[ZpT (by rw[Znz h];exact h)]
theorem ZpS(hT:Zbe p (n+1) S=T)(h:(Z8 p S).2.length=S.2.length):Z8 p S=T:=by
 rw[<-hT]
 conv=>rhs;unfold Zbe
 rw[if_pos h]
theorem Zut(hT:Zbe p (n+1) S=T)(h:(Z8 p S).2.length≠S.2.length):Zbe p n (Z8 p S)=T:=by
 rw[<-hT]
 conv=>rhs;unfold Zbe
 rw[if_neg h]
theorem ZnA:(upT p S k).1.txs.length+(upT p S k).2.length=S.1.txs.length+S.2.length:=Zgk _
theorem ZoG:S.2.length<=(Z8 p S).2.length:=Zfb _
theorem ZoH(h:(Z8 p S).2.length≠S.2.length):(Z8 p S).1.txs.length<S.1.txs.length:=by
 have h1:(Z8 p S).1.txs.length+(Z8 p S).2.length=S.1.txs.length+S.2.length:=Zgk _;have h2:=ZoG (p:=p) (S:=S);omega
theorem Zox{id:Int}(h:Zd S.1=true):Zd (ZH p S id).1=true:=by
 unfold ZH
 split
 ·exact Zdy h id
 ·exact h
theorem Zjh:∀(l:Iv) {S:Hist×Iv},Zd S.1=true->Zd (l.foldl (ZH p) S).1=true
 |[],_,h=>h
 |id::l,S,h=>Zjh l (S:=ZH p S id) (Zox h)
theorem Zkc(h:Zd S.1=true):Zd (upT p S k).1=true:=Zjh _ h
theorem Zsb{id:Int}(h:goT p S.1 id=true):ZH p S id=(ZaL S.1 id,S.2++[id]):=by unfold ZH;rw[if_pos h]
theorem ZuB{id:Int}(h:goT p S.1 id=false):ZH p S id=S:=by unfold ZH;rw[h];rfl
end
/- trim.Goes,trim.walkDown. -/
theorem ZtX(F:Iw)(w:I0)(txs:List HTx)(ords:List HOrd)(A:OA)(c:Nat)(B:OA)(d:Nat)(p i0:Int)(H:Hist.lies F w ⟨txs,ords,A,c,B,d⟩)(hl:Zd ⟨txs,ords,A,c,B,d⟩=true)(hg:goT p ⟨txs,ords,A,c,B,d⟩ i0=false):
  CN 43 #[.agg #[.slice A txs.length c,.slice B ords.length d],Qi p,Qi i0] w (.tuple #[.agg #[.slice none 0 0,.slice none 0 0],.bool false]):=by
 rw[Zrd]at hg
 cases hd:Zg2 ⟨txs,ords,A,c,B,d⟩ i0 with
 |false=>exact ZvM F w txs ords A c B d p i0 H hl hd
 |true=>
  rw[hd,Bool.true_and]at hg;exact ZvL F w txs ords A c B d p i0 H hl hd hg
theorem ZwU(F:Iw)(w:I0)(txs:List HTx)(ords:List HOrd)(A:OA)(c:Nat)(B:OA)(d:Nat)(p i0:Int)(H:Hist.lies F w ⟨txs,ords,A,c,B,d⟩)(hl:Zd ⟨txs,ords,A,c,B,d⟩=true):
  CN 17 #[.agg #[.slice A txs.length c,.slice B ords.length d],Qi p,Qi i0] w (.bool (Z7 ⟨txs,ords,A,c,B,d⟩ p&&goT p ⟨txs,ords,A,c,B,d⟩ i0)):=by
 obtain⟨z,hz⟩:=Qe w.heap.size;obtain⟨wb,ag⟩:=Qe (w.alloc (.cells #[.slice A txs.length c,.slice B ords.length d] 25));have u1:Upd No w wb:=by rw[<-ag];exact(Il No w).alloc _
 have b0:Blk wb z 25 [.slice A txs.length c,.slice B ords.length d]:=by rw[<-ag,<-hz];exact Im w _ _
 have UB:=Qh u1;have HB:=Qh (H.upd u1 Qo);have B0:=Qh b0;obtain⟨c0,c1⟩:=b0.c2;have hP:=ZhU F wb txs ords A c B d p HB.out hl;obtain⟨hh,mB⟩:=Qe (Z7 ⟨txs,ords,A,c,B,d⟩ p);obtain⟨gg,hgg⟩:=Qe (goT p ⟨txs,ords,A,c,B,d⟩ i0);have HG:=Qh hgg;rw[mB]at hP ⊢;rw[hgg];have HP:=Qh hP;have HL:=Qh hl;clear u1 b0 hP H mB hgg hl
 cases hh
 ·go_enter Tryz.func17,Tryz.ntmps17;go_wp2_with fail;refine Ck HP.out fun w3 hu3=>?_;go_wp2;go_ret;exact⟨rfl,UB.out.trans hu3⟩
 ·cases gg
  ·go_enter Tryz.func17,Tryz.ntmps17;go_wp2_with fail;refine Ck HP.out fun w3 hu3=>?_;have c03:=hu3.keepNo c0;have c13:=hu3.keepNo c1;have HW:=Qh (ZtX F w3 txs ords A c B d p i0 (HB.out.upd hu3 Qo) HL.out HG.out);clear c0 c1;go_wp2_with fail;refine Ck HW.out fun w4 hu4=>?_;go_wp2;go_ret;exact⟨rfl,(UB.out.trans (hu3.trans hu4)).alloc _⟩
  ·go_enter Tryz.func17,Tryz.ntmps17;go_wp2_with fail;refine Ck HP.out fun w3 hu3=>?_;have c03:=hu3.keepNo c0;have c13:=hu3.keepNo c1;have HW:=Qh (Zp1 F w3 txs ords A c B d p i0 (HB.out.upd hu3 Qo) HL.out HG.out);clear c0 c1;go_wp2_with fail;refine(HW.out).mono ?_;rintro e w4 ⟨v,rfl,d9,hu4⟩;obtain⟨xt,xo,xA,xc,xB,xd,rfl,hx,hn⟩:=d9.open;go_wp2;go_ret;exact⟨rfl,(UB.out.trans (hu3.trans hu4)).alloc _⟩
/- Witnesses:of edges,of reads,of a history:the program's and the document's. -/
theorem ToldC.no{w:I0}{d:List Edge}{e:Ending}{w':I0}(h:ToldC w d e w')(hd:d=[]):∃A c,e= .returned (.tuple #[.slice A 0 c,Qi 3])∧Upd No w w':=by
 obtain⟨A,c,rfl,_,hu⟩:=h;subst hd;exact⟨A,c,rfl,hu⟩
theorem ToldC.yes{w:I0}{d:List Edge}{e:Ending}{w':I0}(h:ToldC w d e w')(hd:d≠[]):∃A c,e= .returned (.tuple #[.slice A d.length c,Qi 0])∧Walk (fun i=>w.heap.size<=i) w' A d∧Upd No w w':=by
 obtain⟨A,c,rfl,ho,hu⟩:=h;rw[if_neg (by rw[List.length_eq_zero_iff];exact hd)];exact⟨A,c,rfl,Recs.weak (Recs.of_own Zbn (by omega) ho) (fun i _ e=>(ho.lt i e).1),hu⟩
theorem ZgE{W:I0}{b:Nat}{ty:Iy}{c0 c1 c2 c3 c4 c5 c6:Iz}(h:Blk W b ty [c0,c1,c2,c3,c4,c5,c6])(v0 v1 v2 v3 v4 v5 v6:Iz):
  Blk (((((((W.setCell ⟨b,0,none⟩ v0).setCell ⟨b,1,none⟩ v1).setCell ⟨b,2,none⟩ v2).setCell ⟨b,3,none⟩ v3).setCell ⟨b,4,none⟩ v4).setCell ⟨b,5,none⟩ v5).setCell ⟨b,6,none⟩ v6) b ty [v0,v1,v2,v3,v4,v5,v6]∧
  Upd (One b) W (((((((W.setCell ⟨b,0,none⟩ v0).setCell ⟨b,1,none⟩ v1).setCell ⟨b,2,none⟩ v2).setCell ⟨b,3,none⟩ v3).setCell ⟨b,4,none⟩ v4).setCell ⟨b,5,none⟩ v5).setCell ⟨b,6,none⟩ v6):=by
 refine⟨?_,(((((((Il _ _).setOne 0 _).setOne 1 _).setOne 2 _).setOne 3 _).setOne 4 _).setOne 5 _).setOne 6 _⟩;have:=((((((h.set_ 0 v0).set_ 1 v1).set_ 2 v2).set_ 3 v3).set_ 4 v4).set_ 5 v5).set_ 6 v6
 simpa only[List.set_cons_zero,List.set_cons_succ]using this
theorem ZwS(F:Iw)(w:I0)(A:OA)(c:Nat)(l:List Edge)(p:Int)(h:Walk F w A l)(hl:l.length<=2000):Calls Tryz.prog 53 #[.slice A l.length c,Qi p] w (ToldW w (Zd3 l p)):=by
 obtain⟨M,hM⟩:=Qe (Zal p);obtain⟨T,hT⟩:=Qe (ZaU p);have PM:=Qh (fun W=>ZlY W p);rw[hM,hT]at PM;unfold Zd3;rw[hM,hT];clear hM hT;obtain⟨z,hz⟩:=Qe w.heap.size;obtain⟨wb,ag⟩:=Qe (w.alloc (.cells #[Qi 0,.slice none 0 0,Qi 0,Qi 0,Qi 0,Qi 0,Qi 0] 53));have u0:Upd No w wb:=by rw[<-ag];exact(Il No w).alloc _
 have bW:Blk wb z 53 [Qi 0,.slice none 0 0,Qi 0,Qi 0,Qi 0,Qi 0,Qi 0]:=by rw[<-ag,<-hz];exact Im w _ _
 have c0:=bW.ev 0 rfl
 have f0:∀W,Upd No wb W->W.frozen? ⟨z,0,none⟩=false:=fun W u=>(bW.upd u id).free 0
 have f1:∀W,Upd No wb W->W.frozen? ⟨z,1,none⟩=false:=fun W u=>(bW.upd u id).free 1
 have f2:∀W,Upd No wb W->W.frozen? ⟨z,2,none⟩=false:=fun W u=>(bW.upd u id).free 2
 have f3:∀W,Upd No wb W->W.frozen? ⟨z,3,none⟩=false:=fun W u=>(bW.upd u id).free 3
 have f4:∀W,Upd No wb W->W.frozen? ⟨z,4,none⟩=false:=fun W u=>(bW.upd u id).free 4
 have f5:∀W,Upd No wb W->W.frozen? ⟨z,5,none⟩=false:=fun W u=>(bW.upd u id).free 5
 have f6:∀W,Upd No wb W->W.frozen? ⟨z,6,none⟩=false:=fun W u=>(bW.upd u id).free 6
 have e0:=bW.ev 1 rfl
 have e2:=bW.ev 2 rfl
 have e3:=bW.ev 3 rfl
 have e4:=bW.ev 4 rfl
 have e5:=bW.ev 5 rfl
 have e6:=bW.ev 6 rfl
 have BW:=Qh bW;have HZ:=Qh hz;have U0:=Qh u0;have hbz:Upd No wb wb:=Il _ _;clear bW u0
 by_cases hm:M=0
 ·subst hm;rw[if_pos rfl];go_enter Tryz.func53,Tryz.ntmps53;go_wp2_with fail;refine(PM.out _).mono ?_;rintro e w1 ⟨rfl,rfl⟩;go_wp2;obtain⟨b7,u7⟩:=ZgE (BW.out.upd hbz id) (Qi 0) (.slice none 0 0) (Qi 0) (Qi 0) (Qi 0) (Qi 0) (Qi 0);obtain⟨r0,r1,r2,r3,r4,r5,r6⟩:=b7.c7;refine bodyPost_ret (v:= .tuple #[.agg #[Qi 0,.slice none 0 0,Qi 0,Qi 0,Qi 0,Qi 0,Qi 0],.bool false]) (by simp[results,Tryz.results53,go_sem,r0,r1,r2,r3,r4,r5,r6]) rfl ?_;have uE:=(U0.out.trans hbz).then_ u7 (fun i e=>Or.inr (by have:=HZ.out;unfold One at e;omega));exact⟨none,0,rfl,Zev,uE⟩
 ·rw[if_neg hm];have sU:(M==0)=false:=by simpa using hm
  have CS:=Qh (ZrE F wb A c l M T (Recs.upd h U0.out Qo) hl)
  by_cases hd:ZaQ l M T=[]
  ·rw[if_pos hd];have HD:=Qh hd;clear hd hm;go_enter Tryz.func53,Tryz.ntmps53;go_wp2_with fail;refine(PM.out _).mono ?_;rintro e w1 ⟨rfl,rfl⟩;go_wp2_with fail;refine CS.out.mono ?_;rintro e w2 h2;obtain⟨A2,c2,rfl,hu2⟩:=h2.no HD.out;go_wp2;obtain⟨b7,u7⟩:=ZgE (BW.out.upd hu2 id) (Qi 0) (.slice none 0 0) (Qi 0) (Qi 0) (Qi 0) (Qi 0) (Qi 0);obtain⟨r0,r1,r2,r3,r4,r5,r6⟩:=b7.c7;refine bodyPost_ret (v:= .tuple #[.agg #[Qi 0,.slice none 0 0,Qi 0,Qi 0,Qi 0,Qi 0,Qi 0],.bool false]) (by simp[results,Tryz.results53,go_sem,r0,r1,r2,r3,r4,r5,r6]) rfl ?_;have uE:=(U0.out.trans hu2).then_ u7 (fun i e=>Or.inr (by have:=HZ.out;unfold One at e;omega));exact⟨none,0,rfl,Zev,uE⟩
  ·rw[if_neg hd];obtain⟨d,zU⟩:=Qe (ZaQ l M T);rw[zU]at hd CS ⊢;have HD:=Qh hd;clear hd hm zU;go_enter Tryz.func53,Tryz.ntmps53;go_wp2_with fail;refine(PM.out _).mono ?_;rintro e w1 ⟨rfl,rfl⟩;go_wp2_with fail;refine CS.out.mono ?_;rintro e w2 h2;obtain⟨A2,c2,rfl,cO,hu2⟩:=h2.yes HD.out;have HX:=Qh cO;clear cO h2;go_wp2;obtain⟨b7,u7⟩:=ZgE (BW.out.upd hu2 id) (Qi p) (.slice A2 d.length c2) (Qi 0) (Qi 0) (Qi 0) (Qi 0) (Qi 0);obtain⟨r0,r1,r2,r3,r4,r5,r6⟩:=b7.c7;refine bodyPost_ret (v:= .tuple #[.agg #[Qi p,.slice A2 d.length c2,Qi 0,Qi 0,Qi 0,Qi 0,Qi 0],.bool true]) (by simp[results,Tryz.results53,go_sem,r0,r1,r2,r3,r4,r5,r6]) rfl ?_;have uE:=(U0.out.trans hu2).then_ u7 (fun i e=>Or.inr (by have:=HZ.out;unfold One at e;omega));exact⟨A2,c2,rfl,Recs.weak (Recs.upd HX.out u7 (fun i (hi:wb.heap.size<=i) (e:i=z)=>by have:=BW.out.lt;omega)) (fun i _ (hi:wb.heap.size<=i)=>Nat.le_trans U0.out.size hi),uE⟩
/- Witnesses of reads and of histories;which one is ahead,and whether two are one. -/
theorem Zpz{w:I0}{base:Nat}{A:OA}{c:Nat}{b:HBad}{l:Ir}(h:w.ownsRow base 51 5 (.slice A (b::l).length c) (b::l).length ((b::l).map HBad.cells).flatten):
  ∃g,A=some ⟨g,0,none⟩∧base<=g∧g<w.heap.size∧w.cell? ⟨g,0,none⟩=some (Qi b.tx)∧w.cell? ⟨g,1,none⟩=some (Qi b.place)∧w.cell? ⟨g,2,none⟩=some (Qi b.of.tx)∧w.cell? ⟨g,3,none⟩=some (Qi b.of.key)∧w.cell? ⟨g,4,none⟩=some (Qi b.of.nth):=by
 obtain⟨ad,e,q0,q1,q2,q3,q4⟩:=(Zm1 h).at_ (k:=0) (by simp);rcases h.2 with ⟨h',hn⟩|⟨g,cap,cur,hv,hb,hg,bG,eK,cf,bj⟩
 ·cases hn
 ·cases hv
  cases e
  have dF:=h.lt g rfl;exact⟨g,rfl,dF.1,dF.2,q0,q1,q2,q3,q4⟩
theorem ZtW(F:Iw)(w:I0)(txs:List HTx)(ords:List HOrd)(A:OA)(c:Nat)(B:OA)(d:Nat)(p:Int)(H:Hist.lies F w ⟨txs,ords,A,c,B,d⟩):
  Calls Tryz.prog 52 #[.agg #[.slice A txs.length c,.slice B ords.length d],Qi p] w (ToldW w (ZcQ (ZW ⟨txs,ords,A,c,B,d⟩ p) p)):=by
 obtain⟨wh,gh⟩:=Qe (w.alloc (.cells #[.slice A txs.length c,.slice B ords.length d] 25));have uh:Upd No w wh:=by rw[<-gh];exact(Il No w).alloc _
 have bH:Blk wh w.heap.size 25 [.slice A txs.length c,.slice B ords.length d]:=by rw[<-gh];exact Im w _ _
 obtain⟨z,hz⟩:=Qe wh.heap.size;obtain⟨wb,ag⟩:=Qe (wh.alloc (.cells #[Qi 0,.slice none 0 0,Qi 0,Qi 0,Qi 0,Qi 0,Qi 0] 53));have u0:Upd No wh wb:=by rw[<-ag];exact(Il No wh).alloc _
 have bW:Blk wb z 53 [Qi 0,.slice none 0 0,Qi 0,Qi 0,Qi 0,Qi 0,Qi 0]:=by rw[<-ag,<-hz];exact Im wh _ _
 have c0:=bW.ev 0 rfl
 have f0:∀W,Upd No wb W->W.frozen? ⟨z,0,none⟩=false:=fun W u=>(bW.upd u id).free 0
 have f1:∀W,Upd No wb W->W.frozen? ⟨z,1,none⟩=false:=fun W u=>(bW.upd u id).free 1
 have f2:∀W,Upd No wb W->W.frozen? ⟨z,2,none⟩=false:=fun W u=>(bW.upd u id).free 2
 have f3:∀W,Upd No wb W->W.frozen? ⟨z,3,none⟩=false:=fun W u=>(bW.upd u id).free 3
 have f4:∀W,Upd No wb W->W.frozen? ⟨z,4,none⟩=false:=fun W u=>(bW.upd u id).free 4
 have f5:∀W,Upd No wb W->W.frozen? ⟨z,5,none⟩=false:=fun W u=>(bW.upd u id).free 5
 have f6:∀W,Upd No wb W->W.frozen? ⟨z,6,none⟩=false:=fun W u=>(bW.upd u id).free 6
 have e0:=bW.ev 1 rfl
 have e2:=bW.ev 2 rfl
 have e3:=bW.ev 3 rfl
 have e4:=bW.ev 4 rfl
 have e5:=bW.ev 5 rfl
 have e6:=bW.ev 6 rfl
 have BW:=Qh bW;have HZ:=Qh hz;have U0:=Qh u0;have hbz:Upd No wb wb:=Il _ _;clear bW u0;have h0:=bH.ew U0.out 0 rfl
 have h1:=bH.ew U0.out 1 rfl
 have HH:=Qh (H.upd (uh.trans U0.out) Qo);have UH:=Qh uh;clear bH uh H;obtain⟨l,hl⟩:=Qe (ZW ⟨txs,ords,A,c,B,d⟩ p);have CO:=Qh (oOf F wb txs ords A c B d p HH.out);rw[hl]at CO ⊢;clear hl
 cases l with
 |nil=>
  go_enter Tryz.func52,Tryz.ntmps52;go_wp2_with fail;refine(CO.out).mono ?_;rintro e w1 ⟨A1,c1,rfl,ho,hu1⟩;go_wp2;obtain⟨b7,u7⟩:=ZgE (BW.out.upd hu1 id) (Qi 0) (.slice none 0 0) (Qi 0) (Qi 0) (Qi 0) (Qi 0) (Qi 0);obtain⟨r0,r1,r2,r3,r4,r5,r6⟩:=b7.c7;refine bodyPost_ret (v:= .tuple #[.agg #[Qi 0,.slice none 0 0,Qi 0,Qi 0,Qi 0,Qi 0,Qi 0],.bool false]) (by simp[results,Tryz.results52,go_sem,r0,r1,r2,r3,r4,r5,r6]) rfl ?_;have uE:=(U0.out.trans hu1).then_ u7 (fun i e=>Or.inr (by have:=HZ.out;unfold One at e;omega));exact⟨none,0,rfl,Zev,UH.out.trans uE⟩
 |cons b l=>
  obtain⟨bx,bp,⟨bt,bk,bn⟩⟩:=b;have au:(((⟨bx,bp,⟨bt,bk,bn⟩⟩:HBad)::l).length==0)=false:=by simp
  have rC:((((⟨bx,bp,⟨bt,bk,bn⟩⟩:HBad)::l).length:Nat):Int)≠0:=by simp only[G1];omega
  obtain⟨n,hn⟩:=Qe (((⟨bx,bp,⟨bt,bk,bn⟩⟩:HBad)::l).length);have iJ:(0:Int)<(n:Int):=by rw[<-hn];simp only[G1];omega
  have hn1:((n:Int)==0)=false:=by rw[beq_eq_false_iff_ne];omega
  have HN:=Qh hn;clear au rC hn;go_enter Tryz.func52,Tryz.ntmps52;go_wp2_with fail;refine(CO.out).mono ?_;rintro e w1 ⟨A1,c1,rfl,ho,hu1⟩;obtain⟨g,rfl,dN,dF,q0,q1,q2,q3,q4⟩:=Zpz ho;rw[HN.out];simp only at q0 q1 q2 q3 q4;clear ho;go_wp2;obtain⟨b7,u7⟩:=ZgE (BW.out.upd hu1 id) (Qi p) (.slice none 0 0) (Qi bx) (Qi bp) (Qi bt) (Qi bk) (Qi bn);obtain⟨r0,r1,r2,r3,r4,r5,r6⟩:=b7.c7;refine bodyPost_ret (v:= .tuple #[.agg #[Qi p,.slice none 0 0,Qi bx,Qi bp,Qi bt,Qi bk,Qi bn],.bool true]) (by simp[results,Tryz.results52,go_sem,r0,r1,r2,r3,r4,r5,r6]) rfl ?_;have uE:=(U0.out.trans hu1).then_ u7 (fun i e=>Or.inr (by have:=HZ.out;unfold One at e;omega));exact⟨none,0,rfl,Zev,UH.out.trans uE⟩
/- Witnesses of histories;which one is ahead,and whether two are one. -/
theorem Zl8{h:Hist}{p:Int}(hp:p=2∨p=3):ofX h p=ZcQ (ZW h p) p:=by unfold ofX;rw[if_pos hp]
theorem ZsN{h:Hist}{p:Int}(hp:¬(p=2∨p=3)):ofX h p=Zd3 (ZM (ZB h)) p:=by unfold ofX;rw[if_neg hp]
theorem ToldW.parts{w:I0}{x:HWit×Bool}{e:Ending}{w':I0}(h:ToldW w x e w'){p r0 r1 r2 r3 r4:Int}{d:List Edge}{b:Bool}(hx:x=(⟨p,d,⟨r0,r1,⟨r2,r3,r4⟩⟩⟩,b)):
  ∃A c,e= .returned (.tuple #[.agg #[Qi p,.slice A d.length c,Qi r0,Qi r1,Qi r2,Qi r3,Qi r4],.bool b])∧Walk (fun i=>w.heap.size<=i) w' A d∧Upd No w w':=by
 subst hx;exact h
theorem wOf(F:Iw)(w:I0)(txs:List HTx)(ords:List HOrd)(A:OA)(c:Nat)(B:OA)(d:Nat)(p:Int)(H:Hist.lies F w ⟨txs,ords,A,c,B,d⟩)(hl:Zd ⟨txs,ords,A,c,B,d⟩=true):
  Calls Tryz.prog 24 #[.agg #[.slice A txs.length c,.slice B ords.length d],Qi p] w (ToldW w (ofX ⟨txs,ords,A,c,B,d⟩ p)):=by
 have bD:=Zfe hl;obtain⟨n1,n2⟩:=ZgP hl;obtain⟨wh,gh⟩:=Qe (w.alloc (.cells #[.slice A txs.length c,.slice B ords.length d] 25));have uh:Upd No w wh:=by rw[<-gh];exact(Il No w).alloc _
 have bH:Blk wh w.heap.size 25 [.slice A txs.length c,.slice B ords.length d]:=by rw[<-gh];exact Im w _ _
 obtain⟨z,hz⟩:=Qe wh.heap.size;obtain⟨wb,ag⟩:=Qe (wh.alloc (.cells #[Qi 0,.slice none 0 0,Qi 0,Qi 0,Qi 0,Qi 0,Qi 0] 53));have u0:Upd No wh wb:=by rw[<-ag];exact(Il No wh).alloc _
 have bW:Blk wb z 53 [Qi 0,.slice none 0 0,Qi 0,Qi 0,Qi 0,Qi 0,Qi 0]:=by rw[<-ag,<-hz];exact Im wh _ _
 have c0:=bW.ev 0 rfl
 have f0:∀W,Upd No wb W->W.frozen? ⟨z,0,none⟩=false:=fun W u=>(bW.upd u id).free 0
 have f1:∀W,Upd No wb W->W.frozen? ⟨z,1,none⟩=false:=fun W u=>(bW.upd u id).free 1
 have f2:∀W,Upd No wb W->W.frozen? ⟨z,2,none⟩=false:=fun W u=>(bW.upd u id).free 2
 have f3:∀W,Upd No wb W->W.frozen? ⟨z,3,none⟩=false:=fun W u=>(bW.upd u id).free 3
 have f4:∀W,Upd No wb W->W.frozen? ⟨z,4,none⟩=false:=fun W u=>(bW.upd u id).free 4
 have f5:∀W,Upd No wb W->W.frozen? ⟨z,5,none⟩=false:=fun W u=>(bW.upd u id).free 5
 have f6:∀W,Upd No wb W->W.frozen? ⟨z,6,none⟩=false:=fun W u=>(bW.upd u id).free 6
 have e0:=bW.ev 1 rfl
 have e2:=bW.ev 2 rfl
 have e3:=bW.ev 3 rfl
 have e4:=bW.ev 4 rfl
 have e5:=bW.ev 5 rfl
 have e6:=bW.ev 6 rfl
 have BW:=Qh bW;have HZ:=Qh hz;have U0:=Qh u0;have hbz:Upd No wb wb:=Il _ _;clear bW u0;have h0:=bH.ew U0.out 0 rfl
 have h1:=bH.ew U0.out 1 rfl
 have HH:=Qh (H.upd (uh.trans U0.out) Qo);have UH:=Qh uh;clear bH uh H
 by_cases p2:p=2
 ·subst p2;have CR:=Qh (ZtW F wb txs ords A c B d 2 HH.out);obtain⟨⟨⟨xp,xw,⟨y0,y1,⟨y2,y3,y4⟩⟩⟩,xb⟩,hx⟩:∃x,ZcQ (ZW ⟨txs,ords,A,c,B,d⟩ 2) 2=x:=⟨_,rfl⟩
  have lQ:xw=[]:=by
   cases hl:ZW ⟨txs,ords,A,c,B,d⟩ 2 with
   |nil=>rw[hl]at hx;unfold ZcQ zeroW at hx;simp only[Ig,HWit.mk.injEq]at hx;exact hx.1.2.1.symm
   |cons b l=>rw[hl]at hx;unfold ZcQ at hx;simp only[Ig,HWit.mk.injEq]at hx;exact hx.1.2.1.symm
  subst lQ;rw[Zl8 (by decide),hx];rw[hx]at CR;clear hx;go_enter Tryz.func24,Tryz.ntmps24;go_wp2_with fail;refine CR.out.mono ?_;rintro e w1 hh;obtain⟨A1,c1,rfl,_,hu1⟩:=hh.parts rfl;go_wp2;obtain⟨b7,u7⟩:=ZgE (BW.out.upd hu1 id) (Qi xp) (.slice A1 0 c1) (Qi y0) (Qi y1) (Qi y2) (Qi y3) (Qi y4);obtain⟨r0,r1,r2,r3,r4,r5,r6⟩:=b7.c7;refine bodyPost_ret (v:= .tuple #[.agg #[Qi xp,.slice A1 0 c1,Qi y0,Qi y1,Qi y2,Qi y3,Qi y4],.bool xb]) (by simp[results,Tryz.results24,go_sem,r0,r1,r2,r3,r4,r5,r6]) rfl ?_;have uE:=(U0.out.trans hu1).then_ u7 (fun i e=>Or.inr (by have:=HZ.out;unfold One at e;omega));exact⟨A1,c1,rfl,Zev,UH.out.trans uE⟩
 by_cases p3:p=3
 ·subst p3;have CR:=Qh (ZtW F wb txs ords A c B d 3 HH.out);obtain⟨⟨⟨xp,xw,⟨y0,y1,⟨y2,y3,y4⟩⟩⟩,xb⟩,hx⟩:∃x,ZcQ (ZW ⟨txs,ords,A,c,B,d⟩ 3) 3=x:=⟨_,rfl⟩
  have lQ:xw=[]:=by
   cases hl:ZW ⟨txs,ords,A,c,B,d⟩ 3 with
   |nil=>rw[hl]at hx;unfold ZcQ zeroW at hx;simp only[Ig,HWit.mk.injEq]at hx;exact hx.1.2.1.symm
   |cons b l=>rw[hl]at hx;unfold ZcQ at hx;simp only[Ig,HWit.mk.injEq]at hx;exact hx.1.2.1.symm
  subst lQ;rw[Zl8 (by decide),hx];rw[hx]at CR;clear hx;go_enter Tryz.func24,Tryz.ntmps24;go_wp2_with fail;refine CR.out.mono ?_;rintro e w1 hh;obtain⟨A1,c1,rfl,_,hu1⟩:=hh.parts rfl;go_wp2;obtain⟨b7,u7⟩:=ZgE (BW.out.upd hu1 id) (Qi xp) (.slice A1 0 c1) (Qi y0) (Qi y1) (Qi y2) (Qi y3) (Qi y4);obtain⟨r0,r1,r2,r3,r4,r5,r6⟩:=b7.c7;refine bodyPost_ret (v:= .tuple #[.agg #[Qi xp,.slice A1 0 c1,Qi y0,Qi y1,Qi y2,Qi y3,Qi y4],.bool xb]) (by simp[results,Tryz.results24,go_sem,r0,r1,r2,r3,r4,r5,r6]) rfl ?_;have uE:=(U0.out.trans hu1).then_ u7 (fun i e=>Or.inr (by have:=HZ.out;unfold One at e;omega));exact⟨A1,c1,rfl,Zev,UH.out.trans uE⟩
 have q2:(p==2)=false:=by simpa using p2
 have q3:(p==3)=false:=by simpa using p3
 rw[ZsN (by omega)];obtain⟨l,gM⟩:=Qe (ZB ⟨txs,ords,A,c,B,d⟩);have C1:=Qh (ZpX HH.out n1 n2 rfl rfl gM rfl);rw[gM]at bD ⊢;obtain⟨pl,hpl⟩:=Qe (ZM l);have hpn:pl.length=l.length:=by rw[<-hpl];unfold ZM;rw[Hw]
 have i6:=Qh hpl;rw[hpl];have mr:=Qh hpn;have HF:=Qh bD;obtain⟨⟨⟨xp,xw,⟨y0,y1,⟨y2,y3,y4⟩⟩⟩,xb⟩,hx⟩:∃x,Zd3 pl p=x:=⟨_,rfl⟩;rw[hx];have CT:=Qh hx;clear hx gM hpl hpn p2 p3 n1 n2 bD;go_enter Tryz.func24,Tryz.ntmps24;go_wp2_with fail;refine(C1.out).mono ?_;rintro e w1 ⟨A1,c1,rfl,eo,hu1⟩;have C2:=Qh (ZpW (c:=c1) eo (by have:=HF.out;omega) rfl i6.out rfl);go_wp2_with fail;refine(C2.out).mono ?_;rintro e w2 ⟨A2,c2,rfl,⟨G,cO⟩,hu2⟩;have db:=hu1.trans hu2;have qy:=Qh db.size;have C3:=Qh (ZwS G w2 A2 c2 pl p cO (by have:=HF.out;have:=mr.out;omega));clear eo cO hu1 hu2;rw[CT.out]at C3;go_wp2_with fail;refine C3.out.mono ?_;rintro e w3 hh;obtain⟨A3,c3,rfl,ly,hu3⟩:=hh.parts rfl;have i5:=db.trans hu3;have HX:=Qh ly;clear ly hh db hu3;go_wp2;obtain⟨b7,u7⟩:=ZgE (BW.out.upd i5 id) (Qi xp) (.slice A3 xw.length c3) (Qi y0) (Qi y1) (Qi y2) (Qi y3) (Qi y4);obtain⟨r0,r1,r2,r3,r4,r5,r6⟩:=b7.c7;refine bodyPost_ret (v:= .tuple #[.agg #[Qi xp,.slice A3 xw.length c3,Qi y0,Qi y1,Qi y2,Qi y3,Qi y4],.bool xb]) (by simp[results,Tryz.results24,go_sem,r0,r1,r2,r3,r4,r5,r6]) rfl ?_;have uE:=(U0.out.trans i5).then_ u7 (fun i e=>Or.inr (by have:=HZ.out;unfold One at e;omega));exact⟨A3,c3,rfl,Recs.weak (Recs.upd HX.out u7 (fun i (hi:w2.heap.size<=i) (e:i=z)=>by have:=BW.out.lt;have:=qy.out;omega)) (fun i _ (hi:w2.heap.size<=i)=>Nat.le_trans (UH.out.trans U0.out).size (Nat.le_trans qy.out hi)),UH.out.trans uE⟩
/- Phenomena:the answers that the document gives. -/
theorem Zw0(w:I0):Calls Tryz.prog 27 #[] w fun e w'=>∃N,e= .returned (.agg #[.slice (some ⟨N+1+1+1,0,none⟩) 2 2,.slice (some ⟨N+1+1+1+1+1+1,0,none⟩) 2 2])∧(Zl N).lies (fun _=>True) w'∧Upd No w w':=
 (ZwX w).mono fun e w' h=>⟨_,h⟩
theorem ph0(n:Nat):Zd (Zl n)=true:=by kernel_rfl
theorem Zya(n:Nat):Zd ⟨(Zl n).txs,[],(Zl n).A,(Zl n).c,none,0⟩=true:=by kernel_rfl
def f1:Edge:=⟨1,2,1,0⟩
def f2:Edge:=⟨2,1,3,-1⟩
section
variable {F:Iw} {w:I0} {N:Nat} {p:Int} {b:Bool}
end
