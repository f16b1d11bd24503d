/- Witnesses, plain: there is one just if the history has the phenomenon; it is right, and none that is right is ahead of it. -/
import Derived.Test.YtbefgiboikfojaaGreatRcbn
import Derived.Test.YtbefgiboikfojaaGreatRcbq
namespace Go.Proofs.YtbefgiboikfojaaGreat
open Go.RowKit
set_option linter.unusedVariables false
set_option linter.unusedSimpArgs false
set_option maxRecDepth 100000
set_option maxHeartbeats 16000000
section
variable {h:Hist}
theorem mem_pl{e:Edge}:e∈ZR (ZB h)↔(Zc h&&Zgb h e)=true:=by
 unfold ZR;rw[Gc,Fp]
 constructor
 ·rintro⟨x,hx,rfl⟩;have hr:=Zmm hx;refine⟨hr,?_⟩;rw[<-Zmu hr];exact Qt (Nat.pos_of_ne_zero ((Zce hr).1 hx).1)
 ·rintro⟨hr,he⟩;rw[<-Zmu hr,Ff]at he;exact⟨⟨e,(ZH h e:Int)⟩,(Zce hr).2 ⟨by simp only;omega,rfl⟩,rfl⟩
theorem Zpz(hl:ZE h=true):(ZR (ZB h)).length<=1152:=by unfold ZR;rw[F6];exact Ze7 hl
theorem ZrT{all d:List Edge}{mask must:Int}(hl:all.length<=100000)(hd:ZaL all mask must=d)(hne:d≠[]):Zsu d mask must=true∧ZdR d=true∧∀e∈d,e∈all:=by
 have hs:=Zox (l:=all) (mask:=mask) (must:=must) hl;rw[hd]at hs;rcases hs with hs|hs
 ·have hc:=Zpa hs (List.length_pos_iff.2 hne);have hk:∀e∈d,1<=e.k∧e.k<=3:=fun e he=>⟨(hs.kind e he).1.1,(hs.kind e he).1.2.1⟩
  refine⟨?_,hc,fun e he=>(hs.kind e he).2⟩;unfold Zsu;rw[hc,Bool.true_and,Fp,Fn];refine⟨fun e he=>?_,?_⟩
  ·obtain⟨k1,k2,k3⟩:=(hs.kind e he).1;unfold Zl;rw[Qt k1,Qt k2,k3];rfl
  ·cases hn:Zae must with
   |false=>rfl
   |true=>rw[Zrz hk,hs.has hn];rfl
 ·exact absurd hs hne
end
/- What is said of verdicts,errors and witnesses,plain:told apart. -/
section
variable {h:Hist}
theorem ZnZ(hr:Zc h=true){t:HTx}(ht:t∈h.txs){o:HOp}(ho:o∈t.ops):opB o=true:=by
 have h0:=(ZbJ hr ht).1;unfold Z3 at h0
 split at h0
 ·cases h0
 ·split at h0
  ·cases h0
  ·have key:∀n,ZJ t.id t.ops n=0->∀j,j<n->ZaV t.id t.ops j=0:=by
    intro n
    induction n with
    |zero=>intro _ j hj;omega
    |succ n ih=>
     intro e j hj;unfold ZJ at e
     split at e
     ·rename_i e1
      by_cases hjn:j=n
      ·rw[hjn];exact e
      ·exact ih e1 j (by omega)
     ·rename_i e1;exact absurd e e1
   obtain⟨j,hj,rfl⟩:=E8.1 ho;have hb:=key _ h0 j hj;unfold ZaV at hb;rw[Qg hj]at hb;simp only at hb
   split at hb
   ·cases hb
   ·rename_i hq;simpa using hq
theorem Zog(hr:Zc h=true){t:HTx}(ht:t∈h.txs):1<=t.id∧t.id<=1048575:=by
 have:=(ZbJ hr ht).1;unfold Z3 at this
 split at this
 ·cases this
 ·rename_i hid
  unfold idB at hid;simp at hid;exact hid
theorem Zp1{o:HOp}(h:opB o=true):1<=o.key∧o.key<=1048575:=by
 unfold opB at h
 split at h
 ·rename_i hrd
  unfold Z8 Zw idB at h;rw[if_pos hrd]at h;simp only[Fp,Ff]at h;exact h.1
 ·unfold idB at h;simp only[Fp,Ff]at h;exact h.1.1
theorem Zbg{n:Int}(h:1<=n∧n<=1048575):i64 n:=by unfold i64;omega
theorem ZvE(hr:Zc h=true){e:Edge}(he:Zgb h e=true):ZeO e:=by
 unfold Zgb at he
 split at he
 ·rename_i a b ha hb
  obtain⟨a1,a2⟩:=Zea ha;obtain⟨b1,b2⟩:=Zea hb;have a3:=(Fw.1 a1).1;have b3:=(Fw.1 b1).1;have fa:=Zog hr a3;have fb:=Zog hr b3;rw[a2]at fa;rw[b2]at fb
  have rd:∀{t:HTx} {F:Ver->Bool},t∈h.txs->Zfs t.id t.ops e.key F=true->1<=e.key∧e.key<=1048575:=fun {t F} ht hq=>by
   unfold Zfs at hq;rw[List.any_eq_true]at hq;obtain⟨o,ho,hq⟩:=hq;simp only[Fp,beq_iff_eq]at hq;have:=Zp1 (ZnZ hr ht ho);rw[hq.1.1.2]at this;exact this
  split at he
  ·cases he
  ·split at he
   ·rename_i hk
    refine⟨by omega,Zbg fa,Zbg fb,Zbg ?_⟩;obtain⟨o,ho,aC,_⟩:=(Zdi hr _ _ _).1 he;have hne:=ZlD hr ho;obtain⟨x,hx⟩:=List.exists_mem_of_ne_nil _ hne;have hw:=(ZcK hr ho).mem_iff.1 hx;unfold Zm at hw;obtain⟨t,ht,_⟩:=Gc.1 hw;obtain⟨jc,oS⟩:=Fw.1 ht;rw[Fp,List.contains_iff_mem]at oS;have cH:=oS.2;unfold Zaz ZaK at cH;rw[Zcc]at cH;obtain⟨o2,bi,e2⟩:=Gc.1 cH;have:=Zp1 (ZnZ hr jc (Fw.1 bi).1);rw[e2,aC]at this;exact this
   ·split at he
    ·rename_i hk
     exact⟨by omega,Zbg fa,Zbg fb,Zbg (rd b3 he)⟩
    ·split at he
     ·rename_i hk
      exact⟨by omega,Zbg fa,Zbg fb,Zbg (rd a3 he)⟩
     ·cases he
 ·cases he
theorem ZmC{p:Int}{b:HBad}(hb:b∈Zab h p):i64 b.tx∧i64 b.place∧opB ⟨true,b.of.key,b.of.tx,b.of.nth⟩=true∧b.of.tx≠0∧i64 b.of.tx∧i64 b.of.key∧i64 b.of.nth:=by
 have hr:Zc h=true:=by
  cases hq:Zc h with
  |true=>rfl
  |false=>unfold Zab at hb;rw[hq]at hb;cases hb
 unfold Zab at hb;rw[if_pos hr]at hb;rcases(Zkx _ _ _ _ _).1 hb with hb|⟨t,ht,j,o,hj,bK,rfl⟩
 ·cases hb
 obtain⟨rh,mJ⟩:=List.getElem?_eq_some_iff.1 hj;have ho:o∈t.ops:=mJ▸Fr rh;have h1:=ZnZ hr ht ho;unfold ZaX at bK;simp only[Fp,Bool.not_eq_true',beq_eq_false_iff_ne,ne_eq]at bK;have hrd:=bK.1.1.1.2;have h0:=bK.1.1.2;have hv:Zw o=⟨o.tx,o.key,o.nth⟩:=by unfold Zw;rw[if_pos hrd]
 have hid:=Zog hr ht;have hlen:=Zkb hr ht;rw[hv]
 have h2:opB ⟨true,o.key,o.tx,o.nth⟩=true:=by
  have e:(⟨true,o.key,o.tx,o.nth⟩:HOp)=o:=by cases o;simp only at hrd;subst hrd;rfl
  rw[e];exact h1
 have h3:=h2;unfold opB Z8 Zw idB at h3;simp only[if_true,Fp,F3,Ff,beq_iff_eq]at h3;rcases h3.2 with h4|h4
 ·exact absurd h4.1 h0
 ·have q1:i64 (j:Int):=by unfold i64;omega
  have q2:i64 o.tx:=by unfold i64;omega
  have q3:i64 o.key:=by unfold i64;omega
  have q4:i64 o.nth:=by unfold i64;omega
  exact⟨Zbg hid,q1,h2,h0,q2,q3,q4⟩
theorem Zjp:∀{l:List Edge},(∀i:Nat,∀a b,l[i]? =some a->l[i+1]? =some b->a.t=b.f)->Zdp l
 |[],_=>trivial
 |[_],_=>trivial
 |e::g::l,hh=>⟨hh 0 e g rfl rfl,Zjp fun i a b ha hb=>hh (i+1) a b ha hb⟩
theorem ZjU{l:List Edge}(hc:ZdR l=true):Zdp l:=by
 unfold ZdR at hc;simp only[Fp,Ff,Fn,F8]at hc;refine Zjp fun i a b ha hb=>?_
 have hi:i+1<l.length:=(List.getElem?_eq_some_iff.1 hb).1;have:=hc.2 i (by omega);rw[ZpH ha (Nat.mod_eq_of_lt hi) hb,beq_iff_eq]at this;exact this
theorem Zo4{l m:List Edge}(hl:l≠[])(hm:m≠[])(ol:∀e∈l,ZeO e)(om:∀e∈m,ZeO e)(cl:Zdp l)(cm:Zdp m)(hh:ZP l l.length++[10]=ZP m m.length++[10]):l=m:=by
 cases l with
 |nil=>exact absurd rfl hl
 |cons e l=>
 cases m with
 |nil=>exact absurd rfl hm
 |cons g m=>
 rw[ZfH,ZfH,Fg,Fg]at hh;have hs:∀(e:Edge) (l:List Edge),∃r,ZaW (e::l)++[10]=32::r:=fun e l=>⟨_,by unfold ZaW Zb9;rw[List.flatMap_cons];simp;rfl⟩
 obtain⟨r,hr⟩:=hs e l;obtain⟨s,hs⟩:=hs g m;rw[hr,hs]at hh;have n32:¬isN 32:=ZgH (Or.inl (by decide));obtain⟨h1,_,h2⟩:=Zdh n32 n32 (ol e (Fc ..)).2.1 (om g (Fc ..)).2.1 hh;refine ZkZ _ _ cl cm (Zj5 _ _ ol om (by rw[hr,hs,h2])) fun a b ha hb=>?_
 cases ha;cases hb
 exact h1
theorem Zkn{k t n:Int}(hb:opB ⟨true,k,t,n⟩=true)(h0:t≠0):(Zaq ⟨true,k,t,n⟩).data.toList=114::(Z5 k++64::(Z5 t++46::Z5 n)):=by
 unfold Zaq Zf;rw[if_neg (by rw[hb];decide),if_neg (by simp),if_neg h0];simp
theorem ZfS(tx pl vt vk vn:Int):(ZcL tx pl vt vk vn).data.toList=Z5 tx++32::(Z5 pl++32::(Zaq ⟨true,vk,vt,vn⟩).data.toList):=by
 unfold ZcL;rw[ZhH];unfold Zf;simp
theorem Zpq{p q:Int}{g:Hist}{b c:HBad}(hb:b∈Zab h p)(hc:c∈Zab g q)(e:(ZcL b.tx b.place b.of.tx b.of.key b.of.nth).data.toList++[10]=(ZcL c.tx c.place c.of.tx c.of.key c.of.nth).data.toList++[10]):b=c:=by
 obtain⟨b1,b2,b3,b4,b5,b6,b7⟩:=ZmC hb;obtain⟨c1,c2,c3,c4,c5,c6,c7⟩:=ZmC hc;rw[ZfS,ZfS,Zkn b3 b4,Zkn c3 c4]at e;simp only[Fg,List.cons_append]at e;have n32:¬isN 32:=ZgH (Or.inl (by decide));have n10:¬isN 10:=ZgH (Or.inl (by decide));have n64:¬isN 64:=ZgH (Or.inr (Or.inl (by decide)));have n46:¬isN 46:=ZgH (Or.inr (Or.inr (Or.inl (by decide))));obtain⟨d1,_,e⟩:=Zdh n32 n32 b1 c1 e;obtain⟨d2,_,e⟩:=Zdh n32 n32 b2 c2 e;have e:=(List.cons.inj e).2;obtain⟨d3,_,e⟩:=Zdh n64 n64 b6 c6 e;obtain⟨d4,_,e⟩:=Zdh n46 n46 b5 c5 e;obtain⟨d5,_,_⟩:=Zdh n10 n10 b7 c7 e;obtain⟨x1,x2,⟨x3,x4,x5⟩⟩:=b;obtain⟨y1,y2,⟨y3,y4,y5⟩⟩:=c;simp only at d1 d2 d3 d4 d5;rw[d1,d2,d3,d4,d5]
theorem ZhZ{p:Int}(hp:p=2∨p=3):(ofX h p=(ZfC,false))∨∃b,b∈Zab h p∧ofX h p=(⟨p,[],b⟩,true):=by
 unfold ofX;rw[if_pos hp]
 cases hb:Zab h p with
 |nil=>exact Or.inl rfl
 |cons b l=>exact Or.inr ⟨b,Fc ..,rfl⟩
theorem ZhY{p:Int}(hl:ZE h=true)(hp:¬(p=2∨p=3)):(ofX h p=(ZfC,false))∨∃l,l≠[]∧(∀e∈l,ZeO e)∧Zdp l∧ofX h p=(⟨p,l,⟨0,0,⟨0,0,0⟩⟩⟩,true):=by
 unfold ofX;rw[if_neg hp];unfold ZdT
 split
 ·exact Or.inl rfl
 ·split
  ·exact Or.inl rfl
  ·rename_i hne
   right
   obtain⟨_,h2,h3⟩:=ZrT (Zpz hl |> fun x=>Nat.le_trans x (by omega)) rfl hne;refine⟨_,hne,fun e he=>?_,ZjU h2,rfl⟩;have:=mem_pl.1 (h3 e he);rw[Fp]at this;exact ZvE this.1 this.2
end
def ZhR(p:Int)(x:HWit×Bool):Gm:=Zau p x.2 x.1.walk x.1.read.tx x.1.read.place x.1.read.of.tx x.1.read.of.key x.1.read.of.nth
theorem ZjY(p:Int)(is:Bool)(l:List Edge)(tx pl vt vk vn:Int):(Zau p is l tx pl vt vk vn).data.toList=(ZcO p).data.toList++32::((if is=false then [110,111] else if p=2∨p=3 then (ZcL tx pl vt vk vn).data.toList else ZP l l.length)++[10]):=by
 unfold Zau
 split
 ·simp
 ·split<;>simp
theorem ZiV{l:Gk}{d:UInt8}{r:Gk}(hl:l=d::r)(hd:isN d):l++[10]≠[110,111]++[10]:=fun e=>by
 rw[hl]at e;have:=(List.cons.inj e).1;rw[this]at hd;exact ZgH (Or.inr (Or.inl (by decide))) hd
theorem Zkc(tx pl vt vk vn:Int):∃d r,(ZcL tx pl vt vk vn).data.toList=d::r∧isN d:=by
 obtain⟨d,r,h1,h2⟩:=Zkp tx;exact⟨d,_,by rw[ZfS,h1];rfl,h2⟩
theorem Zj3{l:List Edge}(hl:l≠[]):∃d r,ZP l l.length=d::r∧isN d:=by
 cases l with
 |nil=>exact absurd rfl hl
 |cons e l=>
  obtain⟨d,r,h1,h2⟩:=Zkp e.f;exact⟨d,_,by rw[ZfH,h1];rfl,h2⟩
theorem ZoV{h g:Hist}(hh:ZE h=true)(hg:ZE g=true)(p:Int):decide (ZhR p (ofX h p)=ZhR p (ofX g p))=(((ofX h p).2==(ofX g p).2)&&decide ((ofX h p).1=(ofX g p).1)):=by
 have key:∀x y:HWit×Bool,(ZhR p x=ZhR p y->x=y)->decide (ZhR p x=ZhR p y)=((x.2==y.2)&&decide (x.1=y.1)):=fun x y hxy=>by
  rw[Bool.eq_iff_iff,Fp,Ff,Ff,beq_iff_eq]
  constructor
  ·intro e;rw[hxy e];exact⟨rfl,rfl⟩
  ·rintro⟨e1,e2⟩;rw[show x=y from Prod.ext e2 e1]
 refine key _ _ fun e=>?_
 have e:=congrArg (fun b:Gm=>b.data.toList) e;unfold ZhR at e;rw[ZjY,ZjY]at e;have e:=(List.cons.inj (List.append_cancel_left e)).2
 by_cases hp:p=2∨p=3
 ·rcases ZhZ (h:=h) hp with h1|⟨b,hb,h1⟩<;>rcases ZhZ (h:=g) hp with h2|⟨c,hc,h2⟩
  ·rw[h1,h2]
  ·rw[h1,h2]at e;simp only[if_true,if_pos hp,Bool.true_eq_false,if_false]at e;obtain⟨d,r,k1,k2⟩:=Zkc c.tx c.place c.of.tx c.of.key c.of.nth;exact absurd e.symm (ZiV k1 k2)
  ·rw[h1,h2]at e;simp only[if_true,if_pos hp,Bool.true_eq_false,if_false]at e;obtain⟨d,r,k1,k2⟩:=Zkc b.tx b.place b.of.tx b.of.key b.of.nth;exact absurd e (ZiV k1 k2)
  ·rw[h1,h2]at e;simp only[if_pos hp,Bool.true_eq_false,if_false]at e;rw[h1,h2,Zpq hb hc e]
 ·rcases ZhY hh hp with h1|⟨l,l1,l2,l3,h1⟩<;>rcases ZhY hg hp with h2|⟨m,m1,m2,m3,h2⟩
  ·rw[h1,h2]
  ·rw[h1,h2]at e;simp only[if_true,if_neg hp,Bool.true_eq_false,if_false]at e;obtain⟨d,r,k1,k2⟩:=Zj3 m1;exact absurd e.symm (ZiV k1 k2)
  ·rw[h1,h2]at e;simp only[if_true,if_neg hp,Bool.true_eq_false,if_false]at e;obtain⟨d,r,k1,k2⟩:=Zj3 l1;exact absurd e (ZiV k1 k2)
  ·rw[h1,h2]at e;simp only[if_neg hp,Bool.true_eq_false,if_false]at e;rw[h1,h2,Zo4 l1 m1 l2 m2 l3 m3 e]
theorem Zov{e f:Int}(he:0<=e∧e<=17)(hf:0<=f∧f<=17)(h:Zbc e=Zbc f):e=f:=by
 have key:∀a b:Fin 18,(Zbc (a.val:Int)).data.toList=(Zbc (b.val:Int)).data.toList->a=b:=by decide+kernel
 have:=key ⟨e.toNat,by omega⟩ ⟨f.toNat,by omega⟩ (by rw[show((e.toNat:Nat):Int)=e by omega,show((f.toNat:Nat):Int)=f by omega,h]);have:=congrArg Fin.val this;simp only at this;omega
theorem Zo1{l m:Int}{f g:Int->Bool}(hl:0<=l∧l<=3)(hm:0<=m∧m<=3)(h:Zdr l f=Zdr m g):l=m∧f 1=g 1∧f 2=g 2∧f 3=g 3∧f 4=g 4∧f 5=g 5:=by
 have e:=congrArg (fun b:Gm=>b.data.toList) h
 have form:∀(l:Int) (f:Int->Bool),(Zdr l f).data.toList=(Zb2 l).data.toList++([32,71,48]++(Zee (f 1)).data.toList++[32,71,49,97]++(Zee (f 2)).data.toList++[32,71,49,98]++(Zee (f 3)).data.toList++[32,71,49,99]++(Zee (f 4)).data.toList++[32,71,50,45,105,116,101,109]++(Zee (f 5)).data.toList++[10]):=fun l f=>by
  unfold Zdr Zc5 Zc5 Zc5 Zc5 Zc5 Zc5;simp[ZcO]
 rw[form,form]at e;have ls:∀b:Bool,(Zee b).data.toList.length=1:=fun b=>by cases b<;>rfl
 have si:∀b c:Bool,(Zee b).data.toList=(Zee c).data.toList->b=c:=by decide
 obtain⟨e1,e2⟩:=List.append_inj' e (by simp[ls]);have lw:∀a b:Fin 4,(Zb2 (a.val:Int)).data.toList=(Zb2 (b.val:Int)).data.toList->a=b:=by decide+kernel
 have h1:=congrArg Fin.val (lw ⟨l.toNat,by omega⟩ ⟨m.toNat,by omega⟩ (by rw[show((l.toNat:Nat):Int)=l by omega,show((m.toNat:Nat):Int)=m by omega,e1]));simp only at h1;refine⟨by omega,?_⟩
 revert e2
 generalize f 1=a1;generalize f 2=a2;generalize f 3=a3;generalize f 4=a4;generalize f 5=a5;generalize g 1=b1;generalize g 2=b2;generalize g 3=b3;generalize g 4=b4;generalize g 5=b5
 revert a1 a2 a3 a4 a5 b1 b2 b3 b4 b5
 decide+kernel
/- What is said is told apart:the law:the walk. -/
def ZsE:Prop:=∀w:Gy,CN 4 #[] w (.bool true)
def f6(b0 b1 b2 b3 b4 b5:Bool):Int->Bool:=fun i=>if i=0 then b0 else if i=1 then b1 else if i=2 then b2 else if i=3 then b3 else if i=4 then b4 else b5
theorem Zlo(a b:Gm):(a.toList==b.toList)=decide (a=b):=by
 by_cases h:a=b
 ·subst h;simp
 ·rw[ZtT h,Qf h]
theorem ZqI(a0 a1 a2 a3 a4 a5 b0 b1 b2 b3 b4 b5:Bool){la lb:Int}(hl:0<=la∧la<=3)(hm:0<=lb∧lb<=3):
  (((false==false)&&(a1==b1&&(a2==b2&&(a3==b3&&(a4==b4&&a5==b5)))))&&la==lb)=decide (Zdr la (f6 a0 a1 a2 a3 a4 a5)=Zdr lb (f6 b0 b1 b2 b3 b4 b5)):=by
 rw[Bool.eq_iff_iff,Ff];simp only[Fp,beq_iff_eq]
 constructor
 ·rintro⟨⟨_,h1,h2,h3,h4,h5⟩,h6⟩;subst h1 h2 h3 h4 h5 h6;rfl
 ·intro h;obtain⟨h0,h1,h2,h3,h4,h5⟩:=Zo1 hl hm h;exact⟨⟨trivial,h1,h2,h3,h4,h5⟩,h0⟩
theorem Zqg{e f:Int}(he:0<=e∧e<=17)(hf:0<=f∧f<=17):(e==f)=decide (Zbc e=Zbc f):=by
 rw[Bool.eq_iff_iff,Ff,beq_iff_eq];exact⟨fun h=>by rw[h],Zov he hf⟩
theorem Zqe{e:Edge}(h:ZeO e):e.ok:=⟨h.2.1,h.2.2.1,h.2.2.2⟩
theorem Zdb:i64 0:=⟨by decide,by decide⟩
theorem ZpI{h:Hist}(hl:ZE h=true)(p:Int):(∀e∈(ofX h p).1.walk,e.ok)∧i64 (ofX h p).1.read.tx∧i64 (ofX h p).1.read.place∧(i64 (ofX h p).1.read.of.key∧i64 (ofX h p).1.read.of.tx∧i64 (ofX h p).1.read.of.nth):=by
 by_cases hp:p=2∨p=3
 ·rcases ZhZ (h:=h) hp with h1|⟨b,hb,h1⟩
  ·rw[h1];exact⟨(fun e he=>by cases he),Zdb,Zdb,Zdb,Zdb,Zdb⟩
  ·rw[h1];obtain⟨b1,b2,_,_,b5,b6,b7⟩:=ZmC hb;exact⟨(fun e he=>by cases he),b1,b2,b6,b5,b7⟩
 ·rcases ZhY hl hp with h1|⟨l,l1,l2,l3,h1⟩
  ·rw[h1];exact⟨(fun e he=>by cases he),Zdb,Zdb,Zdb,Zdb,Zdb⟩
  ·rw[h1];exact⟨fun e he=>Zqe (l2 e he),Zdb,Zdb,Zdb,Zdb,Zdb⟩
theorem Znl{h:Hist}(hl:ZE h=true)(p:Int):(ofX h p).1.walk.length<=2000:=by
 unfold ofX
 split
 ·unfold ZdV
  split<;>exact Nat.zero_le _
 ·unfold ZdT
  split
  ·exact Nat.zero_le _
  ·split
   ·exact Nat.zero_le _
   ·have h1:=Zpz hl;rcases Zts (ZR (ZB h)) (Zba p) (ZbQ p) (by omega)with h2|h2
    ·simp only;omega
    ·simp only;rw[h2];exact Nat.zero_le _
theorem ZoU{h g:Hist}(hh:ZE h=true)(hg:ZE g=true)(p:Int){xp x0 x1 x2 x3 x4 yp y0 y1 y2 y3 y4:Int}{xw yw:List Edge}{xb yb:Bool}(hx:ofX h p=(⟨xp,xw,⟨x0,x1,⟨x2,x3,x4⟩⟩⟩,xb))(hy:ofX g p=(⟨yp,yw,⟨y0,y1,⟨y2,y3,y4⟩⟩⟩,yb)):
  ((Zau p xb xw x0 x1 x2 x3 x4).toList==(Zau p yb yw y0 y1 y2 y3 y4).toList)=((xb==yb)&&decide ((⟨xp,xw,⟨x0,x1,⟨x2,x3,x4⟩⟩⟩:HWit)=⟨yp,yw,⟨y0,y1,⟨y2,y3,y4⟩⟩⟩)):=by
 have k:=ZoV hh hg p;rw[hx,hy]at k;rw[Zlo];exact k
theorem ZbK{wb W:Gy}{a b c d e f g:Gz}{t:Gx}{n:Nat}(_h:Upd No wb (W.alloc (.cells #[a,b,c,d,e,f,g] t)))(hn:W.heap.size=n):Blk (W.alloc (.cells #[a,b,c,d,e,f,g] t)) n t [a,b,c,d,e,f,g]:=by subst hn;exact Gh W t _
theorem Za5{wb W:Gy}{a b c d e f g:Gz}{t:Gx}{n:Nat}(_h:Upd No wb (W.alloc (.cells #[a,b,c,d,e,f,g] t)).drew)(hn:W.heap.size=n):Blk (W.alloc (.cells #[a,b,c,d,e,f,g] t)).drew n t [a,b,c,d,e,f,g]:=by subst hn;exact Gh W t _
theorem Zgw(W:Gy)(o:Obj):(W.alloc o).heap.size=W.heap.size+1:=by simp
theorem Zgv(W:Gy)(o:Obj):(W.alloc o).drew.heap.size=W.heap.size+1:=by show(W.alloc o).heap.size=_;simp
theorem Zeb{wb W:Gy}{o:Obj}(_h:Upd No wb (W.alloc o)):Upd No W (W.alloc o):=(Gg No W).alloc o
theorem Zsr(w:Gy)(p:Int)(is:Bool)(q:Int)(A:OA)(c:Nat)(l:List Edge)(tx pl vt vk vn:Int)(H:EdX w A l)(hl:l.length<=1000000)(aC:∀e∈l,e.ok)(h1:i64 tx)(h2:i64 pl)(hk:i64 vk∧i64 vt∧i64 vn):
  CN 9 #[Qi p,.agg #[Qi q,.slice A l.length c,Qi tx,Qi pl,Qi vt,Qi vk,Qi vn],.bool is] w (.string (Zau p is l tx pl vt vk vn)):=by
 obtain⟨G,H⟩:=H;exact ZnX w p is q A c l tx pl vt vk vn H hl aC h1 h2 hk
theorem ZtD{F:Gt}(w:Gy)(a0 a1 a2 a3 a4 a5:Bool)(la:Int)(b0 b1 b2 b3 b4 b5:Bool)(lb e f:Int)(txs:List HTx)(ords:Gq)(A:OA)(c:Nat)(B:OA)(d:Nat)(txs2:List HTx)(ords2:Gq)(A2:OA)(c2:Nat)(B2:OA)(d2:Nat)
  (H:Hist.lies F w ⟨txs,ords,A,c,B,d⟩) (H2:Hist.lies F w ⟨txs2,ords2,A2,c2,B2,d2⟩) (L:Hid ZsE):
  CN 3 #[.agg #[.bool a0,.bool a1,.bool a2,.bool a3,.bool a4,.bool a5,Qi la],.agg #[.bool b0,.bool b1,.bool b2,.bool b3,.bool b4,.bool b5,Qi lb],Qi e,Qi f,.agg #[.slice A txs.length c,.slice B ords.length d],.agg #[.slice A2 txs2.length c2,.slice B2 ords2.length d2]] w (.bool true):=by
 have ya:= @Ziq;obtain⟨z,hz⟩:=Qe w.heap.size;obtain⟨wx0,kV⟩:∃x,w.alloc (.cells #[.bool a0,.bool a1,.bool a2,.bool a3,.bool a4,.bool a5,Qi la] 24)=x:=⟨_,rfl⟩;have swx0:wx0.heap.size=z+1:=by rw[<-kV];simp[hz]
 have uwx0:Upd No w wx0:=by rw[<-kV];exact(Gg No w).alloc _
 have Bwx0:Blk wx0 (z) 24 [.bool a0,.bool a1,.bool a2,.bool a3,.bool a4,.bool a5,Qi la]:=by rw[<-kV,<-hz];exact Gh w _ _
 obtain⟨wx1,lj⟩:∃x,wx0.alloc (.cells #[.bool b0,.bool b1,.bool b2,.bool b3,.bool b4,.bool b5,Qi lb] 24)=x:=⟨_,rfl⟩;have swx1:wx1.heap.size=z+2:=by rw[<-lj];simp[swx0]
 have uwx1:Upd No wx0 wx1:=by rw[<-lj];exact(Gg No wx0).alloc _
 have Bwx1:Blk wx1 (z+1) 24 [.bool b0,.bool b1,.bool b2,.bool b3,.bool b4,.bool b5,Qi lb]:=by rw[<-lj,<-swx0];exact Gh wx0 _ _
 obtain⟨wx2,lk⟩:∃x,wx1.alloc (.cells #[.slice A txs.length c,.slice B ords.length d] 29)=x:=⟨_,rfl⟩;have swx2:wx2.heap.size=z+3:=by rw[<-lk];simp[swx1]
 have uwx2:Upd No wx1 wx2:=by rw[<-lk];exact(Gg No wx1).alloc _
 have Bwx2:Blk wx2 (z+2) 29 [.slice A txs.length c,.slice B ords.length d]:=by rw[<-lk,<-swx1];exact Gh wx1 _ _
 obtain⟨wb,ah⟩:∃x,wx2.alloc (.cells #[.slice A2 txs2.length c2,.slice B2 ords2.length d2] 29)=x:=⟨_,rfl⟩;have swb:wb.heap.size=z+4:=by rw[<-ah];simp[swx2]
 have uwb:Upd No wx2 wb:=by rw[<-ah];exact(Gg No wx2).alloc _
 have Bwb:Blk wb (z+3) 29 [.slice A2 txs2.length c2,.slice B2 ords2.length d2]:=by rw[<-ah,<-swx2];exact Gh wx2 _ _
 have x_0:=Bwx0.ew (uwx1.trans (uwx2.trans uwb)) 0 rfl
 have x_1:=Bwx0.ew (uwx1.trans (uwx2.trans uwb)) 1 rfl
 have x_2:=Bwx0.ew (uwx1.trans (uwx2.trans uwb)) 2 rfl
 have x_3:=Bwx0.ew (uwx1.trans (uwx2.trans uwb)) 3 rfl
 have x_4:=Bwx0.ew (uwx1.trans (uwx2.trans uwb)) 4 rfl
 have x_5:=Bwx0.ew (uwx1.trans (uwx2.trans uwb)) 5 rfl
 have x_6:=Bwx0.ew (uwx1.trans (uwx2.trans uwb)) 6 rfl
 have y_0:=Bwx1.ew (uwx2.trans uwb) 0 rfl
 have y_1:=Bwx1.ew (uwx2.trans uwb) 1 rfl
 have y_2:=Bwx1.ew (uwx2.trans uwb) 2 rfl
 have y_3:=Bwx1.ew (uwx2.trans uwb) 3 rfl
 have y_4:=Bwx1.ew (uwx2.trans uwb) 4 rfl
 have y_5:=Bwx1.ew (uwx2.trans uwb) 5 rfl
 have y_6:=Bwx1.ew (uwx2.trans uwb) 6 rfl
 have h_0:=Bwx2.ew uwb 0 rfl
 have h_1:=Bwx2.ew uwb 1 rfl
 have g_0:=Bwb.ew (Gg No wb) 0 rfl
 have g_1:=Bwb.ew (Gg No wb) 1 rfl
 have U0:=Qh (uwx0.trans (uwx1.trans (uwx2.trans uwb)));have SB:=Qh swb;have GH:=Qh (fun W (u:Upd No wb W)=>H.upd (U0.out.trans u) Qo);have GG:=Qh (fun W (u:Upd No wb W)=>H2.upd (U0.out.trans u) Qo);have CL:=Qh (fun W (u:Upd No wb W)=>Zpi F W ⟨txs,ords,A,c,B,d⟩ (GH.out W u));have CM:=Qh (fun W (u:Upd No wb W)=>Zpi F W ⟨txs2,ords2,A2,c2,B2,d2⟩ (GG.out W u));unfold Hist.val at CL CM;obtain⟨l1,co⟩:∃l,ZE ⟨txs,ords,A,c,B,d⟩=l:=⟨_,rfl⟩;obtain⟨l2,aN⟩:∃l,ZE ⟨txs2,ords2,A2,c2,B2,d2⟩=l:=⟨_,rfl⟩;rw[co]at CL;rw[aN]at CM;have j8:=Qh co;have l7:=Qh aN;have hbz:Upd No wb wb:=Gg _ _;clear co aN H H2 uwx0 uwx1 uwx2 uwb Bwx0 Bwx1 Bwx2 Bwb;go_enter Tryz.func3,Tryz.ntmps3;go_wp2_with fail;refine Ck (L.out _) fun w1 hu1=>?_;have mg:=hbz.trans hu1
 cases l1
 ·go_wp2_with fail;refine Ck (CL.out _ mg) fun w3 hu3=>?_;go_wp2;go_ret;exact⟨rfl,U0.out.trans (mg.trans hu3)⟩
 cases l2
 ·go_wp2_with fail;refine Ck (CL.out _ mg) fun w3 hu3=>?_;have oC:=mg.trans hu3;go_wp2_with fail;refine Ck (CM.out _ oC) fun w4 hu4=>?_;go_wp2;go_ret;exact⟨rfl,U0.out.trans (oC.trans hu4)⟩
 go_wp2_with fail;refine Ck (CL.out _ mg) fun w3 hu3=>?_;have oC:=mg.trans hu3;go_wp2_with fail;refine Ck (CM.out _ oC) fun w4 hu4=>?_;have U4:=Qh (oC.trans hu4);have xr0:∀W,Upd No w4 W->W.cell? ⟨z,0,none⟩=some (.bool a0):=fun W u=>x_0 W (U4.out.trans u)
 have xr1:∀W,Upd No w4 W->W.cell? ⟨z,1,none⟩=some (.bool a1):=fun W u=>x_1 W (U4.out.trans u)
 have xr2:∀W,Upd No w4 W->W.cell? ⟨z,2,none⟩=some (.bool a2):=fun W u=>x_2 W (U4.out.trans u)
 have xr3:∀W,Upd No w4 W->W.cell? ⟨z,3,none⟩=some (.bool a3):=fun W u=>x_3 W (U4.out.trans u)
 have xr4:∀W,Upd No w4 W->W.cell? ⟨z,4,none⟩=some (.bool a4):=fun W u=>x_4 W (U4.out.trans u)
 have xr5:∀W,Upd No w4 W->W.cell? ⟨z,5,none⟩=some (.bool a5):=fun W u=>x_5 W (U4.out.trans u)
 have xr6:∀W,Upd No w4 W->W.cell? ⟨z,6,none⟩=some (Qi la):=fun W u=>x_6 W (U4.out.trans u)
 have yr0:∀W,Upd No w4 W->W.cell? ⟨z+1,0,none⟩=some (.bool b0):=fun W u=>y_0 W (U4.out.trans u)
 have yr1:∀W,Upd No w4 W->W.cell? ⟨z+1,1,none⟩=some (.bool b1):=fun W u=>y_1 W (U4.out.trans u)
 have yr2:∀W,Upd No w4 W->W.cell? ⟨z+1,2,none⟩=some (.bool b2):=fun W u=>y_2 W (U4.out.trans u)
 have yr3:∀W,Upd No w4 W->W.cell? ⟨z+1,3,none⟩=some (.bool b3):=fun W u=>y_3 W (U4.out.trans u)
 have yr4:∀W,Upd No w4 W->W.cell? ⟨z+1,4,none⟩=some (.bool b4):=fun W u=>y_4 W (U4.out.trans u)
 have yr5:∀W,Upd No w4 W->W.cell? ⟨z+1,5,none⟩=some (.bool b5):=fun W u=>y_5 W (U4.out.trans u)
 have yr6:∀W,Upd No w4 W->W.cell? ⟨z+1,6,none⟩=some (Qi lb):=fun W u=>y_6 W (U4.out.trans u)
 have x8:∀W,Upd No w4 W->W.cell? ⟨z+2,0,none⟩=some (.slice A txs.length c):=fun W u=>h_0 W (U4.out.trans u)
 have ni:∀W,Upd No w4 W->W.cell? ⟨z+2,1,none⟩=some (.slice B ords.length d):=fun W u=>h_1 W (U4.out.trans u)
 have gr0:∀W,Upd No w4 W->W.cell? ⟨z+3,0,none⟩=some (.slice A2 txs2.length c2):=fun W u=>g_0 W (U4.out.trans u)
 have gr1:∀W,Upd No w4 W->W.cell? ⟨z+3,1,none⟩=some (.slice B2 ords2.length d2):=fun W u=>g_1 W (U4.out.trans u)
 clear x_0 x_1 x_2 x_3 x_4 x_5 x_6 y_0 y_1 y_2 y_3 y_4 y_5 y_6 h_0 h_1 g_0 g_1 kV lj lk ah swx0 swx1 swx2 hu1 mg hu3 oC hu4 hbz;have Cz:Upd No w4 w4:=Gg _ _;have kF:Upd No w4 w4.drew:=Cz.drew
 go_upto_region 5 with fail
 go_cut [13,14] (fun s t wx=>∃g1 g2:Nat,s= .pointer (some ⟨g1,0,none⟩)∧t= .pointer (some ⟨g2,0,none⟩)∧g1≠g2∧Blk wx g1 24 [.bool a0,.bool a1,.bool a2,.bool a3,.bool a4,.bool a5,Qi la]∧Blk wx g2 24 [.bool b0,.bool b1,.bool b2,.bool b3,.bool b4,.bool b5,Qi lb]∧w4.heap.size<=g1∧w4.heap.size<=g2∧Upd No w4 wx)
 case first=>
  refine wpS (fun W'=>Upd No w4 W') ?_ fun jH=>?_
  ·(first|exact kF|exact aY|exact jH.alloc _)
  (iterate 2 refine wpF ?_);refine wpR [2,3] ?_;refine wpC rfl (fun K hK=>?_) ?_
  ·have LA:=Qh jH.size
   (first|have MM:=Qh CB.out.lt|have MM:=Qh BB.out.lt|skip)
   go_simp;refine hK.out _ _ ?_ fun jH=>?_
   ·(first|exact kF|exact aY|exact jH.alloc _)
   try simp only[Qa]
   (first|have BA:=Qh (ZbK (n:=w4.heap.size) jH rfl)|have BA:=Qh (Za5 (n:=w4.heap.size) jH rfl)|have BA:=Qh (ZbK jH (Zgw w4 _))|have BA:=Qh (ZbK jH (Zgv w4 _))|have BA:=Qh (Za5 jH (Zgw w4 _))|have BA:=Qh (Za5 jH (Zgv w4 _))|have BA:=Qh (ZbK jH rfl)|have BA:=Qh (Za5 jH rfl))
   (try have BB:=Qh (BB.out.upd (Zeb jH) id))
   (try have CB:=Qh (CB.out.upd (Zeb jH) id))
   refine wpZ 3 rfl fun K hK=>?_;have LB:=Qh jH.size
   (first|have MM:=Qh CA.out.lt|have MM:=Qh BA.out.lt|skip)
   go_simp;refine hK.out _ _ ?_ fun jH=>?_
   ·(first|exact kF|exact aY|exact jH.alloc _)
   try simp only[Qa]
   (first|have BB:=Qh (ZbK (n:=w4.heap.size) jH rfl)|have BB:=Qh (Za5 (n:=w4.heap.size) jH rfl)|have BB:=Qh (ZbK jH (Zgw w4 _))|have BB:=Qh (ZbK jH (Zgv w4 _))|have BB:=Qh (Za5 jH (Zgw w4 _))|have BB:=Qh (Za5 jH (Zgv w4 _))|have BB:=Qh (ZbK jH rfl)|have BB:=Qh (Za5 jH rfl))
   (try have BA:=Qh (BA.out.upd (Zeb jH) id))
   (try have CA:=Qh (CA.out.upd (Zeb jH) id))
   refine wpZ 4 rfl fun K hK=>?_
   (first
   |(refine Zbe rfl rfl (cells:=[.bool a0,.bool a1,.bool a2,.bool a3,.bool a4,.bool a5,Qi la]) rfl rfl BA.out (by kernel_rfl) rfl rfl ?_;intro w5 aS hu5;have aY:=jH.then_ hu5 (fun i e=>by unfold One at e;rw[e];exact .inr (by first|exact Nat.le_refl _|exact Nat.le_add_right _ _|exact LA.out));have CA:=Qh aS;(try have BB:=Qh (BB.out.upd hu5 (fun e=>by unfold One at e;have:=MM.out;omega)));(try have CB:=Qh (CB.out.upd hu5 (fun e=>by unfold One at e;have:=MM.out;omega))))
   |(refine Zbe rfl rfl (cells:=[.bool b0,.bool b1,.bool b2,.bool b3,.bool b4,.bool b5,Qi lb]) rfl rfl BB.out (by kernel_rfl) rfl rfl ?_;intro w5 aS hu5;have aY:=jH.then_ hu5 (fun i e=>by unfold One at e;rw[e];exact .inr (by first|exact Nat.le_refl _|exact Nat.le_add_right _ _|exact LB.out));have CB:=Qh aS;(try have BA:=Qh (BA.out.upd hu5 (fun e=>by unfold One at e;have:=MM.out;omega)));(try have CA:=Qh (CA.out.upd hu5 (fun e=>by unfold One at e;have:=MM.out;omega)))))
   refine hK.out _ _ ?_ fun jH=>?_
   ·(first|exact kF|exact aY|exact jH.alloc _)
   try simp only[Qa]
   refine wpZ 5 rfl fun K hK=>?_
   (first
   |(refine Zbe rfl rfl (cells:=[.bool a0,.bool a1,.bool a2,.bool a3,.bool a4,.bool a5,Qi la]) rfl rfl BA.out (by kernel_rfl) rfl rfl ?_;intro w5 aS hu5;have aY:=jH.then_ hu5 (fun i e=>by unfold One at e;rw[e];exact .inr (by first|exact Nat.le_refl _|exact Nat.le_add_right _ _|exact LA.out));have CA:=Qh aS;(try have BB:=Qh (BB.out.upd hu5 (fun e=>by unfold One at e;have:=MM.out;omega)));(try have CB:=Qh (CB.out.upd hu5 (fun e=>by unfold One at e;have:=MM.out;omega))))
   |(refine Zbe rfl rfl (cells:=[.bool b0,.bool b1,.bool b2,.bool b3,.bool b4,.bool b5,Qi lb]) rfl rfl BB.out (by kernel_rfl) rfl rfl ?_;intro w5 aS hu5;have aY:=jH.then_ hu5 (fun i e=>by unfold One at e;rw[e];exact .inr (by first|exact Nat.le_refl _|exact Nat.le_add_right _ _|exact LB.out));have CB:=Qh aS;(try have BA:=Qh (BA.out.upd hu5 (fun e=>by unfold One at e;have:=MM.out;omega)));(try have CA:=Qh (CA.out.upd hu5 (fun e=>by unfold One at e;have:=MM.out;omega)))))
   refine hK.out _ _ ?_ fun jH=>?_
   ·(first|exact kF|exact aY|exact jH.alloc _)
   try simp only[Qa]
   refine wpD (Gd ?_);go_wp2_with fail;go_meet;exact⟨_,_,rfl,rfl,by have:=MM.out;omega,CA.out,CB.out,by first|exact Nat.le_refl _|exact Nat.le_add_right _ _|exact LA.out,by first|exact Nat.le_refl _|exact Nat.le_add_right _ _|exact LB.out,jH⟩
  refine wpC rfl (fun K hK=>?_) AllReadyH.nil;have LB:=Qh jH.size
  (first|have MM:=Qh CA.out.lt|have MM:=Qh BA.out.lt|skip)
  go_simp;refine hK.out _ _ ?_ fun jH=>?_
  ·(first|exact kF|exact aY|exact jH.alloc _)
  try simp only[Qa]
  (first|have BB:=Qh (ZbK (n:=w4.heap.size) jH rfl)|have BB:=Qh (Za5 (n:=w4.heap.size) jH rfl)|have BB:=Qh (ZbK jH (Zgw w4 _))|have BB:=Qh (ZbK jH (Zgv w4 _))|have BB:=Qh (Za5 jH (Zgw w4 _))|have BB:=Qh (Za5 jH (Zgv w4 _))|have BB:=Qh (ZbK jH rfl)|have BB:=Qh (Za5 jH rfl))
  (try have BA:=Qh (BA.out.upd (Zeb jH) id))
  (try have CA:=Qh (CA.out.upd (Zeb jH) id))
  refine wpZ 2 rfl fun K hK=>?_;have LA:=Qh jH.size
  (first|have MM:=Qh CB.out.lt|have MM:=Qh BB.out.lt|skip)
  go_simp;refine hK.out _ _ ?_ fun jH=>?_
  ·(first|exact kF|exact aY|exact jH.alloc _)
  try simp only[Qa]
  (first|have BA:=Qh (ZbK (n:=w4.heap.size) jH rfl)|have BA:=Qh (Za5 (n:=w4.heap.size) jH rfl)|have BA:=Qh (ZbK jH (Zgw w4 _))|have BA:=Qh (ZbK jH (Zgv w4 _))|have BA:=Qh (Za5 jH (Zgw w4 _))|have BA:=Qh (Za5 jH (Zgv w4 _))|have BA:=Qh (ZbK jH rfl)|have BA:=Qh (Za5 jH rfl))
  (try have BB:=Qh (BB.out.upd (Zeb jH) id))
  (try have CB:=Qh (CB.out.upd (Zeb jH) id))
  refine wpZ 4 rfl fun K hK=>?_
  (first
  |(refine Zbe rfl rfl (cells:=[.bool a0,.bool a1,.bool a2,.bool a3,.bool a4,.bool a5,Qi la]) rfl rfl BA.out (by kernel_rfl) rfl rfl ?_;intro w5 aS hu5;have aY:=jH.then_ hu5 (fun i e=>by unfold One at e;rw[e];exact .inr (by first|exact Nat.le_refl _|exact Nat.le_add_right _ _|exact LA.out));have CA:=Qh aS;(try have BB:=Qh (BB.out.upd hu5 (fun e=>by unfold One at e;have:=MM.out;omega)));(try have CB:=Qh (CB.out.upd hu5 (fun e=>by unfold One at e;have:=MM.out;omega))))
  |(refine Zbe rfl rfl (cells:=[.bool b0,.bool b1,.bool b2,.bool b3,.bool b4,.bool b5,Qi lb]) rfl rfl BB.out (by kernel_rfl) rfl rfl ?_;intro w5 aS hu5;have aY:=jH.then_ hu5 (fun i e=>by unfold One at e;rw[e];exact .inr (by first|exact Nat.le_refl _|exact Nat.le_add_right _ _|exact LB.out));have CB:=Qh aS;(try have BA:=Qh (BA.out.upd hu5 (fun e=>by unfold One at e;have:=MM.out;omega)));(try have CA:=Qh (CA.out.upd hu5 (fun e=>by unfold One at e;have:=MM.out;omega)))))
  refine hK.out _ _ ?_ fun jH=>?_
  ·(first|exact kF|exact aY|exact jH.alloc _)
  try simp only[Qa]
  refine wpZ 5 rfl fun K hK=>?_
  (first
  |(refine Zbe rfl rfl (cells:=[.bool a0,.bool a1,.bool a2,.bool a3,.bool a4,.bool a5,Qi la]) rfl rfl BA.out (by kernel_rfl) rfl rfl ?_;intro w5 aS hu5;have aY:=jH.then_ hu5 (fun i e=>by unfold One at e;rw[e];exact .inr (by first|exact Nat.le_refl _|exact Nat.le_add_right _ _|exact LA.out));have CA:=Qh aS;(try have BB:=Qh (BB.out.upd hu5 (fun e=>by unfold One at e;have:=MM.out;omega)));(try have CB:=Qh (CB.out.upd hu5 (fun e=>by unfold One at e;have:=MM.out;omega))))
  |(refine Zbe rfl rfl (cells:=[.bool b0,.bool b1,.bool b2,.bool b3,.bool b4,.bool b5,Qi lb]) rfl rfl BB.out (by kernel_rfl) rfl rfl ?_;intro w5 aS hu5;have aY:=jH.then_ hu5 (fun i e=>by unfold One at e;rw[e];exact .inr (by first|exact Nat.le_refl _|exact Nat.le_add_right _ _|exact LB.out));have CB:=Qh aS;(try have BA:=Qh (BA.out.upd hu5 (fun e=>by unfold One at e;have:=MM.out;omega)));(try have CA:=Qh (CA.out.upd hu5 (fun e=>by unfold One at e;have:=MM.out;omega)))))
  refine hK.out _ _ ?_ fun jH=>?_
  ·(first|exact kF|exact aY|exact jH.alloc _)
  try simp only[Qa]
  refine wpD (Gd ?_);go_wp2_with fail;go_meet;exact⟨_,_,rfl,rfl,by have:=MM.out;omega,CA.out,CB.out,by first|exact Nat.le_refl _|exact Nat.le_add_right _ _|exact LA.out,by first|exact Nat.le_refl _|exact Nat.le_add_right _ _|exact LB.out,jH⟩
 case rest=>
  obtain⟨g1,g2,rfl,rfl,hne,hA,hB,di,cJ,hu5⟩:=hcut;obtain⟨w5,oU⟩:∃w5,w5=wc:=⟨_,rfl⟩;subst oU;have cA:=hA.cell 0;have fA:=hA.free 0;simp only[Qz]at cA;obtain⟨w6,j7⟩:=Qe (w5.setCell ⟨g1,0,none⟩ (.bool false));have zq:Blk w6 g1 24 [.bool false,.bool a1,.bool a2,.bool a3,.bool a4,.bool a5,Qi la]:=by rw[<-j7];exact hA.set_ 0 (.bool false)
  have u6:Upd (One g1) w5 w6:=by rw[<-j7];exact(Gg _ _).setOne 0 _
  have iD:=hB.upd u6 (show¬One g1 g2 from fun e=>hne e.symm);have cB:=iD.cell 0;have fB:=iD.free 0;simp only[Qz]at cB;obtain⟨w7,th⟩:=Qe (w6.setCell ⟨g2,0,none⟩ (.bool false));have jI:Blk w7 g2 24 [.bool false,.bool b1,.bool b2,.bool b3,.bool b4,.bool b5,Qi lb]:=by rw[<-th];exact iD.set_ 0 (.bool false)
  have u7:Upd (One g2) w6 w7:=by rw[<-th];exact(Gg _ _).setOne 0 _
  have lL:=zq.upd u7 (show¬One g2 g1 from fun e=>hne e);have U7:=Qh ((hu5.then_ u6 (fun i e=> .inr (show w4.heap.size<=i from by unfold One at e;omega))).then_ u7 (fun i e=> .inr (show w4.heap.size<=i from by unfold One at e;omega)));have p1:=lL.ev 1 rfl
  have q1:=jI.ev 1 rfl
  have p2:=lL.ev 2 rfl
  have q2:=jI.ev 2 rfl
  have p3:=lL.ev 3 rfl
  have q3:=jI.ev 3 rfl
  have p4:=lL.ev 4 rfl
  have q4:=jI.ev 4 rfl
  have p5:=lL.ev 5 rfl
  have q5:=jI.ev 5 rfl
  have p6:=lL.ev 6 rfl
  have q6:=jI.ev 6 rfl
  have p0:=lL.ev 0 rfl
  have q0:=jI.ev 0 rfl
  have xs0:∀W,Upd No w7 W->W.cell? ⟨z,0,none⟩=some (.bool a0):=fun W u=>xr0 W (U7.out.trans u)
  have xs1:∀W,Upd No w7 W->W.cell? ⟨z,1,none⟩=some (.bool a1):=fun W u=>xr1 W (U7.out.trans u)
  have xs2:∀W,Upd No w7 W->W.cell? ⟨z,2,none⟩=some (.bool a2):=fun W u=>xr2 W (U7.out.trans u)
  have xs3:∀W,Upd No w7 W->W.cell? ⟨z,3,none⟩=some (.bool a3):=fun W u=>xr3 W (U7.out.trans u)
  have xs4:∀W,Upd No w7 W->W.cell? ⟨z,4,none⟩=some (.bool a4):=fun W u=>xr4 W (U7.out.trans u)
  have xs5:∀W,Upd No w7 W->W.cell? ⟨z,5,none⟩=some (.bool a5):=fun W u=>xr5 W (U7.out.trans u)
  have xs6:∀W,Upd No w7 W->W.cell? ⟨z,6,none⟩=some (Qi la):=fun W u=>xr6 W (U7.out.trans u)
  have ys0:∀W,Upd No w7 W->W.cell? ⟨z+1,0,none⟩=some (.bool b0):=fun W u=>yr0 W (U7.out.trans u)
  have ys1:∀W,Upd No w7 W->W.cell? ⟨z+1,1,none⟩=some (.bool b1):=fun W u=>yr1 W (U7.out.trans u)
  have ys2:∀W,Upd No w7 W->W.cell? ⟨z+1,2,none⟩=some (.bool b2):=fun W u=>yr2 W (U7.out.trans u)
  have ys3:∀W,Upd No w7 W->W.cell? ⟨z+1,3,none⟩=some (.bool b3):=fun W u=>yr3 W (U7.out.trans u)
  have ys4:∀W,Upd No w7 W->W.cell? ⟨z+1,4,none⟩=some (.bool b4):=fun W u=>yr4 W (U7.out.trans u)
  have ys5:∀W,Upd No w7 W->W.cell? ⟨z+1,5,none⟩=some (.bool b5):=fun W u=>yr5 W (U7.out.trans u)
  have ys6:∀W,Upd No w7 W->W.cell? ⟨z+1,6,none⟩=some (Qi lb):=fun W u=>yr6 W (U7.out.trans u)
  have lu:Upd No w7 w7:=Gg _ _;have u66:Upd (One g1) w5 w6:=u6
  go_upto_region 8 with fail
  clear j7 th cA fA cB fB hA zq lL hB iD jI u6 u7 u66 hu5 hne
  go_cut [64] (fun s wx=>s= .bool false∧Upd No w7 wx)
  case first=>
   have C5:=Qh (show∀W:Gy,CN 6 #[.agg #[.bool a0,.bool a1,.bool a2,.bool a3,.bool a4,.bool a5,Qi la]] W (.string (Zdr la (f6 a0 a1 a2 a3 a4 a5))) from fun W=>Zrk W (f6 a0 a1 a2 a3 a4 a5) la);have C6:=Qh (show∀W:Gy,CN 6 #[.agg #[.bool b0,.bool b1,.bool b2,.bool b3,.bool b4,.bool b5,Qi lb]] W (.string (Zdr lb (f6 b0 b1 b2 b3 b4 b5))) from fun W=>Zrk W (f6 b0 b1 b2 b3 b4 b5) lb)
   by_cases k0:¬(0<=la)
   ·have d0:decide (0<=la)=false:=Qf k0;clear k0;refine wpS (fun W'=>Upd No w7 W') ?_ fun jH=>?_
    ·(first|exact lu.drew|exact jH)
    (iterate 20 refine wpF ?_);refine wpN 21 rfl ?_;refine wpN 24 rfl ?_;refine wpN 25 rfl ?_;refine wpN 26 rfl ?_;refine wpZ 20 rfl fun K hK=>?_;go_simp;refine hK.out _ _ ?_ fun jH=>?_
    ·exact jH
    try simp only[Qa]
    refine wpZ 22 rfl fun K hK=>?_;go_simp;refine hK.out _ _ ?_ fun jH=>?_
    ·exact jH
    try simp only[Qa]
    (iterate 3 refine wpF ?_);refine wpD (Gd ?_);go_wp2_with fail;go_meet;exact⟨rfl,jH⟩
   have d0:decide (0<=la)=true:=Qt (Classical.not_not.1 k0)
   by_cases k1:¬(la<=3)
   ·have d1:decide (la<=3)=false:=Qf k1;clear k1;refine wpS (fun W'=>Upd No w7 W') ?_ fun jH=>?_
    ·(first|exact lu.drew|exact jH)
    (iterate 20 refine wpF ?_);refine wpN 21 rfl ?_;refine wpN 24 rfl ?_;refine wpN 25 rfl ?_;refine wpN 26 rfl ?_;refine wpZ 20 rfl fun K hK=>?_;go_simp;refine hK.out _ _ ?_ fun jH=>?_
    ·exact jH
    try simp only[Qa]
    refine wpZ 22 rfl fun K hK=>?_;go_simp;refine hK.out _ _ ?_ fun jH=>?_
    ·exact jH
    try simp only[Qa]
    (iterate 3 refine wpF ?_);refine wpD (Gd ?_);go_wp2_with fail;go_meet;exact⟨rfl,jH⟩
   have d1:decide (la<=3)=true:=Qt (Classical.not_not.1 k1)
   by_cases k2:¬(0<=lb)
   ·have d2:decide (0<=lb)=false:=Qf k2;clear k2;refine wpS (fun W'=>Upd No w7 W') ?_ fun jH=>?_
    ·(first|exact lu.drew|exact jH)
    (iterate 20 refine wpF ?_);refine wpN 21 rfl ?_;refine wpN 24 rfl ?_;refine wpN 25 rfl ?_;refine wpN 26 rfl ?_;refine wpZ 20 rfl fun K hK=>?_;go_simp;refine hK.out _ _ ?_ fun jH=>?_
    ·exact jH
    try simp only[Qa]
    refine wpZ 22 rfl fun K hK=>?_;go_simp;refine hK.out _ _ ?_ fun jH=>?_
    ·exact jH
    try simp only[Qa]
    (iterate 3 refine wpF ?_);refine wpD (Gd ?_);go_wp2_with fail;go_meet;exact⟨rfl,jH⟩
   have d2:decide (0<=lb)=true:=Qt (Classical.not_not.1 k2)
   by_cases k3:¬(lb<=3)
   ·have d3:decide (lb<=3)=false:=Qf k3;clear k3;refine wpS (fun W'=>Upd No w7 W') ?_ fun jH=>?_
    ·(first|exact lu.drew|exact jH)
    (iterate 20 refine wpF ?_);refine wpN 21 rfl ?_;refine wpN 24 rfl ?_;refine wpN 25 rfl ?_;refine wpN 26 rfl ?_;refine wpZ 20 rfl fun K hK=>?_;go_simp;refine hK.out _ _ ?_ fun jH=>?_
    ·exact jH
    try simp only[Qa]
    refine wpZ 22 rfl fun K hK=>?_;go_simp;refine hK.out _ _ ?_ fun jH=>?_
    ·exact jH
    try simp only[Qa]
    (iterate 3 refine wpF ?_);refine wpD (Gd ?_);go_wp2_with fail;go_meet;exact⟨rfl,jH⟩
   have d3:decide (lb<=3)=true:=Qt (Classical.not_not.1 k3);obtain⟨bb,eD⟩:=Qe (decide (Zdr la (f6 a0 a1 a2 a3 a4 a5)=Zdr lb (f6 b0 b1 b2 b3 b4 b5)));have hvb:=(ZqI a0 a1 a2 a3 a4 a5 b0 b1 b2 b3 b4 b5 (la:=la) (lb:=lb) ⟨Classical.not_not.1 k0,Classical.not_not.1 k1⟩ ⟨Classical.not_not.1 k2,Classical.not_not.1 k3⟩).trans eD;have D4:∀W:Gy,(Op.equalIn 10000 24 (.agg #[.bool false,.bool a1,.bool a2,.bool a3,.bool a4,.bool a5,Qi la]) (.agg #[.bool false,.bool b1,.bool b2,.bool b3,.bool b4,.bool b5,Qi lb])).run Tryz.prog W= .ok bb W:=fun W=>by rw[Ziq,hvb]
   obtain⟨V1,fx⟩:∃V,Zdr la (f6 a0 a1 a2 a3 a4 a5)=V:=⟨_,rfl⟩;obtain⟨V2,fy⟩:∃V,Zdr lb (f6 b0 b1 b2 b3 b4 b5)=V:=⟨_,rfl⟩;rw[fx]at C5 eD;rw[fy]at C6 eD;have ag:(V1.toList==V2.toList)=bb:=by rw[Zlo,eD]
   clear k0 k1 k2 k3 hvb ya fx fy eD;refine wpS (fun W'=>Upd No w7 W') ?_ fun jH=>?_
   ·(first|exact lu.drew|exact jH.trans hu4)
   (iterate 20 refine wpF ?_);refine wpK 21 rfl ?_;refine wpK 24 rfl ?_;refine wpK 25 rfl ?_;refine wpK 26 rfl ?_;refine wpZ 20 rfl fun K hK=>?_;go_simp
   (first
  |(go_at_call 6;refine Ck (C5.out _) fun w4 hu4=>?_))
   try (go_wp2_with fail)
   refine hK.out _ _ ?_ fun jH=>?_
   ·(first|exact lu.drew|exact jH.trans hu4)
   try simp only[Qa]
   refine wpZ 22 rfl fun K hK=>?_;go_simp
   (first
  |(go_at_call 6;refine Ck (C6.out _) fun w4 hu4=>?_))
   try (go_wp2_with fail)
   refine hK.out _ _ ?_ fun jH=>?_
   ·(first|exact lu.drew|exact jH.trans hu4)
   try simp only[Qa]
   (iterate 3 refine wpF ?_);refine wpD (Gd ?_);go_wp2_with fail;go_meet;exact⟨rfl,jH⟩
  case rest=>
   obtain⟨rfl,hu8⟩:=hcut;obtain⟨w8,Dp⟩:∃w8,w8=wc:=⟨_,rfl⟩;subst Dp;have U8:=Qh (U7.out.trans hu8);clear lu hu8 ya p0 q0 p1 q1 p2 q2 p3 q3 p4 q4 p5 q5 p6 q6 xs0 ys0 xs1 ys1 xs2 ys2 xs3 ys3 xs4 ys4 xs5 ys5 xs6 ys6 xr0 yr0 xr1 yr1 xr2 yr2 xr3 yr3 xr4 yr4 xr5 yr5 xr6 yr6
   go_upto_region 10 with fail
   go_cut [89] (fun s wx=>s= .bool false∧Upd No w8 wx)
   case first=>
    by_cases k0:¬(0<=e)
    ·have d0:decide (0<=e)=false:=Qf k0;clear k0;go_wp2_with fail;go_meet;exact⟨rfl,Gg _ _⟩
    have d0:decide (0<=e)=true:=Qt (Classical.not_not.1 k0)
    by_cases k1:¬(e<=17)
    ·have d1:decide (e<=17)=false:=Qf k1;clear k1;go_wp2_with fail;go_meet;exact⟨rfl,Gg _ _⟩
    have d1:decide (e<=17)=true:=Qt (Classical.not_not.1 k1)
    by_cases k2:¬(0<=f)
    ·have d2:decide (0<=f)=false:=Qf k2;clear k2;go_wp2_with fail;go_meet;exact⟨rfl,Gg _ _⟩
    have d2:decide (0<=f)=true:=Qt (Classical.not_not.1 k2)
    by_cases k3:¬(f<=17)
    ·have d3:decide (f<=17)=false:=Qf k3;clear k3;go_wp2_with fail;go_meet;exact⟨rfl,Gg _ _⟩
    have d3:decide (f<=17)=true:=Qt (Classical.not_not.1 k3);obtain⟨bb,eD⟩:=Qe (decide (Zbc e=Zbc f));have hvb:=(Zqg (e:=e) (f:=f) ⟨Classical.not_not.1 k0,Classical.not_not.1 k1⟩ ⟨Classical.not_not.1 k2,Classical.not_not.1 k3⟩).trans eD;have C1:=Qh (fun W=>Zk7 W e);have C2:=Qh (fun W=>Zk7 W f);obtain⟨V1,fx⟩:∃V,Zbc e=V:=⟨_,rfl⟩;obtain⟨V2,fy⟩:∃V,Zbc f=V:=⟨_,rfl⟩;rw[fx]at C1 eD;rw[fy]at C2 eD;have ag:(V1.toList==V2.toList)=bb:=by rw[Zlo,eD]
    clear k0 k1 k2 k3 fx fy eD;go_wp2_with fail;refine Ck (C1.out _) fun q1 hv1=>?_;go_wp2_with fail;refine Ck (C2.out _) fun q2 hv2=>?_;go_wp2_with fail;go_meet;exact⟨rfl,hv1.trans hv2⟩
   case rest=>
    obtain⟨rfl,aI⟩:=hcut;obtain⟨w9,Bk⟩:∃w9,w9=wc:=⟨_,rfl⟩;subst Bk;have U9:=Qh (U8.out.trans aI);clear aI;go_wp2
    go_loopg [15] 5 (fun gk i wr=>∃k:Nat,k+gk=5∧i= Qi (((k+1:Nat):Int))∧Hid (Upd No w4 wr))
    case atStart=>exact⟨0,by omega,rfl,U9⟩
    case round=>
     obtain⟨k,aK,rfl,hu⟩:=hrel
     by_cases hk:k<5
     ·obtain⟨PK,iU⟩:=Qe (((k+1:Nat):Int):Int);have nP:=Qh iU;have l2:PK<6:=by omega
      have pw:IntKind.i64.wrap (PK+1)=PK+1:=IntWalk.i64_in _ (by omega);rw[iU];have gH:=hu.out;have kJ:=ZpI j8.out PK;have ku:=ZpI l7.out PK;have o5:=Znl j8.out PK;have qm:=Znl l7.out PK;have C1:=Qh (wOf F wr txs ords A c B d PK (GH.out wr (U4.out.trans gH)) j8.out);have C2:=Qh (fun W (u:Upd No w4 W)=>wOf F W txs2 ords2 A2 c2 B2 d2 PK (GG.out W (U4.out.trans u)) l7.out);obtain⟨X,hX⟩:=Qe (ofX ⟨txs,ords,A,c,B,d⟩ PK);obtain⟨Y,hY⟩:=Qe (ofX ⟨txs2,ords2,A2,c2,B2,d2⟩ PK);obtain⟨⟨xp,xw,⟨x0,x1,⟨x2,x3,x4⟩⟩⟩,xb⟩:=X;obtain⟨⟨yp,yw,⟨y0,y1,⟨y2,y3,y4⟩⟩⟩,yb⟩:=Y;have CF:=Qh (ZoU j8.out l7.out PK hX hY);rw[hX]at kJ o5 C1;rw[hY]at ku qm C2;simp only at kJ ku o5 qm;have JX:=Qh kJ;have JY:=Qh ku;clear iU hX hY kJ ku;go_wp2_with fail;refine C1.out.mono ?_;rintro e5 w5 hh;obtain⟨A5,c5,rfl,nM,hu5⟩:=hh.part (n:=xw.length) rfl rfl;have vN:Upd No w4 (w5.alloc (.cells #[Qi xp,.slice A5 xw.length c5,Qi x0,Qi x1,Qi x2,Qi x3,Qi x4] 40)):=(gH.trans hu5).alloc _;have BX:=Qh (Gh w5 40 [Qi xp,.slice A5 xw.length c5,Qi x0,Qi x1,Qi x2,Qi x3,Qi x4]);have EX:=Qh (nM.upd ((Gg No w5).alloc (.cells #[Qi xp,.slice A5 xw.length c5,Qi x0,Qi x1,Qi x2,Qi x3,Qi x4] 40)));clear hh nM hu5 C1;go_wp2_with fail;refine(C2.out _ vN).mono ?_;rintro e6 w6 hh;obtain⟨A6,c6,rfl,xX,hu6⟩:=hh.part (n:=yw.length) rfl rfl
      have zz:=Qh (BX.out.upd hu6 id);have zh:=Qh (EX.out.upd hu6);have sV:Upd No w4 (w6.alloc (.cells #[Qi yp,.slice A6 yw.length c6,Qi y0,Qi y1,Qi y2,Qi y3,Qi y4] 40)):=(vN.trans hu6).alloc _;clear hh BX EX vN hu6 C2;go_wp2_with fail;obtain⟨u1,hu1⟩:=Qe w5.heap.size;obtain⟨u2,hu2⟩:=Qe w6.heap.size;obtain⟨wv,jY⟩:=Qe (w6.alloc (.cells #[Qi yp,.slice A6 yw.length c6,Qi y0,Qi y1,Qi y2,Qi y3,Qi y4] 40));have uv:Upd No w6 wv:=by rw[<-jY];exact(Gg No w6).alloc _
      have bX:Blk wv u1 40 [Qi xp,.slice A5 xw.length c5,Qi x0,Qi x1,Qi x2,Qi x3,Qi x4]:=by rw[<-hu1];exact zz.out.upd uv id
      have bY:Blk wv u2 40 [Qi yp,.slice A6 yw.length c6,Qi y0,Qi y1,Qi y2,Qi y3,Qi y4]:=by rw[<-jY,<-hu2];exact Gh w6 _ _
      have EX:=Qh (fun W (u:Upd No wv W)=>zh.out.upd (uv.trans u));have EY:=Qh (fun W (u:Upd No wv W)=>xX.upd (uv.trans u));rw[jY]at sV ⊢;simp only[hu1,hu2];have UV:=Qh sV;have gZ:Upd No wv wv:=Gg _ _;have m0:=bX.ev 0 rfl
      have m1:=bX.ev 1 rfl
      have m2:=bX.ev 2 rfl
      have m3:=bX.ev 3 rfl
      have m4:=bX.ev 4 rfl
      have m5:=bX.ev 5 rfl
      have m6:=bX.ev 6 rfl
      have n0:=bY.ev 0 rfl
      have n1:=bY.ev 1 rfl
      have n2:=bY.ev 2 rfl
      have n3:=bY.ev 3 rfl
      have n4:=bY.ev 4 rfl
      have n5:=bY.ev 5 rfl
      have n6:=bY.ev 6 rfl
      clear jY hu1 hu2 sV uv bX bY zz zh xX gH x8 ni gr0 gr1;obtain⟨sv,tk⟩:=Qe (decide ((⟨xp,xw,⟨x0,x1,⟨x2,x3,x4⟩⟩⟩:HWit)=⟨yp,yw,⟨y0,y1,⟨y2,y3,y4⟩⟩⟩));have D1:=Qh (fun W (u:Upd No wv W) b=>Zsr W PK b xp A5 c5 xw x0 x1 x2 x3 x4 (EX.out W u) (by omega) JX.out.1 JX.out.2.1 JX.out.2.2.1 JX.out.2.2.2);have D2:=Qh (fun W (u:Upd No wv W) b=>Zsr W PK b yp A6 c6 yw y0 y1 y2 y3 y4 (EY.out W u) (by omega) JY.out.1 JY.out.2.1 JY.out.2.2.1 JY.out.2.2.2);have D3:=Qh (fun W (u:Upd No wv W)=>Zt1 (c:=c5) (d:=c6) (EX.out W u) (EY.out W u) (by omega) (by omega) rfl rfl tk);have HW:=CF.out;rw[tk]at HW;clear tk;have HW:=Qh HW
      cases xb
      ·cases yb
       ·have E1:=Qh (fun W (u:Upd No wv W)=>D1.out W u false);have E2:=Qh (fun W (u:Upd No wv W)=>D2.out W u false);have ag:((Zau PK false xw x0 x1 x2 x3 x4).toList==(Zau PK false yw y0 y1 y2 y3 y4).toList)=sv:=by rw[HW.out];simp
        obtain⟨V1,fx⟩:∃V,Zau PK false xw x0 x1 x2 x3 x4=V:=⟨_,rfl⟩;obtain⟨V2,fy⟩:∃V,Zau PK false yw y0 y1 y2 y3 y4=V:=⟨_,rfl⟩;rw[fx]at ag E1;rw[fy]at ag E2;clear fx fy HW D1 D2;refine wpS (fun W'=>Upd No wv W') ?_ fun jH=>?_
        ·(first|exact gZ.drew|exact jH.trans hu4)
        (iterate 3 refine wpF ?_);refine wpK 4 rfl ?_;refine wpK 5 rfl ?_;refine wpK 6 rfl ?_;refine wpK 9 rfl ?_;refine wpK 10 rfl ?_;refine wpK 11 rfl ?_;refine wpZ 3 rfl fun K hK=>?_;go_simp
        (first
  |(go_at_call 9;refine Ck (E1.out _ jH) fun w7 hu4=>?_))
        try (go_wp2_with fail)
        refine hK.out _ _ ?_ fun jH=>?_
        ·(first|exact gZ.drew|exact jH.trans hu4)
        try simp only[Qa]
        refine wpZ 7 rfl fun K hK=>?_;go_simp
        (first
  |(go_at_call 9;refine Ck (E2.out _ jH) fun w7 hu4=>?_))
        try (go_wp2_with fail)
        refine hK.out _ _ ?_ fun jH=>?_
        ·(first|exact gZ.drew|exact jH.trans hu4)
        try simp only[Qa]
        (iterate 4 refine wpF ?_);refine wpZ 15 rfl fun K hK=>?_;go_simp
        (first
  |(go_at_call 10;refine Ck (D3.out _ jH) fun w7 hu4=>?_))
        try (go_wp2_with fail)
        refine hK.out _ _ ?_ fun jH=>?_
        ·(first|exact gZ.drew|exact jH.trans hu4)
        try simp only[Qa]
        (iterate 2 refine wpF ?_);refine wpD (Gd ?_);go_wp2;go_roundg (gk-1);exact⟨k+1,by omega,by have:=nP.out;simp;omega,Qh (UV.out.trans jH)⟩;omega
       ·have E1:=Qh (fun W (u:Upd No wv W)=>D1.out W u false);have E2:=Qh (fun W (u:Upd No wv W)=>D2.out W u true);have ag:((Zau PK false xw x0 x1 x2 x3 x4).toList==(Zau PK true yw y0 y1 y2 y3 y4).toList)=false:=by rw[HW.out];simp
        obtain⟨V1,fx⟩:∃V,Zau PK false xw x0 x1 x2 x3 x4=V:=⟨_,rfl⟩;obtain⟨V2,fy⟩:∃V,Zau PK true yw y0 y1 y2 y3 y4=V:=⟨_,rfl⟩;rw[fx]at ag E1;rw[fy]at ag E2;clear fx fy HW D1 D2;refine wpS (fun W'=>Upd No wv W') ?_ fun jH=>?_
        ·(first|exact gZ.drew|exact jH.trans hu4)
        (iterate 3 refine wpF ?_);refine wpK 4 rfl ?_;refine wpK 5 rfl ?_;refine wpK 6 rfl ?_;refine wpK 9 rfl ?_;refine wpK 10 rfl ?_;refine wpK 11 rfl ?_;refine wpZ 3 rfl fun K hK=>?_;go_simp
        (first
  |(go_at_call 9;refine Ck (E1.out _ jH) fun w7 hu4=>?_))
        try (go_wp2_with fail)
        refine hK.out _ _ ?_ fun jH=>?_
        ·(first|exact gZ.drew|exact jH.trans hu4)
        try simp only[Qa]
        refine wpZ 7 rfl fun K hK=>?_;go_simp
        (first
  |(go_at_call 9;refine Ck (E2.out _ jH) fun w7 hu4=>?_))
        try (go_wp2_with fail)
        refine hK.out _ _ ?_ fun jH=>?_
        ·(first|exact gZ.drew|exact jH.trans hu4)
        try simp only[Qa]
        (iterate 4 refine wpF ?_);refine wpZ 15 rfl fun K hK=>?_;go_simp;refine hK.out _ _ ?_ fun jH=>?_
        ·exact jH
        try simp only[Qa]
        (iterate 2 refine wpF ?_);refine wpD (Gd ?_);go_wp2;go_roundg (gk-1);exact⟨k+1,by omega,by have:=nP.out;simp;omega,Qh (UV.out.trans jH)⟩;omega
      ·cases yb
       ·have E1:=Qh (fun W (u:Upd No wv W)=>D1.out W u true);have E2:=Qh (fun W (u:Upd No wv W)=>D2.out W u false);have ag:((Zau PK true xw x0 x1 x2 x3 x4).toList==(Zau PK false yw y0 y1 y2 y3 y4).toList)=false:=by rw[HW.out];simp
        obtain⟨V1,fx⟩:∃V,Zau PK true xw x0 x1 x2 x3 x4=V:=⟨_,rfl⟩;obtain⟨V2,fy⟩:∃V,Zau PK false yw y0 y1 y2 y3 y4=V:=⟨_,rfl⟩;rw[fx]at ag E1;rw[fy]at ag E2;clear fx fy HW D1 D2;refine wpS (fun W'=>Upd No wv W') ?_ fun jH=>?_
        ·(first|exact gZ.drew|exact jH.trans hu4)
        (iterate 3 refine wpF ?_);refine wpK 4 rfl ?_;refine wpK 5 rfl ?_;refine wpK 6 rfl ?_;refine wpK 9 rfl ?_;refine wpK 10 rfl ?_;refine wpK 11 rfl ?_;refine wpZ 3 rfl fun K hK=>?_;go_simp
        (first
  |(go_at_call 9;refine Ck (E1.out _ jH) fun w7 hu4=>?_))
        try (go_wp2_with fail)
        refine hK.out _ _ ?_ fun jH=>?_
        ·(first|exact gZ.drew|exact jH.trans hu4)
        try simp only[Qa]
        refine wpZ 7 rfl fun K hK=>?_;go_simp
        (first
  |(go_at_call 9;refine Ck (E2.out _ jH) fun w7 hu4=>?_))
        try (go_wp2_with fail)
        refine hK.out _ _ ?_ fun jH=>?_
        ·(first|exact gZ.drew|exact jH.trans hu4)
        try simp only[Qa]
        (iterate 4 refine wpF ?_);refine wpZ 15 rfl fun K hK=>?_;go_simp;refine hK.out _ _ ?_ fun jH=>?_
        ·exact jH
        try simp only[Qa]
        (iterate 2 refine wpF ?_);refine wpD (Gd ?_);go_wp2;go_roundg (gk-1);exact⟨k+1,by omega,by have:=nP.out;simp;omega,Qh (UV.out.trans jH)⟩;omega
       ·have E1:=Qh (fun W (u:Upd No wv W)=>D1.out W u true);have E2:=Qh (fun W (u:Upd No wv W)=>D2.out W u true);have ag:((Zau PK true xw x0 x1 x2 x3 x4).toList==(Zau PK true yw y0 y1 y2 y3 y4).toList)=sv:=by rw[HW.out];simp
        obtain⟨V1,fx⟩:∃V,Zau PK true xw x0 x1 x2 x3 x4=V:=⟨_,rfl⟩;obtain⟨V2,fy⟩:∃V,Zau PK true yw y0 y1 y2 y3 y4=V:=⟨_,rfl⟩;rw[fx]at ag E1;rw[fy]at ag E2;clear fx fy HW D1 D2;refine wpS (fun W'=>Upd No wv W') ?_ fun jH=>?_
        ·(first|exact gZ.drew|exact jH.trans hu4)
        (iterate 3 refine wpF ?_);refine wpK 4 rfl ?_;refine wpK 5 rfl ?_;refine wpK 6 rfl ?_;refine wpK 9 rfl ?_;refine wpK 10 rfl ?_;refine wpK 11 rfl ?_;refine wpZ 3 rfl fun K hK=>?_;go_simp
        (first
  |(go_at_call 9;refine Ck (E1.out _ jH) fun w7 hu4=>?_))
        try (go_wp2_with fail)
        refine hK.out _ _ ?_ fun jH=>?_
        ·(first|exact gZ.drew|exact jH.trans hu4)
        try simp only[Qa]
        refine wpZ 7 rfl fun K hK=>?_;go_simp
        (first
  |(go_at_call 9;refine Ck (E2.out _ jH) fun w7 hu4=>?_))
        try (go_wp2_with fail)
        refine hK.out _ _ ?_ fun jH=>?_
        ·(first|exact gZ.drew|exact jH.trans hu4)
        try simp only[Qa]
        (iterate 4 refine wpF ?_);refine wpZ 15 rfl fun K hK=>?_;go_simp
        (first
  |(go_at_call 10;refine Ck (D3.out _ jH) fun w7 hu4=>?_))
        try (go_wp2_with fail)
        refine hK.out _ _ ?_ fun jH=>?_
        ·(first|exact gZ.drew|exact jH.trans hu4)
        try simp only[Qa]
        (iterate 2 refine wpF ?_);refine wpD (Gd ?_);go_wp2;go_roundg (gk-1);exact⟨k+1,by omega,by have:=nP.out;simp;omega,Qh (UV.out.trans jH)⟩;omega
     ·obtain rfl:k=5:=by omega
      go_wp2;go_ret;exact⟨rfl,U0.out.trans (U4.out.trans hu.out)⟩
