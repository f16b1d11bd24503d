/- Closed walks: how edges that come in read. -/
import Derived.Test.YtadmgiljchgccaaGreatTcbh
import Derived.Test.YtadmgiljchgccaaGreatTcbi
namespace Go.Proofs.YtadmgiljchgccaaGreat
open Go.RowKit
set_option linter.unusedVariables false
set_option linter.unusedSimpArgs false
def Edge.i(a:Edge):Prop:=(-9223372036854775808<=a.f∧a.f<=9223372036854775807)∧(-9223372036854775808<=a.t∧a.t<=9223372036854775807)∧(-9223372036854775808<=a.k∧a.k<=9223372036854775807)∧(-9223372036854775808<=a.key∧a.key<=9223372036854775807)
section
variable {H:Type} {enc:Iy×Iz->H} {w:I0} {base:Nat} {spare:Nat->Bool} {held:Bool} {row:Ip}
end
/- Closed walks:what is known of the walk that is told;whether an edge is among some. -/
theorem ZhZ{p:List HArc}{least:Int}:∀{l:List HArc} {u v:Int},okW p least u l v->(∀h:0<l.length,l[0].f=u)∧∀(i:Nat) (h:i<l.length),(∀h2:i+1<l.length,l[i].t=l[i+1].f)∧(i+1=l.length->l[i].t=v)
 |[],u,v,_=>⟨fun h=>by simp at h,fun i h=>by simp at h⟩
 |a::l,u,v,hw=>by
  obtain⟨ha,eQ,hl,hw⟩:=hw;obtain⟨ih1,ih2⟩:=ZhZ hw;refine⟨fun _=>eQ,fun i h=>?_⟩
  cases i with
  |zero=>
   refine⟨fun h2=>?_,fun h2=>?_⟩
   ·have h3:0<l.length:=by simpa using h2
    exact(ih1 h3).symm
   ·have:l=[]:=by simpa using h2
    subst this;exact hw
  |succ i=>
   have h3:i<l.length:=by simpa using h
   have:=ih2 i h3;refine⟨fun h2=>?_,fun h2=>?_⟩
   ·exact this.1 (by simpa using h2)
   ·exact this.2 (by simpa using h2)
structure SimpleD (l d:List Edge) (mask must:Int):Prop where
 next:∀(i:Nat) (h:i<d.length),d[i].t=(d[(i+1)%d.length]'(Nat.mod_lt _ (by omega))).f
 kind:∀e∈d,(1<=e.k∧e.k<=3∧Zf mask e.k=true)∧e∈l
 least:∀(i:Nat) (h:i<d.length),(d[0]'(by omega)).f<=d[i].f
 dist:∀(i j:Nat) (hi:i<j) (hj:j<d.length),(d[i]'(by omega)).f≠d[j].f
 has:Zak must=true->(d.any fun e=>Zf must e.k)=true
theorem Zpp{l:List Edge}{mask must:Int}(hl:l.length<=100000):SimpleD l (ZaQ l mask must) mask must∨ZaQ l mask must=[]:=by
 rcases ZeF l mask must hl with ⟨e,_⟩|⟨v,h⟩
 ·exact .inr e
 ·left
  obtain⟨d,hd⟩:=Qe (ZaQ l mask must);rw[hd]at h ⊢;obtain⟨h1,h2⟩:=ZhZ h.w;have au:(d.map Edge.arc).length=d.length:=Hw ..
  have h0:∀hp:0<d.length,d[0].f=v:=fun hp=>by
   have:=h1 (by rw[au];exact hp);rw[G8]at this;exact this
  refine⟨fun i hi=>?_,fun e he=>?_,fun i hi=>?_,fun i j hij hj=>?_,fun hn=>?_⟩
  ·have h3:=h2 i (by rw[au];exact hi);rw[G8]at h3
   by_cases hl:i+1<d.length
   ·have h4:=h3.1 (by rw[au];exact hl);rw[G8]at h4;have e:(i+1)%d.length=i+1:=Nat.mod_eq_of_lt hl;simp only[e];exact h4
   ·have h4:=h3.2 (by rw[au];omega);have e:(i+1)%d.length=0:=by rw[show i+1=d.length by omega];exact Nat.mod_self _
    simp only[e];rw[h0 (by omega)];exact h4
  ·have h3:=ZaZ h.w e.arc (mem_arcs.2 he);have h4:=Hy.1 (mem_arcs.1 h3);have h5:=Zbp h4.2;exact⟨h5,h4.1⟩
  ·have h3:=ZqA h.w d[i].arc (mem_arcs.2 (Hg hi));rw[h0 (by omega)];exact h3
  ·have h3:=List.pairwise_iff_getElem.1 h.simple i j (by rw[au];omega) (by rw[au];exact hj) hij;rw[G8,G8]at h3;exact h3
  ·have h3:=h.m hn;unfold Zq at h3;rw[List.any_map]at h3;exact h3
/- The walk that is found,plain:closed,simple,turned,and ahead of any other. -/
section
variable {l d:List Edge} {mask must:Int}
theorem Zp9(h:SimpleD l d mask must)(h0:0<d.length):Zan d=true:=by
 unfold Zan;rw[Qt h0,Bool.true_and,Hd];intro i hi;have hi:=Ic.1 hi;have hm:=Nat.mod_lt (i+1) h0;rw[Zl7 (Qg hi) rfl (Qg hm),beq_iff_eq];exact h.next i hi
end
/-! masks -/
theorem ZiC{z:Int}(h0:0<=z)(h1:z<=14)(h2:z%2=0):(z==0)= !(Zf z 1||(Zf z 2||Zf z 3)):=by
 have h:z=0∨z=2∨z=4∨z=6∨z=8∨z=10∨z=12∨z=14:=by omega
 rcases h with rfl|rfl|rfl|rfl|rfl|rfl|rfl|rfl<;>rfl
theorem Zjw(a b c:Bool):Zf (Zx a b c) 1=a∧Zf (Zx a b c) 2=b∧Zf (Zx a b c) 3=c:=by
 cases a<;>cases b<;>cases c<;>exact⟨rfl,rfl,rfl⟩
theorem Zjv(a b c:Bool):∃n:Nat,Zx a b c=(n:Int)∧n<=14∧n%2=0:=by
 cases a<;>cases b<;>cases c
 ·exact⟨0,rfl,by decide,rfl⟩
 ·exact⟨8,rfl,by decide,rfl⟩
 ·exact⟨4,rfl,by decide,rfl⟩
 ·exact⟨12,rfl,by decide,rfl⟩
 ·exact⟨2,rfl,by decide,rfl⟩
 ·exact⟨10,rfl,by decide,rfl⟩
 ·exact⟨6,rfl,by decide,rfl⟩
 ·exact⟨14,rfl,by decide,rfl⟩
theorem ZrF{n:Nat}(h:n<=14):(BitVec.ofInt 64 (n:Int)).toNat=n:=by rw[BitVec.toNat_ofInt];omega
theorem Zm2{n y:Nat}(h:n%2=0):(n &&& y)%2=0:=by
 have h1:(n &&& y).testBit 0=false:=by
  rw[Nat.testBit_and,Nat.testBit_zero,Qf (show¬n%2=1 by omega)];rfl
 rw[Nat.testBit_zero,decide_eq_false_iff_not]at h1;omega
theorem Ziu{n:Nat}(h:n<=14):IntKind.i64.wrap (n:Int)=(n:Int):=IntWalk.i64_in _ (by omega)
theorem ZtM(a b c:Bool)(x:Int):(bits .and .i64 (Zx a b c) x != 0)=((a&&Zf x 1)||((b&&Zf x 2)||(c&&Zf x 3))):=by
 obtain⟨n,hn,hle,vM⟩:=Zjv a b c
 have e:bits .and .i64 (Zx a b c) x=(((n &&& (BitVec.ofInt 64 x).toNat:Nat)):Int):=by
  rw[hn];have e1:bits .and .i64 (n:Int) x=IntKind.i64.wrap (((BitVec.ofInt 64 (n:Int) &&& BitVec.ofInt 64 x).toNat:Nat):Int):=rfl;rw[e1,BitVec.toNat_and,ZrF hle];exact Ziu (Nat.le_trans Nat.and_le_left hle)
 have hb:=ZiC (z:=bits .and .i64 (Zx a b c) x) (by rw[e];omega) (by rw[e];have:n &&& (BitVec.ofInt 64 x).toNat<=n:=Nat.and_le_left;omega) (by rw[e];have:=Zm2 (y:=(BitVec.ofInt 64 x).toNat) vM;omega);have k1:=Zd2 (Zx a b c) x 1 (.inl rfl);have k2:=Zd2 (Zx a b c) x 2 (.inr (.inl rfl));have k3:=Zd2 (Zx a b c) x 3 (.inr (.inr rfl));obtain⟨t1,t2,t3⟩:=Zjw a b c;rw[bne,hb,Bool.not_not];have q1:Zf (bits .and .i64 (Zx a b c) x) 1=(a&&Zf x 1):=k1.trans (by show(Zf (Zx a b c) 1&&_)=_;rw[t1];rfl);have q2:Zf (bits .and .i64 (Zx a b c) x) 2=(b&&Zf x 2):=k2.trans (by show(Zf (Zx a b c) 2&&_)=_;rw[t2];rfl);have q3:Zf (bits .and .i64 (Zx a b c) x) 3=(c&&Zf x 3):=k3.trans (by show(Zf (Zx a b c) 3&&_)=_;rw[t3];rfl);rw[q1,q2,q3]
theorem Znt(a b c:Bool)(x:Int):(bits .andNot .i64 (Zx a b c) x==0)= !((a&& !Zf x 1)||((b&& !Zf x 2)||(c&& !Zf x 3))):=by
 obtain⟨n,hn,hle,vM⟩:=Zjv a b c
 have e:bits .andNot .i64 (Zx a b c) x=(((n &&& (~~~ BitVec.ofInt 64 x).toNat:Nat)):Int):=by
  rw[hn];have e1:bits .andNot .i64 (n:Int) x=IntKind.i64.wrap (((BitVec.ofInt 64 (n:Int) &&& ~~~ BitVec.ofInt 64 x).toNat:Nat):Int):=rfl;rw[e1,BitVec.toNat_and,ZrF hle];exact Ziu (Nat.le_trans Nat.and_le_left hle)
 have hb:=ZiC (z:=bits .andNot .i64 (Zx a b c) x) (by rw[e];omega) (by rw[e];have:n &&& (~~~ BitVec.ofInt 64 x).toNat<=n:=Nat.and_le_left;omega) (by rw[e];have:=Zm2 (y:=(~~~ BitVec.ofInt 64 x).toNat) vM;omega);have k1:=Zdb (Zx a b c) x 1 (.inl rfl);have k2:=Zdb (Zx a b c) x 2 (.inr (.inl rfl));have k3:=Zdb (Zx a b c) x 3 (.inr (.inr rfl));obtain⟨t1,t2,t3⟩:=Zjw a b c;have q1:Zf (bits .andNot .i64 (Zx a b c) x) 1=(a&& !Zf x 1):=k1.trans (by show(Zf (Zx a b c) 1&&_)=_;rw[t1];rfl);have q2:Zf (bits .andNot .i64 (Zx a b c) x) 2=(b&& !Zf x 2):=k2.trans (by show(Zf (Zx a b c) 2&&_)=_;rw[t2];rfl);have q3:Zf (bits .andNot .i64 (Zx a b c) x) 3=(c&& !Zf x 3):=k3.trans (by show(Zf (Zx a b c) 3&&_)=_;rw[t3];rfl);rw[hb,q1,q2,q3]
theorem hasK_iff{l:List Edge}{k:Int}:Zba l l.length k=true↔∃e∈l,e.k=k:=by
 unfold Zba;rw[G7,Ha];exact⟨fun⟨e,h1,h2⟩=>⟨e,h1,by simpa using h2⟩,fun⟨e,h1,h2⟩=>⟨e,h1,by simpa using h2⟩⟩
theorem Zmj{o:List Edge}(hk:∀e∈o,1<=e.k∧e.k<=3)(must:Int):(bits .and .i64 (ZcH o) must != 0)=o.any fun e=>Zf must e.k:=by
 unfold ZcH;rw[ZtM,Bool.eq_iff_iff,Ha];simp only[Ia,Hj,hasK_iff]
 constructor
 ·rintro(⟨⟨e,h1,h2⟩,h3⟩|⟨⟨e,h1,h2⟩,h3⟩|⟨⟨e,h1,h2⟩,h3⟩)
  ·exact⟨e,h1,by rw[h2];exact h3⟩
  ·exact⟨e,h1,by rw[h2];exact h3⟩
  ·exact⟨e,h1,by rw[h2];exact h3⟩
 ·rintro⟨e,h1,h2⟩;have h3:=hk e h1;have h4:e.k=1∨e.k=2∨e.k=3:=by omega
  rcases h4 with h4|h4|h4
  ·exact .inl ⟨⟨e,h1,h4⟩,by rw[<-h4];exact h2⟩
  ·exact .inr (.inl ⟨⟨e,h1,h4⟩,by rw[<-h4];exact h2⟩)
  ·exact .inr (.inr ⟨⟨e,h1,h4⟩,by rw[<-h4];exact h2⟩)
def Zfc(o:List Edge)(mask must:Int):Bool:=(Zan o&&o.all fun e=>Zy mask e.k)&&(!Zak must||(bits .and .i64 (ZcH o) must != 0))
theorem Zkv{p:List HArc}{lo:Int}:∀{l:List HArc} {u v:Int},(∀a∈l,a∈p∧lo<=a.f)->(l=[]->u=v)->(∀h:0<l.length,l[0].f=u)->(∀(i:Nat) (h:i+1<l.length),(l[i]'(by omega)).t=l[i+1].f)->(∀h:0<l.length,(l[l.length-1]'(by omega)).t=v)->okW p lo u l v
 |[],u,v,_,h0,_,_,_=>h0 rfl
 |a::l,u,v,hm,_,h1,h2,h3=>by
  have ha:=hm a Gv;have e1:a.f=u:=h1 (by simp);refine⟨ha.1,e1,by rw[<-e1];exact ha.2,Zkv (fun x hx=>hm x (Gk _ hx)) (fun e=>?_) (fun h=>?_) (fun i h=>?_) (fun h=>?_)⟩
  ·subst e;exact h3 (by simp)
  ·exact(h2 0 (by simp;omega)).symm
  ·exact h2 (i+1) (by simp;omega)
  ·have h4:=h3 (by simp);have e:(a::l).length-1=(l.length-1)+1:=by simp;omega
   simp only[e]at h4;exact h4
theorem Znp{o:List Edge}(h:Zan o=true):0<o.length∧∀(i:Nat) (hi:i<o.length),o[i].t=(o[(i+1)%o.length]'(Nat.mod_lt _ (by omega))).f:=by
 unfold Zan at h;rw[Hj,Gw,Hd]at h;refine⟨h.1,fun i hi=>?_⟩;have h2:=h.2 i (Ic.2 hi);have hm:=Nat.mod_lt (i+1) h.1;rw[Zl7 (Qg hi) rfl (Qg hm),beq_iff_eq]at h2;exact h2
theorem ZkX{all o:List Edge}{mask must:Int}(hf:Zfc o mask must=true)(hs:∀e∈o,e∈all):
  ∃(lo:Int) (h0:0<o.length),okW ((Zi all mask).map Edge.arc) lo (o[0].f) (o.map Edge.arc) (o[0].f)∧(Zak must=true->Zq must (o.map Edge.arc)=true):=by
 unfold Zfc at hf;rw[Hj,Hj]at hf;obtain⟨⟨hc,ha⟩,hn⟩:=hf;obtain⟨h0,hx⟩:=Znp hc;rw[Hd]at ha;obtain⟨lo,aY⟩:=Zi5 o;have au:(o.map Edge.arc).length=o.length:=Hw ..;refine⟨lo,h0,Zkv (fun a hm=>?_) (fun e=>rfl) (fun h=>?_) (fun i h=>?_) (fun h=>?_),fun hnd=>?_⟩
 ·obtain⟨e,he,rfl⟩:=Ih.1 hm;exact⟨mem_arcs.2 (Hy.2 ⟨hs e he,ha e he⟩),aY e he⟩
 ·rw[G8];rfl
 ·rw[au]at h;rw[G8,G8];have h1:=hx i (by omega);have e:(i+1)%o.length=i+1:=Nat.mod_eq_of_lt h;simp only[e]at h1;exact h1
 ·rw[G8];have h1:=hx (o.length-1) (by omega);have e:(o.length-1+1)%o.length=0:=by rw[show o.length-1+1=o.length by omega];exact Nat.mod_self _
  simp only[e]at h1;simp only[au];exact h1
 ·rw[hnd,Bool.not_true,Bool.false_or,Zmj (fun e he=>by have:=Zbp (ha e he);exact⟨this.1,this.2.1⟩)]at hn;unfold Zq;rw[List.any_map];exact hn
theorem Zo8{all o:List Edge}{mask must:Int}(hl:all.length<=100000)(hs:∀e∈o,e∈all)(hd:ZaQ all mask must=[]):Zfc o mask must=false:=by
 rcases ZeF all mask must hl with ⟨_,h⟩|⟨v,h⟩
 ·refine Classical.byContradiction fun hf=>?_
  obtain⟨lo,h0,hw,hm⟩:=ZkX (by simpa using hf) hs
  have hne:o.map Edge.arc≠[]:=fun e=>by
   have:=congrArg List.length e;simp at this;rw[this]at h0;simp at h0
  obtain⟨u,c',k1,k2,k3,k4,_⟩:=ZcK (must:=must) hw hne;exact h u c' k1 k2 (fun e=>by rw[k4];exact hm e)
 ·exact absurd (by rw[hd];rfl) h.ne
theorem ZkH:∀{a b:List Edge},Zfs (a.map Edge.arc) (b.map Edge.arc)->Zga b a=false
 |[],b,h=>by cases b<;>exact h.elim
 |x::a,[],h=>h.elim
 |x::a,y::b,h=>by
  show(if y=x then Zga b a else ltE y x)=false
  rcases h with h|⟨e,h⟩
  ·have hne:¬y=x:=fun e=>by rw[e]at h;exact Zb0 _ h
   rw[if_neg hne,ZeN];refine Classical.byContradiction fun hc=>?_
   exact Zb0 _ (Zc8 _ _ _ h (by simpa using hc))
  ·rw[if_pos (Zj9 e.symm)];exact ZkH h
theorem Zo9{all o d:List Edge}{mask must:Int}(hl:all.length<=100000)(hs:∀e∈o,e∈all)(hd:ZaQ all mask must=d)(t8:0<d.length)(hf:Zfc o mask must=true):ZoX o d=false:=by
 rcases ZeF all mask must hl with ⟨e,_⟩|⟨v,h⟩
 ·rw[hd]at e;rw[e]at t8;simp at t8
 ·rw[hd]at h;obtain⟨lo,h0,hw,hm⟩:=ZkX hf hs;have aY:(o.map Edge.arc).length=o.length:=Hw ..;have vy:(d.map Edge.arc).length=d.length:=Hw ..
  have hne:o.map Edge.arc≠[]:=fun e=>by
   have:=congrArg List.length e;rw[aY]at this;simp at this;rw[this]at h0;simp at h0
  obtain⟨u,c',k1,k2,k3,k4,k5,k6⟩:=ZcK (must:=must) hw hne;have h7:=h.le u c' k1 k2 (fun e=>by rw[k4];exact hm e);rw[vy,k3,aY]at h7;unfold ZoX
  by_cases au:o.length=d.length
  ·rw[if_pos au];have h8:=(h7.2 au.symm).1
   have CU:d[0].f=v:=by
    have:=(ZhZ h.w).1 (by rw[vy];exact t8);rw[G8]at this;exact this
   by_cases hov:o[0].f=v
   ·have tL:okW ((Zi all mask).map Edge.arc) v v (o.map Edge.arc) v:=by
     have bZ:=hw;rw[hov]at bZ;exact Zed bZ (fun b hb=>Int.le_trans h8 (k6 b hb))
    have h9:=((h.le v (o.map Edge.arc) hne tL hm).2 (by rw[vy,aY,au])).2 rfl;rcases h9 with e|e
    ·rw[ZhD e];exact ZkG d
    ·exact ZkH e
   ·have hx:o[0]? =some o[0]:=Qg h0;have hy:d[0]? =some d[0]:=Qg t8;have gJ:¬o[0].f=d[0].f:=by rw[CU];exact hov
    rw[ZnR (xs:=o) (ys:=d) (n:=0) rfl hx hy (fun e=>gJ (by rw[e]))];unfold ltE;rw[if_pos gJ];refine Qf ?_;have:=k5;omega
  ·rw[if_neg au];exact Qf (by omega)
