/- Closed walks: how edges that come in read. -/
import Derived.Test.YtbefgiboikfojaaGreatRcbj
import Derived.Test.YtbefgiboikfojaaGreatRcbk
namespace Go.Proofs.YtbefgiboikfojaaGreat
open Go.RowKit
set_option linter.unusedVariables false
set_option linter.unusedSimpArgs false
def Edge.i(a:Edge):Prop:=(-9223372036854775808<=a.f∧a.f<=9223372036854775807)∧(-9223372036854775808<=a.t∧a.t<=9223372036854775807)∧(-9223372036854775808<=a.k∧a.k<=9223372036854775807)∧(-9223372036854775808<=a.key∧a.key<=9223372036854775807)
section
variable {H:Type} {enc:Gx×Gz->H} {w:Gy} {base:Nat} {spare:Nat->Bool} {held:Bool} {row:Gl}
end
/- Closed walks:what is known of the walk that is told;whether an edge is among some. -/
theorem ZlN{p:List HArc}{least:Int}:∀{l:List HArc} {u v:Int},okW p least u l v->(∀h:0<l.length,l[0].f=u)∧∀(i:Nat) (h:i<l.length),(∀h2:i+1<l.length,l[i].t=l[i+1].f)∧(i+1=l.length->l[i].t=v)
 |[],u,v,_=>⟨fun h=>by simp at h,fun i h=>by simp at h⟩
 |a::l,u,v,hw=>by
  obtain⟨ha,ez,hl,hw⟩:=hw;obtain⟨ih1,ih2⟩:=ZlN hw;refine⟨fun _=>ez,fun i h=>?_⟩
  cases i with
  |zero=>
   refine⟨fun h2=>?_,fun h2=>?_⟩
   ·have h3:0<l.length:=by simpa using h2
    exact(ih1 h3).symm
   ·have:l=[]:=by simpa using h2
    subst this;exact hw
  |succ i=>
   have h3:i<l.length:=by simpa using h
   have:=ih2 i h3;refine⟨fun h2=>?_,fun h2=>?_⟩
   ·exact this.1 (by simpa using h2)
   ·exact this.2 (by simpa using h2)
structure SimpleD (l d:List Edge) (mask must:Int):Prop where
 next:∀(i:Nat) (h:i<d.length),d[i].t=(d[(i+1)%d.length]'(Nat.mod_lt _ (by omega))).f
 kind:∀e∈d,(1<=e.k∧e.k<=3∧Zj mask e.k=true)∧e∈l
 least:∀(i:Nat) (h:i<d.length),(d[0]'(by omega)).f<=d[i].f
 dist:∀(i j:Nat) (hi:i<j) (hj:j<d.length),(d[i]'(by omega)).f≠d[j].f
 has:Zae must=true->(d.any fun e=>Zj must e.k)=true
theorem Zox{l:List Edge}{mask must:Int}(hl:l.length<=100000):SimpleD l (ZaL l mask must) mask must∨ZaL l mask must=[]:=by
 rcases ZjN l mask must hl with ⟨e,_⟩|⟨v,h⟩
 ·exact .inr e
 ·left
  obtain⟨d,hd⟩:=Qe (ZaL l mask must);rw[hd]at h ⊢;obtain⟨h1,h2⟩:=ZlN h.w;have hlen:(d.map Edge.arc).length=d.length:=F6 ..
  have h0:∀hp:0<d.length,d[0].f=v:=fun hp=>by
   have:=h1 (by rw[hlen];exact hp);rw[Fk]at this;exact this
  refine⟨fun i hi=>?_,fun e he=>?_,fun i hi=>?_,fun i j hij hj=>?_,fun hn=>?_⟩
  ·have h3:=h2 i (by rw[hlen];exact hi);rw[Fk]at h3
   by_cases hl:i+1<d.length
   ·have h4:=h3.1 (by rw[hlen];exact hl);rw[Fk]at h4;have e:(i+1)%d.length=i+1:=Nat.mod_eq_of_lt hl;simp only[e];exact h4
   ·have h4:=h3.2 (by rw[hlen];omega);have e:(i+1)%d.length=0:=by rw[show i+1=d.length by omega];exact Nat.mod_self _
    simp only[e];rw[h0 (by omega)];exact h4
  ·have h3:=Zbk h.w e.arc (mem_arcs.2 he);have h4:=Fw.1 (mem_arcs.1 h3);have h5:=Zbi h4.2;exact⟨h5,h4.1⟩
  ·have h3:=ZpG h.w d[i].arc (mem_arcs.2 (Fr hi));rw[h0 (by omega)];exact h3
  ·have h3:=List.pairwise_iff_getElem.1 h.simple i j (by rw[hlen];omega) (by rw[hlen];exact hj) hij;rw[Fk,Fk]at h3;exact h3
  ·have h3:=h.m hn;unfold Zr at h3;rw[List.any_map]at h3;exact h3
/- The walk that is found,plain:closed,simple,turned,and ahead of any other. -/
section
variable {l d:List Edge} {mask must:Int}
theorem Zpa(h:SimpleD l d mask must)(h0:0<d.length):ZdR d=true:=by
 unfold ZdR;rw[Qt h0,Bool.true_and,Fn];intro i hi;have hi:=F8.1 hi;have hm:=Nat.mod_lt (i+1) h0;rw[ZpH (Qg hi) rfl (Qg hm),beq_iff_eq];exact h.next i hi
end
/-! masks -/
theorem ZnS{z:Int}(h0:0<=z)(h1:z<=14)(h2:z%2=0):(z==0)= !(Zj z 1||(Zj z 2||Zj z 3)):=by
 have h:z=0∨z=2∨z=4∨z=6∨z=8∨z=10∨z=12∨z=14:=by omega
 rcases h with rfl|rfl|rfl|rfl|rfl|rfl|rfl|rfl<;>rfl
theorem ZoF(a b c:Bool):Zj (Za3 a b c) 1=a∧Zj (Za3 a b c) 2=b∧Zj (Za3 a b c) 3=c:=by
 cases a<;>cases b<;>cases c<;>exact⟨rfl,rfl,rfl⟩
theorem ZoE(a b c:Bool):∃n:Nat,Za3 a b c=(n:Int)∧n<=14∧n%2=0:=by
 cases a<;>cases b<;>cases c
 ·exact⟨0,rfl,by decide,rfl⟩
 ·exact⟨8,rfl,by decide,rfl⟩
 ·exact⟨4,rfl,by decide,rfl⟩
 ·exact⟨12,rfl,by decide,rfl⟩
 ·exact⟨2,rfl,by decide,rfl⟩
 ·exact⟨10,rfl,by decide,rfl⟩
 ·exact⟨6,rfl,by decide,rfl⟩
 ·exact⟨14,rfl,by decide,rfl⟩
theorem ZuK{n:Nat}(h:n<=14):(BitVec.ofInt 64 (n:Int)).toNat=n:=by rw[BitVec.toNat_ofInt];omega
theorem Zr7{n y:Nat}(h:n%2=0):(n &&& y)%2=0:=by
 have h1:(n &&& y).testBit 0=false:=by
  rw[Nat.testBit_and,Nat.testBit_zero,Qf (show¬n%2=1 by omega)];rfl
 rw[Nat.testBit_zero,decide_eq_false_iff_not]at h1;omega
theorem ZnF{n:Nat}(h:n<=14):IntKind.i64.wrap (n:Int)=(n:Int):=IntWalk.i64_in _ (by omega)
theorem Zr5(a b c:Bool)(x:Int):(bits .and .i64 (Za3 a b c) x != 0)=((a&&Zj x 1)||((b&&Zj x 2)||(c&&Zj x 3))):=by
 obtain⟨n,hn,hle,Dc⟩:=ZoE a b c
 have e:bits .and .i64 (Za3 a b c) x=(((n &&& (BitVec.ofInt 64 x).toNat:Nat)):Int):=by
  rw[hn];have e1:bits .and .i64 (n:Int) x=IntKind.i64.wrap (((BitVec.ofInt 64 (n:Int) &&& BitVec.ofInt 64 x).toNat:Nat):Int):=rfl;rw[e1,BitVec.toNat_and,ZuK hle];exact ZnF (Nat.le_trans Nat.and_le_left hle)
 have hb:=ZnS (z:=bits .and .i64 (Za3 a b c) x) (by rw[e];omega) (by rw[e];have:n &&& (BitVec.ofInt 64 x).toNat<=n:=Nat.and_le_left;omega) (by rw[e];have:=Zr7 (y:=(BitVec.ofInt 64 x).toNat) Dc;omega);have k1:=ZdS (Za3 a b c) x 1 (.inl rfl);have k2:=ZdS (Za3 a b c) x 2 (.inr (.inl rfl));have k3:=ZdS (Za3 a b c) x 3 (.inr (.inr rfl));obtain⟨t1,t2,t3⟩:=ZoF a b c;rw[bne,hb,Bool.not_not];have q1:Zj (bits .and .i64 (Za3 a b c) x) 1=(a&&Zj x 1):=k1.trans (by show(Zj (Za3 a b c) 1&&_)=_;rw[t1];rfl);have q2:Zj (bits .and .i64 (Za3 a b c) x) 2=(b&&Zj x 2):=k2.trans (by show(Zj (Za3 a b c) 2&&_)=_;rw[t2];rfl);have q3:Zj (bits .and .i64 (Za3 a b c) x) 3=(c&&Zj x 3):=k3.trans (by show(Zj (Za3 a b c) 3&&_)=_;rw[t3];rfl);rw[q1,q2,q3]
theorem ZrL{l:List Edge}{k:Int}:Zmd l l.length k=true↔∃e∈l,e.k=k:=by
 unfold Zmd;rw[Fj,List.any_eq_true];exact⟨fun⟨e,h1,h2⟩=>⟨e,h1,by simpa using h2⟩,fun⟨e,h1,h2⟩=>⟨e,h1,by simpa using h2⟩⟩
theorem Zrz{o:List Edge}(hk:∀e∈o,1<=e.k∧e.k<=3)(must:Int):(bits .and .i64 (Zi2 o) must != 0)=o.any fun e=>Zj must e.k:=by
 unfold Zi2;rw[Zr5,Bool.eq_iff_iff,List.any_eq_true];simp only[F3,Fp,ZrL]
 constructor
 ·rintro(⟨⟨e,h1,h2⟩,h3⟩|⟨⟨e,h1,h2⟩,h3⟩|⟨⟨e,h1,h2⟩,h3⟩)
  ·exact⟨e,h1,by rw[h2];exact h3⟩
  ·exact⟨e,h1,by rw[h2];exact h3⟩
  ·exact⟨e,h1,by rw[h2];exact h3⟩
 ·rintro⟨e,h1,h2⟩;have h3:=hk e h1;have h4:e.k=1∨e.k=2∨e.k=3:=by omega
  rcases h4 with h4|h4|h4
  ·exact .inl ⟨⟨e,h1,h4⟩,by rw[<-h4];exact h2⟩
  ·exact .inr (.inl ⟨⟨e,h1,h4⟩,by rw[<-h4];exact h2⟩)
  ·exact .inr (.inr ⟨⟨e,h1,h4⟩,by rw[<-h4];exact h2⟩)
def Zsu(o:List Edge)(mask must:Int):Bool:=(ZdR o&&o.all fun e=>Zl mask e.k)&&(!Zae must||(bits .and .i64 (Zi2 o) must != 0))
/- Closed walks:the law that what is told is what the document says. -/
theorem Zts(l:List Edge)(mask must:Int)(hl:l.length<=100000):(ZaL l mask must).length<=l.length∨ZaL l mask must=[]:=by
 rcases ZjN l mask must hl with ⟨e,_⟩|⟨v,h⟩
 ·exact .inr e
 ·left
  have hp:=h.simple
  have:=ZgI (l:=(ZaL l mask must).map Edge.f) (m:=l.map Edge.f) (by
   rw[List.pairwise_map]at hp ⊢;exact hp) (fun x hx=>by
   obtain⟨e,he,rfl⟩:=Gc.1 hx;exact Gc.2 ⟨e,(Fw.1 (mem_arcs.1 (Zbk h.w e.arc (mem_arcs.2 he)))).1,rfl⟩)
  rwa [F6,F6]at this
