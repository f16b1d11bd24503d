/- Closed walks: how edges that come in read. -/
import Derived.Test.YtonblekdfinpkaaGreatWras
import Derived.Test.YtonblekdfinpkaaGreatWray
import Derived.Test.YtonblekdfinpkaaGreatWrbr
import Derived.Test.YtonblekdfinpkaaGreatWrbs
namespace Go.Proofs.YtonblekdfinpkaaGreat
set_option linter.unusedVariables false
set_option linter.unusedSimpArgs false
section
open Go.RowKit
def Edge.i (a:Edge):Prop:=(-9223372036854775808≤a.f∧a.f≤9223372036854775807)∧(-9223372036854775808≤a.t∧a.t≤9223372036854775807)∧(-9223372036854775808≤a.k∧a.k≤9223372036854775807)∧(-9223372036854775808≤a.key∧a.key≤9223372036854775807)
section
variable {H:Type} {enc:TypeId×Value→H} {w:World} {base:Nat} {spare:Nat→Bool} {held:Bool} {row:List Value}
end
end
/- Closed walks:what is known of the walk that is told;whether an edge is among some. -/
section
open Go.RowKit
theorem Zhm {p:List HArc} {least:Int}:∀{l:List HArc} {u v:Int},okW p least u l v→(∀h:0<l.length,l[0].f=u)∧∀(i:Nat) (h:i<l.length),(∀h2:i+1<l.length,l[i].t=l[i+1].f)∧(i+1=l.length→l[i].t=v)
 |[],u,v,_=>⟨fun h=>by simp at h,fun i h=>by simp at h⟩
 |a::l,u,v,hw=>by
  obtain⟨ha,haf,hl,hw⟩:=hw;obtain⟨ih1,ih2⟩:=Zhm hw;refine⟨fun _=>haf,fun i h=> ?_⟩
  cases i with
  |zero=>
   refine⟨fun h2=> ?_,fun h2=> ?_⟩
   ·have h3:0<l.length:=by simpa using h2
    exact(ih1 h3).symm
   ·have:l=[]:=by simpa using h2
    subst this;exact hw
  |succ i=>
   have h3:i<l.length:=by simpa using h
   have:=ih2 i h3;refine⟨fun h2=> ?_,fun h2=> ?_⟩
   ·exact this.1 (by simpa using h2)
   ·exact this.2 (by simpa using h2)
structure SimpleD (l d:List Edge) (mask must:Int):Prop where
 next:∀(i:Nat) (h:i<d.length),d[i].t=(d[(i+1)%d.length]'(Nat.mod_lt _ (by omega))).f
 kind:∀e∈d,(1≤e.k∧e.k≤3∧Zd mask e.k=true)∧e∈l
 least:∀(i:Nat) (h:i<d.length),(d[0]'(by omega)).f≤d[i].f
 dist:∀(i j:Nat) (hi:i<j) (hj:j<d.length),(d[i]'(by omega)).f≠d[j].f
 has:Zaf must=true→(d.any fun e=>Zd must e.k)=true
theorem ZnU {l:List Edge} {mask must:Int} (hl:l.length≤100000):SimpleD l (ZaO l mask must) mask must∨ZaO l mask must=[]:=by
 rcases Zeh l mask must hl with ⟨e,_⟩|⟨v,h⟩
 ·exact .inr e
 ·left
  obtain⟨d,hd⟩:∃d,ZaO l mask must=d:=⟨_,rfl⟩;rw[hd]at h ⊢;obtain⟨h1,h2⟩:=Zhm h.w;have hlen:(d.map Edge.arc).length=d.length:=List.length_map ..
  have h0:∀hp:0<d.length,d[0].f=v:=fun hp=>by
   have:=h1 (by rw[hlen];exact hp);rw[List.getElem_map]at this;exact this
  refine⟨fun i hi=> ?_,fun e he=> ?_,fun i hi=> ?_,fun i j hij hj=> ?_,fun hn=> ?_⟩
  ·have h3:=h2 i (by rw[hlen];exact hi);rw[List.getElem_map]at h3
   by_cases hl:i+1<d.length
   ·have h4:=h3.1 (by rw[hlen];exact hl);rw[List.getElem_map]at h4;have e:(i+1)%d.length=i+1:=Nat.mod_eq_of_lt hl;simp only[e];exact h4
   ·have h4:=h3.2 (by rw[hlen];omega);have e:(i+1)%d.length=0:=by rw[show i+1=d.length by omega];exact Nat.mod_self _
    simp only[e];rw[h0 (by omega)];exact h4
  ·have h3:=ZaM h.w e.arc (mem_arcs.2 he);have h4:=List.mem_filter.1 (mem_arcs.1 h3);have h5:=Zbb h4.2;exact⟨h5,h4.1⟩
  ·have h3:=ZoU h.w d[i].arc (mem_arcs.2 (List.getElem_mem hi));rw[h0 (by omega)];exact h3
  ·have h3:=List.pairwise_iff_getElem.1 h.simple i j (by rw[hlen];omega) (by rw[hlen];exact hj) hij;rw[List.getElem_map,List.getElem_map]at h3;exact h3
  ·have h3:=h.m hn;unfold Zj at h3;rw[List.any_map]at h3;exact h3
end
/- The walk that is found,plain:closed,simple,turned,and ahead of any other. -/
section
open Go.RowKit
section
variable {l d:List Edge} {mask must:Int}
theorem Zow (h:SimpleD l d mask must) (h0:0<d.length):ZaP d=true:=by
 unfold ZaP;rw[decide_eq_true h0,Bool.true_and,List.all_eq_true];intro i hi;have hi:=List.mem_range.1 hi;have hm:=Nat.mod_lt (i+1) h0;rw[Zk9 (Qg hi) rfl (Qg hm),beq_iff_eq];exact h.next i hi
end
/-! masks -/
theorem ZhX {z:Int} (h0:0≤z) (h1:z≤14) (h2:z%2=0):(z==0)= !(Zd z 1||(Zd z 2||Zd z 3)):=by
 have h:z=0∨z=2∨z=4∨z=6∨z=8∨z=10∨z=12∨z=14:=by omega
 rcases h with rfl|rfl|rfl|rfl|rfl|rfl|rfl|rfl<;>rfl
theorem ZiO (a b c:Bool):Zd (Zr a b c) 1=a∧Zd (Zr a b c) 2=b∧Zd (Zr a b c) 3=c:=by
 cases a<;>cases b<;>cases c<;>exact⟨rfl,rfl,rfl⟩
theorem ZiN (a b c:Bool):∃n:Nat,Zr a b c=(n:Int)∧n≤14∧n%2=0:=by
 cases a<;>cases b<;>cases c
 ·exact⟨0,rfl,by decide,rfl⟩
 ·exact⟨8,rfl,by decide,rfl⟩
 ·exact⟨4,rfl,by decide,rfl⟩
 ·exact⟨12,rfl,by decide,rfl⟩
 ·exact⟨2,rfl,by decide,rfl⟩
 ·exact⟨10,rfl,by decide,rfl⟩
 ·exact⟨6,rfl,by decide,rfl⟩
 ·exact⟨14,rfl,by decide,rfl⟩
theorem ZpI {n:Nat} (h:n≤14):(BitVec.ofInt 64 (n:Int)).toNat=n:=by rw[BitVec.toNat_ofInt];omega
theorem ZlX {n y:Nat} (h:n%2=0):(n &&& y)%2=0:=by
 have h1:(n &&& y).testBit 0=false:=by
  rw[Nat.testBit_and,Nat.testBit_zero,decide_eq_false (show¬n%2=1 by omega)];rfl
 rw[Nat.testBit_zero,decide_eq_false_iff_not]at h1;omega
theorem ZhN {n:Nat} (h:n≤14):IntKind.i64.wrap (n:Int)=(n:Int):=IntWalk.i64_in _ (by omega)
theorem Zrq (a b c:Bool) (x:Int):(bits .and .i64 (Zr a b c) x != 0)=((a&&Zd x 1)||((b&&Zd x 2)||(c&&Zd x 3))):=by
 obtain⟨n,hn,hle,hev⟩:=ZiN a b c
 have e:bits .and .i64 (Zr a b c) x=(((n &&& (BitVec.ofInt 64 x).toNat:Nat)):Int):=by
  rw[hn];have e1:bits .and .i64 (n:Int) x=IntKind.i64.wrap (((BitVec.ofInt 64 (n:Int) &&& BitVec.ofInt 64 x).toNat:Nat):Int):=rfl;rw[e1,BitVec.toNat_and,ZpI hle];exact ZhN (Nat.le_trans Nat.and_le_left hle)
 have hb:=ZhX (z:=bits .and .i64 (Zr a b c) x) (by rw[e];omega) (by rw[e];have:n &&& (BitVec.ofInt 64 x).toNat≤n:=Nat.and_le_left;omega) (by rw[e];have:=ZlX (y:=(BitVec.ofInt 64 x).toNat) hev;omega);have k1:=Zdy (Zr a b c) x 1 (.inl rfl);have k2:=Zdy (Zr a b c) x 2 (.inr (.inl rfl));have k3:=Zdy (Zr a b c) x 3 (.inr (.inr rfl));obtain⟨t1,t2,t3⟩:=ZiO a b c;rw[bne,hb,Bool.not_not];have q1:Zd (bits .and .i64 (Zr a b c) x) 1=(a&&Zd x 1):=k1.trans (by show(Zd (Zr a b c) 1&&_)=_;rw[t1];rfl);have q2:Zd (bits .and .i64 (Zr a b c) x) 2=(b&&Zd x 2):=k2.trans (by show(Zd (Zr a b c) 2&&_)=_;rw[t2];rfl);have q3:Zd (bits .and .i64 (Zr a b c) x) 3=(c&&Zd x 3):=k3.trans (by show(Zd (Zr a b c) 3&&_)=_;rw[t3];rfl);rw[q1,q2,q3]
theorem Zml (a b c:Bool) (x:Int):(bits .andNot .i64 (Zr a b c) x==0)= !((a&& !Zd x 1)||((b&& !Zd x 2)||(c&& !Zd x 3))):=by
 obtain⟨n,hn,hle,hev⟩:=ZiN a b c
 have e:bits .andNot .i64 (Zr a b c) x=(((n &&& (~~~ BitVec.ofInt 64 x).toNat:Nat)):Int):=by
  rw[hn];have e1:bits .andNot .i64 (n:Int) x=IntKind.i64.wrap (((BitVec.ofInt 64 (n:Int) &&& ~~~ BitVec.ofInt 64 x).toNat:Nat):Int):=rfl;rw[e1,BitVec.toNat_and,ZpI hle];exact ZhN (Nat.le_trans Nat.and_le_left hle)
 have hb:=ZhX (z:=bits .andNot .i64 (Zr a b c) x) (by rw[e];omega) (by rw[e];have:n &&& (~~~ BitVec.ofInt 64 x).toNat≤n:=Nat.and_le_left;omega) (by rw[e];have:=ZlX (y:=(~~~ BitVec.ofInt 64 x).toNat) hev;omega);have k1:=ZcL (Zr a b c) x 1 (.inl rfl);have k2:=ZcL (Zr a b c) x 2 (.inr (.inl rfl));have k3:=ZcL (Zr a b c) x 3 (.inr (.inr rfl));obtain⟨t1,t2,t3⟩:=ZiO a b c;have q1:Zd (bits .andNot .i64 (Zr a b c) x) 1=(a&& !Zd x 1):=k1.trans (by show(Zd (Zr a b c) 1&&_)=_;rw[t1];rfl);have q2:Zd (bits .andNot .i64 (Zr a b c) x) 2=(b&& !Zd x 2):=k2.trans (by show(Zd (Zr a b c) 2&&_)=_;rw[t2];rfl);have q3:Zd (bits .andNot .i64 (Zr a b c) x) 3=(c&& !Zd x 3):=k3.trans (by show(Zd (Zr a b c) 3&&_)=_;rw[t3];rfl);rw[hb,q1,q2,q3]
theorem hasK_iff {l:List Edge} {k:Int}:Za1 l l.length k=true↔∃e∈l,e.k=k:=by
 unfold Za1;rw[List.take_length,List.any_eq_true];exact⟨fun⟨e,h1,h2⟩=>⟨e,h1,by simpa using h2⟩,fun⟨e,h1,h2⟩=>⟨e,h1,by simpa using h2⟩⟩
theorem Zll {o:List Edge} (hk:∀e∈o,1≤e.k∧e.k≤3) (must:Int):(bits .and .i64 (Zck o) must != 0)=o.any fun e=>Zd must e.k:=by
 unfold Zck;rw[Zrq,Bool.eq_iff_iff,List.any_eq_true];simp only[Bool.or_eq_true,Bool.and_eq_true,hasK_iff]
 constructor
 ·rintro(⟨⟨e,h1,h2⟩,h3⟩|⟨⟨e,h1,h2⟩,h3⟩|⟨⟨e,h1,h2⟩,h3⟩)
  ·exact⟨e,h1,by rw[h2];exact h3⟩
  ·exact⟨e,h1,by rw[h2];exact h3⟩
  ·exact⟨e,h1,by rw[h2];exact h3⟩
 ·rintro⟨e,h1,h2⟩;have h3:=hk e h1;have h4:e.k=1∨e.k=2∨e.k=3:=by omega
  rcases h4 with h4|h4|h4
  ·exact .inl ⟨⟨e,h1,h4⟩,by rw[←h4];exact h2⟩
  ·exact .inr (.inl ⟨⟨e,h1,h4⟩,by rw[←h4];exact h2⟩)
  ·exact .inr (.inr ⟨⟨e,h1,h4⟩,by rw[←h4];exact h2⟩)
def ZeO (o:List Edge) (mask must:Int):Bool:=(ZaP o&&o.all fun e=>Zs mask e.k)&&(!Zaf must||(bits .and .i64 (Zck o) must != 0))
theorem ZjJ {p:List HArc} {lo:Int}:∀{l:List HArc} {u v:Int},(∀a∈l,a∈p∧lo≤a.f)→(l=[]→u=v)→(∀h:0<l.length,l[0].f=u)→(∀(i:Nat) (h:i+1<l.length),(l[i]'(by omega)).t=l[i+1].f)→(∀h:0<l.length,(l[l.length-1]'(by omega)).t=v)→okW p lo u l v
 |[],u,v,_,h0,_,_,_=>h0 rfl
 |a::l,u,v,hm,_,h1,h2,h3=>by
  have ha:=hm a List.mem_cons_self;have e1:a.f=u:=h1 (by simp);refine⟨ha.1,e1,by rw[←e1];exact ha.2,ZjJ (fun x hx=>hm x (List.mem_cons_of_mem _ hx)) (fun e=> ?_) (fun h=> ?_) (fun i h=> ?_) (fun h=> ?_)⟩
  ·subst e;exact h3 (by simp)
  ·exact(h2 0 (by simp;omega)).symm
  ·exact h2 (i+1) (by simp;omega)
  ·have h4:=h3 (by simp);have e:(a::l).length-1=(l.length-1)+1:=by simp;omega
   simp only[e]at h4;exact h4
theorem Zmg {o:List Edge} (h:ZaP o=true):0<o.length∧∀(i:Nat) (hi:i<o.length),o[i].t=(o[(i+1)%o.length]'(Nat.mod_lt _ (by omega))).f:=by
 unfold ZaP at h;rw[Bool.and_eq_true,decide_eq_true_eq,List.all_eq_true]at h;refine⟨h.1,fun i hi=> ?_⟩;have h2:=h.2 i (List.mem_range.2 hi);have hm:=Nat.mod_lt (i+1) h.1;rw[Zk9 (Qg hi) rfl (Qg hm),beq_iff_eq]at h2;exact h2
theorem Zj8 {all o:List Edge} {mask must:Int} (hf:ZeO o mask must=true) (hs:∀e∈o,e∈all):
  ∃(lo:Int) (h0:0<o.length),okW ((Zf all mask).map Edge.arc) lo (o[0].f) (o.map Edge.arc) (o[0].f)∧(Zaf must=true→Zj must (o.map Edge.arc)=true):=by
 unfold ZeO at hf;rw[Bool.and_eq_true,Bool.and_eq_true]at hf;obtain⟨⟨hc,ha⟩,hn⟩:=hf;obtain⟨h0,hx⟩:=Zmg hc;rw[List.all_eq_true]at ha;obtain⟨lo,hlo⟩:=Zin o;have hlen:(o.map Edge.arc).length=o.length:=List.length_map ..;refine⟨lo,h0,ZjJ (fun a hm=> ?_) (fun e=>rfl) (fun h=> ?_) (fun i h=> ?_) (fun h=> ?_),fun hnd=> ?_⟩
 ·obtain⟨e,he,rfl⟩:=List.mem_map.1 hm;exact⟨mem_arcs.2 (List.mem_filter.2 ⟨hs e he,ha e he⟩),hlo e he⟩
 ·rw[List.getElem_map];rfl
 ·rw[hlen]at h;rw[List.getElem_map,List.getElem_map];have h1:=hx i (by omega);have e:(i+1)%o.length=i+1:=Nat.mod_eq_of_lt h;simp only[e]at h1;exact h1
 ·rw[List.getElem_map];have h1:=hx (o.length-1) (by omega);have e:(o.length-1+1)%o.length=0:=by rw[show o.length-1+1=o.length by omega];exact Nat.mod_self _
  simp only[e]at h1;simp only[hlen];exact h1
 ·rw[hnd,Bool.not_true,Bool.false_or,Zll (fun e he=>by have:=Zbb (ha e he);exact⟨this.1,this.2.1⟩)]at hn;unfold Zj;rw[List.any_map];exact hn
theorem ZnD {all o:List Edge} {mask must:Int} (hl:all.length≤100000) (hs:∀e∈o,e∈all) (hd:ZaO all mask must=[]):ZeO o mask must=false:=by
 rcases Zeh all mask must hl with ⟨_,h⟩|⟨v,h⟩
 ·refine Classical.byContradiction fun hf=> ?_
  obtain⟨lo,h0,hw,hm⟩:=Zj8 (by simpa using hf) hs
  have hne:o.map Edge.arc≠[]:=fun e=>by
   have:=congrArg List.length e;simp at this;rw[this]at h0;simp at h0
  obtain⟨u,c',k1,k2,k3,k4,_⟩:=Zcm (must:=must) hw hne;exact h u c' k1 k2 (fun e=>by rw[k4];exact hm e)
 ·exact absurd (by rw[hd];rfl) h.ne
theorem ZjV:∀{a b:List Edge},Ze2 (a.map Edge.arc) (b.map Edge.arc)→ZdU b a=false
 |[],b,h=>by cases b<;>exact h.elim
 |x::a,[],h=>h.elim
 |x::a,y::b,h=>by
  show(if y=x then ZdU b a else ltE y x)=false
  rcases h with h|⟨e,h⟩
  ·have hne:¬y=x:=fun e=>by rw[e]at h;exact ZbK _ h
   rw[if_neg hne,Zer];refine Classical.byContradiction fun hc=> ?_
   exact ZbK _ (ZcI _ _ _ h (by simpa using hc))
  ·rw[if_pos (Zjo e.symm)];exact ZjV h
theorem ZnE {all o d:List Edge} {mask must:Int} (hl:all.length≤100000) (hs:∀e∈o,e∈all) (hd:ZaO all mask must=d) (h0d:0<d.length) (hf:ZeO o mask must=true):Zd7 o d=false:=by
 rcases Zeh all mask must hl with ⟨e,_⟩|⟨v,h⟩
 ·rw[hd]at e;rw[e]at h0d;simp at h0d
 ·rw[hd]at h;obtain⟨lo,h0,hw,hm⟩:=Zj8 hf hs;have hlo:(o.map Edge.arc).length=o.length:=List.length_map ..;have hld:(d.map Edge.arc).length=d.length:=List.length_map ..
  have hne:o.map Edge.arc≠[]:=fun e=>by
   have:=congrArg List.length e;rw[hlo]at this;simp at this;rw[this]at h0;simp at h0
  obtain⟨u,c',k1,k2,k3,k4,k5,k6⟩:=Zcm (must:=must) hw hne;have h7:=h.le u c' k1 k2 (fun e=>by rw[k4];exact hm e);rw[hld,k3,hlo]at h7;unfold Zd7
  by_cases hlen:o.length=d.length
  ·rw[if_pos hlen];have h8:=(h7.2 hlen.symm).1
   have hdv:d[0].f=v:=by
    have:=(Zhm h.w).1 (by rw[hld];exact h0d);rw[List.getElem_map]at this;exact this
   by_cases hov:o[0].f=v
   ·have hwv:okW ((Zf all mask).map Edge.arc) v v (o.map Edge.arc) v:=by
     have hw2:=hw;rw[hov]at hw2;exact ZdM hw2 (fun b hb=>Int.le_trans h8 (k6 b hb))
    have h9:=((h.le v (o.map Edge.arc) hne hwv hm).2 (by rw[hld,hlo,hlen])).2 rfl;rcases h9 with e|e
    ·rw[Zg3 e];exact Zgh d
    ·exact ZjV e
   ·have hx:o[0]? =some o[0]:=Qg h0;have hy:d[0]? =some d[0]:=Qg h0d;have hnf:¬o[0].f=d[0].f:=by rw[hdv];exact hov
    rw[Zi6 (xs:=o) (ys:=d) (n:=0) rfl hx hy (fun e=>hnf (by rw[e]))];unfold ltE;rw[if_pos hnf];refine decide_eq_false ?_;have:=k5;omega
  ·rw[if_neg hlen];exact decide_eq_false (by omega)
end
/- Closed walks:the law that what is told is what the document says. -/
section
open Go.RowKit
theorem ZsO (l:List Edge) (mask must:Int) (hl:l.length≤100000):(ZaO l mask must).length≤l.length∨ZaO l mask must=[]:=by
 rcases Zeh l mask must hl with ⟨e,_⟩|⟨v,h⟩
 ·exact .inr e
 ·left
  have hp:=h.simple
  have:=Zga (l:=(ZaO l mask must).map Edge.f) (m:=l.map Edge.f) (by
   rw[List.pairwise_map]at hp ⊢;exact hp) (fun x hx=>by
   obtain⟨e,he,rfl⟩:=List.mem_map.1 hx;exact List.mem_map.2 ⟨e,(List.mem_filter.1 (mem_arcs.1 (ZaM h.w e.arc (mem_arcs.2 he)))).1,rfl⟩)
  rwa [List.length_map,List.length_map]at this
end
end Go.Proofs.YtonblekdfinpkaaGreat
