/- Closed walks: how edges that come in read. -/
import Derived.Test.YtonblekdfinpkaaGreatWqaw
import Derived.Test.YtonblekdfinpkaaGreatWqay
import Derived.Test.YtonblekdfinpkaaGreatWqbr
import Derived.Test.YtonblekdfinpkaaGreatWqbs
namespace Go.Proofs.YtonblekdfinpkaaGreat
set_option linter.unusedVariables false
set_option linter.unusedSimpArgs false
section
open Go.RowKit
theorem Zpj:Tryz.prog.cellsOf 26=4:=by kernel_rfl
theorem Zs3:Tryz.prog.bytesOf 26=32:=by kernel_rfl
def Edge.i (a:Edge):Prop:=(-9223372036854775808≤a.f∧a.f≤9223372036854775807)∧(-9223372036854775808≤a.t∧a.t≤9223372036854775807)∧(-9223372036854775808≤a.k∧a.k≤9223372036854775807)∧(-9223372036854775808≤a.key∧a.key≤9223372036854775807)
section
variable {H:Type} {enc:TypeId×Value→H} {w:World} {base:Nat} {spare:Nat→Bool} {held:Bool} {row:List Value}
theorem Zsj (h:Rdz enc Tryz.prog w base spare held 26 row):∃e:Edge,row=e.cells∧e.i:=by
 obtain⟨hl,hf⟩:=h.struct_ Tryz.underlying26;rw[Zpj]at hl;obtain⟨c0,c1,c2,c3,rfl⟩:=Zuc hl;have h0:Rdz enc Tryz.prog w base spare held 3 (([c0,c1,c2,c3].drop 0).take (Tryz.prog.cellsOf 3)):=hf 0 _ rfl;have h1:Rdz enc Tryz.prog w base spare held 3 (([c0,c1,c2,c3].drop 1).take (Tryz.prog.cellsOf 3)):=hf 1 _ rfl;have h2:Rdz enc Tryz.prog w base spare held 3 (([c0,c1,c2,c3].drop 2).take (Tryz.prog.cellsOf 3)):=hf 2 _ rfl;have h3:Rdz enc Tryz.prog w base spare held 3 (([c0,c1,c2,c3].drop 3).take (Tryz.prog.cellsOf 3)):=hf 3 _ rfl;rw[ZtV]at h0 h1 h2 h3;obtain⟨n0,rfl,b0⟩:=ZmY h0;obtain⟨n1,rfl,b1⟩:=ZmY h1;obtain⟨n2,rfl,b2⟩:=ZmY h2;obtain⟨n3,rfl,b3⟩:=ZmY h3;exact⟨⟨n0,n1,n2,n3⟩,rfl,b0,b1,b2,b3⟩
theorem Zrq {v:Value} (h:Rdz enc Tryz.prog w base spare held 22 [v]):∃(A:Option Addr) (c:Nat) (l:List Edge),v= .slice A l.length c∧Walk (fun _=>True) w A l∧l.length≤c∧l.length≤4398046511103∧∀e∈l,e.i:=by
 rcases h.slice_ Tryz.underlying22 Zpj (by omega)with h|⟨a,len,cap,rows,hv,hl,hm,hlen,hz,hrec,hrow⟩
 ·cases h
  exact⟨none,0,[],rfl,fun h=>absurd rfl h,by simp,by simp,fun e he=>by simp at he⟩
 ·cases hv
  obtain⟨l,rfl,hok⟩:=ZpF (f:=Edge.cells) (Q:=Edge.i) fun row hr=>Zsj (hrow row hr).2
  rw[List.length_map]at hlen;subst hlen;rw[Zs3]at hz;unfold reachBytes at hz;exact⟨some a,cap,l,rfl,hrec,hl,by omega,hok⟩
end
end
/- Closed walks:what is known of the walk that is told;whether an edge is among some. -/
section
open Go.RowKit
theorem Zg2 {p:List HArc} {least:Int}:∀{l:List HArc} {u v:Int},okW p least u l v→(∀h:0<l.length,l[0].f=u)∧∀(i:Nat) (h:i<l.length),(∀h2:i+1<l.length,l[i].t=l[i+1].f)∧(i+1=l.length→l[i].t=v)
 |[],u,v,_=>⟨fun h=>by simp at h,fun i h=>by simp at h⟩
 |a::l,u,v,hw=>by
  obtain⟨ha,haf,hl,hw⟩:=hw;obtain⟨ih1,ih2⟩:=Zg2 hw;refine⟨fun _=>haf,fun i h=> ?_⟩
  cases i with
  |zero=>
   refine⟨fun h2=> ?_,fun h2=> ?_⟩
   ·have h3:0<l.length:=by simpa using h2
    exact(ih1 h3).symm
   ·have:l=[]:=by simpa using h2
    subst this;exact hw
  |succ i=>
   have h3:i<l.length:=by simpa using h
   have:=ih2 i h3;refine⟨fun h2=> ?_,fun h2=> ?_⟩
   ·exact this.1 (by simpa using h2)
   ·exact this.2 (by simpa using h2)
structure SimpleD (l d:List Edge) (mask must:Int):Prop where
 next:∀(i:Nat) (h:i<d.length),d[i].t=(d[(i+1)%d.length]'(Nat.mod_lt _ (by omega))).f
 kind:∀e∈d,(1≤e.k∧e.k≤3∧Zf mask e.k=true)∧e∈l
 least:∀(i:Nat) (h:i<d.length),(d[0]'(by omega)).f≤d[i].f
 dist:∀(i j:Nat) (hi:i<j) (hj:j<d.length),(d[i]'(by omega)).f≠d[j].f
 has:ZaH must=true→(d.any fun e=>Zf must e.k)=true
theorem Znt {l:List Edge} {mask must:Int} (hl:l.length≤100000):SimpleD l (ZI l mask must) mask must∨ZI l mask must=[]:=by
 rcases Zgx l mask must hl with ⟨e,_⟩|⟨v,h⟩
 ·exact .inr e
 ·left
  obtain⟨d,hd⟩:∃d,ZI l mask must=d:=⟨_,rfl⟩;rw[hd]at h ⊢;obtain⟨h1,h2⟩:=Zg2 h.w;have hlen:(d.map Edge.arc).length=d.length:=List.length_map ..
  have h0:∀hp:0<d.length,d[0].f=v:=fun hp=>by
   have:=h1 (by rw[hlen];exact hp);rw[List.getElem_map]at this;exact this
  refine⟨fun i hi=> ?_,fun e he=> ?_,fun i hi=> ?_,fun i j hij hj=> ?_,fun hn=> ?_⟩
  ·have h3:=h2 i (by rw[hlen];exact hi);rw[List.getElem_map]at h3
   by_cases hl:i+1<d.length
   ·have h4:=h3.1 (by rw[hlen];exact hl);rw[List.getElem_map]at h4;have e:(i+1)%d.length=i+1:=Nat.mod_eq_of_lt hl;simp only[e];exact h4
   ·have h4:=h3.2 (by rw[hlen];omega);have e:(i+1)%d.length=0:=by rw[show i+1=d.length by omega];exact Nat.mod_self _
    simp only[e];rw[h0 (by omega)];exact h4
  ·have h3:=Za1 h.w e.arc (mem_arcs.2 he);have h4:=List.mem_filter.1 (mem_arcs.1 h3);have h5:=ZaO h4.2;exact⟨h5,h4.1⟩
  ·have h3:=Zoo h.w d[i].arc (mem_arcs.2 (List.getElem_mem hi));rw[h0 (by omega)];exact h3
  ·have h3:=List.pairwise_iff_getElem.1 h.simple i j (by rw[hlen];omega) (by rw[hlen];exact hj) hij;rw[List.getElem_map,List.getElem_map]at h3;exact h3
  ·have h3:=h.m hn;unfold Zj at h3;rw[List.any_map]at h3;exact h3
end
/- The walk that is found,plain:closed,simple,turned,and ahead of any other. -/
section
open Go.RowKit
section
variable {l d:List Edge} {mask must:Int}
theorem Zn3 (h:SimpleD l d mask must) (h0:0<d.length):ZbL d=true:=by
 unfold ZbL;rw[decide_eq_true h0,Bool.true_and,List.all_eq_true];intro i hi;have hi:=List.mem_range.1 hi;have hm:=Nat.mod_lt (i+1) h0;rw[Zop (Qg hi) rfl (Qg hm),beq_iff_eq];exact h.next i hi
end
/-! masks -/
theorem ZmR {z:Int} (h0:0≤z) (h1:z≤14) (h2:z%2=0):(z==0)= !(Zf z 1||(Zf z 2||Zf z 3)):=by
 have h:z=0∨z=2∨z=4∨z=6∨z=8∨z=10∨z=12∨z=14:=by omega
 rcases h with rfl|rfl|rfl|rfl|rfl|rfl|rfl|rfl<;>rfl
theorem ZnA (a b c:Bool):Zf (ZaN a b c) 1=a∧Zf (ZaN a b c) 2=b∧Zf (ZaN a b c) 3=c:=by
 cases a<;>cases b<;>cases c<;>exact⟨rfl,rfl,rfl⟩
theorem Znz (a b c:Bool):∃n:Nat,ZaN a b c=(n:Int)∧n≤14∧n%2=0:=by
 cases a<;>cases b<;>cases c
 ·exact⟨0,rfl,by decide,rfl⟩
 ·exact⟨8,rfl,by decide,rfl⟩
 ·exact⟨4,rfl,by decide,rfl⟩
 ·exact⟨12,rfl,by decide,rfl⟩
 ·exact⟨2,rfl,by decide,rfl⟩
 ·exact⟨10,rfl,by decide,rfl⟩
 ·exact⟨6,rfl,by decide,rfl⟩
 ·exact⟨14,rfl,by decide,rfl⟩
theorem ZsT {n:Nat} (h:n≤14):(BitVec.ofInt 64 (n:Int)).toNat=n:=by rw[BitVec.toNat_ofInt];omega
theorem ZqF {n y:Nat} (h:n%2=0):(n &&& y)%2=0:=by
 have h1:(n &&& y).testBit 0=false:=by
  rw[Nat.testBit_and,Nat.testBit_zero,decide_eq_false (show¬n%2=1 by omega)];rfl
 rw[Nat.testBit_zero,decide_eq_false_iff_not]at h1;omega
theorem ZmG {n:Nat} (h:n≤14):IntKind.i64.wrap (n:Int)=(n:Int):=IntWalk.i64_in _ (by omega)
theorem ZqD (a b c:Bool) (x:Int):(bits .and .i64 (ZaN a b c) x != 0)=((a&&Zf x 1)||((b&&Zf x 2)||(c&&Zf x 3))):=by
 obtain⟨n,hn,hle,hev⟩:=Znz a b c
 have e:bits .and .i64 (ZaN a b c) x=(((n &&& (BitVec.ofInt 64 x).toNat:Nat)):Int):=by
  rw[hn];have e1:bits .and .i64 (n:Int) x=IntKind.i64.wrap (((BitVec.ofInt 64 (n:Int) &&& BitVec.ofInt 64 x).toNat:Nat):Int):=rfl;rw[e1,BitVec.toNat_and,ZsT hle];exact ZmG (Nat.le_trans Nat.and_le_left hle)
 have hb:=ZmR (z:=bits .and .i64 (ZaN a b c) x) (by rw[e];omega) (by rw[e];have:n &&& (BitVec.ofInt 64 x).toNat≤n:=Nat.and_le_left;omega) (by rw[e];have:=ZqF (y:=(BitVec.ofInt 64 x).toNat) hev;omega);have k1:=Zc2 (ZaN a b c) x 1 (.inl rfl);have k2:=Zc2 (ZaN a b c) x 2 (.inr (.inl rfl));have k3:=Zc2 (ZaN a b c) x 3 (.inr (.inr rfl));obtain⟨t1,t2,t3⟩:=ZnA a b c;rw[bne,hb,Bool.not_not];have q1:Zf (bits .and .i64 (ZaN a b c) x) 1=(a&&Zf x 1):=k1.trans (by show(Zf (ZaN a b c) 1&&_)=_;rw[t1];rfl);have q2:Zf (bits .and .i64 (ZaN a b c) x) 2=(b&&Zf x 2):=k2.trans (by show(Zf (ZaN a b c) 2&&_)=_;rw[t2];rfl);have q3:Zf (bits .and .i64 (ZaN a b c) x) 3=(c&&Zf x 3):=k3.trans (by show(Zf (ZaN a b c) 3&&_)=_;rw[t3];rfl);rw[q1,q2,q3]
theorem Zqg {l:List Edge} {k:Int}:Zlf l l.length k=true↔∃e∈l,e.k=k:=by
 unfold Zlf;rw[List.take_length,List.any_eq_true];exact⟨fun⟨e,h1,h2⟩=>⟨e,h1,by simpa using h2⟩,fun⟨e,h1,h2⟩=>⟨e,h1,by simpa using h2⟩⟩
theorem Zk1 {o:List Edge} (hk:∀e∈o,1≤e.k∧e.k≤3) (must:Int):(bits .and .i64 (Zh6 o) must != 0)=o.any fun e=>Zf must e.k:=by
 unfold Zh6;rw[ZqD,Bool.eq_iff_iff,List.any_eq_true];simp only[Bool.or_eq_true,Bool.and_eq_true,Zqg]
 constructor
 ·rintro(⟨⟨e,h1,h2⟩,h3⟩|⟨⟨e,h1,h2⟩,h3⟩|⟨⟨e,h1,h2⟩,h3⟩)
  ·exact⟨e,h1,by rw[h2];exact h3⟩
  ·exact⟨e,h1,by rw[h2];exact h3⟩
  ·exact⟨e,h1,by rw[h2];exact h3⟩
 ·rintro⟨e,h1,h2⟩;have h3:=hk e h1;have h4:e.k=1∨e.k=2∨e.k=3:=by omega
  rcases h4 with h4|h4|h4
  ·exact .inl ⟨⟨e,h1,h4⟩,by rw[←h4];exact h2⟩
  ·exact .inr (.inl ⟨⟨e,h1,h4⟩,by rw[←h4];exact h2⟩)
  ·exact .inr (.inr ⟨⟨e,h1,h4⟩,by rw[←h4];exact h2⟩)
def Zeq (o:List Edge) (mask must:Int):Bool:=(ZbL o&&o.all fun e=>ZU mask e.k)&&(!ZaH must||(bits .and .i64 (Zh6 o) must != 0))
theorem Zjr {p:List HArc} {lo:Int}:∀{l:List HArc} {u v:Int},(∀a∈l,a∈p∧lo≤a.f)→(l=[]→u=v)→(∀h:0<l.length,l[0].f=u)→(∀(i:Nat) (h:i+1<l.length),(l[i]'(by omega)).t=l[i+1].f)→(∀h:0<l.length,(l[l.length-1]'(by omega)).t=v)→okW p lo u l v
 |[],u,v,_,h0,_,_,_=>h0 rfl
 |a::l,u,v,hm,_,h1,h2,h3=>by
  have ha:=hm a List.mem_cons_self;have e1:a.f=u:=h1 (by simp);refine⟨ha.1,e1,by rw[←e1];exact ha.2,Zjr (fun x hx=>hm x (List.mem_cons_of_mem _ hx)) (fun e=> ?_) (fun h=> ?_) (fun i h=> ?_) (fun h=> ?_)⟩
  ·subst e;exact h3 (by simp)
  ·exact(h2 0 (by simp;omega)).symm
  ·exact h2 (i+1) (by simp;omega)
  ·have h4:=h3 (by simp);have e:(a::l).length-1=(l.length-1)+1:=by simp;omega
   simp only[e]at h4;exact h4
theorem ZeK {o:List Edge} (h:ZbL o=true):0<o.length∧∀(i:Nat) (hi:i<o.length),o[i].t=(o[(i+1)%o.length]'(Nat.mod_lt _ (by omega))).f:=by
 unfold ZbL at h;rw[Bool.and_eq_true,decide_eq_true_eq,List.all_eq_true]at h;refine⟨h.1,fun i hi=> ?_⟩;have h2:=h.2 i (List.mem_range.2 hi);have hm:=Nat.mod_lt (i+1) h.1;rw[Zop (Qg hi) rfl (Qg hm),beq_iff_eq]at h2;exact h2
theorem ZjT {all o:List Edge} {mask must:Int} (hf:Zeq o mask must=true) (hs:∀e∈o,e∈all):
  ∃(lo:Int) (h0:0<o.length),okW ((Ze all mask).map Edge.arc) lo (o[0].f) (o.map Edge.arc) (o[0].f)∧(ZaH must=true→Zj must (o.map Edge.arc)=true):=by
 unfold Zeq at hf;rw[Bool.and_eq_true,Bool.and_eq_true]at hf;obtain⟨⟨hc,ha⟩,hn⟩:=hf;obtain⟨h0,hx⟩:=ZeK hc;rw[List.all_eq_true]at ha;obtain⟨lo,hlo⟩:=Zk3 o;have hlen:(o.map Edge.arc).length=o.length:=List.length_map ..;refine⟨lo,h0,Zjr (fun a hm=> ?_) (fun e=>rfl) (fun h=> ?_) (fun i h=> ?_) (fun h=> ?_),fun hnd=> ?_⟩
 ·obtain⟨e,he,rfl⟩:=List.mem_map.1 hm;exact⟨mem_arcs.2 (List.mem_filter.2 ⟨hs e he,ha e he⟩),hlo e he⟩
 ·rw[List.getElem_map];rfl
 ·rw[hlen]at h;rw[List.getElem_map,List.getElem_map];have h1:=hx i (by omega);have e:(i+1)%o.length=i+1:=Nat.mod_eq_of_lt h;simp only[e]at h1;exact h1
 ·rw[List.getElem_map];have h1:=hx (o.length-1) (by omega);have e:(o.length-1+1)%o.length=0:=by rw[show o.length-1+1=o.length by omega];exact Nat.mod_self _
  simp only[e]at h1;simp only[hlen];exact h1
 ·rw[hnd,Bool.not_true,Bool.false_or,Zk1 (fun e he=>by have:=ZaO (ha e he);exact⟨this.1,this.2.1⟩)]at hn;unfold Zj;rw[List.any_map];exact hn
theorem Zim {all o:List Edge} {mask must:Int} (hl:all.length≤100000) (hs:∀e∈o,e∈all) (hd:ZI all mask must=[]):Zeq o mask must=false:=by
 rcases Zgx all mask must hl with ⟨_,h⟩|⟨v,h⟩
 ·refine Classical.byContradiction fun hf=> ?_
  obtain⟨lo,h0,hw,hm⟩:=ZjT (by simpa using hf) hs
  have hne:o.map Edge.arc≠[]:=fun e=>by
   have:=congrArg List.length e;simp at this;rw[this]at h0;simp at h0
  obtain⟨u,c',k1,k2,k3,k4,_⟩:=Zb1 (must:=must) hw hne;exact h u c' k1 k2 (fun e=>by rw[k4];exact hm e)
 ·exact absurd (by rw[hd];rfl) h.ne
theorem ZjB:∀{a b:List Edge},ZeG (a.map Edge.arc) (b.map Edge.arc)→ZaL b a=false
 |[],b,h=>by cases b<;>exact h.elim
 |x::a,[],h=>h.elim
 |x::a,y::b,h=>by
  show(if y=x then ZaL b a else ltE y x)=false
  rcases h with h|⟨e,h⟩
  ·have hne:¬y=x:=fun e=>by rw[e]at h;exact Zbx _ h
   rw[if_neg hne,Zd2];refine Classical.byContradiction fun hc=> ?_
   exact Zbx _ (Zcj _ _ _ h (by simpa using hc))
  ·rw[if_pos (Zi8 e.symm)];exact ZjB h
theorem Zin {all o d:List Edge} {mask must:Int} (hl:all.length≤100000) (hs:∀e∈o,e∈all) (hd:ZI all mask must=d) (h0d:0<d.length) (hf:Zeq o mask must=true):Zx o d=false:=by
 rcases Zgx all mask must hl with ⟨e,_⟩|⟨v,h⟩
 ·rw[hd]at e;rw[e]at h0d;simp at h0d
 ·rw[hd]at h;obtain⟨lo,h0,hw,hm⟩:=ZjT hf hs;have hlo:(o.map Edge.arc).length=o.length:=List.length_map ..;have hld:(d.map Edge.arc).length=d.length:=List.length_map ..
  have hne:o.map Edge.arc≠[]:=fun e=>by
   have:=congrArg List.length e;rw[hlo]at this;simp at this;rw[this]at h0;simp at h0
  obtain⟨u,c',k1,k2,k3,k4,k5,k6⟩:=Zb1 (must:=must) hw hne;have h7:=h.le u c' k1 k2 (fun e=>by rw[k4];exact hm e);rw[hld,k3,hlo]at h7;unfold Zx
  by_cases hlen:o.length=d.length
  ·rw[if_pos hlen];have h8:=(h7.2 hlen.symm).1
   have hdv:d[0].f=v:=by
    have:=(Zg2 h.w).1 (by rw[hld];exact h0d);rw[List.getElem_map]at this;exact this
   by_cases hov:o[0].f=v
   ·have hwv:okW ((Ze all mask).map Edge.arc) v v (o.map Edge.arc) v:=by
     have hw2:=hw;rw[hov]at hw2;exact Zdm hw2 (fun b hb=>Int.le_trans h8 (k6 b hb))
    have h9:=((h.le v (o.map Edge.arc) hne hwv hm).2 (by rw[hld,hlo,hlen])).2 rfl;rcases h9 with e|e
    ·rw[ZgJ e];exact ZfU d
    ·exact ZjB e
   ·have hx:o[0]? =some o[0]:=Qg h0;have hy:d[0]? =some d[0]:=Qg h0d;have hnf:¬o[0].f=d[0].f:=by rw[hdv];exact hov
    rw[ZiS (xs:=o) (ys:=d) (n:=0) rfl hx hy (fun e=>hnf (by rw[e]))];unfold ltE;rw[if_pos hnf];refine decide_eq_false ?_;have:=k5;omega
  ·rw[if_neg hlen];exact decide_eq_false (by omega)
end
/- Closed walks:the law that what is told is what the document says. -/
section
open Go.RowKit
theorem ZrT (l:List Edge) (mask must:Int) (hl:l.length≤100000):(ZI l mask must).length≤l.length∨ZI l mask must=[]:=by
 rcases Zgx l mask must hl with ⟨e,_⟩|⟨v,h⟩
 ·exact .inr e
 ·left
  have hp:=h.simple
  have:=ZfO (l:=(ZI l mask must).map Edge.f) (m:=l.map Edge.f) (by
   rw[List.pairwise_map]at hp ⊢;exact hp) (fun x hx=>by
   obtain⟨e,he,rfl⟩:=List.mem_map.1 hx;exact List.mem_map.2 ⟨e,(List.mem_filter.1 (mem_arcs.1 (Za1 h.w e.arc (mem_arcs.2 he)))).1,rfl⟩)
  rwa [List.length_map,List.length_map]at this
end
end Go.Proofs.YtonblekdfinpkaaGreat
