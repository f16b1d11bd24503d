/- Ways: the digraph that is made of arcs; how far each node is. -/
import Derived.Shelf.Bits.Mul64
import Derived.Test.YtdbjokfejmgepaaProg
import Derived.Test.YtdbjokfejmgepaaRaaa
import Derived.Test.YtdbjokfejmgepaaRaac
import Derived.Test.YtdbjokfejmgepaaRaaf
import Derived.Test.YtdbjokfejmgepaaRaai
import Derived.Test.YtdbjokfejmgepaaRabl
namespace Go.Proofs.Ytdbjokfejmgepaa
set_option linter.unusedVariables false
set_option linter.unusedSimpArgs false
section
open Go.RowKit
section
variable {w:World} {G:Nat→Prop} {p:Option Addr} {N K:Nat} {q:List HArc}
def Zbj (N:Nat) (least node:Int):Bool:=decide (max least 0≤node)&&decide (node<(N:Int))
end
end
/- Ways:how far each node is. -/
section
open Go.RowKit
def Zmf (N:Nat) (d:Int→Int):List Int:=(List.range N).map fun i:Nat=>d (i:Int)
def Z7 (N:Nat):List Int:=(List.range N).map fun i:Nat=>(i:Int)
theorem mem_nodesZ {N:Nat} {x:Int}:x∈Z7 N↔0≤x∧x<(N:Int):=by
 unfold Z7;rw[List.mem_map]
 constructor
 ·rintro⟨i,hi,rfl⟩;rw[List.mem_range]at hi;omega
 ·rintro⟨h1,h2⟩;exact⟨x.toNat,List.mem_range.2 (by omega),by omega⟩
theorem ZbP (N:Nat):(Z7 N).Nodup:=by
 unfold Z7;refine List.Pairwise.map _ (fun a b h=> ?_) (List.nodup_range (n:=N));omega
theorem Zdy (N:Nat):(Z7 N).length=N:=by unfold Z7;simp
namespace DQ
variable {w W W':World} {dg qg N:Nat} {d:Int→Int} {qu us:List Int} {A:Option Addr}
end DQ
def okL (least:Int):Int→Bool:=fun u=>decide (least≤u)
def ZbN (p:List HArc):Int→List Int:=fun x=>nxA x true p
def ZiB (node:Int):Int→Int:=fun u=>if u=node then 0 else -1
def ZfJ (N:Nat) (p:List HArc) (least node:Int):Int→Int:=if Zbj N least node=true then Zda (okL least) (ZbN p) N (ZiB node,[node]) else fun _=> -1
theorem ZeN {N:Nat} {p:List HArc} (hp:∀x∈p,0≤x.f∧x.f<(N:Int)) (v:Int):∀u∈ZbN p v,u∈Z7 N:=fun u hu=>by
 unfold ZbN nxA at hu;rw[Zf3]at hu;simp only[List.not_mem_nil,false_or,if_true]at hu;obtain⟨x,h1,h2,h3⟩:=hu;rw[mem_nodesZ,h3];exact hp x h1
end
/- Ways:the first of the shortest. -/
section
open Go.RowKit
structure DistOf (N:Nat) (p:List HArc) (least node:Int) (d:Int→Int):Prop where
 lo:∀u,-1≤d u
 hi:∀u,d u<(N:Int)∨d u<0
 inn:∀u,0≤d u→0≤u∧u<(N:Int)
 clo:∀v,0≤d v→∀u∈ZbN p v,least≤u→0≤d u∧d u≤d v+1
 par:∀u,0≤d u→(u=node∧Zbj N least node=true)∨∃v,u∈ZbN p v∧least≤u∧0≤d v∧d v+1=d u
 z:∀u,d u=0↔(u=node∧Zbj N least node=true)
theorem ZkK {N:Nat} {p:List HArc} (hp:∀x∈p,0≤x.f∧x.f<(N:Int)) (least node:Int):DistOf N p least node (ZfJ N p least node):=by
 unfold ZfJ
 by_cases hs:Zbj N least node=true
 ·rw[if_pos hs];have hs':=hs;unfold Zbj at hs';rw[Bool.and_eq_true,decide_eq_true_eq,decide_eq_true_eq]at hs';have hdm:node∈Z7 N:=mem_nodesZ.2 ⟨by omega,hs'.2⟩;have hcl:∀v∈Z7 N,∀u∈ZbN p v,okL least u=true→u∈Z7 N:=fun v _ u hu _=>ZeN hp v u hu
  have B0:=BInv.start (ok:=okL least) (ps:=ZbN p) hdm (ZbP N);have B1:BInv (okL least) (ZbN p) (Z7 N) node (Zda (okL least) (ZbN p) N (ZiB node,[node])) []:=Ze5 (ZbP N) hcl N _ _ B0 (by have:=B0.fit;unfold Fits at this;rw[Zdy]at this;exact this);refine⟨B1.lo,fun u=> ?_,fun u hu=>mem_nodesZ.1 (B1.dm u hu),fun v hv u hu hl=>B1.clo v hv (by simp) u hu (decide_eq_true hl),fun u hu=> ?_,fun u=> ?_⟩
  ·have:=B1.cap u;rw[Zdy]at this;exact .inl (by show Zda _ _ _ _ u<_;omega)
  ·rcases B1.par u hu with e|⟨v,h1,h2,h3⟩
   ·exact .inl ⟨e,hs⟩
   ·exact .inr ⟨v,h1,of_decide_eq_true h2,h3⟩
  ·rw[hs];simp only[and_true];exact B1.z u
 ·rw[if_neg hs];refine⟨fun u=>by omega,fun u=> .inr (by omega),fun u hu=>by omega,fun v hv=>by omega,fun u hu=>by omega,fun u=> ?_⟩
  constructor
  ·intro h;omega
  ·intro h;exact absurd h.2 hs
theorem mem_prevF {p:List HArc} {u v:Int}:u∈ZbN p v↔∃x∈p,x.t=v∧u=x.f:=by
 unfold ZbN nxA;rw[Zf3];simp
theorem DistOf.le {N:Nat} {p:List HArc} {least node:Int} {d:Int→Int} (h:DistOf N p least node d) {u:Int} (hu:0≤d u):least≤u:=by
 rcases h.par u hu with ⟨e,hs⟩|⟨v,h1,h2,h3,h4⟩
 ·unfold Zbj at hs;rw[Bool.and_eq_true,decide_eq_true_eq]at hs;omega
 ·exact h2
end
/- Ways:how far each node is,by walks with an arc of another mask;plain words on two states of a node. -/
section
open Go.RowKit
def Zf1 (m1 m2:Int) (had:Int):Int:=if m1=m2 then 1 else had
def Zci (p1 p2:List HArc) (m1 m2:Int):Int→List Int:=fun x=>((nxA (x/2) true p1).map fun u=>u*2+Zf1 m1 m2 (x%2))++((nxA (x/2) true p2).map fun u=>u*2+1)
def ZeR (least:Int):Int→Bool:=fun y=>decide (least≤y/2)
def Zk5 (N:Nat) (p1 p2:List HArc) (m1 m2 least node:Int):Int→Int:=
 if Zbj N least node=true then Zda (ZeR least) (Zci p1 p2 m1 m2) (2*N) (ZiB (node*2),[node*2]) else fun _=> -1
theorem Zko {N:Nat} {p1 p2:List HArc} {m1 m2:Int} (h1:∀x∈p1,0≤x.f∧x.f<(N:Int)) (h2:∀x∈p2,0≤x.f∧x.f<(N:Int)) (v:Int):∀u∈Zci p1 p2 m1 m2 v,u∈Z7 (2*N):=fun u hu=>by
 unfold Zci at hu;rw[mem_nodesZ];rcases List.mem_append.1 hu with hu|hu
 ·obtain⟨y,hy,rfl⟩:=List.mem_map.1 hu;have:=mem_nodesZ.1 (ZeN h1 _ y hy);have hn:Zf1 m1 m2 (v%2)=0∨Zf1 m1 m2 (v%2)=1:=by unfold Zf1;split<;>omega
  omega
 ·obtain⟨y,hy,rfl⟩:=List.mem_map.1 hu;have:=mem_nodesZ.1 (ZeN h2 _ y hy);omega
end
/- Closed walks,plain:what distances say of walks. -/
section
open Go.RowKit
section
variable {α:Type}
def ZgX (ok:α→Bool) (ps:α→List α) (root:α):Nat→α→Prop
 |0,u=>u=root
 |n+1,u=>∃v,ZgX ok ps root n v∧u∈ps v∧ok u=true
theorem Zg5 {ok:α→Bool} {ps:α→List α} {dom:List α} {root:α} {d:α→Int} (h:BInv ok ps dom root d []):∀(n:Nat) (u:α),ZgX ok ps root n u→0≤d u∧d u≤(n:Int)
 |0,u,hu=>by
  have:u=root:=hu;have:=(h.z u).2 this;omega
 |n+1,u,⟨v,hv,hu,ho⟩=>by
  have ih:=Zg5 h n v hv;have:=h.clo v ih.1 (by simp) u hu ho;omega
theorem Zg4 {ok:α→Bool} {ps:α→List α} {dom:List α} {root:α} {d:α→Int} (h:BInv ok ps dom root d []):∀(n:Nat) (u:α),d u=(n:Int)→ZgX ok ps root n u
 |0,u,hu=>(h.z u).1 (by simpa using hu)
 |n+1,u,hu=>by
  rcases h.par u (by omega)with e|⟨v,h1,h2,h3,h4⟩
  ·have:=(h.z u).2 e;omega
  ·exact⟨v,Zg4 h n v (by omega),h1,h2⟩
end
def okW (p:List HArc) (least:Int):Int→List HArc→Int→Prop
 |u,[],v=>u=v
 |u,a::l,v=>a∈p∧a.f=u∧least≤u∧okW p least a.t l v
theorem Zcy {p:List HArc} {least:Int}:∀{l m:List HArc} {u x v:Int},okW p least u l x→okW p least x m v→okW p least u (l++m) v
 |[],m,u,x,v,h,k=>by
  have:u=x:=h;subst this;exact k
 |a::l,m,u,x,v,h,k=>⟨h.1,h.2.1,h.2.2.1,Zcy h.2.2.2 k⟩
theorem Zd1 {p:List HArc} {least:Int}:∀{l m:List HArc} {u v:Int},okW p least u (l++m) v→∃x,okW p least u l x∧okW p least x m v
 |[],m,u,v,h=>⟨u,rfl,h⟩
 |a::l,m,u,v,h=>by
  obtain⟨x,h1,h2⟩:=Zd1 (l:=l) h.2.2.2;exact⟨x,⟨h.1,h.2.1,h.2.2.1,h1⟩,h2⟩
theorem ZcF {p p':List HArc} {least least':Int} (hp:∀a∈p,a∈p') (hl:least'≤least):∀{l:List HArc} {u v:Int},okW p least u l v→okW p' least' u l v
 |[],u,v,h=>h
 |a::l,u,v,h=>⟨hp a h.1,h.2.1,Int.le_trans hl h.2.2.1,ZcF hp hl h.2.2.2⟩
/-! masks -/
theorem Zdk (x:Int) (j:Nat) (hj:j=1∨j=2∨j=3):Zau x (j:Int)=(BitVec.ofInt 64 x).toNat.testBit j:=by
 unfold Zau;rw[Nat.testBit_eq_decide_div_mod_eq,BitVec.toNat_ofInt,decide_eq_decide];rcases hj with rfl|rfl|rfl
 ·show(x/2)%2=1↔(x%18446744073709551616).toNat/2%2=1
  omega
 ·show(x/4)%2=1↔(x%18446744073709551616).toNat/4%2=1
  omega
 ·show(x/8)%2=1↔(x%18446744073709551616).toNat/8%2=1
  omega
theorem ZlV (n:Nat) (h:n<18446744073709551616):IntKind.i64.wrap (n:Int)=(n:Int)∨IntKind.i64.wrap (n:Int)=(n:Int)-18446744073709551616:=by
 unfold IntKind.wrap;simp[IntKind.signed,IntKind.bits];omega
theorem ZgM (n:Nat) (h:n<18446744073709551616) (j:Nat) (hj:j=1∨j=2∨j=3):Zau (IntKind.i64.wrap (n:Int)) (j:Int)=n.testBit j:=by
 rw[Zdk _ j hj]
 congr 1
 rw[BitVec.toNat_ofInt];rcases ZlV n h with e|e<;>rw[e]<;>omega
theorem ZhV (x y:Int) (j:Nat) (hj:j=1∨j=2∨j=3):Zau (bits .and .i64 x y) (j:Int)=(Zau x (j:Int)&&Zau y (j:Int)):=by
 rw[Zdk x j hj,Zdk y j hj];have e:bits .and .i64 x y=IntKind.i64.wrap (((BitVec.ofInt 64 x &&& BitVec.ofInt 64 y).toNat:Nat):Int):=rfl;rw[e,ZgM _ (BitVec.isLt _) j hj,BitVec.toNat_and,Nat.testBit_and]
theorem ZeI (x y:Int) (j:Nat) (hj:j=1∨j=2∨j=3):Zau (bits .andNot .i64 x y) (j:Int)=(Zau x (j:Int)&& !Zau y (j:Int)):=by
 rw[Zdk x j hj,Zdk y j hj];have e:bits .andNot .i64 x y=IntKind.i64.wrap (((BitVec.ofInt 64 x &&& ~~~ BitVec.ofInt 64 y).toNat:Nat):Int):=rfl;rw[e,ZgM _ (BitVec.isLt _) j hj,BitVec.toNat_and,Nat.testBit_and]
 congr 1
 have:(~~~ BitVec.ofInt 64 y).toNat.testBit j=(~~~ BitVec.ofInt 64 y).getLsbD j:=rfl;rw[this,BitVec.getLsbD_not];have h64:decide (j<64)=true:=decide_eq_true (by omega);rw[h64,Bool.true_and];rfl
def isM (must:Int) (a:HArc):Bool:=Zau must a.kind
theorem ZcI {k:Int} (h1:1≤k) (h2:k≤3):∃j:Nat,k=(j:Int)∧(j=1∨j=2∨j=3):=⟨k.toNat,by omega,by omega⟩
theorem Zhs {mask must:Int} {q:List HArc} (hk:∀a∈q,1≤a.kind∧a.kind≤3) {a:HArc}:a∈ofA (bits .andNot .i64 mask must) q↔a∈ofA mask q∧isM must a=false:=by
 rw[mem_ofA,mem_ofA];unfold isM
 constructor
 ·rintro⟨h1,h2⟩;obtain⟨j,hj,hj2⟩:=ZcI (hk a h1).1 (hk a h1).2;rw[hj,ZeI _ _ j hj2,Bool.and_eq_true,←hj]at h2;exact⟨⟨h1,h2.1⟩,by simpa using h2.2⟩
 ·rintro⟨⟨h1,h2⟩,h3⟩;refine⟨h1,?_⟩;obtain⟨j,hj,hj2⟩:=ZcI (hk a h1).1 (hk a h1).2;rw[hj]at h2 h3 ⊢;rw[ZeI _ _ j hj2,h2,h3];rfl
theorem Zhr {mask must:Int} {q:List HArc} (hk:∀a∈q,1≤a.kind∧a.kind≤3) {a:HArc}:a∈ofA (bits .and .i64 mask must) q↔a∈ofA mask q∧isM must a=true:=by
 rw[mem_ofA,mem_ofA];unfold isM
 constructor
 ·rintro⟨h1,h2⟩;obtain⟨j,hj,hj2⟩:=ZcI (hk a h1).1 (hk a h1).2;rw[hj,ZhV _ _ j hj2,Bool.and_eq_true,←hj]at h2;exact⟨⟨h1,h2.1⟩,h2.2⟩
 ·rintro⟨⟨h1,h2⟩,h3⟩;refine⟨h1,?_⟩;obtain⟨j,hj,hj2⟩:=ZcI (hk a h1).1 (hk a h1).2;rw[hj]at h2 h3 ⊢;rw[ZhV _ _ j hj2,h2,h3];rfl
theorem Zgu {mask must:Int} {q:List HArc} (hk:∀a∈q,1≤a.kind∧a.kind≤3) (y z:Int):
  z∈Zci (ofA (bits .andNot .i64 mask must) q) (ofA (bits .and .i64 mask must) q) (bits .andNot .i64 mask must) (bits .and .i64 mask must) y↔∃a∈ofA mask q,a.t=y/2∧z=a.f*2+(if isM must a=true then 1 else y%2):=by
 have hm:bits .andNot .i64 mask must=bits .and .i64 mask must→ofA (bits .andNot .i64 mask must) q=[]:=fun e=>by
  rw[List.eq_nil_iff_forall_not_mem];intro a ha;have h1:=(Zhs hk).1 ha;rw[e]at ha;have h2:=(Zhr hk).1 ha;rw[h1.2]at h2
  cases h2.2
 unfold Zci;rw[List.mem_append,List.mem_map,List.mem_map];have m:∀(p:List HArc) (u:Int),u∈nxA (y/2) true p↔∃a∈p,a.t=y/2∧u=a.f:=fun p u=>mem_prevF (u:=u) (v:=y/2) (p:=p)
 constructor
 ·rintro(⟨u,hu,rfl⟩|⟨u,hu,rfl⟩)
  ·obtain⟨a,ha,h1,rfl⟩:=(m _ u).1 hu;have h2:=(Zhs hk).1 ha;refine⟨a,h2.1,h1,?_⟩;rw[if_neg (by rw[h2.2];decide)];unfold Zf1;rw[if_neg (fun e=>by rw[hm e]at ha;cases ha)]
  ·obtain⟨a,ha,h1,rfl⟩:=(m _ u).1 hu;have h2:=(Zhr hk).1 ha;exact⟨a,h2.1,h1,by rw[if_pos h2.2]⟩
 ·rintro⟨a,ha,h1,rfl⟩
  by_cases hM:isM must a=true
  ·rw[if_pos hM];exact .inr ⟨a.f,(m _ _).2 ⟨a,(Zhr hk).2 ⟨ha,hM⟩,h1,rfl⟩,rfl⟩
  ·rw[if_neg hM];have h3:=(Zhs hk).2 ⟨ha,by simpa using hM⟩;refine .inl ⟨a.f,(m _ _).2 ⟨a,h3,h1,rfl⟩,?_⟩;unfold Zf1;rw[if_neg (fun e=>by rw[hm e]at h3;cases h3)]
def Zj (must:Int) (l:List HArc):Bool:=l.any (isM must)
theorem Zct {mask must least node:Int} {q:List HArc} (hk:∀a∈q,1≤a.kind∧a.kind≤3):
  ∀(n:Nat) (u:Int) (h:Int),(h=0∨h=1)→
   (ZgX (ZeR least) (Zci (ofA (bits .andNot .i64 mask must) q) (ofA (bits .and .i64 mask must) q) (bits .andNot .i64 mask must) (bits .and .i64 mask must)) (node*2) n (u*2+h)↔
    ∃l,okW (ofA mask q) least u l node∧l.length=n∧(h=1↔Zj must l=true))
 |0,u,h,hh=>by
  constructor
  ·intro e;have e:u*2+h=node*2:=e;have:h=0:=by omega
   subst this;exact⟨[],show u=node by omega,rfl,by simp[Zj]⟩
  ·rintro⟨l,h1,h2,h3⟩;have:l=[]:=List.eq_nil_of_length_eq_zero h2;subst this;have h1:u=node:=h1
   have h0:h=0:=by
    rcases hh with e|e
    ·exact e
    ·have:=h3.1 e;simp[Zj]at this
   show u*2+h=node*2
   omega
 |n+1,u,h,hh=>by
  constructor
  ·rintro⟨v,hv,hu,ho⟩;obtain⟨a,ha,h1,h2⟩:=(Zgu hk v (u*2+h)).1 hu;have hs:(if isM must a=true then (1:Int) else v%2)=0∨(if isM must a=true then (1:Int) else v%2)=1:=by split<;>omega
   have hu2:u=a.f:=by omega
   have hh2:h=if isM must a=true then 1 else v%2:=by omega
   have hv2:v=a.t*2+v%2:=by omega
   rw[hv2]at hv;obtain⟨l,k1,k2,k3⟩:=(Zct hk n a.t (v%2) (by omega)).1 hv;refine⟨a::l,⟨ha,hu2.symm,?_,k1⟩,by simp[k2],?_⟩
   ·have:=of_decide_eq_true ho;omega
   ·unfold Zj;rw[List.any_cons,Bool.or_eq_true,hh2]
    by_cases hM:isM must a=true
    ·rw[if_pos hM];exact⟨fun _=> .inl hM,fun _=>rfl⟩
    ·rw[if_neg hM,k3];unfold Zj;exact⟨.inr,fun e=>e.resolve_left hM⟩
  ·rintro⟨l,k1,k2,k3⟩
   cases l with
   |nil=>simp at k2
   |cons a l=>
    obtain⟨ha,haf,hl,k1⟩:=k1;have k2:l.length=n:=by simpa using k2
    obtain⟨g,hg,hg2⟩:∃g:Int,(g=0∨g=1)∧(g=1↔Zj must l=true):=by
     by_cases e:Zj must l=true
     ·exact⟨1,.inr rfl,by simp[e]⟩
     ·exact⟨0,.inl rfl,by simp[e]⟩
    refine⟨a.t*2+g,(Zct hk n a.t g hg).2 ⟨l,k1,k2,hg2⟩,(Zgu hk _ _).2 ⟨a,ha,by omega,?_⟩,?_⟩
    ·rw[haf];have hgm:(a.t*2+g)%2=g:=by omega
     rw[hgm]
     have:h=if isM must a=true then 1 else g:=by
      unfold Zj at k3 hg2;rw[List.any_cons,Bool.or_eq_true]at k3
      by_cases hM:isM must a=true
      ·rw[if_pos hM];exact k3.2 (.inl hM)
      ·rw[if_neg hM]
       by_cases e:l.any (isM must)=true
       ·rw[k3.2 (.inr e),hg2.2 e]
       ·have h1:¬h=1:=fun e2=>(k3.1 e2).elim hM e
        have h2:¬g=1:=fun e2=>e (hg2.1 e2)
        omega
     rw[this]
    ·unfold ZeR;have:(u*2+h)/2=u:=by omega
     rw[this];exact decide_eq_true hl
end
/- Closed walks,plain:the shortest from a node,and the first of these. -/
section
open Go.RowKit
theorem Zaq (must:Int) (a:HArc) (l:List HArc):Zj must (a::l)=(isM must a||Zj must l):=rfl
theorem ZaK (must:Int) (l m:List HArc):Zj must (l++m)=(Zj must l||Zj must m):=by
 unfold Zj;rw[List.any_append]
structure LoopD (p:List HArc) (must i:Int) (da dw:Int→Int):Prop where
 a1:∀(u:Int) (l:List HArc),okW p i u l i→0≤da u∧da u≤(l.length:Int)
 a2:∀u,0≤da u→∃l,okW p i u l i∧(l.length:Int)=da u
 w1:∀(u:Int) (l:List HArc),okW p i u l i→Zj must l=true→0≤dw u∧dw u≤(l.length:Int)
 w2:∀u,0≤dw u→∃l,okW p i u l i∧Zj must l=true∧(l.length:Int)=dw u
theorem ZjY {N:Nat} {p:List HArc} {i:Int} {d:Int→Int} (h:DistOf N p i i d) (hi:Zbj N i i=true):∀(l:List HArc) (u:Int),okW p i u l i→0≤d u∧d u≤(l.length:Int)
 |[],u,hu=>by
  have hu:u=i:=hu;have:=(h.z u).2 ⟨hu,hi⟩;simp only[List.length_nil];omega
 |a::l,u,⟨ha,haf,hl,hw⟩=>by
  have ih:=ZjY h hi l a.t hw;have:=h.clo a.t ih.1 u (mem_prevF.2 ⟨a,ha,rfl,haf.symm⟩) hl;simp only[List.length_cons];omega
theorem ZjX {N:Nat} {p:List HArc} {i:Int} {d:Int→Int} (h:DistOf N p i i d):∀(n:Nat) (u:Int),d u=(n:Int)→∃l,okW p i u l i∧l.length=n
 |0,u,hu=>⟨[],((h.z u).1 (by simpa using hu)).1,rfl⟩
 |n+1,u,hu=>by
  rcases h.par u (by omega)with ⟨e,hs⟩|⟨v,h1,h2,h3,h4⟩
  ·have:=(h.z u).2 ⟨e,hs⟩;omega
  ·obtain⟨a,ha,hat,haf⟩:=mem_prevF.1 h1;obtain⟨l,k1,k2⟩:=ZjX h n v (by omega);exact⟨a::l,⟨ha,haf.symm,h2,by rw[hat];exact k1⟩,by simp[k2]⟩
def Zcd (N:Nat) (q:List HArc) (mask must i:Int):Int→Int:=fun u=>
 Zk5 N (ofA (bits .andNot .i64 mask must) q) (ofA (bits .and .i64 mask must) q) (bits .andNot .i64 mask must) (bits .and .i64 mask must) i i (u*2+1)
theorem Zh1 {N:Nat} {i:Int} (h0:0≤i) (h1:i<(N:Int)):Zbj N i i=true:=by
 unfold Zbj;rw[decide_eq_true (by omega),decide_eq_true h1];rfl
theorem ZeT {N:Nat} {q:List HArc} (hr:∀a∈q,ZO N a=true) (mask must i:Int) (h0:0≤i) (h1:i<(N:Int)):
  LoopD (ofA mask q) must i (ZfJ N (ofA mask q) i i) (Zcd N q mask must i):=by
 have hk:∀a∈q,1≤a.kind∧a.kind≤3:=fun a ha=>by
  have:=(ZbL _ _).1 (hr a ha);exact⟨this.2.2.2.2.1,this.2.2.2.2.2.1⟩
 have hf:∀m,∀x∈ofA m q,0≤x.f∧x.f<(N:Int):=fun m x hx=>by
  have:=(ZbL _ _).1 (hr x (mem_ofA.1 hx).1);exact⟨this.1,this.2.1⟩
 have hs:=Zh1 h0 h1;have hd:=ZkK (hf mask) i i;have hdm:i*2∈Z7 (2*N):=mem_nodesZ.2 ⟨by omega,by omega⟩;have hcl:∀v∈Z7 (2*N),∀u∈Zci (ofA (bits .andNot .i64 mask must) q) (ofA (bits .and .i64 mask must) q) (bits .andNot .i64 mask must) (bits .and .i64 mask must) v,ZeR i u=true→u∈Z7 (2*N):=fun v _ u hu _=>Zko (hf _) (hf _) v u hu
 have B0:=BInv.start (ok:=ZeR i) (ps:=Zci (ofA (bits .andNot .i64 mask must) q) (ofA (bits .and .i64 mask must) q) (bits .andNot .i64 mask must) (bits .and .i64 mask must)) hdm (ZbP (2*N));have B1:=Ze5 (ZbP (2*N)) hcl (2*N) _ _ B0 (by have:=B0.fit;unfold Fits at this;rw[Zdy]at this;exact this)
 have hw:∀u,Zcd N q mask must i u=Zda (ZeR i) (Zci (ofA (bits .andNot .i64 mask must) q) (ofA (bits .and .i64 mask must) q) (bits .andNot .i64 mask must) (bits .and .i64 mask must)) (2*N) ((fun u=>if u=i*2 then 0 else -1),[i*2]) (u*2+1):=fun u=>by
  unfold Zcd Zk5;rw[if_pos hs];rfl
 refine⟨fun u l h=>ZjY hd hs l u h,fun u hu=> ?_,fun u l h hm=> ?_,fun u hu=> ?_⟩
 ·obtain⟨l,k1,k2⟩:=ZjX hd (ZfJ N (ofA mask q) i i u).toNat u (by omega);exact⟨l,k1,by omega⟩
 ·rw[hw];exact Zg5 B1 l.length (u*2+1) ((Zct hk l.length u 1 (.inr rfl)).2 ⟨l,h,rfl,by simp[hm]⟩)
 ·rw[hw]at hu ⊢;obtain⟨n,hn⟩:∃n:Nat,Zda (ZeR i) (Zci (ofA (bits .andNot .i64 mask must) q) (ofA (bits .and .i64 mask must) q) (bits .andNot .i64 mask must) (bits .and .i64 mask must)) (2*N) ((fun u=>if u=i*2 then 0 else -1),[i*2]) (u*2+1)=(n:Int):=⟨_,(Int.toNat_of_nonneg hu).symm⟩;obtain⟨l,k1,k2,k3⟩:=(Zct hk n u 1 (.inr rfl)).1 (Zg4 B1 n _ hn);exact⟨l,k1,k3.1 rfl,by rw[hn,k2]⟩
def ZaU (must:Int) (da dw:Int→Int) (need:Bool) (a:HArc):Int:=if (need&& !isM must a)=true then dw a.t else da a.t
section
variable {p:List HArc} {must i:Int} {da dw:Int→Int}
theorem Zin (h:LoopD p must i da dw) (need:Bool) (a:HArc) (l:List HArc) (hw:okW p i a.t l i) (hm:need=true→Zj must (a::l)=true):0≤ZaU must da dw need a∧ZaU must da dw need a≤(l.length:Int):=by
 unfold ZaU
 split
 ·rename_i hn
  rw[Bool.and_eq_true]at hn;have h1:=hm hn.1;rw[Zaq]at h1;have h2:isM must a=false:=by simpa using hn.2
  rw[h2,Bool.false_or]at h1;exact h.w1 a.t l hw h1
 ·exact h.a1 a.t l hw
theorem Zf6 (h:LoopD p must i da dw) (need:Bool) (a:HArc) (h0:0≤ZaU must da dw need a):∃l,okW p i a.t l i∧(l.length:Int)=ZaU must da dw need a∧(need=true→Zj must (a::l)=true):=by
 unfold ZaU at h0 ⊢
 split at h0
 ·rename_i hn
  obtain⟨l,k1,k2,k3⟩:=h.w2 a.t h0;rw[if_pos hn];exact⟨l,k1,k3,fun _=>by rw[Zaq,k2];simp⟩
 ·rename_i hn
  obtain⟨l,k1,k2⟩:=h.a2 a.t h0;rw[if_neg hn];refine⟨l,k1,k2,fun e=> ?_⟩;rw[e,Bool.true_and]at hn;have:isM must a=true:=by simpa using hn
  rw[Zaq,this];rfl
end
def ZW (lf:HArc→Int):Int→List HArc→Int
 |best,[]=>best
 |best,a::l=>ZW lf (if (decide (0≤lf a)&&(best==0||decide (lf a+1<best)))=true then lf a+1 else best) l
theorem Zcg (lf:HArc→Int):∀(l:List HArc) (best:Int),0≤best→0≤ZW lf best l∧(0<best→0<ZW lf best l∧ZW lf best l≤best)∧(∀a∈l,0≤lf a→0<ZW lf best l∧ZW lf best l≤lf a+1)∧(0<ZW lf best l→ZW lf best l=best∨∃a∈l,0≤lf a∧ZW lf best l=lf a+1)
 |[],best,hb=>⟨hb,fun h=>⟨h,Int.le_refl _⟩,fun a ha=>(by cases ha),fun _=> .inl rfl⟩
 |x::l,best,hb=>by
  show 0≤ZW lf (if (decide (0≤lf x)&&(best==0||decide (lf x+1<best)))=true then lf x+1 else best) l∧_
  by_cases hc:(decide (0≤lf x)&&(best==0||decide (lf x+1<best)))=true
  ·have hs:ZW lf best (x::l)=ZW lf (lf x+1) l:=by
    show ZW lf (if (decide (0≤lf x)&&(best==0||decide (lf x+1<best)))=true then lf x+1 else best) l=_
    rw[if_pos hc]
   rw[if_pos hc,hs];rw[Bool.and_eq_true,decide_eq_true_eq,Bool.or_eq_true,beq_iff_eq,decide_eq_true_eq]at hc;obtain⟨i1,i2,i3,i4⟩:=Zcg lf l (lf x+1) (by omega);have i2':=i2 (by omega);refine⟨i1,fun hb0=>⟨i2'.1,by omega⟩,fun a ha h0=> ?_,fun h=> ?_⟩
   ·rcases List.mem_cons.1 ha with rfl|ha
    ·exact i2'
    ·exact i3 a ha h0
   ·rcases i4 h with e|⟨a,ha,h0,e⟩
    ·exact .inr ⟨x,List.mem_cons_self,hc.1,e⟩
    ·exact .inr ⟨a,List.mem_cons_of_mem _ ha,h0,e⟩
  ·have hs:ZW lf best (x::l)=ZW lf best l:=by
    show ZW lf (if (decide (0≤lf x)&&(best==0||decide (lf x+1<best)))=true then lf x+1 else best) l=_
    rw[if_neg hc]
   rw[if_neg hc,hs];rw[Bool.and_eq_true,decide_eq_true_eq,Bool.or_eq_true,beq_iff_eq,decide_eq_true_eq]at hc;obtain⟨i1,i2,i3,i4⟩:=Zcg lf l best hb;refine⟨i1,i2,fun a ha h0=> ?_,fun h=> ?_⟩
   ·rcases List.mem_cons.1 ha with rfl|ha
    ·have hb0:0<best∧best≤lf a+1:=by
      constructor
      ·rcases Classical.em (best=0)with e|e
       ·exact absurd ⟨h0,.inl e⟩ hc
       ·omega
      ·rcases Classical.em (lf a+1<best)with e|e
       ·exact absurd ⟨h0,.inr e⟩ hc
       ·omega
     have:=i2 hb0.1;omega
    ·exact i3 a ha h0
   ·rcases i4 h with e|⟨a,ha,h0,e⟩
    ·exact .inl e
    ·exact .inr ⟨a,List.mem_cons_of_mem _ ha,h0,e⟩
def ZbK (p:List HArc) (must i:Int) (da dw:Int→Int) (need:Bool):Int:=ZW (ZaU must da dw need) 0 (p.filter fun a=>a.f==i)
section
variable {p:List HArc} {must i:Int} {da dw:Int→Int}
theorem Zg6 (h:LoopD p must i da dw) (need:Bool) {c:List HArc} (hc:c≠[]) (hw:okW p i i c i) (hm:need=true→Zj must c=true):0<ZbK p must i da dw need∧ZbK p must i da dw need≤(c.length:Int):=by
 cases c with
 |nil=>exact absurd rfl hc
 |cons a l=>
  obtain⟨ha,haf,hl,hw⟩:=hw;have h1:=Zin h need a l hw hm;have h2:=(Zcg (ZaU must da dw need) (p.filter fun a=>a.f==i) 0 (by omega)).2.2.1 a (List.mem_filter.2 ⟨ha,by simp[haf]⟩) h1.1;unfold ZbK;simp only[List.length_cons];omega
theorem Zj7 (h:LoopD p must i da dw) (need:Bool) (h0:0<ZbK p must i da dw need):∃c,c≠[]∧okW p i i c i∧(c.length:Int)=ZbK p must i da dw need∧(need=true→Zj must c=true):=by
 unfold ZbK at h0 ⊢;rcases(Zcg (ZaU must da dw need) (p.filter fun a=>a.f==i) 0 (by omega)).2.2.2 h0 with e|⟨a,ha,h1,e⟩
 ·omega
 ·rw[List.mem_filter,beq_iff_eq]at ha;obtain⟨l,k1,k2,k3⟩:=Zf6 h need a h1;exact⟨a::l,by simp,⟨ha.1,ha.2,Int.le_refl _,k1⟩,by simp only[List.length_cons];omega,k3⟩
end
def Za7 (p:List HArc) (must i:Int) (da dw:Int→Int):Nat→Int→Bool→List HArc
 |0,_,_=>[]
 |n+1,here,need=>match (p.filter fun a=>a.f==here).find? (fun a=>decide (i≤a.t)&&decide (ZaU must da dw need a=(n:Int)))with
  |some a=>a::Za7 p must i da dw n a.t (need&& !isM must a)
  |none=>Za7 p must i da dw n here need
def ZdD:List HArc→List HArc→Prop
 |a::l,b::m=>Zaf a b=true∨(a=b∧ZdD l m)
 |_,_=>False
theorem Zfc {p:List HArc} {must i:Int} {da dw:Int→Int} (hs:Zak p) (h:LoopD p must i da dw) (hda:∀u,0≤da u→i≤u) (hdw:∀u,0≤dw u→i≤u):
  ∀(n:Nat) (here:Int) (need:Bool),i≤here→(∃l,okW p i here l i∧l.length=n∧(need=true→Zj must l=true))→
   (∀l,l≠[]→okW p i here l i→(need=true→Zj must l=true)→n≤l.length)→
   okW p i here (Za7 p must i da dw n here need) i∧(Za7 p must i da dw n here need).length=n∧(need=true→Zj must (Za7 p must i da dw n here need)=true)∧
    ∀l,okW p i here l i→l.length=n→(need=true→Zj must l=true)→l=Za7 p must i da dw n here need∨ZdD (Za7 p must i da dw n here need) l
 |0,here,need,hih,⟨l,k1,k2,k3⟩,hmin=>by
  have:l=[]:=List.eq_nil_of_length_eq_zero k2;subst this;refine⟨k1,rfl,k3,fun l _ h2 _=> .inl (List.eq_nil_of_length_eq_zero h2)⟩
 |n+1,here,need,hih,⟨l,k1,k2,k3⟩,hmin=>by
  have good:∀(a:HArc) (l:List HArc),okW p i here (a::l) i→l.length=n→(need=true→Zj must (a::l)=true)→a∈(p.filter fun a=>a.f==here)∧(decide (i≤a.t)&&decide (ZaU must da dw need a=(n:Int)))=true:=by
   intro a l hw hl hm;obtain⟨ha,haf,hia,hw2⟩:=hw;have h1:=Zin h need a l hw2 hm;obtain⟨l2,j1,j2,j3⟩:=Zf6 h need a h1.1;have h2:=hmin (a::l2) (by simp) ⟨ha,haf,hia,j1⟩ j3;simp only[List.length_cons]at h2;refine⟨List.mem_filter.2 ⟨ha,by simp[haf]⟩,?_⟩;rw[Bool.and_eq_true,decide_eq_true_eq,decide_eq_true_eq];refine⟨?_,by omega⟩;unfold ZaU at h1
   split at h1
   ·exact hdw _ h1.1
   ·exact hda _ h1.1
  cases l with
  |nil=>simp at k2
  |cons a0 l0=>
   have g0:=good a0 l0 k1 (by simpa using k2) k3
   obtain⟨a,hfa⟩:∃a,(p.filter fun a=>a.f==here).find? (fun a=>decide (i≤a.t)&&decide (ZaU must da dw need a=(n:Int)))=some a:=by
    rw[←Option.isSome_iff_exists,List.find?_isSome];exact⟨a0,g0⟩
   have hma:=List.mem_of_find?_eq_some hfa;have hpa:=List.find?_some hfa;rw[List.mem_filter,beq_iff_eq]at hma;rw[Bool.and_eq_true,decide_eq_true_eq,decide_eq_true_eq]at hpa
   have hwc:Za7 p must i da dw (n+1) here need=a::Za7 p must i da dw n a.t (need&& !isM must a):=by
    show(match (p.filter fun a=>a.f==here).find? (fun a=>decide (i≤a.t)&&decide (ZaU must da dw need a=(n:Int)))with|some a=>a::Za7 p must i da dw n a.t (need&& !isM must a)|none=>Za7 p must i da dw n here need)=_
    rw[hfa]
   have tailM:∀l:List HArc,(need=true→Zj must (a::l)=true)→((need&& !isM must a)=true→Zj must l=true):=by
    intro l hm hn;rw[Bool.and_eq_true]at hn;have h1:=hm hn.1;have h2:isM must a=false:=by simpa using hn.2
    rw[Zaq,h2,Bool.false_or]at h1;exact h1
   have headM:∀l:List HArc,((need&& !isM must a)=true→Zj must l=true)→(need=true→Zj must (a::l)=true):=by
    intro l hm hn;rw[Zaq]
    by_cases e:isM must a=true
    ·rw[e];rfl
    ·have e2:isM must a=false:=by simpa using e
     rw[hm (by rw[hn,e2];rfl)];simp
   obtain⟨l1,j1,j2,j3⟩:=Zf6 h need a (by omega)
   have ih:=Zfc hs h hda hdw n a.t (need&& !isM must a) hpa.1 ⟨l1,j1,by omega,tailM l1 j3⟩ (fun l hl hw hm=>by
    have:=hmin (a::l) (by simp) ⟨hma.1,hma.2,hih,hw⟩ (headM l hm);simp only[List.length_cons]at this;omega)
   rw[hwc];refine⟨⟨hma.1,hma.2,hih,ih.1⟩,by simp[ih.2.1],headM _ ih.2.2.1,fun l hw hl hm=> ?_⟩
   cases l with
   |nil=>simp at hl
   |cons b l=>
    have gb:=good b l hw (by simpa using hl) hm
    by_cases e:b=a
    ·subst e;rcases ih.2.2.2 l hw.2.2.2 (by simpa using hl) (tailM l hm)with e|e
     ·exact .inl (by rw[e])
     ·exact .inr (.inr ⟨rfl,e⟩)
    ·refine .inr (.inl ?_);obtain⟨l8,l9,h1,h2⟩:=(List.find?_eq_some_iff_append.1 hfa).2;have hb:=gb.1;rw[h1]at hb;have hsf:Zak (l8++a::l9):=by rw[←h1];exact hs.filter _
     rcases List.mem_append.1 hb with hb|hb
     ·have:=h2 b hb;rw[gb.2]at this
      cases this
     ·rcases List.mem_cons.1 hb with hb|hb
      ·exact absurd hb e
      ·exact(List.pairwise_cons.1 (List.pairwise_append.1 hsf).2.1).1 b hb
end
/- Closed walks,plain:the shortest of all;it meets no node twice. -/
section
open Go.RowKit
theorem ZeQ {p:List HArc} {least:Int}:∀{l:List HArc} {u v:Int} {a:HArc},okW p least u l v→a∈l→∃l1 l2,l=l1++a::l2∧okW p least u l1 a.f∧okW p least a.f (a::l2) v
 |[],u,v,a,h,ha=>by cases ha
 |b::l,u,v,a,h,ha=>by
  rcases List.mem_cons.1 ha with rfl|ha
  ·exact⟨[],l,rfl,h.2.1.symm,by rw[h.2.1];exact h⟩
  ·obtain⟨l1,l2,e,h1,h2⟩:=ZeQ h.2.2.2 ha;exact⟨b::l1,l2,by rw[e];rfl,⟨h.1,h.2.1,h.2.2.1,h1⟩,h2⟩
theorem Zbb {p:List HArc} {least:Int}:∀{l:List HArc} {u v:Int},okW p least u l v→∀a∈l,a∈p
 |[],_,_,_,a,ha=>by cases ha
 |b::l,u,v,h,a,ha=>by
  rcases List.mem_cons.1 ha with rfl|ha
  ·exact h.1
  ·exact Zbb h.2.2.2 a ha
theorem ZcU {p:List HArc} {least least':Int}:∀{l:List HArc} {u v:Int},okW p least u l v→(∀a∈l,least'≤a.f)→okW p least' u l v
 |[],_,_,h,_=>h
 |b::l,u,v,h,hl=>⟨h.1,h.2.1,by have:=hl b List.mem_cons_self;have:=h.2.1;omega,ZcU h.2.2.2 (fun a ha=>hl a (List.mem_cons_of_mem _ ha))⟩
theorem Zd7:∀{l:List HArc},l≠[]→∃a∈l,∀b∈l,a.f≤b.f
 |[],h=>absurd rfl h
 |[a],_=>⟨a,List.mem_singleton.2 rfl,fun b hb=>by rw[List.mem_singleton]at hb;rw[hb];exact Int.le_refl _⟩
 |a::c::l,_=>by
  obtain⟨m,hm,hl⟩:=Zd7 (l:=c::l) (by simp)
  by_cases h:a.f≤m.f
  ·refine⟨a,List.mem_cons_self,fun b hb=> ?_⟩;rcases List.mem_cons.1 hb with rfl|hb
   ·exact Int.le_refl _
   ·have:=hl b hb;omega
  ·refine⟨m,List.mem_cons_of_mem _ hm,fun b hb=> ?_⟩;rcases List.mem_cons.1 hb with rfl|hb
   ·omega
   ·exact hl b hb
theorem Zh9 {p:List HArc} {must least u:Int} {c:List HArc} (h:okW p least u c u) (hc:c≠[]):∃v c',c'≠[]∧okW p v v c' v∧c'.length=c.length∧Zj must c'=Zj must c∧∃a∈c,v=a.f:=by
 obtain⟨a,ha,hmin⟩:=Zd7 hc;obtain⟨l1,l2,e,h1,h2⟩:=ZeQ h ha;subst e;refine⟨a.f,(a::l2)++l1,by simp,?_,by simp only[List.length_append,List.length_cons];omega,by rw[ZaK,ZaK,Bool.or_comm],a,ha,rfl⟩;refine ZcU (Zcy h2 h1) fun b hb=>hmin b ?_
 rcases List.mem_append.1 hb with hb|hb
 ·exact List.mem_append_right _ hb
 ·exact List.mem_append_left _ hb
def ZaX (ks:Int→Int) (ws:Int→List HArc):Nat→List HArc
 |0=>[]
 |n+1=>if (decide (0<ks (n:Int))&&(ZaX ks ws n==[]||decide (ks (n:Int)<((ZaX ks ws n).length:Int))))=true then ws (n:Int) else ZaX ks ws n
theorem ZfL (ks:Int→Int) (ws:Int→List HArc) (h:∀i:Int,0<ks i→((ws i).length:Int)=ks i):
  ∀n:Nat,(ZaX ks ws n=[]∧∀i:Nat,i<n→¬0<ks (i:Int))∨
   (∃i:Nat,i<n∧0<ks (i:Int)∧ZaX ks ws n=ws (i:Int)∧(∀j:Nat,j<n→0<ks (j:Int)→ks (i:Int)≤ks (j:Int))∧∀j:Nat,j<i→¬(0<ks (j:Int)∧ks (j:Int)≤ks (i:Int)))
 |0=> .inl ⟨rfl,fun i hi=>by omega⟩
 |n+1=>by
  have ih:=ZfL ks ws h n
  by_cases hc:(decide (0<ks (n:Int))&&(ZaX ks ws n==[]||decide (ks (n:Int)<((ZaX ks ws n).length:Int))))=true
  ·have e:ZaX ks ws (n+1)=ws (n:Int):=if_pos hc;rw[Bool.and_eq_true,decide_eq_true_eq,Bool.or_eq_true,beq_iff_eq,decide_eq_true_eq]at hc;refine .inr ⟨n,by omega,hc.1,e,fun j hj h0=> ?_,fun j hj hk=> ?_⟩
   ·rcases ih with ⟨h1,h2⟩|⟨i,hi,h0i,h1,h2,h3⟩
    ·have:j=n:=by
      rcases Nat.lt_or_ge j n with e2|e2
      ·exact absurd h0 (h2 j e2)
      ·omega
     subst this;exact Int.le_refl _
    ·have hl:=h (i:Int) h0i;rw[←h1]at hl;rcases hc.2 with e2|e2
     ·rw[e2]at hl;simp at hl;omega
     ·rcases Nat.lt_or_ge j n with e3|e3
      ·have:=h2 j e3 h0;omega
      ·have:j=n:=by omega
       subst this;exact Int.le_refl _
   ·rcases ih with ⟨h1,h2⟩|⟨i,hi,h0i,h1,h2,h3⟩
    ·exact h2 j hj hk.1
    ·have hl:=h (i:Int) h0i;rw[←h1]at hl;have:=h2 j hj hk.1;rcases hc.2 with e2|e2
     ·rw[e2]at hl;simp at hl;omega
     ·omega
  ·have e:ZaX ks ws (n+1)=ZaX ks ws n:=if_neg hc;rw[e]
   have hc':¬(0<ks (n:Int)∧(ZaX ks ws n=[]∨ks (n:Int)<((ZaX ks ws n).length:Int))):=fun hx=>hc (by
    rw[Bool.and_eq_true,decide_eq_true_eq,Bool.or_eq_true,beq_iff_eq,decide_eq_true_eq];exact hx)
   rcases ih with ⟨h1,h2⟩|⟨i,hi,h0i,h1,h2,h3⟩
   ·refine .inl ⟨h1,fun i hi h0=> ?_⟩;rcases Nat.lt_or_ge i n with e2|e2
    ·exact h2 i e2 h0
    ·have:i=n:=by omega
     subst this;exact hc' ⟨h0,.inl h1⟩
   ·refine .inr ⟨i,by omega,h0i,h1,fun j hj h0=> ?_,h3⟩;rcases Nat.lt_or_ge j n with e2|e2
    ·exact h2 j e2 h0
    ·have:j=n:=by omega
     subst this;have hl:=h (i:Int) h0i;rw[←h1]at hl;rcases Classical.em (ks (j:Int)<ks (i:Int))with e3|e3
     ·exact absurd ⟨h0,.inr (by omega)⟩ hc'
     ·omega
theorem ZiD {c:List HArc} (h:∀l1 a l2 b l3,c=l1++a::(l2++b::l3)→a.f≠b.f):c.Pairwise fun a b=>a.f≠b.f:=by
 induction c with
 |nil=>exact List.Pairwise.nil
 |cons a l ih=>
  refine List.pairwise_cons.2 ⟨fun b hb=> ?_,ih fun l1 x l2 y l3 e=>h (a::l1) x l2 y l3 (by rw[e];rfl)⟩;obtain⟨l2,l3,e⟩:=List.append_of_mem hb;exact h [] a l2 b l3 (by rw[e];rfl)
theorem Ziz {p:List HArc} {must i:Int} {need:Bool} {c:List HArc} (hw:okW p i i c i) (hm:need=true→Zj must c=true)
  (hown:∀c',c'≠[]→okW p i i c' i→(need=true→Zj must c'=true)→c.length≤c'.length)
  (hall:∀v c',c'≠[]→okW p v v c' v→(need=true→Zj must c'=true)→c.length≤c'.length):c.Pairwise fun a b=>a.f≠b.f:=by
 refine ZiD fun l1 a l2 b l3 e hab=> ?_
 subst e;obtain⟨x,h1,h2⟩:=Zd1 hw;have ha:x=a.f:=h2.2.1.symm;subst ha;have h3:okW p i a.f ((a::l2)++b::l3) i:=h2;obtain⟨y,h4,h5⟩:=Zd1 h3;have hb:y=b.f:=h5.2.1.symm;subst hb;have hR:okW p i i (l1++b::l3) i:=Zcy (by rw[←hab];exact h1) h5
 have hS:okW p i b.f (a::l2) b.f:=by
  have:=h4;rw[hab]at this;exact this
 have hlen:(l1++b::l3).length<(l1++a::(l2++b::l3)).length∧(a::l2).length<(l1++a::(l2++b::l3)).length:=by
  simp only[List.length_append,List.length_cons];omega
 by_cases hq:need=true→Zj must (l1++b::l3)=true
 ·have:=hown _ (by simp) hR hq;omega
 ·have hn:need=true:=Classical.byContradiction fun h=>hq (fun e=>absurd e h)
  have hr:Zj must (l1++b::l3)=false:=by
   have:¬Zj must (l1++b::l3)=true:=fun e=>hq (fun _=>e)
   simpa using this
  have hmm:=hm hn;rw[ZaK]at hmm hr;have e1:a::(l2++b::l3)=(a::l2)++b::l3:=rfl;rw[e1,ZaK]at hmm;rw[Bool.or_eq_false_iff]at hr;rw[hr.1,hr.2,Bool.false_or,Bool.or_false]at hmm;obtain⟨v,c',k1,k2,k3,k4,_⟩:=Zh9 (must:=must) hS (by simp);have:=hall v c' k1 k2 (fun _=>by rw[k4];exact hmm);omega
end
/- Closed walks:what is left ZaI an arc. -/
section
open Go.RowKit
structure LoopI (w:World) (A B:Option Addr) (N:Nat) (da dw:Int→Int):Prop where
 a:Ints (fun _=>True) w A (Zmf N da)
 b:Ints (fun _=>True) w B (Zmf N dw)
theorem LoopI.upd {w w':World} {A B:Option Addr} {N:Nat} {da dw:Int→Int} (h:LoopI w A B N da dw) (hu:Upd No w w'):LoopI w' A B N da dw:=⟨h.a.upd hu (fun _ _=>id),h.b.upd hu (fun _ _=>id)⟩
end
/- Closed walks:the rows at a node. -/
section
open Go.RowKit
def Ze6 (N:Nat) (q:List HArc) (mask i:Int):Int→Int:=ZfJ N (ofA mask q) i i
theorem ZjV {w:World} {g:Nat} {xs:List Int} (h:Blk w g 3 (xs.map (Value.int .i64))):Ints (fun i=>i=g) w (some ⟨g,0,none⟩) xs:=
 Ints.of_row h rfl fun j v hj=>by rw[List.getElem?_toArray,List.getElem?_map,hj];rfl
end
/- Closed walks,plain:the bounds of the rows. -/
section
open Go.RowKit
theorem Zjy {p:List HArc} {i:Int}:∀{l:List HArc} {u:Int},okW p i u l i→i≤u
 |[],u,h=>by have h:u=i:=h;omega
 |_::_,_,h=>h.2.2.1
theorem ZmJ {N:Nat} {q:List HArc} (hr:∀a∈q,ZO N a=true) (mask must i:Int) (h0:0≤i) (h1:i<(N:Int)) (u:Int) (hu:0≤Ze6 N q mask i u):i≤u:=by
 obtain⟨l,h,_⟩:=(ZeT hr mask must i h0 h1).a2 u hu;exact Zjy h
theorem Zle {N:Nat} {q:List HArc} (hr:∀a∈q,ZO N a=true) (mask must i:Int) (h0:0≤i) (h1:i<(N:Int)) (u:Int) (hu:0≤Zcd N q mask must i u):i≤u:=by
 obtain⟨l,h,_⟩:=(ZeT hr mask must i h0 h1).w2 u hu;exact Zjy h
end
end Go.Proofs.Ytdbjokfejmgepaa
