/- Ways: the digraph that is made of arcs; how far each node is. -/
import Derived.Shelf.Bits.Mul64
import Derived.Ground.NamesProg
import Derived.Shelf.SlGeneric
import Derived.Test.YtblplapkdmhikaaGreatProg
import Derived.Deep.RegionHeld3
import Derived.Test.YtblplapkdmhikaaGreatDxaa
import Derived.Test.YtblplapkdmhikaaGreatDxai
import Derived.Test.YtblplapkdmhikaaGreatDxak
import Derived.Test.YtblplapkdmhikaaGreatDxal
import Derived.Test.YtblplapkdmhikaaGreatDxam
import Derived.Test.YtblplapkdmhikaaGreatDxas
import Derived.Test.YtblplapkdmhikaaGreatDxaw
import Derived.Test.YtblplapkdmhikaaGreatDxbh
import Derived.Test.YtblplapkdmhikaaGreatDxbk
namespace Go.Proofs.YtblplapkdmhikaaGreat
set_option linter.unusedVariables false
set_option linter.unusedSimpArgs false
section
open Go.RowKit
section
variable {w:World} {G:Nat→Prop} {p:Option Addr} {N K:Nat} {q:List HArc}
def ZeT (N:Nat) (least node:Int):Bool:=decide (max least 0≤node)&&decide (node<(N:Int))
end
end
/- Ways:how far each node is. -/
section
open Go.RowKit
def Zbl (N:Nat) (d:Int→Int):List Int:=(List.range N).map fun i:Nat=>d (i:Int)
theorem ZdU {N i:Nat} (d:Int→Int) (h:i<N):(Zbl N d)[i]? =some (d (i:Int)):=by
 unfold Zbl;rw[List.getElem?_map,List.getElem?_range h];rfl
theorem Ze2 {N u:Nat} (d:Int→Int) (v:Int) (h:u<N):(Zbl N d).set u v=Zbl N (Zaf d (u:Int) v):=by
 unfold Zbl
 apply List.ext_getElem
 ·simp
 ·intro i h1 h2;rw[List.getElem_set];simp only[List.getElem_map,List.getElem_range];unfold Zaf
  by_cases e:u=i
  ·subst e;simp
  ·rw[if_neg e,if_neg (by omega)]
def DQ (w:World) (dg qg N:Nat) (d:Int→Int) (qu:List Int) (A:Option Addr) (us:List Int) (W:World):Prop:=
 ∃F F2,Blk W dg 3 ((Zbl N d).map (Value.int .i64))∧Que W F qg (N:Int) qu∧¬F dg∧(∀i,F i→w.heap.size≤i)∧w.heap.size≤dg∧Upd No w W∧Ints F2 W A us∧(∀i,F2 i→¬F i∧i≠dg∧i<W.heap.size)
namespace DQ
variable {w W W':World} {dg qg N:Nat} {d:Int→Int} {qu us:List Int} {A:Option Addr}
theorem no (h:DQ w dg qg N d qu A us W) (k:Upd No W W'):DQ w dg qg N d qu A us W':=by
 obtain⟨F,F2,h1,h2,h3,h4,h5,h6,h7,h8⟩:=h;exact⟨F,F2,h1.upd k id,h2.upd k (fun _ _=>id),h3,h4,h5,h6.trans k,h7.upd k (fun _ _=>id),fun i hi=>⟨(h8 i hi).1,(h8 i hi).2.1,Nat.lt_of_lt_of_le (h8 i hi).2.2 k.size⟩⟩
theorem upd (h:DQ w dg qg N d qu A us W):Upd No w W:=by
 obtain⟨F,F2,h1,h2,h3,h4,h5,h6,h7,h8⟩:=h;exact h6
theorem blk (h:DQ w dg qg N d qu A us W):Blk W dg 3 ((Zbl N d).map (Value.int .i64)):=by
 obtain⟨F,F2,h1,h2,h3,h4,h5,h6,h7,h8⟩:=h;exact h1
theorem sl (h:DQ w dg qg N d qu A us W):∃F2,Ints F2 W A us:=by
 obtain⟨F,F2,h1,h2,h3,h4,h5,h6,h7,h8⟩:=h;exact⟨F2,h7⟩
theorem bare (h:DQ w dg qg N d qu A us W):DQ w dg qg N d qu none [] W:=by
 obtain⟨F,F2,h1,h2,h3,h4,h5,h6,h7,h8⟩:=h;exact⟨F,fun _=>False,h1,h2,h3,h4,h5,h6,Ints.nil_,fun _ e=>e.elim⟩
theorem cell (h:DQ w dg qg N d qu A us W) {i:Nat} (hi:i<N):W.cell? ⟨dg,i,none⟩=some (.int .i64 (d (i:Int))):=by
 rw[h.blk.cell i,List.getElem?_map,ZdU d hi];rfl
theorem free (h:DQ w dg qg N d qu A us W) (i:Nat):W.frozen? ⟨dg,i,none⟩=false:=h.blk.free i
theorem set_ (h:DQ w dg qg N d qu A us W) {u:Nat} (hu:u<N) (v:Int):DQ w dg qg N (Zaf d (u:Int) v) qu A us (W.setCell ⟨dg,u,none⟩ (.int .i64 v)):=by
 obtain⟨F,F2,h1,h2,h3,h4,h5,h6,h7,h8⟩:=h;have k:=Upd.setOne (Upd.refl (One dg) W) u (.int .i64 v);refine⟨F,F2,?_,h2.upd k (fun i hi e=>h3 (e▸hi)),h3,h4,h5,h6.then_ k fun i e=> .inr (by rw[e];exact h5),h7.upd k (fun i hi e=>(h8 i hi).2.1 e),fun i hi=>⟨(h8 i hi).1,(h8 i hi).2.1,Nat.lt_of_lt_of_le (h8 i hi).2.2 k.size⟩⟩;have:=h1.set_ u (.int .i64 v);rw[←List.map_set,Ze2 d v hu]at this;exact this
theorem push (h:DQ w dg qg N d qu A us W) (hN:N≤65536) (hf:qu.length<N) (u:Int):Calls Tryz.prog 334 #[.pointer (some ⟨qg,0,none⟩),.int .i64 u] W fun e w'=>e= .returned (.int .i64 0)∧DQ w dg qg N d (qu++[u]) A us w':=by
 obtain⟨F,F2,h1,h2,h3,h4,h5,h6,h7,h8⟩:=h;refine(ZiN W F qg (N:Int) qu u h2 (by omega) (by omega) (by omega)).mono ?_;rintro e w' ⟨rfl,F',hF',hq,hu⟩;have hs:=h6.size
 have hne:∀i,i<W.heap.size→¬F i→¬F' i:=fun i hi hn e=>by
  rcases hF' i e with e|e
  ·exact hn e
  ·omega
 refine⟨rfl,F',F2,h1.upd hu h3,hq,hne dg h1.lt h3,fun i hi=> ?_,h5,h6.then_ hu fun i e=> .inr (h4 i e),h7.upd hu (fun i hi=>(h8 i hi).1),fun i hi=>⟨hne i (h8 i hi).2.2 (h8 i hi).1,(h8 i hi).2.1,Nat.lt_of_lt_of_le (h8 i hi).2.2 hu.size⟩⟩;rcases hF' i hi with e|e
 ·exact h4 i e
 ·omega
end DQ
def ZiO (p:List HArc):Int→List Int:=fun x=>nxA x true p
end
/- Ways:the first of the shortest. -/
section
open Go.RowKit
structure DistOf (N:Nat) (p:List HArc) (least node:Int) (d:Int→Int):Prop where
 lo:∀u,-1≤d u
 hi:∀u,d u<(N:Int)∨d u<0
 inn:∀u,0≤d u→0≤u∧u<(N:Int)
 clo:∀v,0≤d v→∀u∈ZiO p v,least≤u→0≤d u∧d u≤d v+1
 par:∀u,0≤d u→(u=node∧ZeT N least node=true)∨∃v,u∈ZiO p v∧least≤u∧0≤d v∧d v+1=d u
 z:∀u,d u=0↔(u=node∧ZeT N least node=true)
theorem DistOf.le {N:Nat} {p:List HArc} {least node:Int} {d:Int→Int} (h:DistOf N p least node d) {u:Int} (hu:0≤d u):least≤u:=by
 rcases h.par u hu with ⟨e,hs⟩|⟨v,h1,h2,h3,h4⟩
 ·unfold ZeT at hs;rw[Bool.and_eq_true,decide_eq_true_eq]at hs;omega
 ·exact h2
end
/- Ways:how far each node is,by walks with an arc of another mask;plain words on two states of a node. -/
section
open Go.RowKit
def Za1 (N:Nat) (d:Int→Int) (h:Int):List Int:=Zbl N fun i:Int=>d (i*2+h)
theorem Ze3 {N u:Nat} (d:Int→Int) {h:Int} (hh:h=0∨h=1) (v:Int) (hu:u<N):(Za1 N d h).set u v=Za1 N (Zaf d ((u:Int)*2+h) v) h:=by
 unfold Za1;rw[Ze2 _ v hu];unfold Zbl
 apply List.map_congr_left
 intro i hi;unfold Zaf
 by_cases e:(i:Int)=(u:Int)
 ·rw[if_pos e]
  show v=if (i:Int)*2+h=(u:Int)*2+h then v else d ((i:Int)*2+h)
  rw[if_pos (by omega)]
 ·rw[if_neg e]
  show d ((i:Int)*2+h)=if (i:Int)*2+h=(u:Int)*2+h then v else d ((i:Int)*2+h)
  rw[if_neg (by omega)]
theorem Zds {N:Nat} (d:Int→Int) {u h k:Int} (hh:h=0∨h=1) (hk:k=0∨k=1) (hne:h≠k) (v:Int):Za1 N (Zaf d (u*2+h) v) k=Za1 N d k:=by
 unfold Za1 Zbl
 apply List.map_congr_left
 intro i hi;unfold Zaf
 show(if (i:Int)*2+k=u*2+h then v else d ((i:Int)*2+k))=d ((i:Int)*2+k)
 rw[if_neg (by omega)]
end
/- Closed walks,plain:what distances say of walks. -/
section
open Go.RowKit
section
variable {α:Type}
end
def okW (p:List HArc) (least:Int):Int→List HArc→Int→Prop
 |u,[],v=>u=v
 |u,a::l,v=>a∈p∧a.f=u∧least≤u∧okW p least a.t l v
theorem Zcu {p:List HArc} {least:Int}:∀{l m:List HArc} {u x v:Int},okW p least u l x→okW p least x m v→okW p least u (l++m) v
 |[],m,u,x,v,h,k=>by
  have:u=x:=h;subst this;exact k
 |a::l,m,u,x,v,h,k=>⟨h.1,h.2.1,h.2.2.1,Zcu h.2.2.2 k⟩
theorem ZcN {p:List HArc} {least:Int}:∀{l m:List HArc} {u v:Int},okW p least u (l++m) v→∃x,okW p least u l x∧okW p least x m v
 |[],m,u,v,h=>⟨u,rfl,h⟩
 |a::l,m,u,v,h=>by
  obtain⟨x,h1,h2⟩:=ZcN (l:=l) h.2.2.2;exact⟨x,⟨h.1,h.2.1,h.2.2.1,h1⟩,h2⟩
theorem Zct {p p':List HArc} {least least':Int} (hp:∀a∈p,a∈p') (hl:least'≤least):∀{l:List HArc} {u v:Int},okW p least u l v→okW p' least' u l v
 |[],u,v,h=>h
 |a::l,u,v,h=>⟨hp a h.1,h.2.1,Int.le_trans hl h.2.2.1,Zct hp hl h.2.2.2⟩
/-! masks -/
def isM (must:Int) (a:HArc):Bool:=Zlb must a.kind
def Z1 (must:Int) (l:List HArc):Bool:=l.any (isM must)
end
/- Closed walks,plain:the shortest from a node,and the first of these. -/
section
open Go.RowKit
theorem Zbc (must:Int) (l m:List HArc):Z1 must (l++m)=(Z1 must l||Z1 must m):=by
 unfold Z1;rw[List.any_append]
section
variable {p:List HArc} {must i:Int} {da dw:Int→Int}
end
section
variable {p:List HArc} {must i:Int} {da dw:Int→Int}
end
def ZgB:List HArc→List HArc→Prop
 |a::l,b::m=>ZaJ a b=true∨(a=b∧ZgB l m)
 |_,_=>False
end
/- Closed walks,plain:the shortest of all;it meets no node twice. -/
section
open Go.RowKit
theorem Zfb {p:List HArc} {least:Int}:∀{l:List HArc} {u v:Int} {a:HArc},okW p least u l v→a∈l→∃l1 l2,l=l1++a::l2∧okW p least u l1 a.f∧okW p least a.f (a::l2) v
 |[],u,v,a,h,ha=>by cases ha
 |b::l,u,v,a,h,ha=>by
  rcases List.mem_cons.1 ha with rfl|ha
  ·exact⟨[],l,rfl,h.2.1.symm,by rw[h.2.1];exact h⟩
  ·obtain⟨l1,l2,e,h1,h2⟩:=Zfb h.2.2.2 ha;exact⟨b::l1,l2,by rw[e];rfl,⟨h.1,h.2.1,h.2.2.1,h1⟩,h2⟩
theorem Zcd {p:List HArc} {least:Int}:∀{l:List HArc} {u v:Int},okW p least u l v→∀a∈l,a∈p
 |[],_,_,_,a,ha=>by cases ha
 |b::l,u,v,h,a,ha=>by
  rcases List.mem_cons.1 ha with rfl|ha
  ·exact h.1
  ·exact Zcd h.2.2.2 a ha
theorem Zeh {p:List HArc} {least least':Int}:∀{l:List HArc} {u v:Int},okW p least u l v→(∀a∈l,least'≤a.f)→okW p least' u l v
 |[],_,_,h,_=>h
 |b::l,u,v,h,hl=>⟨h.1,h.2.1,by have:=hl b List.mem_cons_self;have:=h.2.1;omega,Zeh h.2.2.2 (fun a ha=>hl a (List.mem_cons_of_mem _ ha))⟩
theorem Zeo:∀{l:List HArc},l≠[]→∃a∈l,∀b∈l,a.f≤b.f
 |[],h=>absurd rfl h
 |[a],_=>⟨a,List.mem_singleton.2 rfl,fun b hb=>by rw[List.mem_singleton]at hb;rw[hb];exact Int.le_refl _⟩
 |a::c::l,_=>by
  obtain⟨m,hm,hl⟩:=Zeo (l:=c::l) (by simp)
  by_cases h:a.f≤m.f
  ·refine⟨a,List.mem_cons_self,fun b hb=> ?_⟩;rcases List.mem_cons.1 hb with rfl|hb
   ·exact Int.le_refl _
   ·have:=hl b hb;omega
  ·refine⟨m,List.mem_cons_of_mem _ hm,fun b hb=> ?_⟩;rcases List.mem_cons.1 hb with rfl|hb
   ·omega
   ·exact hl b hb
theorem ZfS {p:List HArc} {must least u:Int} {c:List HArc} (h:okW p least u c u) (hc:c≠[]):∃v c',c'≠[]∧okW p v v c' v∧c'.length=c.length∧Z1 must c'=Z1 must c∧∃a∈c,v=a.f:=by
 obtain⟨a,ha,hmin⟩:=Zeo hc;obtain⟨l1,l2,e,h1,h2⟩:=Zfb h ha;subst e;refine⟨a.f,(a::l2)++l1,by simp,?_,by simp only[List.length_append,List.length_cons];omega,by rw[Zbc,Zbc,Bool.or_comm],a,ha,rfl⟩;refine Zeh (Zcu h2 h1) fun b hb=>hmin b ?_
 rcases List.mem_append.1 hb with hb|hb
 ·exact List.mem_append_right _ hb
 ·exact List.mem_append_left _ hb
theorem Zgv {c:List HArc} (h:∀l1 a l2 b l3,c=l1++a::(l2++b::l3)→a.f≠b.f):c.Pairwise fun a b=>a.f≠b.f:=by
 induction c with
 |nil=>exact List.Pairwise.nil
 |cons a l ih=>
  refine List.pairwise_cons.2 ⟨fun b hb=> ?_,ih fun l1 x l2 y l3 e=>h (a::l1) x l2 y l3 (by rw[e];rfl)⟩;obtain⟨l2,l3,e⟩:=List.append_of_mem hb;exact h [] a l2 b l3 (by rw[e];rfl)
theorem Zgn {p:List HArc} {must i:Int} {need:Bool} {c:List HArc} (hw:okW p i i c i) (hm:need=true→Z1 must c=true)
  (hown:∀c',c'≠[]→okW p i i c' i→(need=true→Z1 must c'=true)→c.length≤c'.length)
  (hall:∀v c',c'≠[]→okW p v v c' v→(need=true→Z1 must c'=true)→c.length≤c'.length):c.Pairwise fun a b=>a.f≠b.f:=by
 refine Zgv fun l1 a l2 b l3 e hab=> ?_
 subst e;obtain⟨x,h1,h2⟩:=ZcN hw;have ha:x=a.f:=h2.2.1.symm;subst ha;have h3:okW p i a.f ((a::l2)++b::l3) i:=h2;obtain⟨y,h4,h5⟩:=ZcN h3;have hb:y=b.f:=h5.2.1.symm;subst hb;have hR:okW p i i (l1++b::l3) i:=Zcu (by rw[←hab];exact h1) h5
 have hS:okW p i b.f (a::l2) b.f:=by
  have:=h4;rw[hab]at this;exact this
 have hlen:(l1++b::l3).length<(l1++a::(l2++b::l3)).length∧(a::l2).length<(l1++a::(l2++b::l3)).length:=by
  simp only[List.length_append,List.length_cons];omega
 by_cases hq:need=true→Z1 must (l1++b::l3)=true
 ·have:=hown _ (by simp) hR hq;omega
 ·have hn:need=true:=Classical.byContradiction fun h=>hq (fun e=>absurd e h)
  have hr:Z1 must (l1++b::l3)=false:=by
   have:¬Z1 must (l1++b::l3)=true:=fun e=>hq (fun _=>e)
   simpa using this
  have hmm:=hm hn;rw[Zbc]at hmm hr;have e1:a::(l2++b::l3)=(a::l2)++b::l3:=rfl;rw[e1,Zbc]at hmm;rw[Bool.or_eq_false_iff]at hr;rw[hr.1,hr.2,Bool.false_or,Bool.or_false]at hmm;obtain⟨v,c',k1,k2,k3,k4,_⟩:=ZfS (must:=must) hS (by simp);have:=hall v c' k1 k2 (fun _=>by rw[k4];exact hmm);omega
end
/- Ways:how far each node is,by walks with an arc of another mask. -/
section
open Go.RowKit
def DQ2 (w:World) (ab g0 g1 qg N:Nat) (d:Int→Int) (qu:List Int) (A:Option Addr) (us:List Int) (W:World):Prop:=
 ∃F F2,Blk W ab 387 [.slice (some ⟨g0,0,none⟩) N N,.slice (some ⟨g1,0,none⟩) N N]∧Blk W g0 3 ((Za1 N d 0).map (Value.int .i64))∧Blk W g1 3 ((Za1 N d 1).map (Value.int .i64))∧
  Que W F qg ((2*N:Nat):Int) qu∧(¬F ab∧¬F g0∧¬F g1)∧(ab≠g0∧ab≠g1∧g0≠g1)∧(∀i,F i→w.heap.size≤i)∧(w.heap.size≤ab∧w.heap.size≤g0∧w.heap.size≤g1)∧Upd No w W∧Ints F2 W A us∧
  (∀i,F2 i→¬F i∧(i≠ab∧i≠g0∧i≠g1)∧i<W.heap.size)
def gOf (g0 g1:Nat) (h:Nat):Nat:=if h=0 then g0 else g1
namespace DQ2
variable {w W W':World} {ab g0 g1 qg N:Nat} {d:Int→Int} {qu us:List Int} {A:Option Addr}
theorem no (h:DQ2 w ab g0 g1 qg N d qu A us W) (k:Upd No W W'):DQ2 w ab g0 g1 qg N d qu A us W':=by
 obtain⟨F,F2,a1,a2,a3,h2,h3,h9,h4,h5,h6,h7,h8⟩:=h;exact⟨F,F2,a1.upd k id,a2.upd k id,a3.upd k id,h2.upd k (fun _ _=>id),h3,h9,h4,h5,h6.trans k,h7.upd k (fun _ _=>id),fun i hi=>⟨(h8 i hi).1,(h8 i hi).2.1,Nat.lt_of_lt_of_le (h8 i hi).2.2 k.size⟩⟩
theorem upd (h:DQ2 w ab g0 g1 qg N d qu A us W):Upd No w W:=by
 obtain⟨F,F2,a1,a2,a3,h2,h3,h9,h4,h5,h6,h7,h8⟩:=h;exact h6
theorem arr (h:DQ2 w ab g0 g1 qg N d qu A us W) {k:Nat} (hk:k≤1):W.cell? ⟨ab,k,none⟩=some (.slice (some ⟨gOf g0 g1 k,0,none⟩) N N):=by
 obtain⟨F,F2,a1,a2,a3,h2,h3,h9,h4,h5,h6,h7,h8⟩:=h;have hk:k=0∨k=1:=by omega
 rcases hk with rfl|rfl
 ·exact a1.cell 0
 ·exact a1.cell 1
theorem sl (h:DQ2 w ab g0 g1 qg N d qu A us W):∃F2,Ints F2 W A us:=by
 obtain⟨F,F2,a1,a2,a3,h2,h3,h9,h4,h5,h6,h7,h8⟩:=h;exact⟨F2,h7⟩
theorem bare (h:DQ2 w ab g0 g1 qg N d qu A us W):DQ2 w ab g0 g1 qg N d qu none [] W:=by
 obtain⟨F,F2,a1,a2,a3,h2,h3,h9,h4,h5,h6,h7,h8⟩:=h;exact⟨F,fun _=>False,a1,a2,a3,h2,h3,h9,h4,h5,h6,Ints.nil_,fun _ e=>e.elim⟩
theorem cell (h:DQ2 w ab g0 g1 qg N d qu A us W) {i k:Nat} (hk:k≤1) (hi:i<N):W.cell? ⟨gOf g0 g1 k,i,none⟩=some (.int .i64 (d ((i:Int)*2+(k:Int)))):=by
 obtain⟨F,F2,a1,a2,a3,h2,h3,h9,h4,h5,h6,h7,h8⟩:=h;have hk:k=0∨k=1:=by omega
 rcases hk with rfl|rfl
 ·show W.cell? ⟨g0,i,none⟩=_
  rw[a2.cell i,List.getElem?_map];unfold Za1;rw[ZdU _ hi];rfl
 ·show W.cell? ⟨g1,i,none⟩=_
  rw[a3.cell i,List.getElem?_map];unfold Za1;rw[ZdU _ hi];rfl
theorem free (h:DQ2 w ab g0 g1 qg N d qu A us W) {k:Nat} (hk:k≤1) (i:Nat):W.frozen? ⟨gOf g0 g1 k,i,none⟩=false:=by
 obtain⟨F,F2,a1,a2,a3,h2,h3,h9,h4,h5,h6,h7,h8⟩:=h;have hk:k=0∨k=1:=by omega
 rcases hk with rfl|rfl
 ·exact a2.free i
 ·exact a3.free i
theorem set_ (h:DQ2 w ab g0 g1 qg N d qu A us W) {k u:Nat} (hk:k≤1) (hu:u<N) (v:Int):DQ2 w ab g0 g1 qg N (Zaf d ((u:Int)*2+(k:Int)) v) qu A us (W.setCell ⟨gOf g0 g1 k,u,none⟩ (.int .i64 v)):=by
 obtain⟨F,F2,a1,a2,a3,h2,h3,h9,h4,h5,h6,h7,h8⟩:=h;have hk:k=0∨k=1:=by omega
 rcases hk with rfl|rfl
 ·show DQ2 w ab g0 g1 qg N _ qu A us (W.setCell ⟨g0,u,none⟩ (.int .i64 v))
  have k:=Upd.setOne (Upd.refl (One g0) W) u (.int .i64 v);refine⟨F,F2,a1.upd k (fun e=>h9.1 e),?_,?_,h2.upd k (fun i hi e=>h3.2.1 (e▸hi)),h3,h9,h4,h5,h6.then_ k fun i e=> .inr (by rw[e];exact h5.2.1),h7.upd k (fun i hi e=>(h8 i hi).2.1.2.1 e),fun i hi=>⟨(h8 i hi).1,(h8 i hi).2.1,Nat.lt_of_lt_of_le (h8 i hi).2.2 k.size⟩⟩
  ·have:=a2.set_ u (.int .i64 v);rw[←List.map_set,Ze3 d (.inl rfl) v hu]at this;exact this
  ·have e:Za1 N (Zaf d ((u:Int)*2+((0:Nat):Int)) v) 1=Za1 N d 1:=Zds d (.inl rfl) (.inr rfl) (by decide) v;rw[e];exact a3.upd k (fun e=>h9.2.2 e.symm)
 ·show DQ2 w ab g0 g1 qg N _ qu A us (W.setCell ⟨g1,u,none⟩ (.int .i64 v))
  have k:=Upd.setOne (Upd.refl (One g1) W) u (.int .i64 v);refine⟨F,F2,a1.upd k (fun e=>h9.2.1 e),?_,?_,h2.upd k (fun i hi e=>h3.2.2 (e▸hi)),h3,h9,h4,h5,h6.then_ k fun i e=> .inr (by rw[e];exact h5.2.2),h7.upd k (fun i hi e=>(h8 i hi).2.1.2.2 e),fun i hi=>⟨(h8 i hi).1,(h8 i hi).2.1,Nat.lt_of_lt_of_le (h8 i hi).2.2 k.size⟩⟩
  ·have e:Za1 N (Zaf d ((u:Int)*2+((1:Nat):Int)) v) 0=Za1 N d 0:=Zds d (.inr rfl) (.inl rfl) (by decide) v;rw[e];exact a2.upd k (fun e=>h9.2.2 e)
  ·have:=a3.set_ u (.int .i64 v);rw[←List.map_set,Ze3 d (.inr rfl) v hu]at this;exact this
theorem push (h:DQ2 w ab g0 g1 qg N d qu A us W) (hN:N≤32768) (hf:qu.length<2*N) (u:Int):Calls Tryz.prog 334 #[.pointer (some ⟨qg,0,none⟩),.int .i64 u] W fun e w'=>e= .returned (.int .i64 0)∧DQ2 w ab g0 g1 qg N d (qu++[u]) A us w':=by
 obtain⟨F,F2,a1,a2,a3,h2,h3,h9,h4,h5,h6,h7,h8⟩:=h;refine(ZiN W F qg ((2*N:Nat):Int) qu u h2 (by omega) (by omega) (by omega)).mono ?_;rintro e w' ⟨rfl,F',hF',hq,hu⟩;have hs:=h6.size
 have hne:∀i,i<W.heap.size→¬F i→¬F' i:=fun i hi hn e=>by
  rcases hF' i e with e|e
  ·exact hn e
  ·omega
 refine⟨rfl,F',F2,a1.upd hu h3.1,a2.upd hu h3.2.1,a3.upd hu h3.2.2,hq,⟨hne ab a1.lt h3.1,hne g0 a2.lt h3.2.1,hne g1 a3.lt h3.2.2⟩,h9,fun i hi=> ?_,h5,h6.then_ hu fun i e=> .inr (h4 i e),h7.upd hu (fun i hi=>(h8 i hi).1),fun i hi=>⟨hne i (h8 i hi).2.2 (h8 i hi).1,(h8 i hi).2.1,Nat.lt_of_lt_of_le (h8 i hi).2.2 hu.size⟩⟩;rcases hF' i hi with e|e
 ·exact h4 i e
 ·omega
end DQ2
end
/- Closed walks:what is left Z6 an arc. -/
section
open Go.RowKit
structure LoopI (w:World) (A B:Option Addr) (N:Nat) (da dw:Int→Int):Prop where
 a:Ints (fun _=>True) w A (Zbl N da)
 b:Ints (fun _=>True) w B (Zbl N dw)
theorem LoopI.upd {w w':World} {A B:Option Addr} {N:Nat} {da dw:Int→Int} (h:LoopI w A B N da dw) (hu:Upd No w w'):LoopI w' A B N da dw:=⟨h.a.upd hu (fun _ _=>id),h.b.upd hu (fun _ _=>id)⟩
end
/- Closed walks,plain:ids and their ranks;what the first of the shortest is. -/
section
open Go.RowKit
def rk:List Int→Int→Int
 |[],_=>0
 |a::s,x=>if a<x then rk s x+1 else 0
theorem Zdt:∀(s:List Int) (x:Int),0≤rk s x∧rk s x≤(s.length:Int)
 |[],x=>by simp[rk]
 |a::s,x=>by
  have:=Zdt s x;unfold rk;simp only[List.length_cons]
  split<;>omega
theorem Zf4:∀{s:List Int} {x:Int},(∀y∈s,x≤y)→rk s x=0
 |[],_,_=>rfl
 |a::s,x,h=>by
  unfold rk;rw[if_neg (by have:=h a List.mem_cons_self;omega)]
theorem ZcY:∀{s:List Int} {x y:Int},s.Pairwise (·<·)→x∈s→x<y→rk s x<rk s y
 |[],x,y,_,h,_=>by cases h
 |a::s,x,y,hs,h,hxy=>by
  rw[List.pairwise_cons]at hs;rcases List.mem_cons.1 h with rfl|h
  ·have e1:rk (x::s) x=0:=Zf4 fun z hz=>by
    rcases List.mem_cons.1 hz with rfl|hz
    ·exact Int.le_refl _
    ·exact Int.le_of_lt (hs.1 z hz)
   rw[e1];unfold rk;rw[if_pos hxy];have:=Zdt s y;omega
  ·have h1:=hs.1 x h;have h2:=ZcY hs.2 h hxy;unfold rk;rw[if_pos h1,if_pos (by omega)];omega
theorem ZkG {s:List Int} {x y:Int} (hs:s.Pairwise (·<·)) (hx:x∈s) (h:x≤y):rk s x≤rk s y:=by
 rcases Classical.em (x=y)with rfl|e
 ·exact Int.le_refl _
 ·have:=ZcY hs hx (show x<y by omega);omega
theorem Zcb:∀{s:List Int} {x:Int},s.Pairwise (·<·)→x∈s→rk s x<(s.length:Int)∧s.getD (rk s x).toNat 0=x
 |[],x,_,h=>by cases h
 |a::s,x,hs,h=>by
  rw[List.pairwise_cons]at hs;rcases List.mem_cons.1 h with rfl|h
  ·have e1:rk (x::s) x=0:=Zf4 fun z hz=>by
    rcases List.mem_cons.1 hz with rfl|hz
    ·exact Int.le_refl _
    ·exact Int.le_of_lt (hs.1 z hz)
   rw[e1];simp
  ·have h1:=hs.1 x h;have h2:=Zcb hs.2 h;have h3:=Zdt s x;unfold rk;rw[if_pos h1];refine⟨by simp only[List.length_cons];omega,?_⟩;rw[show(rk s x+1).toNat=(rk s x).toNat+1 by omega,List.getD_cons_succ];exact h2.2
theorem Zft {s:List Int} {i:Int} (h0:0≤i) (h1:i<(s.length:Int)):s.getD i.toNat 0∈s:=by
 rw[List.getD_eq_getElem?_getD,Qg (show i.toNat<s.length by omega)];exact List.getElem_mem _
theorem Zf5 {s:List Int} {i:Int} (hs:s.Pairwise (·<·)) (h0:0≤i) (h1:i<(s.length:Int)):rk s (s.getD i.toNat 0)=i:=by
 have hm:=Zft h0 h1;have h2:=Zcb hs hm;have h3:=Zdt s (s.getD i.toNat 0);have hp:=List.pairwise_iff_getElem.1 hs;rw[List.getD_eq_getElem?_getD,List.getD_eq_getElem?_getD]at h2;rw[List.getD_eq_getElem?_getD]at h3 ⊢;have hi:i.toNat<s.length:=by omega
 rw[Qg hi]at h2 h3 ⊢;simp only[Option.getD_some]at h2 h3 ⊢;have hj:(rk s s[i.toNat]).toNat<s.length:=by omega
 rw[Qg hj]at h2;simp only[Option.getD_some]at h2;rcases Nat.lt_trichotomy (rk s s[i.toNat]).toNat i.toNat with e|e|e
 ·have:=hp _ _ hj hi e;omega
 ·omega
 ·have:=hp _ _ hi hj e;omega
theorem ZjJ {s:List Int} {i j:Int} (hs:s.Pairwise (·<·)) (h0:0≤i) (h1:j<(s.length:Int)) (h:i≤j):s.getD i.toNat 0≤s.getD j.toNat 0:=by
 rcases Classical.em (i=j)with rfl|e
 ·exact Int.le_refl _
 ·refine Classical.byContradiction fun hc=> ?_
  have:=ZcY hs (Zft (s:=s) (i:=j) (by omega) h1) (show s.getD j.toNat 0<s.getD i.toNat 0 by omega);rw[Zf5 hs h0 (by omega),Zf5 hs (by omega) h1]at this;omega
def toR (ids keys:List Int) (a:HArc):HArc:=⟨rk ids a.f,rk ids a.t,a.kind,rk keys a.label⟩
def unR (ids keys:List Int) (a:HArc):HArc:=⟨ids.getD a.f.toNat 0,ids.getD a.t.toNat 0,a.kind,keys.getD a.label.toNat 0⟩
structure Rk (D:List HArc) (ids keys:List Int) (q:List HArc):Prop where
 si:ids.Pairwise (·<·)
 sk:keys.Pairwise (·<·)
 mi:∀a∈D,a.f∈ids∧a.t∈ids
 ml:∀a∈D,a.label∈keys
 mq:∀b,b∈q↔∃a∈D,b=toR ids keys a
section
variable {D:List HArc} {ids keys:List Int} {q:List HArc}
theorem Rk.un (h:Rk D ids keys q) {a:HArc} (ha:a∈D):unR ids keys (toR ids keys a)=a:=by
 obtain⟨h1,h2⟩:=h.mi a ha;have h3:=h.ml a ha;obtain⟨af,at',ak,al⟩:=a;simp only at h1 h2 h3;unfold unR toR;simp only[(Zcb h.si h1).2,(Zcb h.si h2).2,(Zcb h.sk h3).2]
theorem Rk.to (h:Rk D ids keys q) {b:HArc} (hb:b∈q):unR ids keys b∈D∧toR ids keys (unR ids keys b)=b:=by
 obtain⟨a,ha,rfl⟩:=(h.mq b).1 hb;rw[h.un ha];exact⟨ha,rfl⟩
theorem Rk.less (h:Rk D ids keys q) {a b:HArc} (ha:a∈D) (hb:b∈D):ZaJ a b=true→ZaJ (toR ids keys a) (toR ids keys b)=true:=by
 have a1:=h.mi a ha;have b1:=h.mi b hb;have a2:=h.ml a ha;have b2:=h.ml b hb;rw[Zbi,Zbi];unfold toR;simp only;rintro(e|⟨e1,e|⟨e2,e|⟨e3,e⟩⟩⟩)
 ·exact .inl (ZcY h.si a1.1 e)
 ·exact .inr ⟨by rw[e1],.inl e⟩
 ·exact .inr ⟨by rw[e1],.inr ⟨e2,.inl (ZcY h.sk a2 e)⟩⟩
 ·exact .inr ⟨by rw[e1],.inr ⟨e2,.inr ⟨by rw[e3],ZcY h.si a1.2 e⟩⟩⟩
theorem Rk.up (h:Rk D ids keys q) {least v:Int} (hl:least∈ids):∀{l:List HArc} {u:Int},okW D least u l v→u∈ids→okW q (rk ids least) (rk ids u) (l.map (toR ids keys)) (rk ids v)
 |[],u,hw,_=>by
  have hw:u=v:=hw;rw[hw];exact rfl
 |a::l,u,hw,hu=>by
  obtain⟨ha,haf,hlu,hw⟩:=hw;exact⟨(h.mq _).2 ⟨a,ha,rfl⟩,by unfold toR;simp only;rw[haf],ZkG h.si hl hlu,h.up hl hw (h.mi a ha).2⟩
theorem Rk.down (h:Rk D ids keys q) {i k:Int} (hi:0≤i):∀{l:List HArc} {j:Int},okW q i j l k→0≤j→j<(ids.length:Int)→okW D (ids.getD i.toNat 0) (ids.getD j.toNat 0) (l.map (unR ids keys)) (ids.getD k.toNat 0)
 |[],j,hw,_,_=>by
  have hw:j=k:=hw;rw[hw];exact rfl
 |a::l,j,hw,h0,h1=>by
  obtain⟨ha,haf,hij,hw⟩:=hw;have ha':=h.to ha;obtain⟨b,hb,e⟩:=(h.mq a).1 ha;have ht:a.t=rk ids b.t:=by rw[e];rfl
  have h2:=Zdt ids b.t;have h3:=Zcb h.si (h.mi b hb).2;refine⟨ha'.1,by show ids.getD a.f.toNat 0=_;rw[haf],ZjJ h.si hi h1 hij,?_⟩;exact h.down hi hw (by omega) (by omega)
end
theorem Ziw {f:HArc→HArc} (hf:∀a,(f a).kind=a.kind) (must:Int) (l:List HArc):Z1 must (l.map f)=Z1 must l:=by
 unfold Z1;rw[List.any_map]
 congr 1
 funext a
 show isM must (f a)=isM must a
 unfold isM;rw[hf]
structure Short (D:List HArc) (must:Int) (need:Bool) (v:Int) (c:List HArc):Prop where
 ne:c≠[]
 w:okW D v v c v
 m:need=true→Z1 must c=true
 le:∀u c',c'≠[]→okW D u u c' u→(need=true→Z1 must c'=true)→c.length≤c'.length∧(c.length=c'.length→v≤u∧(v=u→c'=c∨ZgB c c'))
def NoWay (D:List HArc) (must:Int) (need:Bool):Prop:=∀u c',c'≠[]→okW D u u c' u→(need=true→Z1 must c'=true)→False
theorem Zfj:∀{l m:List HArc},ZgB l m→ZgB m l→False
 |[],m,h,_=>by cases m<;>exact h.elim
 |a::l,[],h,_=>h.elim
 |a::l,b::m,h,k=>by
  rcases h with h|⟨e,h⟩
  ·rcases k with k|⟨e,k⟩
   ·exact ZcQ a (Zc9 a b a h k)
   ·rw[e]at h;exact ZcQ a h
  ·rcases k with k|⟨e2,k⟩
   ·rw[e]at k;exact ZcQ b k
   ·exact Zfj h k
theorem Short.same {D:List HArc} {must:Int} {need:Bool} {v u:Int} {c d:List HArc} (h:Short D must need v c) (k:Short D must need u d):v=u∧c=d:=by
 have h1:=h.le u d k.ne k.w k.m;have k1:=k.le v c h.ne h.w h.m;have hl:c.length=d.length:=by omega
 have h2:=h1.2 hl;have k2:=k1.2 hl.symm;have hv:v=u:=by omega
 refine⟨hv,?_⟩;rcases h2.2 hv with e|e
 ·exact e.symm
 ·rcases k2.2 hv.symm with e2|e2
  ·exact e2
  ·exact(Zfj e e2).elim
theorem Short.some {D:List HArc} {must:Int} {need:Bool} {v:Int} {c:List HArc} (h:Short D must need v c) (k:NoWay D must need):False:=k v c h.ne h.w h.m
theorem Short.simple {D:List HArc} {must:Int} {need:Bool} {v:Int} {c:List HArc} (h:Short D must need v c):c.Pairwise fun a b=>a.f≠b.f:=
 Zgn h.w h.m (fun c' h1 h2 h3=>(h.le v c' h1 h2 h3).1) (fun u c' h1 h2 h3=>(h.le u c' h1 h2 h3).1)
theorem Rk.none {D:List HArc} {ids keys:List Int} {q:List HArc} (h:Rk D ids keys q) {must:Int} {need:Bool} (k:NoWay q must need):NoWay D must need:=by
 intro u c' n1 n2 n3
 have hu:u∈ids:=by
  cases c' with
  |nil=>exact absurd rfl n1
  |cons a l=>rw[←n2.2.1];exact(h.mi a n2.1).1
 exact k (rk ids u) (c'.map (toR ids keys)) (by simpa using n1) (h.up hu n2 hu) (fun e=>by rw[Ziw (f:=toR ids keys) (fun _=>rfl)];exact n3 e)
theorem Short.more {D D':List HArc} {must:Int} {need:Bool} {v u:Int} {c d:List HArc} (h:Short D must need v c) (hD:∀a∈D,a∈D') (k:Short D' must need u d):d.length≤c.length:=
 (k.le v c h.ne (Zct hD (Int.le_refl _) h.w) h.m).1
theorem ZdD {p p':List HArc} {least:Int}:∀{l:List HArc} {u v:Int},okW p least u l v→(∀a∈l,a∈p')→okW p' least u l v
 |[],u,v,h,_=>h
 |a::l,u,v,h,hp=>⟨hp a List.mem_cons_self,h.2.1,h.2.2.1,ZdD h.2.2.2 (fun x hx=>hp x (List.mem_cons_of_mem _ hx))⟩
theorem Short.less {D D':List HArc} {must:Int} {need:Bool} {v:Int} {c:List HArc} (h:Short D must need v c) (hD:∀a∈D',a∈D) (hc:∀a∈c,a∈D'):Short D' must need v c:=
 ⟨h.ne,ZdD h.w hc,h.m,fun u c' n1 n2 n3=>h.le u c' n1 (Zct hD (Int.le_refl _) n2) n3⟩
theorem Short.must {D:List HArc} {must must':Int} {need:Bool} {v:Int} {c:List HArc} (h:Short D must need v c) (hm:∀a∈D,isM must a=isM must' a):Short D must' need v c:=by
 have hh:∀l:List HArc,(∀a∈l,a∈D)→Z1 must l=Z1 must' l:=by
  intro l hl;unfold Z1
  induction l with
  |nil=>rfl
  |cons a l ih=>rw[List.any_cons,List.any_cons,hm a (hl a List.mem_cons_self),ih (fun x hx=>hl x (List.mem_cons_of_mem _ hx))]
 exact⟨h.ne,h.w,fun e=>by rw[←hh c (Zcd h.w)];exact h.m e,fun u c' n1 n2 n3=>h.le u c' n1 n2 (fun e=>by rw[hh c' (Zcd n2)];exact n3 e)⟩
theorem NoWay.must {D:List HArc} {must must':Int} {need:Bool} (h:NoWay D must need) (hm:∀a∈D,isM must a=isM must' a):NoWay D must' need:=by
 have hh:∀l:List HArc,(∀a∈l,a∈D)→Z1 must l=Z1 must' l:=by
  intro l hl;unfold Z1
  induction l with
  |nil=>rfl
  |cons a l ih=>rw[List.any_cons,List.any_cons,hm a (hl a List.mem_cons_self),ih (fun x hx=>hl x (List.mem_cons_of_mem _ hx))]
 exact fun u c' n1 n2 n3=>h u c' n1 n2 (fun e=>by rw[hh c' (Zcd n2)];exact n3 e)
end
/- Closed walks,plain:the document's search tells the same. -/
section
open Go.RowKit
def Edge.arc (e:Edge):HArc:=⟨e.f,e.t,e.k,e.key⟩
def HArc.edge (a:HArc):Edge:=⟨a.f,a.t,a.kind,a.label⟩
section
variable {l:List Edge} {must lo:Int}
end
end
/- Closed walks,the document's:edges put among others,and those of a mask. -/
section
open Go.RowKit
def Zkq (l:List Edge):List Value:=(l.map Edge.cells).flatten
end
/- Phenomena,plain:who is reached by edges,as the document seeks it. -/
section
inductive RchE (l:List Edge):Int→Int→Prop
 |refl (a:Int):RchE l a a
 |step {a b:Int} {e:Edge}:RchE l a b→e∈l→e.f=b→RchE l a e.t
theorem RchE.trans {l:List Edge} {a b c:Int} (h:RchE l a b) (k:RchE l b c):RchE l a c:=by
 induction k with
 |refl=>exact h
 |step _ h2 h3 ih=>exact ih.step h2 h3
end
end Go.Proofs.YtblplapkdmhikaaGreat
