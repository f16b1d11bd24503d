/- Ways: the digraph that is made of arcs; how far each node is. -/
import Derived.Shelf.Bits.Mul64
import Derived.Ground.NamesProg
import Derived.Shelf.SlGeneric
import Derived.Test.YtonblekdfinpkaaGreatProg
import Derived.Deep.RegionHeld3
import Derived.Test.YtonblekdfinpkaaGreatSxaa
import Derived.Test.YtonblekdfinpkaaGreatSxai
import Derived.Test.YtonblekdfinpkaaGreatSxak
import Derived.Test.YtonblekdfinpkaaGreatSxal
import Derived.Test.YtonblekdfinpkaaGreatSxan
import Derived.Test.YtonblekdfinpkaaGreatSxat
import Derived.Test.YtonblekdfinpkaaGreatSxbe
import Derived.Test.YtonblekdfinpkaaGreatSxbf
import Derived.Test.YtonblekdfinpkaaGreatSxbj
namespace Go.Proofs.YtonblekdfinpkaaGreat
set_option linter.unusedVariables false
set_option linter.unusedSimpArgs false
section
open Go.RowKit
section
variable {w:World} {G:Nat→Prop} {p:Option Addr} {N K:Nat} {q:List HArc}
def Zja (N:Nat) (least node:Int):Bool:=decide (max least 0≤node)&&decide (node<(N:Int))
end
end
/- Ways:how far each node is. -/
section
open Go.RowKit
def ZcU (N:Nat) (d:Int→Int):List Int:=(List.range N).map fun i:Nat=>d (i:Int)
theorem Zhv {N i:Nat} (d:Int→Int) (h:i<N):(ZcU N d)[i]? =some (d (i:Int)):=by
 unfold ZcU;rw[List.getElem?_map,List.getElem?_range h];rfl
theorem Zjf {N u:Nat} (d:Int→Int) (v:Int) (h:u<N):(ZcU N d).set u v=ZcU N (ZaJ d (u:Int) v):=by
 unfold ZcU
 apply List.ext_getElem
 ·simp
 ·intro i h1 h2;rw[List.getElem_set];simp only[List.getElem_map,List.getElem_range];unfold ZaJ
  by_cases e:u=i
  ·subst e;simp
  ·rw[if_neg e,if_neg (by omega)]
def DQ (w:World) (dg qg N:Nat) (d:Int→Int) (qu:List Int) (A:Option Addr) (us:List Int) (W:World):Prop:=
 ∃F F2,Blk W dg 3 ((ZcU N d).map (Value.int .i64))∧Que W F qg (N:Int) qu∧¬F dg∧(∀i,F i→w.heap.size≤i)∧w.heap.size≤dg∧Upd No w W∧Ints F2 W A us∧(∀i,F2 i→¬F i∧i≠dg∧i<W.heap.size)
namespace DQ
variable {w W W':World} {dg qg N:Nat} {d:Int→Int} {qu us:List Int} {A:Option Addr}
theorem no (h:DQ w dg qg N d qu A us W) (k:Upd No W W'):DQ w dg qg N d qu A us W':=by
 obtain⟨F,F2,h1,h2,h3,h4,h5,h6,h7,h8⟩:=h;exact⟨F,F2,h1.upd k id,h2.upd k (fun _ _=>id),h3,h4,h5,h6.trans k,h7.upd k (fun _ _=>id),fun i hi=>⟨(h8 i hi).1,(h8 i hi).2.1,Nat.lt_of_lt_of_le (h8 i hi).2.2 k.size⟩⟩
theorem upd (h:DQ w dg qg N d qu A us W):Upd No w W:=by
 obtain⟨F,F2,h1,h2,h3,h4,h5,h6,h7,h8⟩:=h;exact h6
theorem blk (h:DQ w dg qg N d qu A us W):Blk W dg 3 ((ZcU N d).map (Value.int .i64)):=by
 obtain⟨F,F2,h1,h2,h3,h4,h5,h6,h7,h8⟩:=h;exact h1
theorem sl (h:DQ w dg qg N d qu A us W):∃F2,Ints F2 W A us:=by
 obtain⟨F,F2,h1,h2,h3,h4,h5,h6,h7,h8⟩:=h;exact⟨F2,h7⟩
theorem cell (h:DQ w dg qg N d qu A us W) {i:Nat} (hi:i<N):W.cell? ⟨dg,i,none⟩=some (.int .i64 (d (i:Int))):=by
 rw[h.blk.cell i,List.getElem?_map,Zhv d hi];rfl
theorem free (h:DQ w dg qg N d qu A us W) (i:Nat):W.frozen? ⟨dg,i,none⟩=false:=h.blk.free i
theorem set_ (h:DQ w dg qg N d qu A us W) {u:Nat} (hu:u<N) (v:Int):DQ w dg qg N (ZaJ d (u:Int) v) qu A us (W.setCell ⟨dg,u,none⟩ (.int .i64 v)):=by
 obtain⟨F,F2,h1,h2,h3,h4,h5,h6,h7,h8⟩:=h;have k:=Upd.setOne (Upd.refl (One dg) W) u (.int .i64 v);refine⟨F,F2,?_,h2.upd k (fun i hi e=>h3 (e▸hi)),h3,h4,h5,h6.then_ k fun i e=> .inr (by rw[e];exact h5),h7.upd k (fun i hi e=>(h8 i hi).2.1 e),fun i hi=>⟨(h8 i hi).1,(h8 i hi).2.1,Nat.lt_of_lt_of_le (h8 i hi).2.2 k.size⟩⟩;have:=h1.set_ u (.int .i64 v);rw[←List.map_set,Zjf d v hu]at this;exact this
theorem push (h:DQ w dg qg N d qu A us W) (hN:N≤65536) (hf:qu.length<N) (u:Int):Calls Tryz.prog 228 #[.pointer (some ⟨qg,0,none⟩),.int .i64 u] W fun e w'=>e= .returned (.int .i64 0)∧DQ w dg qg N d (qu++[u]) A us w':=by
 obtain⟨F,F2,h1,h2,h3,h4,h5,h6,h7,h8⟩:=h;refine(Zpo W F qg (N:Int) qu u h2 (by omega) (by omega) (by omega)).mono ?_;rintro e w' ⟨rfl,F',hF',hq,hu⟩;have hs:=h6.size
 have hne:∀i,i<W.heap.size→¬F i→¬F' i:=fun i hi hn e=>by
  rcases hF' i e with e|e
  ·exact hn e
  ·omega
 refine⟨rfl,F',F2,h1.upd hu h3,hq,hne dg h1.lt h3,fun i hi=> ?_,h5,h6.then_ hu fun i e=> .inr (h4 i e),h7.upd hu (fun i hi=>(h8 i hi).1),fun i hi=>⟨hne i (h8 i hi).2.2 (h8 i hi).1,(h8 i hi).2.1,Nat.lt_of_lt_of_le (h8 i hi).2.2 hu.size⟩⟩;rcases hF' i hi with e|e
 ·exact h4 i e
 ·omega
theorem pop {x:Int} (h:DQ w dg qg N d (x::qu) A us W):Calls Tryz.prog 229 #[.pointer (some ⟨qg,0,none⟩)] W fun e w'=>e= .returned (.tuple #[.int .i64 x,.bool true])∧DQ w dg qg N d qu A us w':=by
 obtain⟨F,F2,h1,h2,h3,h4,h5,h6,h7,h8⟩:=h;refine(Zs6 W F qg (N:Int) x qu h2).mono ?_;rintro e w' ⟨rfl,hq,hu⟩;exact⟨rfl,F,F2,h1.upd hu h3,hq,h3,h4,h5,h6.then_ hu fun i e=> .inr (h4 i e),h7.upd hu (fun i hi=>(h8 i hi).1),fun i hi=>⟨(h8 i hi).1,(h8 i hi).2.1,Nat.lt_of_lt_of_le (h8 i hi).2.2 hu.size⟩⟩
end DQ
def Zpp (p:List HArc):Int→List Int:=fun x=>nxA x true p
end
/- Ways:the first of the shortest. -/
section
open Go.RowKit
structure DistOf (N:Nat) (p:List HArc) (least node:Int) (d:Int→Int):Prop where
 lo:∀u,-1≤d u
 hi:∀u,d u<(N:Int)∨d u<0
 inn:∀u,0≤d u→0≤u∧u<(N:Int)
 clo:∀v,0≤d v→∀u∈Zpp p v,least≤u→0≤d u∧d u≤d v+1
 par:∀u,0≤d u→(u=node∧Zja N least node=true)∨∃v,u∈Zpp p v∧least≤u∧0≤d v∧d v+1=d u
 z:∀u,d u=0↔(u=node∧Zja N least node=true)
theorem DistOf.le {N:Nat} {p:List HArc} {least node:Int} {d:Int→Int} (h:DistOf N p least node d) {u:Int} (hu:0≤d u):least≤u:=by
 rcases h.par u hu with ⟨e,hs⟩|⟨v,h1,h2,h3,h4⟩
 ·unfold Zja at hs;rw[Bool.and_eq_true,decide_eq_true_eq]at hs;omega
 ·exact h2
end
/- Ways:how far each node is,by walks with an arc of another mask;plain words on two states of a node. -/
section
open Go.RowKit
def Zcm (N:Nat) (d:Int→Int) (h:Int):List Int:=ZcU N fun i:Int=>d (i*2+h)
theorem Zjg {N u:Nat} (d:Int→Int) {h:Int} (hh:h=0∨h=1) (v:Int) (hu:u<N):(Zcm N d h).set u v=Zcm N (ZaJ d ((u:Int)*2+h) v) h:=by
 unfold Zcm;rw[Zjf _ v hu];unfold ZcU
 apply List.map_congr_left
 intro i hi;unfold ZaJ
 by_cases e:(i:Int)=(u:Int)
 ·rw[if_pos e]
  show v=if (i:Int)*2+h=(u:Int)*2+h then v else d ((i:Int)*2+h)
  rw[if_pos (by omega)]
 ·rw[if_neg e]
  show d ((i:Int)*2+h)=if (i:Int)*2+h=(u:Int)*2+h then v else d ((i:Int)*2+h)
  rw[if_neg (by omega)]
theorem ZgH {N:Nat} (d:Int→Int) {u h k:Int} (hh:h=0∨h=1) (hk:k=0∨k=1) (hne:h≠k) (v:Int):Zcm N (ZaJ d (u*2+h) v) k=Zcm N d k:=by
 unfold Zcm ZcU
 apply List.map_congr_left
 intro i hi;unfold ZaJ
 show(if (i:Int)*2+k=u*2+h then v else d ((i:Int)*2+k))=d ((i:Int)*2+k)
 rw[if_neg (by omega)]
end
/- Closed walks,plain:what distances say of walks. -/
section
open Go.RowKit
section
variable {α:Type}
end
def okW (p:List HArc) (least:Int):Int→List HArc→Int→Prop
 |u,[],v=>u=v
 |u,a::l,v=>a∈p∧a.f=u∧least≤u∧okW p least a.t l v
theorem Zcr {p:List HArc} {least:Int}:∀{l m:List HArc} {u x v:Int},okW p least u l x→okW p least x m v→okW p least u (l++m) v
 |[],m,u,x,v,h,k=>by
  have:u=x:=h;subst this;exact k
 |a::l,m,u,x,v,h,k=>⟨h.1,h.2.1,h.2.2.1,Zcr h.2.2.2 k⟩
theorem Ze0 {p:List HArc} {least:Int}:∀{l m:List HArc} {u v:Int},okW p least u (l++m) v→∃x,okW p least u l x∧okW p least x m v
 |[],m,u,v,h=>⟨u,rfl,h⟩
 |a::l,m,u,v,h=>by
  obtain⟨x,h1,h2⟩:=Ze0 (l:=l) h.2.2.2;exact⟨x,⟨h.1,h.2.1,h.2.2.1,h1⟩,h2⟩
theorem Zeu {p p':List HArc} {least least':Int} (hp:∀a∈p,a∈p') (hl:least'≤least):∀{l:List HArc} {u v:Int},okW p least u l v→okW p' least' u l v
 |[],u,v,h=>h
 |a::l,u,v,h=>⟨hp a h.1,h.2.1,Int.le_trans hl h.2.2.1,Zeu hp hl h.2.2.2⟩
/-! masks -/
theorem ZhW (x:Int) (j:Nat) (hj:j=1∨j=2∨j=3):ZS x (j:Int)=(BitVec.ofInt 64 x).toNat.testBit j:=by
 unfold ZS;rw[Nat.testBit_eq_decide_div_mod_eq,BitVec.toNat_ofInt,decide_eq_decide];rcases hj with rfl|rfl|rfl
 ·show(x/2)%2=1↔(x%18446744073709551616).toNat/2%2=1
  omega
 ·show(x/4)%2=1↔(x%18446744073709551616).toNat/4%2=1
  omega
 ·show(x/8)%2=1↔(x%18446744073709551616).toNat/8%2=1
  omega
theorem wrap64 (n:Nat) (h:n<18446744073709551616):IntKind.i64.wrap (n:Int)=(n:Int)∨IntKind.i64.wrap (n:Int)=(n:Int)-18446744073709551616:=by
 unfold IntKind.wrap;simp[IntKind.signed,IntKind.bits];omega
theorem ZnK (n:Nat) (h:n<18446744073709551616) (j:Nat) (hj:j=1∨j=2∨j=3):ZS (IntKind.i64.wrap (n:Int)) (j:Int)=n.testBit j:=by
 rw[ZhW _ j hj]
 congr 1
 rw[BitVec.toNat_ofInt];rcases wrap64 n h with e|e<;>rw[e]<;>omega
theorem Zo8 (x y:Int) (j:Nat) (hj:j=1∨j=2∨j=3):ZS (bits .and .i64 x y) (j:Int)=(ZS x (j:Int)&&ZS y (j:Int)):=by
 rw[ZhW x j hj,ZhW y j hj];have e:bits .and .i64 x y=IntKind.i64.wrap (((BitVec.ofInt 64 x &&& BitVec.ofInt 64 y).toNat:Nat):Int):=rfl;rw[e,ZnK _ (BitVec.isLt _) j hj,BitVec.toNat_and,Nat.testBit_and]
def isM (must:Int) (a:HArc):Bool:=ZS must a.kind
def Zaz (must:Int) (l:List HArc):Bool:=l.any (isM must)
end
/- Closed walks,plain:the shortest from a node,and the first of these. -/
section
open Go.RowKit
theorem ZcK (must:Int) (l m:List HArc):Zaz must (l++m)=(Zaz must l||Zaz must m):=by
 unfold Zaz;rw[List.any_append]
section
variable {p:List HArc} {must i:Int} {da dw:Int→Int}
end
section
variable {p:List HArc} {must i:Int} {da dw:Int→Int}
end
def ZlJ:List HArc→List HArc→Prop
 |a::l,b::m=>ZbR a b=true∨(a=b∧ZlJ l m)
 |_,_=>False
end
/- Closed walks,plain:the shortest of all;it meets no node twice. -/
section
open Go.RowKit
theorem ZjB {p:List HArc} {least:Int}:∀{l:List HArc} {u v:Int} {a:HArc},okW p least u l v→a∈l→∃l1 l2,l=l1++a::l2∧okW p least u l1 a.f∧okW p least a.f (a::l2) v
 |[],u,v,a,h,ha=>by cases ha
 |b::l,u,v,a,h,ha=>by
  rcases List.mem_cons.1 ha with rfl|ha
  ·exact⟨[],l,rfl,h.2.1.symm,by rw[h.2.1];exact h⟩
  ·obtain⟨l1,l2,e,h1,h2⟩:=ZjB h.2.2.2 ha;exact⟨b::l1,l2,by rw[e];rfl,⟨h.1,h.2.1,h.2.2.1,h1⟩,h2⟩
theorem Zdg {p:List HArc} {least:Int}:∀{l:List HArc} {u v:Int},okW p least u l v→∀a∈l,a∈p
 |[],_,_,_,a,ha=>by cases ha
 |b::l,u,v,h,a,ha=>by
  rcases List.mem_cons.1 ha with rfl|ha
  ·exact h.1
  ·exact Zdg h.2.2.2 a ha
theorem Zif {p:List HArc} {least least':Int}:∀{l:List HArc} {u v:Int},okW p least u l v→(∀a∈l,least'≤a.f)→okW p least' u l v
 |[],_,_,h,_=>h
 |b::l,u,v,h,hl=>⟨h.1,h.2.1,by have:=hl b List.mem_cons_self;have:=h.2.1;omega,Zif h.2.2.2 (fun a ha=>hl a (List.mem_cons_of_mem _ ha))⟩
theorem Zfb:∀{l:List HArc},l≠[]→∃a∈l,∀b∈l,a.f≤b.f
 |[],h=>absurd rfl h
 |[a],_=>⟨a,List.mem_singleton.2 rfl,fun b hb=>by rw[List.mem_singleton]at hb;rw[hb];exact Int.le_refl _⟩
 |a::c::l,_=>by
  obtain⟨m,hm,hl⟩:=Zfb (l:=c::l) (by simp)
  by_cases h:a.f≤m.f
  ·refine⟨a,List.mem_cons_self,fun b hb=> ?_⟩;rcases List.mem_cons.1 hb with rfl|hb
   ·exact Int.le_refl _
   ·have:=hl b hb;omega
  ·refine⟨m,List.mem_cons_of_mem _ hm,fun b hb=> ?_⟩;rcases List.mem_cons.1 hb with rfl|hb
   ·omega
   ·exact hl b hb
theorem Zkt {p:List HArc} {must least u:Int} {c:List HArc} (h:okW p least u c u) (hc:c≠[]):∃v c',c'≠[]∧okW p v v c' v∧c'.length=c.length∧Zaz must c'=Zaz must c∧∃a∈c,v=a.f:=by
 obtain⟨a,ha,hmin⟩:=Zfb hc;obtain⟨l1,l2,e,h1,h2⟩:=ZjB h ha;subst e;refine⟨a.f,(a::l2)++l1,by simp,?_,by simp only[List.length_append,List.length_cons];omega,by rw[ZcK,ZcK,Bool.or_comm],a,ha,rfl⟩;refine Zif (Zcr h2 h1) fun b hb=>hmin b ?_
 rcases List.mem_append.1 hb with hb|hb
 ·exact List.mem_append_right _ hb
 ·exact List.mem_append_left _ hb
theorem Zlz {c:List HArc} (h:∀l1 a l2 b l3,c=l1++a::(l2++b::l3)→a.f≠b.f):c.Pairwise fun a b=>a.f≠b.f:=by
 induction c with
 |nil=>exact List.Pairwise.nil
 |cons a l ih=>
  refine List.pairwise_cons.2 ⟨fun b hb=> ?_,ih fun l1 x l2 y l3 e=>h (a::l1) x l2 y l3 (by rw[e];rfl)⟩;obtain⟨l2,l3,e⟩:=List.append_of_mem hb;exact h [] a l2 b l3 (by rw[e];rfl)
theorem Zll {p:List HArc} {must i:Int} {need:Bool} {c:List HArc} (hw:okW p i i c i) (hm:need=true→Zaz must c=true)
  (hown:∀c',c'≠[]→okW p i i c' i→(need=true→Zaz must c'=true)→c.length≤c'.length)
  (hall:∀v c',c'≠[]→okW p v v c' v→(need=true→Zaz must c'=true)→c.length≤c'.length):c.Pairwise fun a b=>a.f≠b.f:=by
 refine Zlz fun l1 a l2 b l3 e hab=> ?_
 subst e;obtain⟨x,h1,h2⟩:=Ze0 hw;have ha:x=a.f:=h2.2.1.symm;subst ha;have h3:okW p i a.f ((a::l2)++b::l3) i:=h2;obtain⟨y,h4,h5⟩:=Ze0 h3;have hb:y=b.f:=h5.2.1.symm;subst hb;have hR:okW p i i (l1++b::l3) i:=Zcr (by rw[←hab];exact h1) h5
 have hS:okW p i b.f (a::l2) b.f:=by
  have:=h4;rw[hab]at this;exact this
 have hlen:(l1++b::l3).length<(l1++a::(l2++b::l3)).length∧(a::l2).length<(l1++a::(l2++b::l3)).length:=by
  simp only[List.length_append,List.length_cons];omega
 by_cases hq:need=true→Zaz must (l1++b::l3)=true
 ·have:=hown _ (by simp) hR hq;omega
 ·have hn:need=true:=Classical.byContradiction fun h=>hq (fun e=>absurd e h)
  have hr:Zaz must (l1++b::l3)=false:=by
   have:¬Zaz must (l1++b::l3)=true:=fun e=>hq (fun _=>e)
   simpa using this
  have hmm:=hm hn;rw[ZcK]at hmm hr;have e1:a::(l2++b::l3)=(a::l2)++b::l3:=rfl;rw[e1,ZcK]at hmm;rw[Bool.or_eq_false_iff]at hr;rw[hr.1,hr.2,Bool.false_or,Bool.or_false]at hmm;obtain⟨v,c',k1,k2,k3,k4,_⟩:=Zkt (must:=must) hS (by simp);have:=hall v c' k1 k2 (fun _=>by rw[k4];exact hmm);omega
end
/- Ways:how far each node is,by walks with an arc of another mask. -/
section
open Go.RowKit
def DQ2 (w:World) (ab g0 g1 qg N:Nat) (d:Int→Int) (qu:List Int) (A:Option Addr) (us:List Int) (W:World):Prop:=
 ∃F F2,Blk W ab 299 [.slice (some ⟨g0,0,none⟩) N N,.slice (some ⟨g1,0,none⟩) N N]∧Blk W g0 3 ((Zcm N d 0).map (Value.int .i64))∧Blk W g1 3 ((Zcm N d 1).map (Value.int .i64))∧
  Que W F qg ((2*N:Nat):Int) qu∧(¬F ab∧¬F g0∧¬F g1)∧(ab≠g0∧ab≠g1∧g0≠g1)∧(∀i,F i→w.heap.size≤i)∧(w.heap.size≤ab∧w.heap.size≤g0∧w.heap.size≤g1)∧Upd No w W∧Ints F2 W A us∧
  (∀i,F2 i→¬F i∧(i≠ab∧i≠g0∧i≠g1)∧i<W.heap.size)
def gOf (g0 g1:Nat) (h:Nat):Nat:=if h=0 then g0 else g1
namespace DQ2
variable {w W W':World} {ab g0 g1 qg N:Nat} {d:Int→Int} {qu us:List Int} {A:Option Addr}
theorem no (h:DQ2 w ab g0 g1 qg N d qu A us W) (k:Upd No W W'):DQ2 w ab g0 g1 qg N d qu A us W':=by
 obtain⟨F,F2,a1,a2,a3,h2,h3,h9,h4,h5,h6,h7,h8⟩:=h;exact⟨F,F2,a1.upd k id,a2.upd k id,a3.upd k id,h2.upd k (fun _ _=>id),h3,h9,h4,h5,h6.trans k,h7.upd k (fun _ _=>id),fun i hi=>⟨(h8 i hi).1,(h8 i hi).2.1,Nat.lt_of_lt_of_le (h8 i hi).2.2 k.size⟩⟩
theorem upd (h:DQ2 w ab g0 g1 qg N d qu A us W):Upd No w W:=by
 obtain⟨F,F2,a1,a2,a3,h2,h3,h9,h4,h5,h6,h7,h8⟩:=h;exact h6
theorem arr (h:DQ2 w ab g0 g1 qg N d qu A us W) {k:Nat} (hk:k≤1):W.cell? ⟨ab,k,none⟩=some (.slice (some ⟨gOf g0 g1 k,0,none⟩) N N):=by
 obtain⟨F,F2,a1,a2,a3,h2,h3,h9,h4,h5,h6,h7,h8⟩:=h;have hk:k=0∨k=1:=by omega
 rcases hk with rfl|rfl
 ·exact a1.cell 0
 ·exact a1.cell 1
theorem sl (h:DQ2 w ab g0 g1 qg N d qu A us W):∃F2,Ints F2 W A us:=by
 obtain⟨F,F2,a1,a2,a3,h2,h3,h9,h4,h5,h6,h7,h8⟩:=h;exact⟨F2,h7⟩
theorem cell (h:DQ2 w ab g0 g1 qg N d qu A us W) {i k:Nat} (hk:k≤1) (hi:i<N):W.cell? ⟨gOf g0 g1 k,i,none⟩=some (.int .i64 (d ((i:Int)*2+(k:Int)))):=by
 obtain⟨F,F2,a1,a2,a3,h2,h3,h9,h4,h5,h6,h7,h8⟩:=h;have hk:k=0∨k=1:=by omega
 rcases hk with rfl|rfl
 ·show W.cell? ⟨g0,i,none⟩=_
  rw[a2.cell i,List.getElem?_map];unfold Zcm;rw[Zhv _ hi];rfl
 ·show W.cell? ⟨g1,i,none⟩=_
  rw[a3.cell i,List.getElem?_map];unfold Zcm;rw[Zhv _ hi];rfl
theorem free (h:DQ2 w ab g0 g1 qg N d qu A us W) {k:Nat} (hk:k≤1) (i:Nat):W.frozen? ⟨gOf g0 g1 k,i,none⟩=false:=by
 obtain⟨F,F2,a1,a2,a3,h2,h3,h9,h4,h5,h6,h7,h8⟩:=h;have hk:k=0∨k=1:=by omega
 rcases hk with rfl|rfl
 ·exact a2.free i
 ·exact a3.free i
theorem set_ (h:DQ2 w ab g0 g1 qg N d qu A us W) {k u:Nat} (hk:k≤1) (hu:u<N) (v:Int):DQ2 w ab g0 g1 qg N (ZaJ d ((u:Int)*2+(k:Int)) v) qu A us (W.setCell ⟨gOf g0 g1 k,u,none⟩ (.int .i64 v)):=by
 obtain⟨F,F2,a1,a2,a3,h2,h3,h9,h4,h5,h6,h7,h8⟩:=h;have hk:k=0∨k=1:=by omega
 rcases hk with rfl|rfl
 ·show DQ2 w ab g0 g1 qg N _ qu A us (W.setCell ⟨g0,u,none⟩ (.int .i64 v))
  have k:=Upd.setOne (Upd.refl (One g0) W) u (.int .i64 v);refine⟨F,F2,a1.upd k (fun e=>h9.1 e),?_,?_,h2.upd k (fun i hi e=>h3.2.1 (e▸hi)),h3,h9,h4,h5,h6.then_ k fun i e=> .inr (by rw[e];exact h5.2.1),h7.upd k (fun i hi e=>(h8 i hi).2.1.2.1 e),fun i hi=>⟨(h8 i hi).1,(h8 i hi).2.1,Nat.lt_of_lt_of_le (h8 i hi).2.2 k.size⟩⟩
  ·have:=a2.set_ u (.int .i64 v);rw[←List.map_set,Zjg d (.inl rfl) v hu]at this;exact this
  ·have e:Zcm N (ZaJ d ((u:Int)*2+((0:Nat):Int)) v) 1=Zcm N d 1:=ZgH d (.inl rfl) (.inr rfl) (by decide) v;rw[e];exact a3.upd k (fun e=>h9.2.2 e.symm)
 ·show DQ2 w ab g0 g1 qg N _ qu A us (W.setCell ⟨g1,u,none⟩ (.int .i64 v))
  have k:=Upd.setOne (Upd.refl (One g1) W) u (.int .i64 v);refine⟨F,F2,a1.upd k (fun e=>h9.2.1 e),?_,?_,h2.upd k (fun i hi e=>h3.2.2 (e▸hi)),h3,h9,h4,h5,h6.then_ k fun i e=> .inr (by rw[e];exact h5.2.2),h7.upd k (fun i hi e=>(h8 i hi).2.1.2.2 e),fun i hi=>⟨(h8 i hi).1,(h8 i hi).2.1,Nat.lt_of_lt_of_le (h8 i hi).2.2 k.size⟩⟩
  ·have e:Zcm N (ZaJ d ((u:Int)*2+((1:Nat):Int)) v) 0=Zcm N d 0:=ZgH d (.inr rfl) (.inl rfl) (by decide) v;rw[e];exact a2.upd k (fun e=>h9.2.2 e)
  ·have:=a3.set_ u (.int .i64 v);rw[←List.map_set,Zjg d (.inr rfl) v hu]at this;exact this
theorem push (h:DQ2 w ab g0 g1 qg N d qu A us W) (hN:N≤32768) (hf:qu.length<2*N) (u:Int):Calls Tryz.prog 228 #[.pointer (some ⟨qg,0,none⟩),.int .i64 u] W fun e w'=>e= .returned (.int .i64 0)∧DQ2 w ab g0 g1 qg N d (qu++[u]) A us w':=by
 obtain⟨F,F2,a1,a2,a3,h2,h3,h9,h4,h5,h6,h7,h8⟩:=h;refine(Zpo W F qg ((2*N:Nat):Int) qu u h2 (by omega) (by omega) (by omega)).mono ?_;rintro e w' ⟨rfl,F',hF',hq,hu⟩;have hs:=h6.size
 have hne:∀i,i<W.heap.size→¬F i→¬F' i:=fun i hi hn e=>by
  rcases hF' i e with e|e
  ·exact hn e
  ·omega
 refine⟨rfl,F',F2,a1.upd hu h3.1,a2.upd hu h3.2.1,a3.upd hu h3.2.2,hq,⟨hne ab a1.lt h3.1,hne g0 a2.lt h3.2.1,hne g1 a3.lt h3.2.2⟩,h9,fun i hi=> ?_,h5,h6.then_ hu fun i e=> .inr (h4 i e),h7.upd hu (fun i hi=>(h8 i hi).1),fun i hi=>⟨hne i (h8 i hi).2.2 (h8 i hi).1,(h8 i hi).2.1,Nat.lt_of_lt_of_le (h8 i hi).2.2 hu.size⟩⟩;rcases hF' i hi with e|e
 ·exact h4 i e
 ·omega
end DQ2
end
/- Closed walks:what is left Z3 an arc. -/
section
open Go.RowKit
structure LoopI (w:World) (A B:Option Addr) (N:Nat) (da dw:Int→Int):Prop where
 a:Ints (fun _=>True) w A (ZcU N da)
 b:Ints (fun _=>True) w B (ZcU N dw)
theorem LoopI.upd {w w':World} {A B:Option Addr} {N:Nat} {da dw:Int→Int} (h:LoopI w A B N da dw) (hu:Upd No w w'):LoopI w' A B N da dw:=⟨h.a.upd hu (fun _ _=>id),h.b.upd hu (fun _ _=>id)⟩
end
/- Closed walks,plain:ids and their ranks;what the first of the shortest is. -/
section
open Go.RowKit
def rk:List Int→Int→Int
 |[],_=>0
 |a::s,x=>if a<x then rk s x+1 else 0
theorem ZgJ:∀(s:List Int) (x:Int),0≤rk s x∧rk s x≤(s.length:Int)
 |[],x=>by simp[rk]
 |a::s,x=>by
  have:=ZgJ s x;unfold rk;simp only[List.length_cons]
  split<;>omega
theorem ZkF:∀{s:List Int} {x:Int},(∀y∈s,x≤y)→rk s x=0
 |[],_,_=>rfl
 |a::s,x,h=>by
  unfold rk;rw[if_neg (by have:=h a List.mem_cons_self;omega)]
theorem ZfE:∀{s:List Int} {x y:Int},s.Pairwise (·<·)→x∈s→x<y→rk s x<rk s y
 |[],x,y,_,h,_=>by cases h
 |a::s,x,y,hs,h,hxy=>by
  rw[List.pairwise_cons]at hs;rcases List.mem_cons.1 h with rfl|h
  ·have e1:rk (x::s) x=0:=ZkF fun z hz=>by
    rcases List.mem_cons.1 hz with rfl|hz
    ·exact Int.le_refl _
    ·exact Int.le_of_lt (hs.1 z hz)
   rw[e1];unfold rk;rw[if_pos hxy];have:=ZgJ s y;omega
  ·have h1:=hs.1 x h;have h2:=ZfE hs.2 h hxy;unfold rk;rw[if_pos h1,if_pos (by omega)];omega
theorem Zr0 {s:List Int} {x y:Int} (hs:s.Pairwise (·<·)) (hx:x∈s) (h:x≤y):rk s x≤rk s y:=by
 rcases Classical.em (x=y)with rfl|e
 ·exact Int.le_refl _
 ·have:=ZfE hs hx (show x<y by omega);omega
theorem Zd8:∀{s:List Int} {x:Int},s.Pairwise (·<·)→x∈s→rk s x<(s.length:Int)∧s.getD (rk s x).toNat 0=x
 |[],x,_,h=>by cases h
 |a::s,x,hs,h=>by
  rw[List.pairwise_cons]at hs;rcases List.mem_cons.1 h with rfl|h
  ·have e1:rk (x::s) x=0:=ZkF fun z hz=>by
    rcases List.mem_cons.1 hz with rfl|hz
    ·exact Int.le_refl _
    ·exact Int.le_of_lt (hs.1 z hz)
   rw[e1];simp
  ·have h1:=hs.1 x h;have h2:=Zd8 hs.2 h;have h3:=ZgJ s x;unfold rk;rw[if_pos h1];refine⟨by simp only[List.length_cons];omega,?_⟩;rw[show(rk s x+1).toNat=(rk s x).toNat+1 by omega,List.getD_cons_succ];exact h2.2
theorem ZjV {s:List Int} {i:Int} (h0:0≤i) (h1:i<(s.length:Int)):s.getD i.toNat 0∈s:=by
 rw[List.getD_eq_getElem?_getD,Qg (show i.toNat<s.length by omega)];exact List.getElem_mem _
theorem ZkG {s:List Int} {i:Int} (hs:s.Pairwise (·<·)) (h0:0≤i) (h1:i<(s.length:Int)):rk s (s.getD i.toNat 0)=i:=by
 have hm:=ZjV h0 h1;have h2:=Zd8 hs hm;have h3:=ZgJ s (s.getD i.toNat 0);have hp:=List.pairwise_iff_getElem.1 hs;rw[List.getD_eq_getElem?_getD,List.getD_eq_getElem?_getD]at h2;rw[List.getD_eq_getElem?_getD]at h3 ⊢;have hi:i.toNat<s.length:=by omega
 rw[Qg hi]at h2 h3 ⊢;simp only[Option.getD_some]at h2 h3 ⊢;have hj:(rk s s[i.toNat]).toNat<s.length:=by omega
 rw[Qg hj]at h2;simp only[Option.getD_some]at h2;rcases Nat.lt_trichotomy (rk s s[i.toNat]).toNat i.toNat with e|e|e
 ·have:=hp _ _ hj hi e;omega
 ·omega
 ·have:=hp _ _ hi hj e;omega
theorem Zqr {s:List Int} {i j:Int} (hs:s.Pairwise (·<·)) (h0:0≤i) (h1:j<(s.length:Int)) (h:i≤j):s.getD i.toNat 0≤s.getD j.toNat 0:=by
 rcases Classical.em (i=j)with rfl|e
 ·exact Int.le_refl _
 ·refine Classical.byContradiction fun hc=> ?_
  have:=ZfE hs (ZjV (s:=s) (i:=j) (by omega) h1) (show s.getD j.toNat 0<s.getD i.toNat 0 by omega);rw[ZkG hs h0 (by omega),ZkG hs (by omega) h1]at this;omega
def toR (ids keys:List Int) (a:HArc):HArc:=⟨rk ids a.f,rk ids a.t,a.kind,rk keys a.label⟩
def unR (ids keys:List Int) (a:HArc):HArc:=⟨ids.getD a.f.toNat 0,ids.getD a.t.toNat 0,a.kind,keys.getD a.label.toNat 0⟩
structure Rk (D:List HArc) (ids keys:List Int) (q:List HArc):Prop where
 si:ids.Pairwise (·<·)
 sk:keys.Pairwise (·<·)
 mi:∀a∈D,a.f∈ids∧a.t∈ids
 ml:∀a∈D,a.label∈keys
 mq:∀b,b∈q↔∃a∈D,b=toR ids keys a
section
variable {D:List HArc} {ids keys:List Int} {q:List HArc}
theorem Rk.un (h:Rk D ids keys q) {a:HArc} (ha:a∈D):unR ids keys (toR ids keys a)=a:=by
 obtain⟨h1,h2⟩:=h.mi a ha;have h3:=h.ml a ha;obtain⟨af,at',ak,al⟩:=a;simp only at h1 h2 h3;unfold unR toR;simp only[(Zd8 h.si h1).2,(Zd8 h.si h2).2,(Zd8 h.sk h3).2]
theorem Rk.to (h:Rk D ids keys q) {b:HArc} (hb:b∈q):unR ids keys b∈D∧toR ids keys (unR ids keys b)=b:=by
 obtain⟨a,ha,rfl⟩:=(h.mq b).1 hb;rw[h.un ha];exact⟨ha,rfl⟩
theorem Rk.less (h:Rk D ids keys q) {a b:HArc} (ha:a∈D) (hb:b∈D):ZbR a b=true→ZbR (toR ids keys a) (toR ids keys b)=true:=by
 have a1:=h.mi a ha;have b1:=h.mi b hb;have a2:=h.ml a ha;have b2:=h.ml b hb;rw[ZcS,ZcS];unfold toR;simp only;rintro(e|⟨e1,e|⟨e2,e|⟨e3,e⟩⟩⟩)
 ·exact .inl (ZfE h.si a1.1 e)
 ·exact .inr ⟨by rw[e1],.inl e⟩
 ·exact .inr ⟨by rw[e1],.inr ⟨e2,.inl (ZfE h.sk a2 e)⟩⟩
 ·exact .inr ⟨by rw[e1],.inr ⟨e2,.inr ⟨by rw[e3],ZfE h.si a1.2 e⟩⟩⟩
theorem Rk.up (h:Rk D ids keys q) {least v:Int} (hl:least∈ids):∀{l:List HArc} {u:Int},okW D least u l v→u∈ids→okW q (rk ids least) (rk ids u) (l.map (toR ids keys)) (rk ids v)
 |[],u,hw,_=>by
  have hw:u=v:=hw;rw[hw];exact rfl
 |a::l,u,hw,hu=>by
  obtain⟨ha,haf,hlu,hw⟩:=hw;exact⟨(h.mq _).2 ⟨a,ha,rfl⟩,by unfold toR;simp only;rw[haf],Zr0 h.si hl hlu,h.up hl hw (h.mi a ha).2⟩
theorem Rk.down (h:Rk D ids keys q) {i k:Int} (hi:0≤i):∀{l:List HArc} {j:Int},okW q i j l k→0≤j→j<(ids.length:Int)→okW D (ids.getD i.toNat 0) (ids.getD j.toNat 0) (l.map (unR ids keys)) (ids.getD k.toNat 0)
 |[],j,hw,_,_=>by
  have hw:j=k:=hw;rw[hw];exact rfl
 |a::l,j,hw,h0,h1=>by
  obtain⟨ha,haf,hij,hw⟩:=hw;have ha':=h.to ha;obtain⟨b,hb,e⟩:=(h.mq a).1 ha;have ht:a.t=rk ids b.t:=by rw[e];rfl
  have h2:=ZgJ ids b.t;have h3:=Zd8 h.si (h.mi b hb).2;refine⟨ha'.1,by show ids.getD a.f.toNat 0=_;rw[haf],Zqr h.si hi h1 hij,?_⟩;exact h.down hi hw (by omega) (by omega)
end
theorem ZoR {f:HArc→HArc} (hf:∀a,(f a).kind=a.kind) (must:Int) (l:List HArc):Zaz must (l.map f)=Zaz must l:=by
 unfold Zaz;rw[List.any_map]
 congr 1
 funext a
 show isM must (f a)=isM must a
 unfold isM;rw[hf]
structure Short (D:List HArc) (must:Int) (need:Bool) (v:Int) (c:List HArc):Prop where
 ne:c≠[]
 w:okW D v v c v
 m:need=true→Zaz must c=true
 le:∀u c',c'≠[]→okW D u u c' u→(need=true→Zaz must c'=true)→c.length≤c'.length∧(c.length=c'.length→v≤u∧(v=u→c'=c∨ZlJ c c'))
def NoWay (D:List HArc) (must:Int) (need:Bool):Prop:=∀u c',c'≠[]→okW D u u c' u→(need=true→Zaz must c'=true)→False
theorem ZjO:∀{l m:List HArc},ZlJ l m→ZlJ m l→False
 |[],m,h,_=>by cases m<;>exact h.elim
 |a::l,[],h,_=>h.elim
 |a::l,b::m,h,k=>by
  rcases h with h|⟨e,h⟩
  ·rcases k with k|⟨e,k⟩
   ·exact Zfa a (Zf5 a b a h k)
   ·rw[e]at h;exact Zfa a h
  ·rcases k with k|⟨e2,k⟩
   ·rw[e]at k;exact Zfa b k
   ·exact ZjO h k
theorem Short.same {D:List HArc} {must:Int} {need:Bool} {v u:Int} {c d:List HArc} (h:Short D must need v c) (k:Short D must need u d):v=u∧c=d:=by
 have h1:=h.le u d k.ne k.w k.m;have k1:=k.le v c h.ne h.w h.m;have hl:c.length=d.length:=by omega
 have h2:=h1.2 hl;have k2:=k1.2 hl.symm;have hv:v=u:=by omega
 refine⟨hv,?_⟩;rcases h2.2 hv with e|e
 ·exact e.symm
 ·rcases k2.2 hv.symm with e2|e2
  ·exact e2
  ·exact(ZjO e e2).elim
theorem Short.some {D:List HArc} {must:Int} {need:Bool} {v:Int} {c:List HArc} (h:Short D must need v c) (k:NoWay D must need):False:=k v c h.ne h.w h.m
theorem Short.simple {D:List HArc} {must:Int} {need:Bool} {v:Int} {c:List HArc} (h:Short D must need v c):c.Pairwise fun a b=>a.f≠b.f:=
 Zll h.w h.m (fun c' h1 h2 h3=>(h.le v c' h1 h2 h3).1) (fun u c' h1 h2 h3=>(h.le u c' h1 h2 h3).1)
theorem Rk.none {D:List HArc} {ids keys:List Int} {q:List HArc} (h:Rk D ids keys q) {must:Int} {need:Bool} (k:NoWay q must need):NoWay D must need:=by
 intro u c' n1 n2 n3
 have hu:u∈ids:=by
  cases c' with
  |nil=>exact absurd rfl n1
  |cons a l=>rw[←n2.2.1];exact(h.mi a n2.1).1
 exact k (rk ids u) (c'.map (toR ids keys)) (by simpa using n1) (h.up hu n2 hu) (fun e=>by rw[ZoR (f:=toR ids keys) (fun _=>rfl)];exact n3 e)
theorem Short.more {D D':List HArc} {must:Int} {need:Bool} {v u:Int} {c d:List HArc} (h:Short D must need v c) (hD:∀a∈D,a∈D') (k:Short D' must need u d):d.length≤c.length:=
 (k.le v c h.ne (Zeu hD (Int.le_refl _) h.w) h.m).1
theorem ZgT {p p':List HArc} {least:Int}:∀{l:List HArc} {u v:Int},okW p least u l v→(∀a∈l,a∈p')→okW p' least u l v
 |[],u,v,h,_=>h
 |a::l,u,v,h,hp=>⟨hp a List.mem_cons_self,h.2.1,h.2.2.1,ZgT h.2.2.2 (fun x hx=>hp x (List.mem_cons_of_mem _ hx))⟩
theorem Short.less {D D':List HArc} {must:Int} {need:Bool} {v:Int} {c:List HArc} (h:Short D must need v c) (hD:∀a∈D',a∈D) (hc:∀a∈c,a∈D'):Short D' must need v c:=
 ⟨h.ne,ZgT h.w hc,h.m,fun u c' n1 n2 n3=>h.le u c' n1 (Zeu hD (Int.le_refl _) n2) n3⟩
theorem Short.must {D:List HArc} {must must':Int} {need:Bool} {v:Int} {c:List HArc} (h:Short D must need v c) (hm:∀a∈D,isM must a=isM must' a):Short D must' need v c:=by
 have hh:∀l:List HArc,(∀a∈l,a∈D)→Zaz must l=Zaz must' l:=by
  intro l hl;unfold Zaz
  induction l with
  |nil=>rfl
  |cons a l ih=>rw[List.any_cons,List.any_cons,hm a (hl a List.mem_cons_self),ih (fun x hx=>hl x (List.mem_cons_of_mem _ hx))]
 exact⟨h.ne,h.w,fun e=>by rw[←hh c (Zdg h.w)];exact h.m e,fun u c' n1 n2 n3=>h.le u c' n1 n2 (fun e=>by rw[hh c' (Zdg n2)];exact n3 e)⟩
theorem NoWay.must {D:List HArc} {must must':Int} {need:Bool} (h:NoWay D must need) (hm:∀a∈D,isM must a=isM must' a):NoWay D must' need:=by
 have hh:∀l:List HArc,(∀a∈l,a∈D)→Zaz must l=Zaz must' l:=by
  intro l hl;unfold Zaz
  induction l with
  |nil=>rfl
  |cons a l ih=>rw[List.any_cons,List.any_cons,hm a (hl a List.mem_cons_self),ih (fun x hx=>hl x (List.mem_cons_of_mem _ hx))]
 exact fun u c' n1 n2 n3=>h u c' n1 n2 (fun e=>by rw[hh c' (Zdg n2)];exact n3 e)
end
/- Closed walks,plain:the document's search tells the same. -/
section
open Go.RowKit
def ZJ (mask k:Int):Bool:=decide (1≤k)&&(decide (k≤3)&&ZS mask k)
def Edge.arc (e:Edge):HArc:=⟨e.f,e.t,e.k,e.key⟩
def HArc.edge (a:HArc):Edge:=⟨a.f,a.t,a.kind,a.label⟩
section
variable {l:List Edge} {must lo:Int}
end
end
/- Closed walks,the document's:edges put among others,and those of a mask. -/
section
open Go.RowKit
def Zrv (l:List Edge):List Value:=(l.map Edge.cells).flatten
end
/- Phenomena,plain:who is reached by edges,as the document seeks it. -/
section
inductive RchE (l:List Edge):Int→Int→Prop
 |refl (a:Int):RchE l a a
 |step {a b:Int} {e:Edge}:RchE l a b→e∈l→e.f=b→RchE l a e.t
theorem RchE.trans {l:List Edge} {a b c:Int} (h:RchE l a b) (k:RchE l b c):RchE l a c:=by
 induction k with
 |refl=>exact h
 |step _ h2 h3 ih=>exact ih.step h2 h3
def Zbe:List Int→List Edge→List Int
 |out,[]=>out
 |out,e::m=>Zbe (if e.f∈out∧e.t∉out then out++[e.t] else out) m
def itE (l:List Edge):Nat→List Int→List Int
 |0,out=>out
 |n+1,out=>itE l n (Zbe out l)
def Zdu (l:List Edge) (a:Int):List Int:=itE l (l.length+1) [a]
theorem Zjj:∀(l:List Edge) (out:List Int),∀x∈out,x∈Zbe out l
 |[],_,_,h=>h
 |e::l,out,x,h=>by
  unfold Zbe
  apply Zjj
  split
  ·exact List.mem_append_left _ h
  ·exact h
theorem Zgc:∀(l:List Edge) (out:List Int),out.length≤(Zbe out l).length∧((Zbe out l).length=out.length→Zbe out l=out∧∀e∈l,e.f∈out→e.t∈out)
 |[],out=>⟨Nat.le_refl _,fun _=>⟨rfl,by simp⟩⟩
 |e::l,out=>by
  unfold Zbe
  split
  ·rename_i h
   have h1:=(Zgc l (out++[e.t])).1;rw[List.length_append,List.length_singleton]at h1;exact⟨by omega,fun e=>by omega⟩
  ·rename_i h
   obtain⟨h1,h2⟩:=Zgc l out;refine⟨h1,fun e=>⟨(h2 e).1,fun b hb=> ?_⟩⟩;rcases List.mem_cons.1 hb with rfl|hb
   ·intro hf;exact Classical.byContradiction fun ht=>h ⟨hf,ht⟩
   ·exact(h2 e).2 b hb
theorem ZgI:∀(l:List Edge) (out:List Int),out.Nodup→(Zbe out l).Nodup
 |[],_,h=>h
 |e::l,out,h=>by
  unfold Zbe
  apply ZgI
  split
  ·rename_i hc
   exact List.nodup_append.2 ⟨h,by simp,fun x hx y hy=>by rw[List.mem_singleton.1 hy];exact fun e'=>hc.2 (e'▸hx)⟩
  ·exact h
theorem Zjk (q:List Edge) (P:Int→Prop) (h1:∀e∈q,P e.f→P e.t):∀(l:List Edge) (out:List Int),(∀e∈l,e∈q)→(∀x∈out,P x)→∀x∈Zbe out l,P x
 |[],_,_,h=>h
 |e::l,out,hl,h=>by
  unfold Zbe;refine Zjk q P h1 l _ (fun b hb=>hl b (List.mem_cons_of_mem _ hb)) ?_
  split
  ·rename_i hc
   intro x hx;rcases List.mem_append.1 hx with hx|hx
   ·exact h x hx
   ·rw[List.mem_singleton.1 hx];exact h1 e (hl e (List.mem_cons_self ..)) (h _ hc.1)
  ·exact h
theorem Zk1 (l:List Edge):∀(n:Nat) (out:List Int),itE l (n+1) out=Zbe (itE l n out) l
 |0,_=>rfl
 |n+1,out=>by
  show itE l (n+1) (Zbe out l)=Zbe (itE l n (Zbe out l)) l
  exact Zk1 l n _
theorem ZhG (l:List Edge) (P:Int→Prop) (h1:∀e∈l,P e.f→P e.t):∀(n:Nat) (out:List Int),(∀x∈out,P x)→∀x∈itE l n out,P x
 |0,_,h=>h
 |n+1,out,h=>ZhG l P h1 n _ (Zjk l P h1 l out (fun _ h=>h) h)
theorem Zis (l:List Edge):∀(n:Nat) (out:List Int),out.Nodup→(itE l n out).Nodup
 |0,_,h=>h
 |n+1,out,h=>Zis l n _ (ZgI l out h)
theorem Zk0 (l:List Edge):∀(n:Nat) (out:List Int),∀x∈out,x∈itE l n out
 |0,_,_,h=>h
 |n+1,out,x,h=>Zk0 l n _ x (Zjj l out x h)
def ZhV (l:List Edge) (out:List Int):Prop:=∀e∈l,e.f∈out→e.t∈out
theorem ZfZ {q:List Edge} {out:List Int} (h:ZhV q out):∀l:List Edge,(∀e∈l,e∈q)→Zbe out l=out
 |[],_=>rfl
 |e::l,hl=>by
  unfold Zbe;rw[if_neg fun hc=>hc.2 (h e (hl e (List.mem_cons_self ..)) hc.1)];exact ZfZ h l fun b hb=>hl b (List.mem_cons_of_mem _ hb)
theorem Zni (l:List Edge) (out:List Int):∀n,ZhV l (itE l n out)∨out.length+n≤(itE l n out).length
 |0=>Or.inr (Nat.le_refl _)
 |n+1=>by
  rw[Zk1];rcases Zni l out n with h|h
  ·left;rw[ZfZ h l fun _ h=>h];exact h
  ·obtain⟨h1,h2⟩:=Zgc l (itE l n out)
   by_cases e:(Zbe (itE l n out) l).length=(itE l n out).length
   ·left;rw[(h2 e).1];exact(h2 e).2
   ·right;omega
theorem ZiS (l:List Edge) (a:Int):ZhV l (Zdu l a):=by
 unfold Zdu;rcases Zni l [a] (l.length+1)with h|h
 ·exact h
 ·exfalso
  have h1:=Zbo (itE l (l.length+1) [a]) (a::l.map (·.t)) (Zis l _ _ (by simp)) (ZhG l (fun x=>x∈a::l.map (·.t)) (fun e he _=>List.mem_cons_of_mem _ (List.mem_map.2 ⟨e,he,rfl⟩)) _ _ (fun x hx=>by rw[List.mem_singleton.1 hx];exact List.mem_cons_self ..));rw[List.length_cons,List.length_map]at h1;rw[List.length_singleton]at h;omega
theorem mem_reachE {l:List Edge} {a x:Int}:x∈Zdu l a↔RchE l a x:=by
 constructor
 ·exact ZhG l (fun x=>RchE l a x) (fun e he h=>h.step he rfl) _ _ (fun x hx=>by rw[List.mem_singleton.1 hx];exact RchE.refl a) x
 ·intro h
  induction h with
  |refl=>exact Zk0 l _ _ a (by simp)
  |step _ h2 h3 ih=>exact ZiS l a _ h2 (h3▸ih)
def Zah (l:List Edge) (mask must:Int):Bool:=
 let q:=l.filter fun e=>ZJ mask e.k
 let sp:=if (bits .and .i64 must 14==0)=true then q else q.filter fun e=>ZJ must e.k
 sp.any fun e=>decide (e.f∈Zdu q e.t)
end
/- Phenomena,plain:the ids of edges are numbered,and the digraph of the numbers tells the same as the edges. -/
section
def ZH (ids:List Int) (x:Int):List Int:=if x∈ids then ids else ids++[x]
def Za8 (ids:List Int) (e:Edge):HArc:=⟨(Zn ids e.f:Int),(Zn ids e.t:Int),e.k,0⟩
def ZcW:List Int→List HArc→List Edge→List Int×List HArc
 |ids,ac,[]=>(ids,ac)
 |ids,ac,e::l=>ZcW (ZH (ZH ids e.f) e.t) (ac++[⟨(Zn (ZH ids e.f) e.f:Int),(Zn (ZH (ZH ids e.f) e.t) e.t:Int),e.k,0⟩]) l
theorem numE_mem {ids:List Int} {x y:Int}:y∈ZH ids x↔y∈ids∨y=x:=by
 unfold ZH
 split
 ·rename_i h
  exact⟨Or.inl,fun h2=>h2.elim id (fun e=>e▸h)⟩
 ·rw[List.mem_append,List.mem_singleton]
theorem ZgU {ids:List Int} {x:Int} (h:ids.Nodup):(ZH ids x).Nodup:=by
 unfold ZH
 split
 ·exact h
 ·rename_i hx
  exact List.nodup_append.2 ⟨h,by simp,fun y hy z hz=>by rw[List.mem_singleton.1 hz];exact fun e=>hx (e▸hy)⟩
theorem Zev (ids:List Int) (x:Int):(ZH ids x).length≤ids.length+1:=by
 unfold ZH
 split
 ·omega
 ·simp
theorem Zcw {ids:List Int} {x:Int} (h:x∈ids):Zn ids x<ids.length:=by
 unfold Zn;exact List.findIdx_lt_length_of_exists ⟨x,h,by simp⟩
theorem ZkL {ids:List Int} {x:Int} (h:x∈ids):ids[Zn ids x]? =some x:=by
 have hl:=Zcw h;rw[Qg hl];have:=List.findIdx_getElem (p:=(·==x)) (xs:=ids) (w:=hl);rw[beq_iff_eq]at this;rw[show ids[Zn ids x]=x from this]
theorem Zjt {ids:List Int} {x y:Int} (hx:x∈ids) (hy:y∈ids) (e:Zn ids x=Zn ids y):x=y:=by
 have h1:=ZkL hx;rw[e,ZkL hy]at h1;exact(Option.some.inj h1).symm
theorem Zon {ids:List Int} {x:Int} (h:x∈ids) (l:List Int):Zn (ids++l) x=Zn ids x:=by
 unfold Zn;rw[List.findIdx_append,if_pos (List.findIdx_lt_length_of_exists ⟨x,h,by simp⟩)]
theorem Zgf {ids:List Int} {x y:Int} (h:x∈ids):Zn (ZH ids y) x=Zn ids x:=by
 unfold ZH
 split
 ·rfl
 ·exact Zon h _
theorem Zom {ids:List Int} {x:Int} (h:x∉ids):Zn (ids++[x]) x=ids.length:=by
 unfold Zn;rw[List.findIdx_append]
 have:¬List.findIdx (fun y=>y==x) ids<ids.length:=fun hl=>h (by
  have:=List.findIdx_getElem (p:=(·==x)) (xs:=ids) (w:=hl);rw[beq_iff_eq]at this;rw[←this];exact List.getElem_mem _)
 rw[if_neg this];simp
structure NumOk (ids:List Int) (ac:List HArc) (D:List Edge):Prop where
 nd:ids.Nodup
 arcs:ac=D.map (Za8 ids)
 has:∀e∈D,e.f∈ids∧e.t∈ids
 len:ids.length≤2*D.length
theorem ZkQ:∀(l D:List Edge) (ids:List Int) (ac:List HArc),NumOk ids ac D→NumOk (ZcW ids ac l).1 (ZcW ids ac l).2 (D++l)
 |[],D,ids,ac,h=>by rw[List.append_nil];exact h
 |e::l,D,ids,ac,h=>by
  have hf:e.f∈ZH ids e.f:=numE_mem.2 (Or.inr rfl);have ht:e.t∈ZH (ZH ids e.f) e.t:=numE_mem.2 (Or.inr rfl);have hf2:e.f∈ZH (ZH ids e.f) e.t:=numE_mem.2 (Or.inl hf);have hk:∀x,x∈ids→x∈ZH (ZH ids e.f) e.t:=fun x hx=>numE_mem.2 (Or.inl (numE_mem.2 (Or.inl hx)))
  have hp:∀x,x∈ids→Zn (ZH (ZH ids e.f) e.t) x=Zn ids x:=fun x hx=>by rw[Zgf (numE_mem.2 (Or.inl hx)),Zgf hx]
  have:=ZkQ l (D++[e]) (ZH (ZH ids e.f) e.t) (ac++[⟨(Zn (ZH ids e.f) e.f:Int),(Zn (ZH (ZH ids e.f) e.t) e.t:Int),e.k,0⟩]) ⟨ZgU (ZgU h.nd),?_,?_,?_⟩
  ·rw[List.append_assoc]at this;exact this
  ·rw[List.map_append,h.arcs]
   congr 1
   ·refine List.map_congr_left fun b hb=> ?_
    obtain⟨h1,h2⟩:=h.has b hb;unfold Za8;rw[hp _ h1,hp _ h2]
   ·show[_]=[Za8 _ e]
    unfold Za8;rw[Zgf (y:=e.t) hf]
  ·intro b hb;rcases List.mem_append.1 hb with hb|hb
   ·exact⟨hk _ (h.has b hb).1,hk _ (h.has b hb).2⟩
   ·rw[List.mem_singleton.1 hb];exact⟨hf2,ht⟩
  ·have h1:=Zev ids e.f;have h2:=Zev (ZH ids e.f) e.t;have:=h.len;rw[List.length_append,List.length_singleton];omega
theorem ZoC {N:Nat} {q:List HArc} {a b:HArc}:b∈Zc0 N q a↔b∈q∨(b=a∧Zx N a=true):=by
 unfold Zc0
 split
 ·rename_i hr
  split
  ·rename_i hm
   exact⟨Or.inl,fun h=>h.elim id (fun e=>e.1▸hm)⟩
  ·rw[ZbF];exact⟨fun h=>h.elim (fun e=>Or.inr ⟨e,hr⟩) Or.inl,fun h=>h.elim Or.inr (fun e=>Or.inl e.1)⟩
 ·rename_i hr
  exact⟨Or.inl,fun h=>h.elim id (fun e=>absurd e.2 hr)⟩
theorem Zil {N:Nat} {b:HArc}:∀(l q:List HArc),b∈Zc9 N q l↔b∈q∨(b∈l∧Zx N b=true)
 |[],q=>by simp[Zc9]
 |a::l,q=>by
  rw[Zg1,Zil l,ZoC]
  constructor
  ·rintro((h|⟨rfl,h⟩)|⟨h,k⟩)
   ·exact Or.inl h
   ·exact Or.inr ⟨List.mem_cons_self ..,h⟩
   ·exact Or.inr ⟨List.mem_cons_of_mem _ h,k⟩
  ·rintro(h|⟨h,k⟩)
   ·exact Or.inl (Or.inl h)
   ·rcases List.mem_cons.1 h with rfl|h
    ·exact Or.inl (Or.inr ⟨rfl,k⟩)
    ·exact Or.inr ⟨h,k⟩
section
variable {ids:List Int} {ac:List HArc} {D:List Edge} {q:List HArc} {N:Nat}
def Zhq (ids:List Int) (D:List Edge) (q:List HArc):Prop:=∀a,a∈q↔∃e∈D,Za8 ids e=a
theorem ZkI (h:NumOk ids ac D) (hq:Zbw N q) (hm:Zhq ids D q) {x y:Int} (hx:x∈ids) (k:RchE D x y):y∈ids∧Rch (nxN q) (Zn ids x) (Zn ids y):=by
 induction k with
 |refl=>exact⟨hx,Rch.refl _⟩
 |step h1 h2 h3 ih=>
  rename_i b e
  refine⟨(h.has e h2).2,ih.2.step ((Zcy hq).2 ⟨Za8 ids e,(hm _).2 ⟨e,h2,rfl⟩,?_,rfl⟩)⟩;rw[←h3];rfl
theorem Zqb (h:NumOk ids ac D) (hq:Zbw N q) (hm:Zhq ids D q) {x:Int} {i j:Nat} (hx:x∈ids) (hi:i=Zn ids x) (k:Rch (nxN q) i j):∃y∈ids,j=Zn ids y∧RchE D x y:=by
 induction k with
 |refl=>exact⟨x,hx,hi,RchE.refl x⟩
 |step h1 h2 ih=>
  obtain⟨y,hy,e1,hr⟩:=ih;obtain⟨a,ha,h3,h4⟩:=(Zcy hq).1 h2;obtain⟨e,he,rfl⟩:=(hm a).1 ha
  have h5:Zn ids e.f=Zn ids y:=by
   have:((Zn ids e.f:Nat):Int)=_:=h3;omega
  have h6:=Zjt (h.has e he).1 hy h5;refine⟨e.t,(h.has e he).2,?_,hr.step he h6⟩;have:((Zn ids e.t:Nat):Int)=_:=h4;omega
theorem ZoI (h:NumOk ids ac D) (hq:Zbw N q) (hm:Zhq ids D q) {e:Edge} (he:e∈D):Zbj q (Zn ids e.f)=Zbj q (Zn ids e.t)↔RchE D e.t e.f:=by
 rw[Znd hq];have hf:=(h.has e he).1;have ht:=(h.has e he).2
 constructor
 ·rintro⟨_,h2⟩;obtain⟨y,hy,e1,hr⟩:=Zqb h hq hm ht rfl h2
  rwa [Zjt hf hy e1]
 ·intro hr;exact⟨(ZkI h hq hm hf ((RchE.refl e.f).step he rfl)).2,(ZkI h hq hm ht hr).2⟩
end
end
end Go.Proofs.YtonblekdfinpkaaGreat
