/- Closed walks, plain: the document's answer, and that the search by ranks tells the same. -/
import Derived.BigRegion
import Derived.StillTailTactics
import Derived.Test.YtblplapkdmhikaaGreatDxab
import Derived.Test.YtblplapkdmhikaaGreatDxag
import Derived.Test.YtblplapkdmhikaaGreatDxai
import Derived.Test.YtblplapkdmhikaaGreatDxal
import Derived.Test.YtblplapkdmhikaaGreatDxam
import Derived.Test.YtblplapkdmhikaaGreatDxar
import Derived.Test.YtblplapkdmhikaaGreatDxaw
import Derived.Test.YtblplapkdmhikaaGreatDxbh
import Derived.Test.YtblplapkdmhikaaGreatDxbk
import Derived.Test.YtblplapkdmhikaaGreatDxbl
namespace Go.Proofs.YtblplapkdmhikaaGreat
set_option linter.unusedVariables false
set_option linter.unusedSimpArgs false
section
open Go.RowKit
theorem Short.mem {D D':List HArc} {must:Int} {need:Bool} {v:Int} {c:List HArc} (h:Short D must need v c) (hD:∀a,a∈D↔a∈D'):Short D' must need v c:=
 h.less (fun a ha=>(hD a).2 ha) (fun a ha=>(hD a).1 (Zcd h.w a ha))
theorem NoWay.mem {D D':List HArc} {must:Int} {need:Bool} (h:NoWay D must need) (hD:∀a,a∈D'→a∈D):NoWay D' must need:=
 fun u c' n1 n2 n3=>h u c' n1 (Zct hD (Int.le_refl _) n2) n3
section
variable {l:List Edge} {mask must:Int}
end
section
variable {D:List Edge}
end
end
/- Closed walks:the first of the shortest. -/
section
open Go.RowKit
def ToldC (w:World) (d:List Edge) (e:Ending) (w':World):Prop:=
 ∃A c,e= .returned (.tuple #[.slice A d.length c,.int .i64 (if d.length=0 then 3 else 0)])∧w'.ownsRow w.heap.size 53 4 (.slice A d.length c) d.length (Zkq d)∧Upd No w w'
end
/- Closed walks,the document's:the ids from which so many steps lead to one. -/
section
open Go.RowKit
def RowOk (F:Nat→Prop) (w:World) (v:Value) (l:List Int):Prop:=∃B c,v= .slice B l.length c∧Ints F w B l
theorem RowOk.upd {F S:Nat→Prop} {w w':World} {v:Value} {l:List Int} (h:RowOk F w v l) (u:Upd S w w') (hn:∀i,F i→¬S i):RowOk F w' v l:=by
 obtain⟨B,c,e,h⟩:=h;exact⟨B,c,e,h.upd u hn⟩
theorem RowOk.weak {F G:Nat→Prop} {w:World} {v:Value} {l:List Int} (h:RowOk F w v l) (hg:∀i,i<w.heap.size→F i→G i):RowOk G w v l:=by
 obtain⟨B,c,e,h⟩:=h;exact⟨B,c,e,h.weak hg⟩
structure RowsOk (F:Nat→Prop) (w:World) (vs:List Value) (f:Nat→List Int):Prop where
 ok:∀(j:Nat) (h:j<vs.length),RowOk F w vs[j] (f j)
theorem RowsOk.upd {F S:Nat→Prop} {w w':World} {vs:List Value} {f:Nat→List Int} (h:RowsOk F w vs f) (u:Upd S w w') (hn:∀i,F i→¬S i):RowsOk F w' vs f:=⟨fun j hj=>(h.ok j hj).upd u hn⟩
theorem RowsOk.weak {F G:Nat→Prop} {w:World} {vs:List Value} {f:Nat→List Int} (h:RowsOk F w vs f) (hg:∀i,i<w.heap.size→F i→G i):RowsOk G w vs f:=⟨fun j hj=>(h.ok j hj).weak hg⟩
structure RowsAt (w:World) (A:Option Addr) (n:Nat) (f:Nat→List Int):Prop where
 at_:∀j,j<n→∃ad B c,A=some ad∧w.cell? (ad.add j)=some (.slice B (f j).length c)∧Ints (fun _=>True) w B (f j)
theorem RowsAt.upd {w w':World} {A:Option Addr} {n:Nat} {f:Nat→List Int} (h:RowsAt w A n f) (u:Upd No w w'):RowsAt w' A n f:=⟨fun j hj=>by
 obtain⟨ad,B,c,e,h1,h2⟩:=h.at_ j hj;exact⟨ad,B,c,e,u.keepNo h1,h2.upd u (fun _ _=>id)⟩⟩
end
/- Components of a digraph:the nodes under way,in memory. -/
section
open Go.RowKit
structure VF where
 node:Nat
 l:List Nat
 A:Option Addr
 c:Nat
def VF.cells (f:VF):List Value:=[.int .i64 (f.node:Int),.slice f.A f.l.length f.c]
def VF.fr (f:VF):Nat×List Nat:=(f.node,f.l)
def VFs (w:World) (NB:Nat→Prop) (fs:List VF):Prop:=∀f∈fs,Ints NB w f.A (f.l.map fun x:Nat=>(x:Int))∧f.l.length≤f.c
theorem VFs.upd {w w':World} {NB S:Nat→Prop} {fs:List VF} (h:VFs w NB fs) (k:Upd S w w') (hn:∀i,NB i→¬S i):VFs w' NB fs:=fun f hf=>⟨(h f hf).1.upd k hn,(h f hf).2⟩
end
/- Components of a digraph:all that is reached from a node is gone through (scc.tour.from). -/
section
open Go.RowKit
theorem VFs.turn {w w':World} {NB NB' S:Nat→Prop} {fs:List VF} (h:VFs w NB fs) (k:Upd S w w') (hS:∀i,NB i→¬S i) (hN:∀i,i<w.heap.size→NB i→NB' i):VFs w' NB' fs:=fun f hf=>
 ⟨Ints.weak ((Ints.lt' (h f hf).1 (fun _ e=>e)).upd k (fun i hi=>hS i hi.2)) (fun i _ hi=>hN i hi.1 hi.2),(h f hf).2⟩
end
/- Components of a digraph:parts that grow,in memory:an own row of own rows. -/
section
open Go.RowKit
structure PV where
 A:Option Addr
 c:Nat
 l:List Nat
def PV.v (p:PV):Value:= .slice p.A p.l.length p.c
def ZiW (l:List Nat):List Value:=l.map fun x:Nat=>Value.int .i64 (x:Int)
structure PartsW (w:World) (base:Nat) (O:Value) (ps:List PV):Prop where
 own:w.ownsRow base 64 1 O ps.length (ps.map PV.v)
 rows:∀(i:Nat) (p:PV),ps[i]? =some p→w.ownsRow base 3 1 p.v p.l.length (ZiW p.l)
 apart:∀(i:Nat) (p:PV),ps[i]? =some p→∀k,Own p.v k→¬Own O k
 two:∀(i j:Nat) (p q:PV),i≠j→ps[i]? =some p→ps[j]? =some q→∀k,Own p.v k→¬Own q.v k
theorem PartsW.nil (w:World) (base:Nat):PartsW w base (.slice none 0 0) []:=⟨World.ownsRow_nil _ _ _ _,fun i p h=>by simp at h,fun i p h=>by simp at h,fun i j p q _ h=>by simp at h⟩
theorem PartsW.upd {w w':World} {base:Nat} {O:Value} {ps:List PV} {S:Nat→Prop} (h:PartsW w base O ps) (u:Upd S w w') (hS:∀i,base≤i→¬S i):PartsW w' base O ps:=
 ⟨Zb h.own u (fun i e=>hS i (h.own.lt i e).1),fun i p hp=>Zb (h.rows i p hp) u (fun k e=>hS k ((h.rows i p hp).lt k e).1),h.apart,h.two⟩
theorem PartsW.push {w w':World} {base g cap:Nat} {O:Value} {ps:List PV} (h:PartsW w base O ps) (ho:w'.ownsRow base 64 1 (.slice (some ⟨g,0,none⟩) (ps.length+1) cap) (ps.length+1) (ps.map PV.v++[.slice none 0 0])) (u:Upd (Own O) w w')
  (hg:∀i,i=g→Own O i∨w.heap.size≤i):PartsW w' base (.slice (some ⟨g,0,none⟩) (ps.length+1) cap) (ps++[⟨none,0,[]⟩]):=by
 have key:∀(i:Nat) (p:PV),(ps++[⟨none,0,[]⟩])[i]? =some p→ps[i]? =some p∨p=⟨none,0,[]⟩:=by
  intro i p hp;rw[List.getElem?_append]at hp
  split at hp
  ·exact Or.inl hp
  ·right
   obtain⟨_,e⟩:=List.getElem?_eq_some_iff.1 hp;simp at e;exact e.symm
 have e1:∀(q:PV) (k:Nat),q=⟨none,0,[]⟩→¬Own q.v k:=by
  rintro q k rfl e;simp[Own,PV.v,Value.ownBlock]at e
 refine⟨?_,fun i p hp=> ?_,fun i p hp k hk=> ?_,fun i j p q hij hp hq k hk hk2=> ?_⟩
 ·rw[List.length_append,List.map_append];exact ho
 ·rcases key i p hp with hp|rfl
  ·exact Zb (h.rows i p hp) u (fun k e=>h.apart i p hp k e)
  ·exact World.ownsRow_nil _ _ _ _
 ·rcases key i p hp with hp|hp
  ·intro e;have e':g=k:=by simpa[Own,Value.ownBlock]using e
   rcases hg k e'.symm with h1|h1
   ·exact h.apart i p hp k hk h1
   ·have:=((h.rows i p hp).lt k hk).2;omega
  ·exact absurd hk (e1 p k hp)
 ·rcases key i p hp with hp|hp
  ·rcases key j q hq with hq|hq
   ·exact h.two i j p q hij hp hq k hk hk2
   ·exact absurd hk2 (e1 q k hq)
  ·exact absurd hk (e1 p k hp)
theorem PartsW.add {w w':World} {base j:Nat} {O:Value} {ps:List PV} {p p':PV} {S:Nat→Prop} (h:PartsW w base O ps) (hj:ps[j]? =some p) (u:Upd S w w') (hS:∀i,S i→Own p.v i∨Own O i)
  (ho:w'.ownsRow base 64 1 O ps.length ((ps.map PV.v).set j p'.v)) (hr:w'.ownsRow base 3 1 p'.v p'.l.length (ZiW p'.l)) (hg:∀i,Own p'.v i→Own p.v i∨w.heap.size≤i):
  PartsW w' base O (ps.set j p'):=by
 have hl:j<ps.length:=(List.getElem?_eq_some_iff.1 hj).1
 have key:∀(i:Nat) (q:PV),(ps.set j p')[i]? =some q→(i≠j∧ps[i]? =some q)∨(i=j∧q=p'):=by
  intro i q hq;rw[List.getElem?_set]at hq
  by_cases e:j=i
  ·rw[if_pos e]at hq
   by_cases e2:i<ps.length
   ·rw[if_pos (by omega)]at hq;exact Or.inr ⟨e.symm,(Option.some.inj hq).symm⟩
   ·omega
  ·rw[if_neg e]at hq;exact Or.inl ⟨fun e'=>e e'.symm,hq⟩
 refine⟨?_,fun i q hq=> ?_,fun i q hq k hk hO=> ?_,fun i i' q q' hij hq hq' k hk hk2=> ?_⟩
 ·rw[List.length_set,List.map_set];exact ho
 ·rcases key i q hq with ⟨hne,hq⟩|⟨rfl,rfl⟩
  ·exact Zb (h.rows i q hq) u (fun k e hs=>(hS k hs).elim (fun e2=>h.two i j q p hne hq hj k e e2) (fun e2=>h.apart i q hq k e e2))
  ·exact hr
 ·rcases key i q hq with ⟨hne,hq⟩|⟨rfl,rfl⟩
  ·exact h.apart i q hq k hk hO
  ·rcases hg k hk with h1|h1
   ·exact h.apart i p hj k h1 hO
   ·have:=(h.own.lt k hO).2;omega
 ·rcases key i q hq with ⟨hne,hq⟩|⟨e1,e2⟩
  ·rcases key i' q' hq' with ⟨hne',hq'⟩|⟨e1,e2⟩
   ·exact h.two i i' q q' hij hq hq' k hk hk2
   ·rw[e1]at hij;rw[e2]at hk2;rcases hg k hk2 with h1|h1
    ·exact h.two i j q p hij hq hj k hk h1
    ·have:=((h.rows i q hq).lt k hk).2;omega
  ·rcases key i' q' hq' with ⟨hne',hq'⟩|⟨e3,e4⟩
   ·rw[e2]at hk;rcases hg k hk with h1|h1
    ·exact h.two j i' p q' (fun e=>hne' e.symm) hj hq' k h1 hk2
    ·have:=((h.rows i' q' hq').lt k hk2).2;omega
   ·exact hij (e1.trans e3.symm)
end
/- Orders:the heap's own functions. -/
section
open Go.RowKit
def HpF (xs:List Int) (lo n:Nat):Prop:=∀k,1≤k→k<n→lo≤(k-1)/2→xs.getD ((k-1)/2) 0≤xs.getD k 0
end
/- Orders:heap.down. -/
section
open Go.RowKit
def ZkT (xs:List Int) (lo n i:Nat):Prop:=
 (∀k,1≤k→k<n→lo≤(k-1)/2→(k-1)/2≠i→xs.getD ((k-1)/2) 0≤xs.getD k 0)∧(∀k,1≤k→k<n→(k-1)/2=i→1≤i→lo≤(i-1)/2→xs.getD ((i-1)/2) 0≤xs.getD k 0)
end
/- Orders:heap.Init,and the heap's Push and Pop. -/
section
open Go.RowKit
theorem HpF.down {xs:List Int} {lo n:Nat} (h:HpF xs (lo+1) n):ZkT xs lo n lo:=
 ⟨fun k h1 h2 h3 h4=>h k h1 h2 (by omega),fun k h1 h2 h3 h4 h5=>by omega⟩
end
/- Orders:heap.Push and heap.Pop. -/
section
open Go.RowKit
theorem HpF.least {xs:List Int} (h:HpF xs 0 xs.length):∀k,k<xs.length→xs.getD 0 0≤xs.getD k 0:=by
 intro k
 induction k using Nat.strongRecOn with
 |_ k ih=>
  intro hk
  cases k with
  |zero=>exact Int.le_refl _
  |succ j=>
   have h1:=h (j+1) (by omega) hk (by omega);have h2:=ih ((j+1-1)/2) (by omega) (by omega);omega
theorem HpF.take {zs:List Int} {n:Nat} (h:HpF zs 0 n):HpF (zs.take n) 0 n:=by
 intro k h1 h2 h3;have h4:=h k h1 h2 h3;have e1:(k-1)/2<n:=by omega
 simp only[List.getD_eq_getElem?_getD,List.getElem?_take_of_lt e1,List.getElem?_take_of_lt h2]
 simpa only[List.getD_eq_getElem?_getD]using h4
end
end Go.Proofs.YtblplapkdmhikaaGreat
