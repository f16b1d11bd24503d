/- Components of a digraph: what the search has in memory; a node is met. -/
import Derived.StillTailTactics
import Derived.Test.YtonblekdfinpkaaGreatSyaf
import Derived.Test.YtonblekdfinpkaaGreatSyag
import Derived.Test.YtonblekdfinpkaaGreatSyai
import Derived.Test.YtonblekdfinpkaaGreatSyal
import Derived.Test.YtonblekdfinpkaaGreatSyao
import Derived.Test.YtonblekdfinpkaaGreatSyax
import Derived.Test.YtonblekdfinpkaaGreatSyba
import Derived.Test.YtonblekdfinpkaaGreatSybj
import Derived.Test.YtonblekdfinpkaaGreatSybn
namespace Go.Proofs.YtonblekdfinpkaaGreat
set_option linter.unusedVariables false
set_option linter.unusedSimpArgs false
section
open Go.RowKit
def Zha (k:IntKind) (N:Nat) (f:Nat→Nat):List Value:=(List.range N).map fun i=>Value.int k (f i:Int)
structure TourW (w:World) (t gw gl go gs gb N:Nat) (fv:Value) (FS FB:Nat→Prop) (s:TS):Prop where
 blk:Blk w t 174 [fv,.slice (some ⟨gw,0,none⟩) N N,.slice (some ⟨gl,0,none⟩) N N,.pointer (some ⟨gs,0,none⟩),.pointer (some ⟨gb,0,none⟩),.int .i32 (s.clock:Int),.slice (some ⟨go,0,none⟩) N N]
 wh:Blk w gw 21 (Zha .i32 N s.when)
 lo:Blk w gl 21 (Zha .i32 N s.low)
 ou:Blk w go 3 (Zha .i64 N s.out)
 st:Sta w FS gs (N:Int) (s.wait.map fun x:Nat=>(x:Int))
 br:BRow w FB gb N (fun i=>decide (i∈s.wait))
 ne:(t≠gw∧t≠gl∧t≠go)∧(gw≠gl∧gw≠go∧gl≠go)∧¬FB t∧¬FB gw∧¬FB gl∧¬FB go
 sn:∀i,FS i→i≠t∧i≠gw∧i≠gl∧i≠go∧¬FB i
def FT (t gw gl go:Nat) (FS FB:Nat→Prop):Nat→Prop:=fun i=>i=t∨i=gw∨i=gl∨i=go∨FS i∨FB i
theorem TourW.upd {w w':World} {t gw gl go gs gb N:Nat} {fv:Value} {FS FB S:Nat→Prop} {s:TS} (h:TourW w t gw gl go gs gb N fv FS FB s) (k:Upd S w w') (hn:∀i,FT t gw gl go FS FB i→¬S i):TourW w' t gw gl go gs gb N fv FS FB s:=
 ⟨h.blk.upd k (hn _ (Or.inl rfl)),h.wh.upd k (hn _ (Or.inr (Or.inl rfl))),h.lo.upd k (hn _ (Or.inr (Or.inr (Or.inl rfl)))),h.ou.upd k (hn _ (Or.inr (Or.inr (Or.inr (Or.inl rfl))))),
  h.st.upd k (fun i hi=>hn _ (Or.inr (Or.inr (Or.inr (Or.inr (Or.inl hi)))))),h.br.upd k (fun i hi=>hn _ (Or.inr (Or.inr (Or.inr (Or.inr (Or.inr hi)))))),h.ne,h.sn⟩
theorem TourW.lt {w:World} {t gw gl go gs gb N:Nat} {fv:Value} {FS FB:Nat→Prop} {s:TS} (h:TourW w t gw gl go gs gb N fv FS FB s):∀i,FT t gw gl go FS FB i→i<w.heap.size:=by
 intro i hi;rcases hi with rfl|rfl|rfl|rfl|hi|hi
 ·exact h.blk.lt
 ·exact h.wh.lt
 ·exact h.lo.lt
 ·exact h.ou.lt
 ·exact h.st.lt i hi
 ·obtain⟨_,_,_,_,_,hl,_⟩:=h.br;exact hl i hi
end
/- Components of a digraph:the nodes under way,in memory. -/
section
open Go.RowKit
structure VF where
 node:Nat
 l:List Nat
 A:Option Addr
 c:Nat
def VF.cells (f:VF):List Value:=[.int .i64 (f.node:Int),.slice f.A f.l.length f.c]
def VF.fr (f:VF):Nat×List Nat:=(f.node,f.l)
def VFs (w:World) (NB:Nat→Prop) (fs:List VF):Prop:=∀f∈fs,Ints NB w f.A (f.l.map fun x:Nat=>(x:Int))∧f.l.length≤f.c
theorem VFs.upd {w w':World} {NB S:Nat→Prop} {fs:List VF} (h:VFs w NB fs) (k:Upd S w w') (hn:∀i,NB i→¬S i):VFs w' NB fs:=fun f hf=>⟨(h f hf).1.upd k hn,(h f hf).2⟩
end
/- Components of a digraph:all that is reached from a node is gone through (scc.tour.from). -/
section
open Go.RowKit
theorem VFs.turn {w w':World} {NB NB' S:Nat→Prop} {fs:List VF} (h:VFs w NB fs) (k:Upd S w w') (hS:∀i,NB i→¬S i) (hN:∀i,i<w.heap.size→NB i→NB' i):VFs w' NB' fs:=fun f hf=>
 ⟨Ints.weak ((Ints.lt' (h f hf).1 (fun _ e=>e)).upd k (fun i hi=>hS i hi.2)) (fun i _ hi=>hN i hi.1 hi.2),(h f hf).2⟩
end
/- Components of a digraph:the labels of all nodes (scc.Labels). -/
section
open Go.RowKit
def LabR (N i:Nat) (v:Value) (FF:Nat→Prop) (W:World):Prop:=
 (i=6→∃g,v= .pointer (some ⟨g,0,none⟩)∧Sta W FF g (N:Int) [])∧(i=8→∃g,v= .pointer (some ⟨g,0,none⟩)∧BRow W FF g N fun _=>false)∧
 (i=10→∃g,v= .slice (some ⟨g,0,none⟩) N N∧FF g∧Blk W g 3 (Zha .i64 N fun _=>0))∧
 (i=2∨i=4→∃g,v= .slice (some ⟨g,0,none⟩) N N∧FF g∧Blk W g 21 (Zha .i32 N fun _=>0))
theorem LabR.upd {N i:Nat} {v:Value} {FF:Nat→Prop} {W W':World} (h:LabR N i v FF W) (u:Upd No W W'):LabR N i v FF W':=by
 obtain⟨h1,h2,h3,h4⟩:=h;refine⟨fun e=> ?_,fun e=> ?_,fun e=> ?_,fun e=> ?_⟩
 ·obtain⟨g,h,k⟩:=h1 e;exact⟨g,h,k.upd u fun _ _=>id⟩
 ·obtain⟨g,h,k⟩:=h2 e;exact⟨g,h,k.upd u fun _ _=>id⟩
 ·obtain⟨g,h,f,k⟩:=h3 e;exact⟨g,h,f,k.upd u id⟩
 ·obtain⟨g,h,f,k⟩:=h4 e;exact⟨g,h,f,k.upd u id⟩
end
/- Components of a digraph:parts that grow,in memory:an own row of own rows. -/
section
open Go.RowKit
structure PV where
 A:Option Addr
 c:Nat
 l:List Nat
def PV.v (p:PV):Value:= .slice p.A p.l.length p.c
def Zl3 (l:List Nat):List Value:=l.map fun x:Nat=>Value.int .i64 (x:Int)
structure PartsW (w:World) (base:Nat) (O:Value) (ps:List PV):Prop where
 own:w.ownsRow base 24 1 O ps.length (ps.map PV.v)
 rows:∀(i:Nat) (p:PV),ps[i]? =some p→w.ownsRow base 3 1 p.v p.l.length (Zl3 p.l)
 apart:∀(i:Nat) (p:PV),ps[i]? =some p→∀k,Own p.v k→¬Own O k
 two:∀(i j:Nat) (p q:PV),i≠j→ps[i]? =some p→ps[j]? =some q→∀k,Own p.v k→¬Own q.v k
theorem PartsW.nil (w:World) (base:Nat):PartsW w base (.slice none 0 0) []:=⟨World.ownsRow_nil _ _ _ _,fun i p h=>by simp at h,fun i p h=>by simp at h,fun i j p q _ h=>by simp at h⟩
theorem PartsW.upd {w w':World} {base:Nat} {O:Value} {ps:List PV} {S:Nat→Prop} (h:PartsW w base O ps) (u:Upd S w w') (hS:∀i,base≤i→¬S i):PartsW w' base O ps:=
 ⟨Zb h.own u (fun i e=>hS i (h.own.lt i e).1),fun i p hp=>Zb (h.rows i p hp) u (fun k e=>hS k ((h.rows i p hp).lt k e).1),h.apart,h.two⟩
theorem PartsW.push {w w':World} {base g cap:Nat} {O:Value} {ps:List PV} (h:PartsW w base O ps) (ho:w'.ownsRow base 24 1 (.slice (some ⟨g,0,none⟩) (ps.length+1) cap) (ps.length+1) (ps.map PV.v++[.slice none 0 0])) (u:Upd (Own O) w w')
  (hg:∀i,i=g→Own O i∨w.heap.size≤i):PartsW w' base (.slice (some ⟨g,0,none⟩) (ps.length+1) cap) (ps++[⟨none,0,[]⟩]):=by
 have key:∀(i:Nat) (p:PV),(ps++[⟨none,0,[]⟩])[i]? =some p→ps[i]? =some p∨p=⟨none,0,[]⟩:=by
  intro i p hp;rw[List.getElem?_append]at hp
  split at hp
  ·exact Or.inl hp
  ·right
   obtain⟨_,e⟩:=List.getElem?_eq_some_iff.1 hp;simp at e;exact e.symm
 have e1:∀(q:PV) (k:Nat),q=⟨none,0,[]⟩→¬Own q.v k:=by
  rintro q k rfl e;simp[Own,PV.v,Value.ownBlock]at e
 refine⟨?_,fun i p hp=> ?_,fun i p hp k hk=> ?_,fun i j p q hij hp hq k hk hk2=> ?_⟩
 ·rw[List.length_append,List.map_append];exact ho
 ·rcases key i p hp with hp|rfl
  ·exact Zb (h.rows i p hp) u (fun k e=>h.apart i p hp k e)
  ·exact World.ownsRow_nil _ _ _ _
 ·rcases key i p hp with hp|hp
  ·intro e;have e':g=k:=by simpa[Own,Value.ownBlock]using e
   rcases hg k e'.symm with h1|h1
   ·exact h.apart i p hp k hk h1
   ·have:=((h.rows i p hp).lt k hk).2;omega
  ·exact absurd hk (e1 p k hp)
 ·rcases key i p hp with hp|hp
  ·rcases key j q hq with hq|hq
   ·exact h.two i j p q hij hp hq k hk hk2
   ·exact absurd hk2 (e1 q k hq)
  ·exact absurd hk (e1 p k hp)
theorem PartsW.add {w w':World} {base j:Nat} {O:Value} {ps:List PV} {p p':PV} {S:Nat→Prop} (h:PartsW w base O ps) (hj:ps[j]? =some p) (u:Upd S w w') (hS:∀i,S i→Own p.v i∨Own O i)
  (ho:w'.ownsRow base 24 1 O ps.length ((ps.map PV.v).set j p'.v)) (hr:w'.ownsRow base 3 1 p'.v p'.l.length (Zl3 p'.l)) (hg:∀i,Own p'.v i→Own p.v i∨w.heap.size≤i):
  PartsW w' base O (ps.set j p'):=by
 have hl:j<ps.length:=(List.getElem?_eq_some_iff.1 hj).1
 have key:∀(i:Nat) (q:PV),(ps.set j p')[i]? =some q→(i≠j∧ps[i]? =some q)∨(i=j∧q=p'):=by
  intro i q hq;rw[List.getElem?_set]at hq
  by_cases e:j=i
  ·rw[if_pos e]at hq
   by_cases e2:i<ps.length
   ·rw[if_pos (by omega)]at hq;exact Or.inr ⟨e.symm,(Option.some.inj hq).symm⟩
   ·omega
  ·rw[if_neg e]at hq;exact Or.inl ⟨fun e'=>e e'.symm,hq⟩
 refine⟨?_,fun i q hq=> ?_,fun i q hq k hk hO=> ?_,fun i i' q q' hij hq hq' k hk hk2=> ?_⟩
 ·rw[List.length_set,List.map_set];exact ho
 ·rcases key i q hq with ⟨hne,hq⟩|⟨rfl,rfl⟩
  ·exact Zb (h.rows i q hq) u (fun k e hs=>(hS k hs).elim (fun e2=>h.two i j q p hne hq hj k e e2) (fun e2=>h.apart i q hq k e e2))
  ·exact hr
 ·rcases key i q hq with ⟨hne,hq⟩|⟨rfl,rfl⟩
  ·exact h.apart i q hq k hk hO
  ·rcases hg k hk with h1|h1
   ·exact h.apart i p hj k h1 hO
   ·have:=(h.own.lt k hO).2;omega
 ·rcases key i q hq with ⟨hne,hq⟩|⟨e1,e2⟩
  ·rcases key i' q' hq' with ⟨hne',hq'⟩|⟨e1,e2⟩
   ·exact h.two i i' q q' hij hq hq' k hk hk2
   ·rw[e1]at hij;rw[e2]at hk2;rcases hg k hk2 with h1|h1
    ·exact h.two i j q p hij hq hj k hk h1
    ·have:=((h.rows i q hq).lt k hk).2;omega
  ·rcases key i' q' hq' with ⟨hne',hq'⟩|⟨e3,e4⟩
   ·rw[e2]at hk;rcases hg k hk with h1|h1
    ·exact h.two j i' p q' (fun e=>hne' e.symm) hj hq' k h1 hk2
    ·have:=((h.rows i' q' hq').lt k hk2).2;omega
   ·exact hij (e1.trans e3.symm)
end
/- Components of a digraph,the document's:who is reached (tenterref23.Reach). -/
section
open Go.RowKit
theorem ZoZ (w:World) (F:Nat→Prop) (A:Option Addr) (c:Nat) (l:List Int) (a:Int) (h:Ints F w A l) (hl:l.length≤4398046511103) {v:Bool} (hv:decide (a∈l)=v):
  Calls Tryz.prog 10 #[.slice A l.length c,.int .i64 a] w fun e w'=>e= .returned (.bool v)∧w=w':=by
 subst hv;exact ZlV w F A c l a h hl
end
end Go.Proofs.YtonblekdfinpkaaGreat
