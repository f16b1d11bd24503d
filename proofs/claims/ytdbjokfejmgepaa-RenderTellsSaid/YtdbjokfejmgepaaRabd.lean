/- What the program tells of histories, in plain words: needs, keys, writers, right; and of edges, reads and witnesses. -/
import Derived.IntWalk
import Derived.Test.YtdbjokfejmgepaaRaam
import Derived.Test.YtdbjokfejmgepaaRaaq
import Derived.Test.YtdbjokfejmgepaaRaar
import Derived.Test.YtdbjokfejmgepaaRaax
import Derived.Test.YtdbjokfejmgepaaRaay
namespace Go.Proofs.Ytdbjokfejmgepaa
set_option linter.unusedVariables false
set_option linter.unusedSimpArgs false
section
open Go.RowKit
def Zho (id:Int) (o:HOp):Bool:=o.read&& !((ZT o).tx==0)&& !((ZT o).tx==id)
def Zdf (id:Int) (l:List HOp):Nat→List Ver
 |0=>[]
 |k+1=>
  match l[k]? with
  |some o=>if Zho id o&& !(Zdf id l k).contains (ZT o) then Zdf id l k++[ZT o] else Zdf id l k
  |none=>Zdf id l k
def ZjC (id:Int) (l:List HOp):List Ver:=Zdf id l l.length
def Zn4 (txs:List HTx) (v:Ver):Bool:=
 if v.tx=0∧v.nth=0 then idB v.key
 else match Zi txs v.tx with
  |some t=>decide (1≤v.nth)&&decide (v.nth≤(Ze t.ops v.key:Int))
  |none=>false
def Zeo (txs:List HTx) (id:Int) (l:List HOp):Bool:=(ZjC id l).all (Zn4 txs)
def ZcJ (l:List HOp) (f:HOp→Bool):List Int:=(l.filter f).map (·.key)
def ZaF (l:List HOp):List Int:=Zb0 (ZcJ l fun o=> !o.read)
def ZdM (s:List Int):List Int→List Int
 |[]=>s
 |k::l=>ZdM (if k∈s then s else s++[k]) l
def ZaR:List HTx→List Int→List Int
 |[],s=>s
 |t::l,s=>ZaR l (if t.done then ZdM s (ZaF t.ops) else s)
def ZB (txs:List HTx) (key:Int):List Int:=(txs.filter fun t=>t.done&&(ZaF t.ops).contains key).map (·.id)
def Zc1 (txs:List HTx) (i:Nat):Bool:=
 match txs[i]? with
 |none=>true
 |some t=>(match i with|0=>true|j+1=>(match txs[j]? with|some u=>decide (u.id<t.id)|none=>true))&&ZaC t.id t.ops==0&&Zeo txs t.id t.ops
def ZgS (txs:List HTx) (ords:List HOrd) (i:Nat):Bool:=
 match ords[i]? with
 |none=>true
 |some o=>(match i with|0=>true|j+1=>(match ords[j]? with|some u=>decide (u.key<o.key)|none=>true))&& !o.txs.isEmpty&&(ZbJ o.txs==ZbJ (ZB txs o.key))
def Zg (h:Hist):Bool:=
 decide (h.txs.length≤4096)&&(List.range h.txs.length).all (Zc1 h.txs)&&(ZaR h.txs []).length==h.ords.length&&(List.range h.ords.length).all (ZgS h.txs h.ords)
def Zs (txs:List HTx) (id:Int):Option HTx:=match Zi txs id with|some t=>if t.done then some t else none|none=>none
def ZaV (txs:List HTx) (v:Ver):Bool:=if v.tx=0 then true else match Zs txs v.tx with|some t=>v.nth==(Ze t.ops v.key:Int)|none=>false
def ZbQ (ords:List HOrd) (key x y:Int):Bool:=ZQ (Zb5 ords key) x==some y
def Zjn (id:Int) (l:List HOp) (key:Int) (counts:Ver→Bool):Bool:=l.any fun o=>o.read&&o.key==key&& !(o.tx==id)&&counts (ZT o)
def ZiX (h:Hist) (e:Edge):Bool:=
 match Zs h.txs e.f,Zs h.txs e.t with
 |some a,some b=>
  if e.f=e.t then false
  else if e.k=1 then ZbQ h.ords e.key e.f e.t
  else if e.k=2 then Zjn b.id b.ops e.key fun v=>v.tx==e.f&&ZaV h.txs v
  else if e.k=3 then Zjn a.id a.ops e.key fun v=>ZaV h.txs v&&ZbQ h.ords e.key v.tx e.t
  else false
 |_,_=>false
structure HBad where
 tx:Int
 place:Int
 of:Ver
deriving DecidableEq
def HBad.cells (b:HBad):List Value:=[.int .i64 b.tx,.int .i64 b.place,.int .i64 b.of.tx,.int .i64 b.of.key,.int .i64 b.of.nth]
def Zn6 (txs:List HTx) (p:Int) (b:HBad):Bool:=
 match Zs txs b.tx with
 |none=>false
 |some t=>
  if b.place<0 then false
  else match t.ops[b.place.toNat]? with
   |none=>false
   |some o=>
    if !o.read|| !(ZT o==b.of)||o.tx==0||o.tx==t.id then false
    else if p=2 then (match Zi txs o.tx with|some u=> !u.done|none=>true)
    else if p=3 then decide (o.nth<(Ze (match Zi txs o.tx with|some u=>u.ops|none=>[]) o.key:Int))
    else false
def ZlC (m p:Int):Bool:=(bits .andNot .i64 m (ZaT p)==0)&&(ZbS p==0|| !(bits .and .i64 m (ZbS p)==0))
def Zdz:HBad:=⟨0,0,⟨0,0,0⟩⟩
def Zcb (h:Hist) (p:Int) (l:List Edge) (b:HBad):Bool:=
 Zg h&&(if p=2∨p=3 then decide (l.length=0)&&Zn6 h.txs p b
  else !(ZaT p==0)&&b==Zdz&&ZlN l&&ZlC (Zmx l) p&&l.all (ZiX h))
/-! from any place -/
end
/- Whether a version is there. -/
section
open Go.RowKit
section
variable (F:Nat→Prop) (w:World) (txs:List HTx) (ords:List HOrd) (A:Option Addr) (c:Nat) (B:Option Addr) (d:Nat) (i:Int)
end
theorem ZjN {txs:List HTx} {i:Int} {t:HTx} (h:Zi txs i=some t):t∈txs:=List.mem_of_find?_eq_some h
end
/- What a transaction needs of others. -/
section
open Go.RowKit
def MetV (m:List (Ver×Value)) (xs:List Ver) (k:Nat):Prop:=∀v:Ver,∃n:Nat,(Z8 m v).getD (.int .i64 0)= .int .i64 n∧n≤k∧(n=0↔v∉xs)
theorem MetV.nil:MetV [] [] 0:=fun v=>⟨0,by rw[ZdA];rfl,Nat.le_refl _,by simp⟩
theorem MetV.mono {m:List (Ver×Value)} {xs:List Ver} {k:Nat} (h:MetV m xs k):MetV m xs (k+1):=fun v=>by
 obtain⟨n,h1,h2,h3⟩:=h v;exact⟨n,h1,by omega,h3⟩
theorem MetV.put {m:List (Ver×Value)} {xs:List Ver} {k n:Nat} {v:Ver} (h:MetV m xs k) (hn:(Z8 m v).getD (.int .i64 0)= .int .i64 n):MetV (Zbh m v (.int .i64 ((n:Int)+1))) (if n=0 then xs++[v] else xs) (k+1):=fun u=>by
 obtain⟨n',h1,h2,h3⟩:=h v;rw[h1]at hn;obtain rfl:n'=n:=by injection hn with _ hn;omega
 by_cases e:u=v
 ·subst e;refine⟨n'+1,by rw[Za2];rfl,by omega,?_⟩
  constructor
  ·intro e;omega
  ·intro hn2
   split at hn2
   ·simp at hn2
   ·rename_i h0
    exact absurd (h3.2 hn2) h0
 ·rw[ZR _ _ e];obtain⟨q,g1,g2,g3⟩:=h u;refine⟨q,g1,by omega,?_⟩;rw[g3]
  split
  ·simp[e]
  ·rfl
end
end Go.Proofs.Ytdbjokfejmgepaa
