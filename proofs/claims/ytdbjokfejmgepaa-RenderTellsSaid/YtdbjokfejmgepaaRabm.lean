/- Edges of a history: what is looked up in it once. -/
import Derived.Test.YtdbjokfejmgepaaRaas
import Derived.Test.YtdbjokfejmgepaaRaav
import Derived.Test.YtdbjokfejmgepaaRabd
import Derived.Test.YtdbjokfejmgepaaRabg
namespace Go.Proofs.Ytdbjokfejmgepaa
set_option linter.unusedVariables false
set_option linter.unusedSimpArgs false
section
open Go.RowKit
def Zax (txs:List HTx):List Int:=(txs.filter (·.done)).map (·.id)
def ZfU (id:Int) (l:List HOp):List (Int×Int):=(l.filter fun o=> !o.read).map fun o=>(id,o.key)
def Z0 (txs:List HTx):List (Int×Int):=(txs.filter (·.done)).flatMap fun t=>ZfU t.id t.ops
def ZdZ (key a:Int):List Int→List ((Int×Int)×Int)
 |[]=>[]
 |x::l=>((key,a),x)::ZdZ key x l
def ZJ (ords:List HOrd):List ((Int×Int)×Int):=ords.flatMap fun o=>ZdZ o.key 0 o.txs
def Z4 (L:List ((Int×Int)×Int)) (p:Int×Int):Int:=L.foldl (fun a e=>if e.1=p then e.2 else a) 0
theorem ZiO (L:List ((Int×Int)×Int)) (p q:Int×Int) (x:Int):Z4 (L++[(p,x)]) q=if p=q then x else Z4 L q:=by
 unfold Z4;rw[List.foldl_append];rfl
def DoneM (m:List (Int×Value)) (L:List Int):Prop:=∀i,(Z8 m i).getD (.int .i64 0)= .int .i64 (if i∈L then 1 else 0)
def NxtM (m:List ((Int×Int)×Value)) (L:List ((Int×Int)×Int)):Prop:=∀p,(Z8 m p).getD (.int .i64 0)= .int .i64 (Z4 L p)
theorem DoneM.put {m:List (Int×Value)} {L:List Int} (h:DoneM m L) (x:Int):DoneM (Zbh m x (.int .i64 1)) (L++[x]):=fun i=>by
 rw[ZbB]
 by_cases e:i=x
 ·subst e;simp
 ·rw[if_neg e,h i];simp[e]
theorem NxtM.put {m:List ((Int×Int)×Value)} {L:List ((Int×Int)×Int)} (h:NxtM m L) (p:Int×Int) (x:Int):NxtM (Zbh m p (.int .i64 x)) (L++[(p,x)]):=fun q=>by
 rw[ZbB,ZiO]
 by_cases e:q=p
 ·subst e;rw[if_pos rfl,if_pos rfl];rfl
 ·rw[if_neg e,if_neg (fun h=>e h.symm),h q]
def Zx {α:Type} [DecidableEq α] (L:List α) (a:α):Nat:=(L.filter fun x=>decide (x=a)).length
theorem ZjU {α:Type} [DecidableEq α] (L:List α) (a x:α):Zx (L++[a]) x=if x=a then Zx L a+1 else Zx L x:=by
 unfold Zx;rw[List.filter_append,List.length_append]
 by_cases e:x=a
 ·subst e;rw[if_pos rfl,List.filter_cons_of_pos (by simp)];rfl
 ·rw[if_neg e,List.filter_cons_of_neg (by simpa using fun h=>e h.symm)];rfl
theorem ZaM {α:Type} [DecidableEq α] (L M:List α) (x:α):Zx (L++M) x=Zx L x+Zx M x:=by unfold Zx;rw[List.filter_append,List.length_append]
end
/- Edges of a history:what a read is a reason for. -/
section
open Go.RowKit
def Zbo (LD:List Int) (LW:List (Int×Int)) (LN:List ((Int×Int)×Int)) (ti:Int) (o:HOp):List Edge:=
 if o.tx=ti then [] else if o.tx≠0∧o.tx∉LD then [] else if o.tx≠0∧(Zx LW (o.tx,o.key):Int)≠o.nth then []
 else (if o.tx≠0 then [⟨o.tx,ti,2,o.key⟩] else [])++if Z4 LN (o.key,o.tx)≠0∧Z4 LN (o.key,o.tx)≠ti then [⟨ti,Z4 LN (o.key,o.tx),3,o.key⟩] else []
theorem Zca {α:Type} [DecidableEq α] (x:α):Zx ([]:List α) x=0:=rfl
theorem ZdH {α:Type} [DecidableEq α] (a x:α):Zx [a] x=if x=a then 1 else 0:=by
 have:=ZjU ([]:List α) a x
 simpa[Zca]using this
end
/- Edges of a history,as they are counted:in plain words. -/
section
open Go.RowKit
def wwO (key:Int):List Int→List Edge
 |[]=>[]
 |a::l=>(match l with|[]=>[]|b::_=>[⟨a,b,1,key⟩])++wwO key l
def wwC (cnt:Int→Bool) (o:HOrd):List Edge:=if cnt o.key then wwO o.key o.txs else []
def wwL (cnt:Int→Bool) (ords:List HOrd):List Edge:=ords.flatMap (wwC cnt)
def Zhv (L:List Edge) (e:Edge):Nat:=if e∈L then 1 else 0
def rdO (cnt:Int→Bool) (LD:List Int) (LW:List (Int×Int)) (LN:List ((Int×Int)×Int)) (ti:Int) (l:List HOp):List Edge:=(l.filter fun o=>o.read&&cnt o.key).flatMap (Zbo LD LW LN ti)
def rdL (cnt:Int→Bool) (LD:List Int) (LW:List (Int×Int)) (LN:List ((Int×Int)×Int)) (txs:List HTx):List Edge:=(txs.filter (·.done)).flatMap fun t=>rdO cnt LD LW LN t.id t.ops
theorem Zjo (LD:List Int) (LW:List (Int×Int)) (LN:List ((Int×Int)×Int)) (ti:Int) (o:HOp):(Zbo LD LW LN ti o).length≤2:=by
 unfold Zbo
 split
 ·simp
 ·split
  ·simp
  ·split
   ·simp
   ·rw[List.length_append]
    split<;>split<;>simp
def ZkF (cnt:Int→Bool) (txs:List HTx) (ords:List HOrd) (e:Edge):Nat:=Zhv (wwL cnt ords) e+Zx (rdL cnt (Zax txs) (Z0 txs) (ZJ ords) txs) e
end
end Go.Proofs.Ytdbjokfejmgepaa
