/- Edges of a history: what is looked up in it once. -/
import Derived.Test.YtblplapkdmhikaaGreatDxaq
import Derived.Test.YtblplapkdmhikaaGreatDxat
import Derived.Test.YtblplapkdmhikaaGreatDxbc
import Derived.Test.YtblplapkdmhikaaGreatDxbh
namespace Go.Proofs.YtblplapkdmhikaaGreat
set_option linter.unusedVariables false
set_option linter.unusedSimpArgs false
section
open Go.RowKit
def ZkP (txs:List HTx):List Int:=(txs.filter (·.done)).map (·.id)
def ZkX (id:Int) (l:List HOp):List (Int×Int):=(l.filter fun o=> !o.read).map fun o=>(id,o.key)
def Zi3 (txs:List HTx):List (Int×Int):=(txs.filter (·.done)).flatMap fun t=>ZkX t.id t.ops
def ZeG (L:List ((Int×Int)×Int)) (p:Int×Int):Int:=L.foldl (fun a e=>if e.1=p then e.2 else a) 0
theorem ZgD (L:List ((Int×Int)×Int)) (p q:Int×Int) (x:Int):ZeG (L++[(p,x)]) q=if p=q then x else ZeG L q:=by
 unfold ZeG;rw[List.foldl_append];rfl
def DoneM (m:List (Int×Value)) (L:List Int):Prop:=∀i,(Zm m i).getD (.int .i64 0)= .int .i64 (if i∈L then 1 else 0)
def NxtM (m:List ((Int×Int)×Value)) (L:List ((Int×Int)×Int)):Prop:=∀p,(Zm m p).getD (.int .i64 0)= .int .i64 (ZeG L p)
theorem DoneM.put {m:List (Int×Value)} {L:List Int} (h:DoneM m L) (x:Int):DoneM (Zt m x (.int .i64 1)) (L++[x]):=fun i=>by
 rw[Zal]
 by_cases e:i=x
 ·subst e;simp
 ·rw[if_neg e,h i];simp[e]
theorem NxtM.put {m:List ((Int×Int)×Value)} {L:List ((Int×Int)×Int)} (h:NxtM m L) (p:Int×Int) (x:Int):NxtM (Zt m p (.int .i64 x)) (L++[(p,x)]):=fun q=>by
 rw[Zal,ZgD]
 by_cases e:q=p
 ·subst e;rw[if_pos rfl,if_pos rfl];rfl
 ·rw[if_neg e,if_neg (fun h=>e h.symm),h q]
def Zkr {α:Type} [DecidableEq α] (L:List α) (a:α):Nat:=(L.filter fun x=>decide (x=a)).length
structure FindW (w:World) (fb bd bl bx:Nat) (txs:List HTx) (ords:List HOrd) (A:Option Addr) (c:Nat) (B:Option Addr) (d:Nat) (md:List (Int×Value)) (ml mx:List ((Int×Int)×Value)) (LD:List Int) (LW:List (Int×Int)) (LN:List ((Int×Int)×Int)):Prop where
 blk:Blk w fb 296 [.slice A txs.length c,.slice B ords.length d,.map (some bd),.map (some bl),.map (some bx)]
 md_:MapE w bd (fun n:Int=>Value.int .i64 n) md
 ml_:MapE w bl Z2 ml
 mx_:MapE w bx Z2 mx
 dm:DoneM md LD
 lm:CntM ml (Zkr LW)
 nm:NxtM mx LN
 a1:fb≠bd∧fb≠bl∧fb≠bx
 a2:bd≠bl∧bd≠bx∧bl≠bx
theorem FindW.upd {S:Nat→Prop} {w w':World} {fb bd bl bx:Nat} {txs:List HTx} {ords:List HOrd} {A:Option Addr} {c:Nat} {B:Option Addr} {d:Nat} {md:List (Int×Value)} {ml mx:List ((Int×Int)×Value)} {LD:List Int} {LW:List (Int×Int)} {LN:List ((Int×Int)×Int)}
  (h:FindW w fb bd bl bx txs ords A c B d md ml mx LD LW LN) (k:Upd S w w') (h1:¬S fb) (h2:¬S bd) (h3:¬S bl) (h4:¬S bx):FindW w' fb bd bl bx txs ords A c B d md ml mx LD LW LN:=
 ⟨h.blk.upd k h1,h.md_.upd k h2,h.ml_.upd k h3,h.mx_.upd k h4,h.dm,h.lm,h.nm,h.a1,h.a2⟩
end
end Go.Proofs.YtblplapkdmhikaaGreat
