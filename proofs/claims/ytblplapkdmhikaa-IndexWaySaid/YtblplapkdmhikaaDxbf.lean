/- What the program tells of histories, in plain words: needs, keys, writers, right; and of edges, reads and witnesses. -/
import Derived.Test.YtblplapkdmhikaaDxan
import Derived.Test.YtblplapkdmhikaaDxao
import Derived.Test.YtblplapkdmhikaaDxaq
import Derived.Test.YtblplapkdmhikaaDxax
import Derived.Test.YtblplapkdmhikaaDxbd
namespace Go.Proofs.Ytblplapkdmhikaa
set_option linter.unusedVariables false
set_option linter.unusedSimpArgs false
section
open Go.RowKit
def Zao (id:Int) (o:HOp):Bool:=o.read&& !((Zad o).tx==0)&& !((Zad o).tx==id)
def ZB (id:Int) (l:List HOp):Nat→List Ver
 |0=>[]
 |k+1=>
  match l[k]? with
  |some o=>if Zao id o&& !(ZB id l k).contains (Zad o) then ZB id l k++[Zad o] else ZB id l k
  |none=>ZB id l k
def Z9 (id:Int) (l:List HOp):List Ver:=ZB id l l.length
def Zbc (txs:List HTx) (v:Ver):Bool:=
 if v.tx=0∧v.nth=0 then idB v.key
 else match Zb txs v.tx with
  |some t=>decide (1≤v.nth)&&decide (v.nth≤(Zv t.ops v.key:Int))
  |none=>false
def ZF (l:List HOp) (f:HOp→Bool):List Int:=(l.filter f).map (·.key)
def ZS (l:List HOp):List Int:=Zbp (ZF l fun o=> !o.read)
def Zz (txs:List HTx) (key:Int):List Int:=(txs.filter fun t=>t.done&&(ZS t.ops).contains key).map (·.id)
structure HBad where
 tx:Int
 place:Int
 of:Ver
deriving DecidableEq
def HBad.cells (b:HBad):List Value:=[.int .i64 b.tx,.int .i64 b.place,.int .i64 b.of.tx,.int .i64 b.of.key,.int .i64 b.of.nth]
/-! from any place -/
end
/- Whether a version is there. -/
section
open Go.RowKit
theorem Ze1 {txs:List HTx} {v:Ver} (h:¬(v.tx=0∧v.nth=0)) (hf:Zb txs v.tx=none):Zbc txs v=false:=by unfold Zbc;rw[if_neg h,hf]
theorem Ze0 {txs:List HTx} {v:Ver} {t:HTx} (h:¬(v.tx=0∧v.nth=0)) (hf:Zb txs v.tx=some t):Zbc txs v=(decide (1≤v.nth)&&decide (v.nth≤(Zv t.ops v.key:Int))):=by unfold Zbc;rw[if_neg h,hf]
section
variable (F:Nat→Prop) (w:World) (txs:List HTx) (ords:List HOrd) (A:Option Addr) (c:Nat) (B:Option Addr) (d:Nat) (i:Int)
end
theorem Ze4 {txs:List HTx} {i:Int} {t:HTx} (h:Zb txs i=some t):t∈txs:=List.mem_of_find?_eq_some h
end
end Go.Proofs.Ytblplapkdmhikaa
