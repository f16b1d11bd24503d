/- Reads that may not be, plain: those whose key counts, as they are gathered. -/
import Derived.Test.YtblplapkdmhikaaGreatDxbk
import Derived.Test.YtblplapkdmhikaaGreatDxbs
namespace Go.Proofs.YtblplapkdmhikaaGreat
set_option linter.unusedVariables false
set_option linter.unusedSimpArgs false
section
open Go.RowKit
section
variable {h:Hist}
end
/-! the transactions by their ids -/
def HTx.val (t:HTx):Value:= .agg #[.int .i64 t.id,.bool t.done,.slice t.A t.ops.length t.c]
def ByM (m:List (Int×Value)) (txs:List HTx):Prop:=∀i,Zm m i=(Za txs i).map HTx.val
theorem Zfy (a b:List HTx) (i:Int):Za (a++b) i=(Za a i).or (Za b i):=by
 unfold Za;rw[List.find?_append]
theorem ByM.put {m:List (Int×Value)} {txs:List HTx} (h:ByM m txs) (x:HTx) (hn:Za txs x.id=none):ByM (Zt m x.id x.val) (txs++[x]):=fun i=>by
 rw[Zal,Zfy]
 by_cases e:i=x.id
 ·subst e;rw[if_pos rfl,hn];unfold Za;simp
 ·rw[if_neg e,h i]
  have:Za [x] i=none:=by
   unfold Za;rw[List.find?_cons_of_neg (by simpa using fun e2:x.id=i=>e e2.symm)];rfl
  rw[this,Option.or_none]
end
end Go.Proofs.YtblplapkdmhikaaGreat
