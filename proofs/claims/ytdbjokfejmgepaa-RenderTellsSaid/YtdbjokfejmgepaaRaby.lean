/- Reads that may not be, plain: those whose key counts, as they are gathered. -/
import Derived.Test.YtdbjokfejmgepaaRabl
import Derived.Test.YtdbjokfejmgepaaRabx
namespace Go.Proofs.Ytdbjokfejmgepaa
set_option linter.unusedVariables false
set_option linter.unusedSimpArgs false
section
open Go.RowKit
section
variable {h:Hist}
end
/-! the transactions by their ids -/
def HTx.val (t:HTx):Value:= .agg #[.int .i64 t.id,.bool t.done,.slice t.A t.ops.length t.c]
def ByM (m:List (Int×Value)) (txs:List HTx):Prop:=∀i,Z8 m i=(Zi txs i).map HTx.val
theorem ZhO (a b:List HTx) (i:Int):Zi (a++b) i=(Zi a i).or (Zi b i):=by
 unfold Zi;rw[List.find?_append]
theorem ByM.put {m:List (Int×Value)} {txs:List HTx} (h:ByM m txs) (x:HTx) (hn:Zi txs x.id=none):ByM (Zbh m x.id x.val) (txs++[x]):=fun i=>by
 rw[ZbB,ZhO]
 by_cases e:i=x.id
 ·subst e;rw[if_pos rfl,hn];unfold Zi;simp
 ·rw[if_neg e,h i]
  have:Zi [x] i=none:=by
   unfold Zi;rw[List.find?_cons_of_neg (by simpa using fun e2:x.id=i=>e e2.symm)];rfl
  rw[this,Option.or_none]
end
/- Edges of a history:what the law on reasons asks,the plain part. -/
section
open Go.RowKit
section
variable {h:Hist}
theorem ZjP:(ZK h).Pairwise fun a b=>a.e≠b.e:=by
 have:=ZgP (h:=h);rw[List.pairwise_map]at this;refine this.imp fun {a b} hab e=> ?_
 rw[e]at hab;unfold ltE at hab;simp at hab
end
end
end Go.Proofs.Ytdbjokfejmgepaa
