/- Reads that may not be, plain: those whose key counts, as they are gathered. -/
import Derived.Test.YtonblekdfinpkaaGreatSybj
import Derived.Test.YtonblekdfinpkaaGreatSybv
namespace Go.Proofs.YtonblekdfinpkaaGreat
set_option linter.unusedVariables false
set_option linter.unusedSimpArgs false
section
open Go.RowKit
section
variable {h:Hist}
end
/-! the transactions by their ids -/
def HTx.val (t:HTx):Value:= .agg #[.int .i64 t.id,.bool t.done,.slice t.A t.ops.length t.c]
def ByM (m:List (Int×Value)) (txs:List HTx):Prop:=∀i,Zn m i=(Ze txs i).map HTx.val
theorem ZhB (a b:List HTx) (i:Int):Ze (a++b) i=(Ze a i).or (Ze b i):=by
 unfold Ze;rw[List.find?_append]
theorem ByM.put {m:List (Int×Value)} {txs:List HTx} (h:ByM m txs) (x:HTx) (hn:Ze txs x.id=none):ByM (Zk m x.id x.val) (txs++[x]):=fun i=>by
 rw[Zah,ZhB]
 by_cases e:i=x.id
 ·subst e;rw[if_pos rfl,hn];unfold Ze;simp
 ·rw[if_neg e,h i]
  have:Ze [x] i=none:=by
   unfold Ze;rw[List.find?_cons_of_neg (by simpa using fun e2:x.id=i=>e e2.symm)];rfl
  rw[this,Option.or_none]
end
/- Edges of a history:what the law on reasons asks,the plain part. -/
section
open Go.RowKit
section
variable {h:Hist}
theorem Zkw:(ZD h).Pairwise fun a b=>a.e≠b.e:=by
 have:=ZdD (h:=h);rw[List.pairwise_map]at this;refine this.imp fun {a b} hab e=> ?_
 rw[e]at hab;unfold ltE at hab;simp at hab
theorem ZlJ {t:HTx} (hr:Za h=true) (ht:t∈h.txs) (hd:t.done=true):Zq h.txs t.id=some t:=by
 obtain⟨u,hu⟩:=(Za9 hr t.id).1 (by
  unfold Zd;exact List.mem_map.2 ⟨t,List.mem_filter.2 ⟨ht,hd⟩,rfl⟩)
 have h1:=ZbC (ZaQ hu).1
 have h2:u=t:=by
  have hn:=ZcN hr;rw[List.nodup_iff_pairwise_ne,List.pairwise_map]at hn;obtain⟨i,hi,rfl⟩:=List.mem_iff_getElem.1 h1.1;obtain⟨j,hj,rfl⟩:=List.mem_iff_getElem.1 ht;rcases Nat.lt_trichotomy i j with h3|h3|h3
  ·exact absurd h1.2 (List.pairwise_iff_getElem.1 hn i j hi hj h3)
  ·subst h3;rfl
  ·exact absurd h1.2.symm (List.pairwise_iff_getElem.1 hn j i hj hi h3)
 rw[hu,h2]
end
end
end Go.Proofs.YtonblekdfinpkaaGreat
