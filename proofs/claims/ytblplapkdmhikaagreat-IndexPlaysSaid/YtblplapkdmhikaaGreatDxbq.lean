/- Phenomena, plain: one brings another; where there is an order that goes along there is none. -/
import Derived.Test.YtblplapkdmhikaaGreatDxam
import Derived.Test.YtblplapkdmhikaaGreatDxan
import Derived.Test.YtblplapkdmhikaaGreatDxar
import Derived.Test.YtblplapkdmhikaaGreatDxay
import Derived.Test.YtblplapkdmhikaaGreatDxbh
import Derived.Test.YtblplapkdmhikaaGreatDxbk
import Derived.Test.YtblplapkdmhikaaGreatDxbl
import Derived.Test.YtblplapkdmhikaaGreatDxbp
namespace Go.Proofs.YtblplapkdmhikaaGreat
set_option linter.unusedVariables false
set_option linter.unusedSimpArgs false
section
theorem RchE.mono {D D':List Edge} (h:∀e∈D,e∈D') {x y:Int} (k:RchE D x y):RchE D' x y:=by
 induction k with
 |refl=>exact RchE.refl _
 |step _ h2 h3 ih=>exact ih.step (h _ h2) h3
end
/- Orders:what is kept while topo.Order runs. -/
section
open Go.RowKit
structure NextIs (w:World) (b z:Nat) (m:List (Int×Value)) (f:Int→List Int):Prop where
 is:MapIs w b (fun n:Int=>Value.int .i64 n) m
 row:∀key,∃A c,(Zm m key).getD (.slice none 0 0)= .slice A (f key).length c∧Ints (fun i=>b<i∧i<z) w A (f key)
theorem NextIs.upd {S:Nat→Prop} {w w':World} {b z:Nat} {m:List (Int×Value)} {f:Int→List Int} (h:NextIs w b z m f) (k:Upd S w w') (hS:∀i,b≤i→i<z→¬S i) (hz:b<z):NextIs w' b z m f:=by
 refine⟨h.is.upd k (hS b (Nat.le_refl _) hz),fun key=> ?_⟩;obtain⟨A,c,h1,h2⟩:=h.row key;exact⟨A,c,h1,h2.upd k fun i hi=>hS i (Nat.le_of_lt hi.1) hi.2⟩
theorem MapSl.next {w:World} {b z:Nat} {m:List (Int×Value)} {f:Int→List Int} (h:MapSl w (b+1) b m f) (hz:w.heap.size≤z):NextIs w b z m f:=by
 refine⟨h.is,fun key=> ?_⟩;obtain⟨A,c,h1,h2⟩:=h.row key;exact⟨A,c,h1,(Ints.of_own h2).weak fun i hi hb=>⟨by omega,by omega⟩⟩
def GMap (m:List (Int×Value)) (ids:List Int) (g:Int→Int):Prop:=∀x,Zm m x=if x∈ids then some (.int .i64 (g x)) else none
theorem GMap.get {m:List (Int×Value)} {ids:List Int} {g:Int→Int} (h:GMap m ids g) (x:Int):(Zm m x).getD (.int .i64 0)= .int .i64 (if x∈ids then g x else 0):=by
 rw[h x];split<;>rfl
theorem GMap.put {m:List (Int×Value)} {ids:List Int} {g:Int→Int} (h:GMap m ids g) {x v:Int} (hx:x∈ids):GMap (Zt m x (.int .i64 v)) ids (fun y=>if y=x then v else g y):=fun y=>by
 rw[Zal]
 by_cases e:y=x
 ·subst e;simp[hx]
 ·rw[if_neg e,h y];simp[e]
section
variable {w wr w1 w2 w5 w6:World} {base hb ba bn:Nat} {mn mA:List (Int×Value)} {l:List Edge} {ids L nx ys ys' out:List Int} {g:Int→Int} {A A' Ao Ao':Option Addr} {c c' co co':Nat} {m x:Int}
end
end
end Go.Proofs.YtblplapkdmhikaaGreat
