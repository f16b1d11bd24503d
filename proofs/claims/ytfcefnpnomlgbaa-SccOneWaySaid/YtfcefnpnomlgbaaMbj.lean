/- Closed walks, plain: the document's answer, and that the search by ranks tells the same. -/
import Derived.Test.YtfcefnpnomlgbaaProg
import Derived.Deep.RegionHeld3
import Derived.BigRegion
import Derived.Test.YtfcefnpnomlgbaaMam
import Derived.Test.YtfcefnpnomlgbaaMas
import Derived.Test.YtfcefnpnomlgbaaMbd
import Derived.Test.YtfcefnpnomlgbaaMbe
import Derived.Test.YtfcefnpnomlgbaaMbf
import Derived.Test.YtfcefnpnomlgbaaMbg
import Derived.Test.YtfcefnpnomlgbaaMbi
namespace Go.Proofs.Ytfcefnpnomlgbaa
set_option linter.unusedSimpArgs false
set_option linter.unusedVariables false
open Go.RowKit
theorem Short.mem {D D':List HArc} {must:Int} {need:Bool} {v:Int} {c:List HArc} (h:Short D must need v c) (hD:∀a,a∈D↔a∈D'):Short D' must need v c:=
 h.less (fun a ha=>(hD a).2 ha) (fun a ha=>(hD a).1 (Zbc h.w a ha))
theorem NoWay.mem {D D':List HArc} {must:Int} {need:Bool} (h:NoWay D must need) (hD:∀a,a∈D'→a∈D):NoWay D' must need:=
 fun u c' n1 n2 n3=>h u c' n1 (Zbj hD (Int.le_refl _) n2) n3
section
variable {l:List Edge} {mask must:Int}
end
section
variable {D:List Edge}
end
end Go.Proofs.Ytfcefnpnomlgbaa
/- Closed walks:the numbers of some edges. -/
namespace Go.Proofs.Ytfcefnpnomlgbaa
set_option linter.unusedSimpArgs false
set_option linter.unusedVariables false
open Go.RowKit
theorem Zcr {P:Program} (w:World) (g i:Nat) (t ty:TypeId) (old:Array Value) (v:Value) (hg:w.heap[g]? =some (.cells old t (0,0))) (hi:(P.info? ty).map (·.size)=some 1)
  (ho:i<old.size) (h1:v.oneCell'=true):
  (storeVar ty ⟨g,i,none⟩ v).run P w= .ok () (w.setCell ⟨g,i,none⟩ v):=by
 have hst:∀m,(store ⟨g,i,none⟩ v m).run P w= .ok () (w.setCell ⟨g,i,none⟩ v):=fun m=>by
  rw[run_store P w _ v m h1]
  simp[World.cell?,World.frozen?,hg,ho]
 have hadd:(⟨g,i,none⟩:Addr).add 0=⟨g,i,none⟩:=by unfold Addr.add;simp
 have hsc:(storeCells ⟨g,i,none⟩ [v] 0).run P w= .ok () (w.setCell ⟨g,i,none⟩ v):=by
  simp only[storeCells,Sem.run_bind,hadd,hst,Result.andThen_ok]
  rfl
 cases hq:P.info? ty with
 |none=>simp[hq]at hi
 |some j=>
  have hs:j.size=1:=by simpa[hq]using hi
  cases v<;>first|(simp[Value.oneCell']at h1;done)|simp[storeVar,sizeOf,typeInfo,hq,hs,Value.cells,hsc]
theorem ZfO {P:Program} {o:Oper} {a:Act} {W:World} {K:Act→World→Prop} {Q:Exit→Act→World→Prop} {ty:TypeId} {x y:Operand} (ho:o.op= .store ty x y)
  {g i:Nat} {t:TypeId} {old:List Value} {v:Value} (hx:a.eval x= .pointer (some ⟨g,i,none⟩)) (hy:a.eval y=v) (hb:Blk W g t old) (hi:(P.info? ty).map (·.size)=some 1) (hl:i<old.length) (h1:v.oneCell'=true)
  (h:∀w',Blk w' g t (old.set i v)→Upd (One g) W w'→K (a.put o.dst undef) w'):o.wp P a W K Q:=by
 unfold Oper.wp execOp
 simp only[ho,hx,hy,Instr.storeAt,Instr.sureAddr,Sem.run_bind,Sem.run_pure,Result.andThen_ok,Zcr W g i t ty old.toArray v hb hi (by simpa using hl) h1]
 exact h _ (hb.set_ i v) ((Upd.refl (One g) W).setOne i v)
theorem Zz {P:Program} {ops:Array Oper} {o:Oper} {a:Act} {W:World} {K:Act→World→Prop} {Q:Exit→Act→World→Prop} {E:Prop} (hgd:o.guard=none) {ty:TypeId} {x y:Operand} (ho:o.op= .store ty x y)
  {g i:Nat} {t:TypeId} {old:List Value} {v:Value} (hx:a.eval x= .pointer (some ⟨g,i,none⟩)) (hy:a.eval y=v) (hb:Blk W g t old) (hi:(P.info? ty).map (·.size)=some 1) (hl:i<old.length) (h1:v.oneCell'=true)
  (h:∀w',Blk w' g t (old.set i v)→Upd (One g) W w'→K (a.put o.dst undef) w'):if Region.wanted o (yielded ops a.tmps)=true then Oper.wp P o a W K Q else E:=by
 rw[if_pos (by simp[Region.wanted,hgd])]
 exact ZfO ho hx hy hb hi hl h1 h
theorem Zct {A:Option Addr} {n m c d i:Nat} (h:Own (.slice A n c) i):Own (.slice A m d) i:=by
 cases A with
 |none=>cases h
 |some a=>exact h
end Go.Proofs.Ytfcefnpnomlgbaa
/- Closed walks:the answers that the document gives. -/
namespace Go.Proofs.Ytfcefnpnomlgbaa
set_option linter.unusedSimpArgs false
set_option linter.unusedVariables false
open Go.RowKit
def eb:Edge:=⟨2,1,3,5⟩
section
variable {F:Nat→Prop} {w:World} {A:Option Addr} {c:Nat} {l d:List Edge} {mask must:Int}
end
end Go.Proofs.Ytfcefnpnomlgbaa
/- Closed walks,the document's:the ids from which so many steps lead to one. -/
namespace Go.Proofs.Ytfcefnpnomlgbaa
set_option linter.unusedSimpArgs false
set_option linter.unusedVariables false
open Go.RowKit
theorem ZfY {a n c i:Nat} (e:Own (.slice (some ⟨a,0,none⟩) n c) i):a=i:=by simpa[Own,Value.ownBlock]using e
def RowOk (F:Nat→Prop) (w:World) (v:Value) (l:List Int):Prop:=∃B c,v= .slice B l.length c∧Ints F w B l
theorem RowOk.upd {F S:Nat→Prop} {w w':World} {v:Value} {l:List Int} (h:RowOk F w v l) (u:Upd S w w') (hn:∀i,F i→¬S i):RowOk F w' v l:=by
 obtain⟨B,c,e,h⟩:=h
 exact⟨B,c,e,h.upd u hn⟩
theorem RowOk.weak {F G:Nat→Prop} {w:World} {v:Value} {l:List Int} (h:RowOk F w v l) (hg:∀i,i<w.heap.size→F i→G i):RowOk G w v l:=by
 obtain⟨B,c,e,h⟩:=h
 exact⟨B,c,e,h.weak hg⟩
structure RowsOk (F:Nat→Prop) (w:World) (vs:List Value) (f:Nat→List Int):Prop where
 ok:∀(j:Nat) (h:j<vs.length),RowOk F w vs[j] (f j)
theorem RowsOk.upd {F S:Nat→Prop} {w w':World} {vs:List Value} {f:Nat→List Int} (h:RowsOk F w vs f) (u:Upd S w w') (hn:∀i,F i→¬S i):RowsOk F w' vs f:=⟨fun j hj=>(h.ok j hj).upd u hn⟩
theorem RowsOk.weak {F G:Nat→Prop} {w:World} {vs:List Value} {f:Nat→List Int} (h:RowsOk F w vs f) (hg:∀i,i<w.heap.size→F i→G i):RowsOk G w vs f:=⟨fun j hj=>(h.ok j hj).weak hg⟩
theorem RowsOk.app {F:Nat→Prop} {w:World} {vs:List Value} {f:Nat→List Int} {v:Value} (h:RowsOk F w vs f) (k:RowOk F w v (f vs.length)):RowsOk F w (vs++[v]) f:=⟨fun j hj=>by
 rw[List.length_append,List.length_singleton]at hj
 by_cases h1:j<vs.length
 ·rw[List.getElem_append_left h1]
  exact h.ok j h1
 ·have h2:j=vs.length:=by omega
  subst h2
  rw[List.getElem_append_right (Nat.le_refl _)]
  simpa using k⟩
structure RowsAt (w:World) (A:Option Addr) (n:Nat) (f:Nat→List Int):Prop where
 at_:∀j,j<n→∃ad B c,A=some ad∧w.cell? (ad.add j)=some (.slice B (f j).length c)∧Ints (fun _=>True) w B (f j)
theorem RowsAt.upd {w w':World} {A:Option Addr} {n:Nat} {f:Nat→List Int} (h:RowsAt w A n f) (u:Upd No w w'):RowsAt w' A n f:=⟨fun j hj=>by
 obtain⟨ad,B,c,e,h1,h2⟩:=h.at_ j hj
 exact⟨ad,B,c,e,u.keepNo h1,h2.upd u (fun _ _=>id)⟩⟩
end Go.Proofs.Ytfcefnpnomlgbaa
