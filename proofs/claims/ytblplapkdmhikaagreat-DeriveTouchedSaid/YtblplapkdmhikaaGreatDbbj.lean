/- Looking at a history: the law's asking for some answers. -/
import Derived.Test.YtblplapkdmhikaaGreatDbaj
import Derived.Test.YtblplapkdmhikaaGreatDbbi
namespace Go.Proofs.YtblplapkdmhikaaGreat
set_option linter.unusedVariables false
set_option linter.unusedSimpArgs false
section
open Go.RowKit
theorem WalkE.upd {w w':World} {A:Option Addr} {l:List Edge} (h:∃G,Walk G w A l) (k:Upd No w w'):∃G,Walk G w' A l:=by
 obtain⟨G,h⟩:=h;exact⟨G,Recs.upd h k (fun _ _=>id)⟩
theorem Hist.lies.lt {F:Nat→Prop} {w:World} {h:Hist} (H:h.lies F w):h.lies (fun i=>i<w.heap.size) w:=
 ⟨Recs.lt H.txs,Recs.lt H.ords,fun t ht=>⟨Recs.lt (H.tx t ht).1,(H.tx t ht).2⟩,fun o ho=>⟨Ints.lt (H.ord o ho).1,(H.ord o ho).2⟩,H.c,H.d,H.few,H.fewo⟩
theorem ZhU {F:Nat→Prop} {w:World} {h:Hist} (H:h.lies F w):Hist.lies F w ⟨h.txs,[],h.A,h.c,none,0⟩:=
 ⟨H.txs,fun e=>absurd rfl e,H.tx,fun o ho=>by simp at ho,H.c,Nat.le_refl _,H.few,by simp⟩
end
/- Looking at a history:the law that a walk that is right is right from whichever place it is begun. -/
section
open Go.RowKit
theorem ZeE {P:Program} {ops:Array Oper} {o:Oper} {a:Act} {W:World} {K:Act→World→Prop} {Q:Exit→Act→World→Prop} {E:Prop} (hgd:o.guard=none) {ty:TypeId} {x y:Operand} (ho:o.op= .store ty x y)
  {g:Nat} {t:TypeId} {old cells:List Value} (hx:a.eval x= .pointer (some ⟨g,0,none⟩)) (hy:a.eval y= .agg cells.toArray) (hb:Blk W g t old) (hi:(P.info? ty).map (·.size)=some cells.length) (hold:old.length=cells.length)
  (h1:cells.all (·.oneCell')=true) (h:∀w',Blk w' g t cells→Upd (One g) W w'→K (a.put o.dst undef) w'):if Region.wanted o (yielded ops a.tmps)=true then Oper.wp P o a W K Q else E:=by
 rw[if_pos (by simp[Region.wanted,hgd])];refine wp_store_row ty x y ho g cells.toArray hx hy t old.toArray hb (by simpa using hi) (by simpa using hold) (by simpa using h1) ?_;exact h _ (setRow_heap W g old.toArray cells.toArray t (0,0) hb) ⟨rfl,rfl,rfl,by simp[World.setRow],fun k hk hn=>setRow_other W g k _ hn⟩
end
end Go.Proofs.YtblplapkdmhikaaGreat
