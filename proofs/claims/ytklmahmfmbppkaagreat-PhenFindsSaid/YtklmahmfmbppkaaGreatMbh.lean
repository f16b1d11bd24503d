/- Looking at a history: the law's asking for some answers. -/
import Derived.Test.YtklmahmfmbppkaaGreatMal
import Derived.Test.YtklmahmfmbppkaaGreatMbg
namespace Go.Proofs.YtklmahmfmbppkaaGreat
set_option linter.unusedSimpArgs false
set_option linter.unusedVariables false
open Go.RowKit
theorem ZnG {w:World} {g:Nat} {t:TypeId} {l:List Edge} (h:Blk w g t (l.map Edge.cells).flatten):∃G,Walk G w (some ⟨g,0,none⟩) l:=⟨_,Zdt ZaD h⟩
theorem WalkE.upd {w w':World} {A:Option Addr} {l:List Edge} (h:∃G,Walk G w A l) (k:Upd No w w'):∃G,Walk G w' A l:=by
 obtain⟨G,h⟩:=h
 exact⟨G,Recs.upd h k (fun _ _=>id)⟩
theorem Hist.lies.lt {F:Nat→Prop} {w:World} {h:Hist} (H:h.lies F w):h.lies (fun i=>i<w.heap.size) w:=
 ⟨Recs.lt H.txs,Recs.lt H.ords,fun t ht=>⟨Recs.lt (H.tx t ht).1,(H.tx t ht).2⟩,fun o ho=>⟨Ints.lt (H.ord o ho).1,(H.ord o ho).2⟩,H.c,H.d,H.few,H.fewo⟩
theorem ZoT {F:Nat→Prop} {w:World} {h:Hist} (H:h.lies F w):Hist.lies F w ⟨h.txs,[],h.A,h.c,none,0⟩:=
 ⟨H.txs,fun e=>absurd rfl e,H.tx,fun o ho=>by simp at ho,H.c,Nat.le_refl _,H.few,by simp⟩
end Go.Proofs.YtklmahmfmbppkaaGreat
