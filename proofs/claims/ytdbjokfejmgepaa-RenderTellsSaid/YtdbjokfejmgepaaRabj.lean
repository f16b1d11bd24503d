/- Looking at a history: the law's asking for some answers. -/
import Derived.Test.YtdbjokfejmgepaaRaag
import Derived.Test.YtdbjokfejmgepaaRabi
namespace Go.Proofs.Ytdbjokfejmgepaa
set_option linter.unusedVariables false
set_option linter.unusedSimpArgs false
section
open Go.RowKit
theorem WalkE.upd {w w':World} {A:Option Addr} {l:List Edge} (h:∃G,Walk G w A l) (k:Upd No w w'):∃G,Walk G w' A l:=by
 obtain⟨G,h⟩:=h;exact⟨G,Recs.upd h k (fun _ _=>id)⟩
theorem Hist.lies.lt {F:Nat→Prop} {w:World} {h:Hist} (H:h.lies F w):h.lies (fun i=>i<w.heap.size) w:=
 ⟨Recs.lt H.txs,Recs.lt H.ords,fun t ht=>⟨Recs.lt (H.tx t ht).1,(H.tx t ht).2⟩,fun o ho=>⟨Ints.lt (H.ord o ho).1,(H.ord o ho).2⟩,H.c,H.d,H.few,H.fewo⟩
end
end Go.Proofs.Ytdbjokfejmgepaa
