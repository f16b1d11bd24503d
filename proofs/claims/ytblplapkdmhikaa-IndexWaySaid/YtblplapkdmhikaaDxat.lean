/- Transactions that lie there. -/
import Derived.Test.YtblplapkdmhikaaDxak
import Derived.Test.YtblplapkdmhikaaDxam
namespace Go.Proofs.Ytblplapkdmhikaa
set_option linter.unusedVariables false
set_option linter.unusedSimpArgs false
section
open Go.RowKit
theorem Zez {G:Nat→Prop} {w:World} {A:Option Addr} {l:List HTx} (h:Recs G w A 3 (l.map HTx.cells)) {k:Nat} (hk:k<l.length):∃ad,A=some ad∧
  w.cell? (ad.add (k*3))=some (.int .i64 l[k].id)∧w.cell? ⟨(ad.add (k*3)).block,(ad.add (k*3)).off+1,none⟩=some (.bool l[k].done)∧w.cell? ⟨(ad.add (k*3)).block,(ad.add (k*3)).off+2,none⟩=some (.slice l[k].A l[k].ops.length l[k].c):=by
 have hk':k<(l.map HTx.cells).length:=by simpa using hk
 obtain⟨ad,e,_,_,hc⟩:=Recs.at_ h hk';rw[List.getElem_map]at hc;exact⟨ad,e,by simpa using hc 0 _ rfl,by simpa using hc 1 _ rfl,by simpa using hc 2 _ rfl⟩
def TxsY (F:Nat→Prop) (w:World) (A:Option Addr) (l:List HTx):Prop:=Recs F w A 3 (l.map HTx.cells)∧∀t∈l,t.lies F w
theorem HTx.lies.weak {F G:Nat→Prop} {w:World} {t:HTx} (h:t.lies F w) (hg:∀i,i<w.heap.size→F i→G i):t.lies G w:=⟨Recs.weak h.1 hg,h.2⟩
section
variable {F G S:Nat→Prop} {w w':World} {A:Option Addr}
theorem TxsY.upd {l:List HTx} (h:TxsY F w A l) (k:Upd S w w') (hn:∀i,F i→¬S i):TxsY F w' A l:=⟨Recs.upd h.1 k hn,fun t ht=>(h.2 t ht).upd k hn⟩
theorem TxsY.weak {l:List HTx} (h:TxsY F w A l) (hg:∀i,i<w.heap.size→F i→G i):TxsY G w A l:=⟨Recs.weak h.1 hg,fun t ht=>(h.2 t ht).weak hg⟩
end
end
end Go.Proofs.Ytblplapkdmhikaa
