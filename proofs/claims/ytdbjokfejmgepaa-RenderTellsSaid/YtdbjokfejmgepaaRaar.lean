/- Maps that the calls themselves make: an entry that is looked for, or laid, and stored into (m[k]++). -/
import Derived.WideKeyEntry
import Derived.Maps.RangeRun
import Derived.Test.YtdbjokfejmgepaaRaaq
namespace Go.Proofs.Ytdbjokfejmgepaa
set_option linter.unusedVariables false
set_option linter.unusedSimpArgs false
section
open Go.RowKit
def MapE {α:Type} (w:World) (b:Nat) (enc:α→Value) (m:List (α×Value)):Prop:=
 ∃es clock,w.heap[b]? =some (.map es clock)∧es.toList.map (fun e=>(e.key,e.val))=m.map (fun p=>(enc p.1,p.2))∧(∀x∈es.toList,x.born<clock)∧(es.toList.map (·.born)).Nodup
section
variable {α:Type} {P:Program} {w w':World} {b:Nat} {enc:α→Value} {m:List (α×Value)} {S:Nat→Prop} {t kt et:TypeId}
theorem MapE.is (h:MapE w b enc m):MapIs w b enc m:=by
 obtain⟨es,c,hb,he,_⟩:=h;exact⟨es,c,hb,he⟩
theorem MapE.lt (h:MapE w b enc m):b<w.heap.size:=h.is.lt
theorem MapE.upd (h:MapE w b enc m) (k:Upd S w w') (hn:¬S b):MapE w' b enc m:=by
 have hl:=h.lt;obtain⟨es,c,hb,he⟩:=h;exact⟨es,c,(k.block b hl hn).trans hb,he⟩
theorem MapE.new (w:World) (enc:α→Value):MapE (w.alloc (.map #[] 0)) w.heap.size enc ([]:List (α×Value)):=⟨#[],0,heap_alloc_new w _,rfl,by simp,by simp⟩
end
section
variable {α:Type} [DecidableEq α] {P:Program} {w w':World} {b:Nat} {enc:α→Value} {m:List (α×Value)} {S:Nat→Prop} {t kt et:TypeId}
end
end
/- A range over a map that the call itself made:the entries come in whatever order,each once. -/
section
open Go.RowKit
def Iter {α:Type} (w:World) (r b:Nat) (enc:α→Value) (m left:List (α×Value)):Prop:=
 ∃es clock since c0 seen,w.heap[r]? =some (.mapIter (some b) since seen c0)∧w.heap[b]? =some (.map es clock)∧es.toList.map (fun e=>(e.key,e.val))=m.map (fun p=>(enc p.1,p.2))∧
  (∀x∈es.toList,x.born<since)∧since≤c0∧since≤clock∧(es.toList.map (·.born)).Nodup∧(leftOf es seen).toList.map (fun e=>(e.key,e.val))=left.map (fun p=>(enc p.1,p.2))
section
variable {α:Type} {P:Program} {w w':World} {r b:Nat} {enc:α→Value} {m left:List (α×Value)} {S:Nat→Prop} {t kt et:TypeId}
theorem Iter.upd (h:Iter w r b enc m left) (k:Upd S w w') (hr:¬S r) (hb:¬S b):Iter w' r b enc m left:=by
 obtain⟨es,clock,since,c0,seen,h1,h2,h3⟩:=h;exact⟨es,clock,since,c0,seen,(k.block r (Array.getElem?_eq_some_iff.1 h1).1 hr).trans h1,(k.block b (Array.getElem?_eq_some_iff.1 h2).1 hb).trans h2,h3⟩
theorem Iter.lt (h:Iter w r b enc m left):r<w.heap.size:=by
 obtain⟨es,clock,since,c0,seen,h1,_⟩:=h;exact(Array.getElem?_eq_some_iff.1 h1).1
end
end
end Go.Proofs.Ytdbjokfejmgepaa
