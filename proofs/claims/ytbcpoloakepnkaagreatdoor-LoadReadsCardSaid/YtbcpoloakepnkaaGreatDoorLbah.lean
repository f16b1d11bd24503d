/- Maps that the calls themselves make: what is in them, by key, whatever the kind of keys and elements. -/
import Derived.WideLaws
import Derived.Test.YtbcpoloakepnkaaGreatDoorLbaf
namespace Go.Proofs.YtbcpoloakepnkaaGreatDoor
set_option linter.unusedVariables false
set_option linter.unusedSimpArgs false
section
open Go.RowKit
section
variable {α:Type} [DecidableEq α]
def MapIs (w:World) (b:Nat) (enc:α→Value) (m:List (α×Value)):Prop:=
 ∃es clock,w.heap[b]? =some (.map es clock)∧es.toList.map (fun e=>(e.key,e.val))=m.map (fun p=>(enc p.1,p.2))
end
section
variable {α:Type} [DecidableEq α] {P:Program} {w w':World} {b:Nat} {enc:α→Value} {m:List (α×Value)} {S:Nat→Prop} {t kt et:TypeId}
omit [DecidableEq α] in
theorem MapIs.lt (h:MapIs w b enc m):b<w.heap.size:=by
 obtain⟨es,c,hb,_⟩:=h;exact(Array.getElem?_eq_some_iff.1 hb).1
omit [DecidableEq α] in
theorem MapIs.upd (h:MapIs w b enc m) (k:Upd S w w') (hn:¬S b):MapIs w' b enc m:=by
 have hl:=h.lt;obtain⟨es,c,hb,he⟩:=h;exact⟨es,c,(k.block b hl hn).trans hb,he⟩
omit [DecidableEq α] in
theorem MapIs.new (w:World) (enc:α→Value):MapIs (w.alloc (.map #[] 0)) w.heap.size enc ([]:List (α×Value)):=⟨#[],0,heap_alloc_new w _,rfl⟩
end
end
end Go.Proofs.YtbcpoloakepnkaaGreatDoor
