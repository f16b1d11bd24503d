/- Edges held against one another: by the program and by the document. -/
import Derived.Test.YtaicemjckagcaaaProg
import Derived.Sort.Grow
import Derived.IntWalk
import Derived.Deep.RegionHeld3
import Derived.Test.YtaicemjckagcaaaMai
import Derived.Test.YtaicemjckagcaaaMas
namespace Go.Proofs.Ytaicemjckagcaaa
set_option linter.unusedVariables false
open Go.RowKit

def cmpI (a b : Int) : Int := if a < b then -1 else if b < a then 1 else 0
/-- new blocks, and draws, and no more -/
def Grw (w w' : World) : Prop := ∃ q os', w' = Sort.grow (w.drewN q) os'
theorem Grw.refl (w : World) : Grw w w := ⟨0, #[], by unfold Sort.grow World.drewN; simp⟩
theorem Grw.alloc {w w' : World} (h : Grw w w') (o : Obj) : Grw w (w'.alloc o) := by
  obtain ⟨q, os', rfl⟩ := h
  exact ⟨q, os'.push o, by unfold Sort.grow World.drewN World.alloc; simp⟩
theorem Grw.drewN {w w' : World} (h : Grw w w') (n : Nat) : Grw w (w'.drewN n) := by
  obtain ⟨q, os', rfl⟩ := h
  exact ⟨q + n, os', by unfold Sort.grow World.drewN; simp [Nat.add_assoc]⟩
theorem Grw.upd {w w' : World} (h : Grw w w') : Upd No w w' := by
  obtain ⟨q, os', rfl⟩ := h
  exact ⟨rfl, rfl, rfl, by unfold Sort.grow World.drewN; simp, fun k hk _ => by unfold Sort.grow World.drewN; simp [Array.getElem?_append_left hk]⟩
end Go.Proofs.Ytaicemjckagcaaa

/- Digraphs: ends held against one another. -/
namespace Go.Proofs.Ytaicemjckagcaaa
set_option linter.unusedVariables false
open Go.RowKit
/-- an arc seen from one of its nodes -/
structure DEnd where
  kind : Int
  label : Int
  node : Int
deriving DecidableEq
def DEnd.cells (e : DEnd) : List Value := [.int .i64 e.kind, .int .i64 e.label, .int .i64 e.node]
/-- the first that is not 0 -/
def orI : List Int → Int
  | [] => 0
  | x :: l => if x = 0 then orI l else x
theorem orI_cons (x : Int) (l : List Int) : orI (x :: l) = if x = 0 then orI l else x := rfl
def cmpD (a b : DEnd) : Int := orI [cmpI a.kind b.kind, cmpI a.label b.label, cmpI a.node b.node]
end Go.Proofs.Ytaicemjckagcaaa

/- Digraphs: where an end stands among others. -/
namespace Go.Proofs.Ytaicemjckagcaaa
set_option linter.unusedVariables false
open Go.RowKit
def DEnds (F : Nat → Prop) (w : World) (A : Option Addr) (l : List DEnd) : Prop := Recs F w A 3 (l.map DEnd.cells)
theorem DEnds.at_ {F : Nat → Prop} {w : World} {A : Option Addr} {l : List DEnd} (h : DEnds F w A l) {k : Nat} (hk : k < l.length) : ∃ ad, A = some ad ∧
    w.cell? (ad.add (k * 3)) = some (.int .i64 l[k].kind) ∧ w.cell? ⟨(ad.add (k * 3)).block, (ad.add (k * 3)).off + 1, none⟩ = some (.int .i64 l[k].label) ∧
    w.cell? ⟨(ad.add (k * 3)).block, (ad.add (k * 3)).off + 2, none⟩ = some (.int .i64 l[k].node) := by
  have hk' : k < (l.map DEnd.cells).length := by simpa using hk
  obtain ⟨ad, e, _, _, hc⟩ := Recs.at_ h hk'
  rw [List.getElem_map] at hc
  exact ⟨ad, e, by simpa using hc 0 _ rfl, by simpa using hc 1 _ rfl, by simpa using hc 2 _ rfl⟩
theorem DEnds.upd {F S : Nat → Prop} {w w' : World} {A : Option Addr} {l : List DEnd} (h : DEnds F w A l) (k : Upd S w w') (hn : ∀ i, F i → ¬ S i) : DEnds F w' A l := Recs.upd h k hn
/-- place p parts what is less than e from the rest -/
def Parts (l : List DEnd) (e : DEnd) (p : Nat) : Prop := p ≤ l.length ∧ ∀ k (hk : k < l.length), (cmpD l[k] e < 0 ↔ k < p)
def isAt (l : List DEnd) (e : DEnd) (p : Nat) : Bool := match l[p]? with | some x => cmpD x e == 0 | none => false
end Go.Proofs.Ytaicemjckagcaaa

/- Walks held against one another, from whichever places they begin. -/
namespace Go.Proofs.Ytaicemjckagcaaa
set_option linter.unusedVariables false
open Go.RowKit

end Go.Proofs.Ytaicemjckagcaaa
