/- Digraphs: the nodes of some ends. -/
import Derived.Laws.StructEq
import Derived.Test.YtaicemjckagcaaaMap
import Derived.Test.YtaicemjckagcaaaMba
import Derived.Test.YtaicemjckagcaaaMbe
namespace Go.Proofs.Ytaicemjckagcaaa
set_option linter.unusedVariables false
open Go.RowKit
end Go.Proofs.Ytaicemjckagcaaa

/- Digraphs: the nodes next to one, and those ahead of it. -/
namespace Go.Proofs.Ytaicemjckagcaaa
set_option linter.unusedVariables false
open Go.RowKit
section
variable {w : World} {G : Nat → Prop} {g : Nat} {out inn : List (List DEnd)} {n : Int} {ob ib : Nat} {oh ih : List Value} {base : Nat}
end
end Go.Proofs.Ytaicemjckagcaaa

/- Digraphs: the arcs that go out of a node. -/
namespace Go.Proofs.Ytaicemjckagcaaa
set_option linter.unusedVariables false
open Go.RowKit
section
variable {w : World} {G : Nat → Prop} {g : Nat} {out inn : List (List DEnd)} {n : Int} {ob ib : Nat} {oh ih : List Value} {base : Nat}
end
end Go.Proofs.Ytaicemjckagcaaa

/- Digraphs: all arcs. -/
namespace Go.Proofs.Ytaicemjckagcaaa
set_option linter.unusedVariables false
open Go.RowKit
section
variable {w : World} {G : Nat → Prop} {g : Nat} {out inn : List (List DEnd)} {n : Int} {ob ib : Nat} {oh ih : List Value} {base : Nat}
end
end Go.Proofs.Ytaicemjckagcaaa

/- Digraphs: lists of arcs; when two are one. -/
namespace Go.Proofs.Ytaicemjckagcaaa
set_option linter.unusedVariables false
open Go.RowKit
/-- arcs lie there -/
def ArcsL (F : Nat → Prop) (w : World) (A : Option Addr) (l : List HArc) : Prop := Recs F w A 4 (l.map HArc.cells)
theorem ArcsL.at_ {F : Nat → Prop} {w : World} {A : Option Addr} {l : List HArc} (h : ArcsL F w A l) {k : Nat} (hk : k < l.length) : ∃ ad, A = some ad ∧
    w.cell? (ad.add (k * 4)) = some (.int .i64 l[k].f) ∧ w.cell? ⟨(ad.add (k * 4)).block, (ad.add (k * 4)).off + 1, none⟩ = some (.int .i64 l[k].t) ∧
    w.cell? ⟨(ad.add (k * 4)).block, (ad.add (k * 4)).off + 2, none⟩ = some (.int .i64 l[k].kind) ∧ w.cell? ⟨(ad.add (k * 4)).block, (ad.add (k * 4)).off + 3, none⟩ = some (.int .i64 l[k].label) := by
  have hk' : k < (l.map HArc.cells).length := by simpa using hk
  obtain ⟨ad, e, _, _, hc⟩ := Recs.at_ h hk'
  rw [List.getElem_map] at hc
  exact ⟨ad, e, by simpa using hc 0 _ rfl, by simpa using hc 1 _ rfl, by simpa using hc 2 _ rfl, by simpa using hc 3 _ rfl⟩
theorem ArcsL.upd {F S : Nat → Prop} {w w' : World} {A : Option Addr} {l : List HArc} (h : ArcsL F w A l) (k : Upd S w w') (hn : ∀ i, F i → ¬ S i) : ArcsL F w' A l := Recs.upd h k hn

end Go.Proofs.Ytaicemjckagcaaa

/- The document's digraph: whether an arc is among some. -/
namespace Go.Proofs.Ytaicemjckagcaaa
set_option linter.unusedVariables false
open Go.RowKit
end Go.Proofs.Ytaicemjckagcaaa

/- The document's digraph: arcs left out, arcs from a node. -/
namespace Go.Proofs.Ytaicemjckagcaaa
set_option linter.unusedVariables false
open Go.RowKit
end Go.Proofs.Ytaicemjckagcaaa

/- The document's digraph: an arc left out. -/
namespace Go.Proofs.Ytaicemjckagcaaa
set_option linter.unusedVariables false
open Go.RowKit
end Go.Proofs.Ytaicemjckagcaaa

/- The document's digraph: the arcs of a mask. -/
namespace Go.Proofs.Ytaicemjckagcaaa
set_option linter.unusedVariables false
open Go.RowKit
end Go.Proofs.Ytaicemjckagcaaa

/- The document's digraph: the order of arcs; how many nodes there may be. -/
namespace Go.Proofs.Ytaicemjckagcaaa
set_option linter.unusedVariables false
open Go.RowKit
def lessA (a b : HArc) : Bool := if a.f = b.f then (if a.kind = b.kind then (if a.label = b.label then decide (a.t < b.t) else decide (a.label < b.label)) else decide (a.kind < b.kind)) else decide (a.f < b.f)
end Go.Proofs.Ytaicemjckagcaaa

/- A nil digraph. -/
namespace Go.Proofs.Ytaicemjckagcaaa
set_option linter.unusedVariables false
open Go.RowKit
end Go.Proofs.Ytaicemjckagcaaa

/- Digraphs, plain: arcs in order, and the rows that hold them. -/
namespace Go.Proofs.Ytaicemjckagcaaa
set_option linter.unusedVariables false
open Go.RowKit
/-! lists in strict order -/
theorem lessA_iff (a b : HArc) : lessA a b = true ↔ a.f < b.f ∨ (a.f = b.f ∧ (a.kind < b.kind ∨ (a.kind = b.kind ∧ (a.label < b.label ∨ (a.label = b.label ∧ a.t < b.t))))) := by
  unfold lessA
  split
  · split
    · split
      · simp_all
      · simp_all
    · simp_all
  · simp_all
theorem lessA_irr (a : HArc) : ¬ lessA a a = true := by rw [lessA_iff]; omega
theorem lessA_trans (a b c : HArc) (h : lessA a b = true) (k : lessA b c = true) : lessA a c = true := by rw [lessA_iff] at *; omega
theorem lessA_tri (a b : HArc) (h : ¬ lessA a b = true) (k : a ≠ b) : lessA b a = true := by
  rw [lessA_iff] at *
  have : ¬ (a.f = b.f ∧ a.kind = b.kind ∧ a.label = b.label ∧ a.t = b.t) := by
    rintro ⟨e1, e2, e3, e4⟩
    obtain ⟨af, at', ak, al⟩ := a
    obtain ⟨bf, bt, bk, bl⟩ := b
    simp only at e1 e2 e3 e4
    subst e1 e2 e3 e4
    exact k rfl
  omega
def sortedA (q : List HArc) : Prop := q.Pairwise fun a b => lessA a b = true
def putA (a : HArc) : List HArc → List HArc
  | [] => [a]
  | x :: l => if lessA x a = true then x :: putA a l else a :: (x :: l).filter (fun y => !(y == a))
theorem mem_putA (a b : HArc) : ∀ l, b ∈ putA a l ↔ b = a ∨ b ∈ l
  | [] => by simp [putA]
  | x :: l => by
    have ih := mem_putA a b l
    unfold putA
    split
    · simp only [List.mem_cons, ih]; grind
    · rw [List.mem_cons, List.mem_filter]
      by_cases h : b = a <;> simp [h]
theorem putA_sorted (a : HArc) : ∀ l, sortedA l → sortedA (putA a l)
  | [], _ => by simp [putA, sortedA]
  | x :: l, h => by
    have h' := List.pairwise_cons.1 h
    unfold putA
    split
    · rename_i hx
      refine List.pairwise_cons.2 ⟨fun b hb => ?_, putA_sorted a l h'.2⟩
      rcases (mem_putA a b l).1 hb with rfl | h2
      · exact hx
      · exact h'.1 b h2
    · rename_i hx
      refine List.pairwise_cons.2 ⟨fun b hb => ?_, h.filter _⟩
      rw [List.mem_filter] at hb
      have h1 : b ≠ a := by simpa using hb.2
      by_cases hxa : x = a
      · subst hxa
        rcases List.mem_cons.1 hb.1 with rfl | h2
        · exact absurd rfl h1
        · exact h'.1 b h2
      · have h3 := lessA_tri x a hx hxa
        rcases List.mem_cons.1 hb.1 with rfl | h2
        · exact h3
        · exact lessA_trans _ _ _ h3 (h'.1 b h2)
theorem putA_len (a : HArc) (l : List HArc) : (putA a l).length ≤ l.length + 1 := by
  induction l with
  | nil => simp [putA]
  | cons x l ih =>
    unfold putA
    split
    · simp only [List.length_cons] at *; omega
    · have := List.length_filter_le (fun y => !(y == a)) (x :: l)
      simp only [List.length_cons] at *; omega
/-- the nodes next to one, by the document -/
def nxS (node : Int) (back : Bool) (s : List Int) : List HArc → List Int
  | [] => s
  | x :: l => nxS node back (if back = true then (if x.t = node then putL x.f s else s) else (if x.f = node then putL x.t s else s)) l
def nxA (node : Int) (back : Bool) (p : List HArc) : List Int := nxS node back [] p
/-! rows of ends -/
theorem cmpD_irr (a : DEnd) : ¬ cmpD a a < 0 := by rw [cmpD_lt]; omega
theorem cmpD_tri (a b : DEnd) (h : ¬ cmpD a b < 0) (k : a ≠ b) : cmpD b a < 0 := by
  rw [cmpD_lt] at *
  have : ¬ (a.kind = b.kind ∧ a.label = b.label ∧ a.node = b.node) := by
    rintro ⟨e1, e2, e3⟩
    obtain ⟨ak, al, an⟩ := a
    obtain ⟨bk, bl, bn⟩ := b
    simp only at e1 e2 e3
    subst e1 e2 e3
    exact k rfl
  omega
theorem mem_putE (l : List DEnd) (e x : DEnd) : x ∈ putE l e ↔ x = e ∨ x ∈ l := by
  unfold putE insAt
  have := List.take_append_drop (posD l e) l
  have h2 : x ∈ l ↔ x ∈ l.take (posD l e) ∨ x ∈ l.drop (posD l e) := by rw [← List.mem_append, this]
  rw [h2]
  simp only [List.mem_append, List.mem_singleton]
  grind
theorem mem_take_lt {l : List DEnd} {p : Nat} {x : DEnd} (h : x ∈ l.take p) : ∃ k, ∃ hk : k < l.length, k < p ∧ l[k] = x := by
  obtain ⟨k, hk, rfl⟩ := List.mem_iff_getElem.1 h
  rw [List.length_take] at hk
  exact ⟨k, by omega, by omega, by simp⟩
theorem mem_drop_ge {l : List DEnd} {p : Nat} {x : DEnd} (h : x ∈ l.drop p) : ∃ k, ∃ hk : k < l.length, p ≤ k ∧ l[k] = x := by
  obtain ⟨k, hk, rfl⟩ := List.mem_iff_getElem.1 h
  rw [List.length_drop] at hk
  exact ⟨p + k, by omega, by omega, by simp⟩
theorem putE_rise {l : List DEnd} (h : riseD l) {e : DEnd} (hn : e ∉ l) : riseD (putE l e) := by
  have hp := posD_parts h e
  unfold putE insAt riseD
  rw [List.pairwise_append, List.pairwise_append]
  have h1 : (l.take (posD l e) ++ l.drop (posD l e)).Pairwise fun a b => cmpD a b < 0 := by rw [List.take_append_drop]; exact h
  rw [List.pairwise_append] at h1
  have hd : ∀ x ∈ l.drop (posD l e), cmpD e x < 0 := fun x hx => by
    obtain ⟨k, hk, hkp, rfl⟩ := mem_drop_ge hx
    exact cmpD_tri _ _ (fun e2 => by have := (hp.2 k hk).1 e2; omega) (fun e2 => hn (e2 ▸ List.getElem_mem hk))
  have ht : ∀ x ∈ l.take (posD l e), cmpD x e < 0 := fun x hx => by
    obtain ⟨k, hk, hkp, rfl⟩ := mem_take_lt hx
    exact (hp.2 k hk).2 hkp
  refine ⟨⟨h1.1, List.pairwise_singleton _ _, fun a ha b hb => ?_⟩, h1.2.1, fun a ha b hb => ?_⟩
  · rw [List.mem_singleton] at hb
    subst hb
    exact ht a ha
  · rcases List.mem_append.1 ha with ha | ha
    · exact h1.2.2 a ha b hb
    · rw [List.mem_singleton] at ha
      subst ha
      exact hd b hb
theorem takeE_rise {l : List DEnd} (h : riseD l) (e : DEnd) : riseD (takeE l e) := by
  unfold takeE delAt riseD
  have h1 : (l.take (posD l e) ++ l.drop (posD l e)).Pairwise fun a b => cmpD a b < 0 := by rw [List.take_append_drop]; exact h
  rw [List.pairwise_append] at h1
  rw [List.pairwise_append]
  have hs : (l.drop (posD l e + 1)).Sublist (l.drop (posD l e)) := by
    have : l.drop (posD l e + 1) = (l.drop (posD l e)).drop 1 := by rw [List.drop_drop]
    rw [this]; exact List.drop_sublist _ _
  exact ⟨h1.1, h1.2.1.sublist hs, fun a ha b hb => h1.2.2 a ha b (hs.subset hb)⟩
theorem mem_takeE {l : List DEnd} (h : riseD l) {e : DEnd} (hm : e ∈ l) (x : DEnd) : x ∈ takeE l e ↔ x ≠ e ∧ x ∈ l := by
  have hlt := posD_lt h hm
  have hat := isAt_mem h e
  rw [decide_eq_true hm] at hat
  have he : l[posD l e] = e := by
    unfold isAt at hat
    rw [List.getElem?_eq_getElem hlt] at hat
    exact (cmpD_eq _ _).1 (by simpa using hat)
  have hsplit : l = l.take (posD l e) ++ e :: l.drop (posD l e + 1) := by
    have h1 := List.take_append_drop (posD l e) l
    rw [List.drop_eq_getElem_cons hlt, he] at h1
    exact h1.symm
  have hpw : (l.take (posD l e) ++ e :: l.drop (posD l e + 1)).Pairwise fun a b => cmpD a b < 0 := by rw [← hsplit]; exact h
  rw [List.pairwise_append] at hpw
  have hc := List.pairwise_cons.1 hpw.2.1
  have hx : x ∈ l ↔ x ∈ l.take (posD l e) ∨ x = e ∨ x ∈ l.drop (posD l e + 1) := by
    conv => lhs; rw [hsplit]
    rw [List.mem_append, List.mem_cons]
  rw [hx]
  unfold takeE delAt
  rw [List.mem_append]
  constructor
  · rintro (h1 | h1)
    · exact ⟨fun e2 => cmpD_irr e (by have := hpw.2.2 x h1 e List.mem_cons_self; rwa [e2] at this), .inl h1⟩
    · exact ⟨fun e2 => cmpD_irr e (by have := hc.1 x h1; rwa [e2] at this), .inr (.inr h1)⟩
  · rintro ⟨h1, h2 | h2 | h2⟩
    · exact .inl h2
    · exact absurd h2 h1
    · exact .inr h2
end Go.Proofs.Ytaicemjckagcaaa
