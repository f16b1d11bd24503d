/- Digraphs: how one lies in memory; what reads it. -/
import Derived.Lib.Overlaps
import Derived.Laws.Externs
import Derived.Lib.AppendZerosOnto
import Derived.Deep.AppendSrc
import Derived.Test.YtaicemjckagcaaaMae
import Derived.Test.YtaicemjckagcaaaMap
namespace Go.Proofs.Ytaicemjckagcaaa
set_option linter.unusedVariables false
open Go.RowKit
/-- an arc -/
structure HArc where
  f : Int
  t : Int
  kind : Int
  label : Int
deriving DecidableEq
def HArc.cells (a : HArc) : List Value := [.int .i64 a.f, .int .i64 a.t, .int .i64 a.kind, .int .i64 a.label]
/-- rows of ends, each with a row of its own -/
def RowsD (w : World) (base : Nat) (hs : List Value) (ls : List (List DEnd)) : Prop :=
  hs.length = ls.length ∧ ∀ i (hi : i < ls.length), ∃ A c, hs[i]? = some (.slice A ls[i].length c) ∧ w.ownsRow base 139 3 (.slice A ls[i].length c) ls[i].length (ls[i].map DEnd.cells).flatten
/-- no two have a block -/
def ApartD (hs : List Value) : Prop := ∀ (i j : Nat) (v u : Value) (k : Nat), hs[i]? = some v → hs[j]? = some u → i ≠ j → Own v k → ¬ Own u k
/-- a digraph lies there: its blocks are of G -/
structure GIs (w : World) (G : Nat → Prop) (g : Nat) (out inn : List (List DEnd)) (n : Int) (ob ib : Nat) (oh ih : List Value) (base : Nat) : Prop where
  blk : Blk w g 136 [.slice (some ⟨ob, 0, none⟩) out.length out.length, .slice (some ⟨ib, 0, none⟩) out.length out.length, .int .i64 n]
  ob_ : Blk w ob 133 oh
  ib_ : Blk w ib 133 ih
  len : inn.length = out.length
  ro : RowsD w base oh out
  ri : RowsD w base ih inn
  dis : ApartD (oh ++ ih)
  low : g < base ∧ ob < base ∧ ib < base
  ne : g ≠ ob ∧ g ≠ ib ∧ ob ≠ ib
  inG : G g ∧ G ob ∧ G ib ∧ ∀ v ∈ oh ++ ih, ∀ k, Own v k → G k
  old : ∀ k, G k → k < w.heap.size
  few : out.length ≤ 4096 ∧ (∀ l ∈ out, l.length ≤ 100000) ∧ (∀ l ∈ inn, l.length ≤ 100000)
theorem RowsD.upd {S : Nat → Prop} {w w' : World} {base : Nat} {hs : List Value} {ls : List (List DEnd)} (h : RowsD w base hs ls) (k : Upd S w w') (hn : ∀ v ∈ hs, ∀ i, Own v i → ¬ S i) : RowsD w' base hs ls :=
  ⟨h.1, fun i hi => by
    obtain ⟨A, c, h1, h2⟩ := h.2 i hi
    exact ⟨A, c, h1, own_upd h2 k (fun j e => hn _ (List.mem_of_getElem? h1) j e)⟩⟩
theorem GIs.upd {S : Nat → Prop} {w w' : World} {G : Nat → Prop} {g : Nat} {out inn : List (List DEnd)} {n : Int} {ob ib : Nat} {oh ih : List Value} {base : Nat} (h : GIs w G g out inn n ob ib oh ih base) (k : Upd S w w') (hn : ∀ i, G i → ¬ S i) : GIs w' G g out inn n ob ib oh ih base :=
  { h with
    blk := h.blk.upd k (hn _ h.inG.1)
    ob_ := h.ob_.upd k (hn _ h.inG.2.1)
    ib_ := h.ib_.upd k (hn _ h.inG.2.2.1)
    ro := h.ro.upd k fun v hv i e => hn _ (h.inG.2.2.2 v (List.mem_append_left _ hv) i e)
    old := fun i hi => Nat.lt_of_lt_of_le (h.old i hi) k.size
    ri := h.ri.upd k fun v hv i e => hn _ (h.inG.2.2.2 v (List.mem_append_right _ hv) i e) }
section
variable {w : World} {G : Nat → Prop} {g : Nat} {out inn : List (List DEnd)} {n : Int} {ob ib : Nat} {oh ih : List Value} {base : Nat}
end
theorem Upd.blk {S : Nat → Prop} {w w' : World} {g : Nat} {t : TypeId} {cs : List Value} (k : Upd S w w') (h : Blk w g t cs) (hn : ¬ S g) : Blk w' g t cs := h.upd k hn
end Go.Proofs.Ytaicemjckagcaaa

/- Digraphs: a row of ends put in another's place. -/
namespace Go.Proofs.Ytaicemjckagcaaa
set_option linter.unusedVariables false
open Go.RowKit
theorem RowsD.set {w w' : World} {base : Nat} {hs : List Value} {ls : List (List DEnd)} (h : RowsD w base hs ls) (hA : ApartD hs) {i : Nat} (hi : i < ls.length) {v : Value} (hv : hs[i]? = some v) {S : Nat → Prop} (hu : Upd S w w')
    (hS : ∀ (j : Nat) u k, hs[j]? = some u → j ≠ i → Own u k → ¬ S k) {l : List DEnd} {A : Option Addr} {c : Nat} (hn : w'.ownsRow base 139 3 (.slice A l.length c) l.length (l.map DEnd.cells).flatten) :
    RowsD w' base (hs.set i (.slice A l.length c)) (ls.set i l) := by
  refine ⟨by simpa using h.1, fun j hj => ?_⟩
  have hj' : j < ls.length := by simpa using hj
  by_cases e : j = i
  · subst e
    refine ⟨A, c, ?_, ?_⟩
    · rw [List.getElem?_set_self (by rw [h.1]; exact hi)]; simp
    · simpa using hn
  · obtain ⟨B, d, h1, h2⟩ := h.2 j hj'
    have hl : (ls.set i l)[j] = ls[j] := by rw [List.getElem_set_ne (fun x => e x.symm)]
    rw [hl]
    refine ⟨B, d, ?_, own_upd h2 hu (fun k hk => hS j _ k h1 e hk)⟩
    rw [List.getElem?_set_ne (fun x => e x.symm)]; exact h1
theorem ApartD.set {hs : List Value} (h : ApartD hs) {N i : Nat} {v u : Value} (hv : hs[i]? = some v) (hlt : ∀ x ∈ hs, ∀ k, Own x k → k < N) (hu : ∀ k, Own u k → Own v k ∨ N ≤ k) : ApartD (hs.set i u) := by
  intro a b x y k ha hb hab hx hy
  have hil := (List.getElem?_eq_some_iff.1 hv).1
  have mem : ∀ {j : Nat} {z : Value}, hs[j]? = some z → z ∈ hs := fun e => List.mem_of_getElem? e
  by_cases e1 : a = i
  · subst e1
    rw [List.getElem?_set_self hil] at ha
    rw [List.getElem?_set_ne hab] at hb
    cases ha
    rcases hu k hx with h1 | h1
    · exact h _ _ _ _ _ hv hb hab h1 hy
    · have := hlt _ (mem hb) _ hy; omega
  · rw [List.getElem?_set_ne (fun x => e1 x.symm)] at ha
    by_cases e2 : b = i
    · subst e2
      rw [List.getElem?_set_self hil] at hb
      cases hb
      rcases hu k hy with h1 | h1
      · exact h _ _ _ _ _ ha hv hab hx h1
      · have := hlt _ (mem ha) _ hx; omega
    · rw [List.getElem?_set_ne (fun x => e2 x.symm)] at hb
      exact h _ _ _ _ _ ha hb hab hx hy
theorem Grew.own {w : World} {v u : Value} (h : Grew w v u) : ∀ k, Own u k → Own v k ∨ w.heap.size ≤ k := by
  intro k hk
  unfold Own at *
  rcases h with h | ⟨j, h1, h2⟩
  · left; rw [← h]; exact hk
  · right; rw [h1] at hk; cases hk; exact h2
section
variable {w w' : World} {G : Nat → Prop} {g : Nat} {out inn : List (List DEnd)} {n : Int} {ob ib : Nat} {oh ih : List Value} {base : Nat}
end
end Go.Proofs.Ytaicemjckagcaaa

/- Digraphs: an arc added. -/
namespace Go.Proofs.Ytaicemjckagcaaa
set_option linter.unusedVariables false
open Go.RowKit
def DTo (w : World) (G : Nat → Prop) (g : Nat) (out inn : List (List DEnd)) (n : Int) (ob ib : Nat) (base : Nat) (r : Value) (e : Ending) (w' : World) : Prop :=
  ∃ G' oh' ih', e = .returned r ∧ GIs w' G' g out inn n ob ib oh' ih' base ∧ Upd G w w' ∧ ∀ k, G' k → G k ∨ w.heap.size ≤ k
theorem GIs.same {w w' : World} {G : Nat → Prop} {g : Nat} {out inn : List (List DEnd)} {n : Int} {ob ib : Nat} {oh ih : List Value} {base : Nat} (h : GIs w G g out inn n ob ib oh ih base) (k : Upd No w w') (r : Value) : DTo w G g out inn n ob ib base r (.returned r) w' :=
  ⟨G, oh, ih, rfl, h.upd k (fun _ _ => id), k.mono (fun _ _ e => e.elim), fun _ e => .inl e⟩
/-- a row's block, and the block of rows -/
def RowT (v : Value) (b : Nat) : Nat → Prop := fun k => Own v k ∨ k = b
theorem GIs.apart {w : World} {G : Nat → Prop} {g : Nat} {out inn : List (List DEnd)} {n : Int} {ob ib : Nat} {oh ih : List Value} {base : Nat} (h : GIs w G g out inn n ob ib oh ih base) {i j : Nat} {v u : Value} (hv : oh[i]? = some v) (hu : ih[j]? = some u) : ∀ k, u.ownBlock = some k → ¬ RowT v ob k := by
  rintro k hk (e | e)
  · exact h.dis i (oh.length + j) v u k (by rw [List.getElem?_append_left (List.getElem?_eq_some_iff.1 hv).1]; exact hv) (by rw [List.getElem?_append_right (by omega)]; simpa using hu) (by have := (List.getElem?_eq_some_iff.1 hv).1; omega) e hk
  · obtain ⟨hj, rfl⟩ := List.getElem?_eq_some_iff.1 hu
    obtain ⟨B, d, h1, h2⟩ := h.ri.2 j (by rw [← h.ri.1]; exact hj)
    rw [List.getElem?_eq_getElem hj] at h1
    rw [Option.some.inj h1] at hk
    have := (h2.lt _ hk).1
    have := h.low
    omega
section
variable {w : World} {G : Nat → Prop} {g : Nat} {out inn : List (List DEnd)} {n : Nat} {ob ib : Nat} {oh ih : List Value} {base : Nat}
end
end Go.Proofs.Ytaicemjckagcaaa
