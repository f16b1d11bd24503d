/- Walks: the contracts with their values named. -/
import Derived.Test.YtebjeapnglmokaaMas
import Derived.Test.YtebjeapnglmokaaMav
import Derived.Test.YtebjeapnglmokaaMax
import Derived.Test.YtebjeapnglmokaaMbf
namespace Go.Proofs.Ytebjeapnglmokaa
set_option linter.unusedVariables false
open Go.RowKit
theorem walk_lit (W : World) (l : List Edge) : Walk (fun i => i = W.heap.size) (W.alloc (.cells (l.map Edge.cells).flatten.toArray 29)) (some ⟨W.heap.size, 0, none⟩) l := fun _ => by
  refine ⟨_, rfl, rfl, by simp, fun i row hi j v hj => ?_⟩
  have e1 : (⟨W.heap.size, 0, none⟩ : Addr).add (i * 4 + j) = ⟨W.heap.size, i * 4 + j, none⟩ := by unfold Addr.add; split <;> simp_all
  rw [e1, cell_of_row _ _ _ _ _ (0, 0) (heap_alloc_new W _), List.getElem?_toArray]
  exact flat_get edges_len hi hj
theorem upd_alloc (W : World) (o : Obj) : Upd No W (W.alloc o) := (Upd.refl _ _).alloc o
section
variable {F G : Nat → Prop} {w : World} {A B : Option Addr} {c d n m : Nat} {l k : List Edge}
def WalkX (w : World) (A : Option Addr) (l : List Edge) : Prop := ∃ F, Walk F w A l
theorem closedV {v : Bool} (h : WalkX w A l) (hl : l.length ≤ 1000000) (hn : l.length = n) (hv : closedB l = v) : Calls Try.prog 6 #[.slice A n c] w fun e w' => e = .returned (.bool v) ∧ Upd No w w' := by subst hn hv; obtain ⟨F, h⟩ := h; exact wclosed F w A c l h hl
theorem simpleV {v : Bool} (h : WalkX w A l) (hl : l.length ≤ 1000000) (hn : l.length = n) (hv : simpleB l = v) : Calls Try.prog 8 #[.slice A n c] w fun e w' => e = .returned (.bool v) ∧ Upd No w w' := by subst hn hv; obtain ⟨F, h⟩ := h; exact wsimple F w A c l h hl
theorem maskV {v : Int} (h : WalkX w A l) (hl : l.length ≤ 1000000) (hn : l.length = n) (hv : maskOf l = v) : Calls Try.prog 7 #[.slice A n c] w fun e w' => e = .returned (.int .i64 v) ∧ Upd No w w' := by subst hn hv; obtain ⟨F, h⟩ := h; exact wmask F w A c l h hl
theorem textV {v : ByteArray} (h : WalkX w A l) (hl : l.length ≤ 1000000) (hok : ∀ e ∈ l, e.ok) (hn : l.length = n) (hv : (⟨(textF l l.length).toArray⟩ : ByteArray) = v) : Calls Try.prog 12 #[.slice A n c] w fun e w' => e = .returned (.string v) ∧ Upd No w w' := by subst hn hv; obtain ⟨F, h⟩ := h; exact ptext F w A c l h hl hok
theorem lessV {v : Bool} (h : WalkX w A l) (hk : WalkX w B k) (hl : l.length ≤ 1000000) (hn : l.length = n) (hm : k.length = m) (hv : lessB l k = v) : Calls Try.prog 11 #[.slice A n c, .slice B m d] w fun e w' => e = .returned (.bool v) ∧ Upd No w w' := by subst hn hm hv; obtain ⟨F, h⟩ := h; obtain ⟨G, hk⟩ := hk; exact wless F G w A B c d l k h hk hl
theorem sameV {v : Bool} (h : WalkX w A l) (hk : WalkX w B k) (hl : l.length ≤ 1000000) (hl2 : k.length ≤ 1000000) (hn : l.length = n) (hm : k.length = m) (hv : (l == k) = v) : Calls Try.prog 9 #[.slice A n c, .slice B m d] w fun e w' => e = .returned (.bool v) ∧ Upd No w w' := by subst hn hm hv; obtain ⟨F, h⟩ := h; obtain ⟨G, hk⟩ := hk; exact wsameW w F G A B c d l k h hk (by omega) (by omega)
/-- what Turn leaves -/
def Turned (w : World) (l : List Edge) (n : Nat) (e : Ending) (w' : World) : Prop := ∃ A c, e = .returned (.slice A n c) ∧ WalkX w' A l ∧ Upd No w w'
theorem turnV {t : List Edge} (h : WalkX w A l) (hl : l.length ≤ 1000000) (hc : n ≤ c) (hn : l.length = n) (hv : turnOf l = t) : Calls Try.prog 10 #[.slice A n c] w (Turned w t n) := by
  subst hn hv
  obtain ⟨F, h⟩ := h
  refine (wturn F w A c l h hl hc).mono ?_
  rintro e w' ⟨A', c', rfl, ho, hu⟩
  refine ⟨A', c', rfl, ⟨_, Walk.of_new (w := w) (l := turnOf l) (c := c') ?_⟩, hu⟩
  rw [turn_len]; exact ho
theorem WalkX.upd {w w' : World} (h : WalkX w A l) (k : Upd No w w') : WalkX w' A l := by
  obtain ⟨F, h⟩ := h
  exact ⟨F, Recs.upd h k (fun _ _ => id)⟩
end
theorem walkx_nil {w : World} {A : Option Addr} : WalkX w A [] := ⟨fun _ => False, fun h => absurd rfl h⟩
end Go.Proofs.Ytebjeapnglmokaa
