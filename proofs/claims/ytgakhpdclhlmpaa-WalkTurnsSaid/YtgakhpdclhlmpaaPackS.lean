/- Edges sorted, each once: slices.Clone, SortFunc, Compact at edges; pack.Sort. -/
import Derived.Shelf.SlSortCmp.NoneTotal
import Derived.Lib.SliceRun
import Derived.Test.YtgakhpdclhlmpaaLaySort
import Derived.Test.YtgakhpdclhlmpaaWalkF
import Derived.Test.YtgakhpdclhlmpaaTurnP
namespace Go.Proofs.Ytgakhpdclhlmpaa
set_option linter.unusedVariables false
open Go.RowKit

instance : Inhabited Edge := ⟨⟨0, 0, 0, 0⟩⟩
theorem flatK_list (d : Array Edge) : (Sort.flatK Edge.cells 4 d).toList = (d.toList.map Edge.cells).flatten := by
  apply List.ext_getElem?
  intro t
  have hlen : ((d.toList.map Edge.cells).flatten).length = d.size * 4 := by rw [flat_len edges_len]; simp
  by_cases ht : t < d.size * 4
  · have hq : t / 4 < d.size := by omega
    have h1 : (d.toList.map Edge.cells)[t / 4]? = some (Edge.cells d[t / 4]!) := by
      rw [List.getElem?_map, Array.getElem?_toList, Array.getElem?_eq_getElem hq, getElem!_pos d _ hq]; rfl
    have h3 : t % 4 < (Edge.cells d[t / 4]!).length := by simp [Edge.cells]; omega
    have h2 : (Edge.cells d[t / 4]!)[t % 4]? = some ((Edge.cells d[t / 4]!)[t % 4]!) := by
      rw [getElem!_pos (Edge.cells d[t / 4]!) (t % 4) h3, List.getElem?_eq_getElem h3]
    have := flat_get edges_len h1 h2
    rw [show t / 4 * 4 + t % 4 = t by omega] at this
    rw [this, Array.getElem?_toList]
    have h4 := Sort.get_flatK Edge.cells 4 d t ht
    have h5 : t < (Sort.flatK Edge.cells 4 d).size := by simpa using ht
    rw [Array.getElem?_eq_getElem h5, ← h4, getElem!_pos (Sort.flatK Edge.cells 4 d) t h5]
  · rw [List.getElem?_eq_none (by simp; omega), List.getElem?_eq_none (by omega)]
theorem put_list (F cs : Array Value) (h : F.size ≤ cs.size) : Sort.putCells id 0 F cs = (F.toList ++ cs.toList.drop F.size).toArray := by
  apply Array.ext'
  apply List.ext_getElem?
  intro t
  unfold Sort.putCells
  simp only [Nat.zero_add, Nat.zero_le, true_and, Nat.sub_zero, id_eq, Array.getElem?_toList, Array.getElem?_mapIdx]
  by_cases h1 : t < F.size
  · rw [List.getElem?_append_left (by simpa using h1), Array.getElem?_toList, Array.getElem?_eq_getElem (show t < cs.size by omega), Array.getElem?_eq_getElem h1]
    simp [h1]
  · rw [List.getElem?_append_right (by simpa using h1), List.getElem?_drop]
    simp only [Array.length_toList, Array.getElem?_toList]
    rw [show F.size + (t - F.size) = t by omega]
    cases cs[t]? <;> simp [h1]
theorem sorted_blk {w : World} {g n : Nat} {t : TypeId} {cs : List Value} {d : Array Edge} {os : Array Obj} (hb : Blk w g t cs) (hl : d.size * 4 ≤ cs.length) :
    Blk (sortWorldK Edge.cells 4 w g 0 n d os) g t ((d.toList.map Edge.cells).flatten ++ cs.drop (d.size * 4)) := by
  have hlt := hb.lt
  unfold Blk at hb ⊢
  have e1 : (sortWorldK Edge.cells 4 w g 0 n d os).heap[g]? = some (.cells (Sort.putCells id 0 (Sort.flatK Edge.cells 4 d) cs.toArray) t (0, 0)) := by
    unfold sortWorldK Sort.grow Sort.putRowK Sort.putRow Sort.mapBlock
    simp only
    rw [Array.getElem?_append_left (by simpa using hlt), Array.getElem?_modify]
    simp only [if_true]
    rw [show (Sort.ahead w n).heap = w.heap from rfl, hb]
    rfl
  rw [e1, put_list _ _ (by simpa using hl), flatK_list]
  simp
theorem sorted_upd (w : World) (g n : Nat) (d : Array Edge) (os : Array Obj) : Upd (One g) w (sortWorldK Edge.cells 4 w g 0 n d os) := by
  refine ⟨rfl, rfl, rfl, ?_, fun k hk hn => ?_⟩
  · unfold sortWorldK Sort.grow Sort.putRowK Sort.putRow Sort.mapBlock
    simp only [Array.size_append, Array.size_modify]
    show w.heap.size ≤ w.heap.size + os.size
    omega
  · unfold sortWorldK Sort.grow Sort.putRowK Sort.putRow Sort.mapBlock
    simp only
    rw [Array.getElem?_append_left (by simpa using hk), Array.getElem?_modify, if_neg (fun e => hn e.symm)]
    rfl
theorem lt_of_cmp (x y : Edge) : ltOf cmpE x y = ltE x y := by
  unfold ltOf
  exact cmpE_lt x y
theorem swoE : Sort.SWO (ltOf cmpE) where
  irrefl x := by rw [lt_of_cmp]; exact ltE_irr x
  trans x y z h1 h2 := by rw [lt_of_cmp] at *; exact ltE_trans h1 h2
  ntrans x y z h1 h2 := by
    rw [lt_of_cmp] at *
    rw [← Bool.not_eq_true, ltE_iff] at *
    omega
theorem holdsE {w : World} {g : Nat} {t : TypeId} {cs : List Value} {l : List Edge} (hb : Blk w g t cs) (hcs : cs.take (l.length * 4) = (l.map Edge.cells).flatten) : Sort.HoldsK Edge.cells 4 w g 0 l.toArray := by
  intro j hj
  simp only [Sort.size_flatK, List.size_toArray] at hj
  rw [Nat.zero_add]
  refine ⟨?_, hb.free j⟩
  rw [hb.cell j]
  have h1 : (cs.take (l.length * 4))[j]? = cs[j]? := by rw [List.getElem?_take, if_pos hj]
  have h2 := flatK_list l.toArray
  rw [← h1, hcs]
  have h3 : j < (Sort.flatK Edge.cells 4 l.toArray).size := by simpa using hj
  rw [show (l.map Edge.cells).flatten = (Sort.flatK Edge.cells 4 l.toArray).toList from h2.symm, Array.getElem?_toList, Array.getElem?_eq_getElem h3, getElem!_pos (Sort.flatK Edge.cells 4 l.toArray) j h3]
  rfl
def sortE (l : List Edge) : List Edge := l.mergeSort fun x y => !(ltOf cmpE) y x
theorem sortE_len (l : List Edge) : (sortE l).length = l.length := List.length_mergeSort ..
set_option maxHeartbeats 1000000 in
theorem esort (w : World) (g cap : Nat) (l : List Edge) (cs : List Value) (hb : Blk w g 89 cs) (hcs : cs.take (l.length * 4) = (l.map Edge.cells).flatten) (hlen : l.length * 4 ≤ cs.length) (hl : l.length ≤ 1000000) :
    Calls Try.prog 118 #[.slice (some ⟨g, 0, none⟩) l.length cap, .func (.func 119) #[] #[]] w fun e w' => e = .returned (.tuple #[]) ∧ Blk w' g 89 (((sortE l).map Edge.cells).flatten ++ cs.drop (l.length * 4)) ∧ Upd (One g) w w' := by
  have eg : ∀ args w, (callFunc 119 args).run Try.prog w = .ok (.enter 119 args) w := enters_of Try.func119 (by kernel_rfl) rfl
  have hcmp : CmpLays Try.prog 119 #[] Edge.cells 4 cmpE g 0 l.toArray.size w := fun m os dk _ x y => pcompareG _ x y
  have hcon := AnyQ.slices_SortFunc_total sortE_lay 4 Try.isAgg89 Try.sizeOf89 Edge.cells (fun _ => rfl) (fun x v hv => edges_one (l := [x]) v (by simpa using hv)) cmpE swoE 119 #[] g 0 cap l.toArray w eg hcmp (holdsE hb hcs) hb.lt (by simp; omega) (fun x y h1 h2 => ltE_tri (by rw [← lt_of_cmp]; exact h1) (by rw [← lt_of_cmp]; exact h2))
  refine Calls.mono hcon ?_
  rintro e w' ⟨rfl, n, os, rfl⟩
  refine ⟨rfl, ?_, sorted_upd _ _ _ _ _⟩
  have h := sorted_blk (n := n) (d := (l.mergeSort fun x y => !(ltOf cmpE) y x).toArray) (os := os) hb (by simpa using hlen)
  simp only [List.size_toArray, List.length_mergeSort] at h
  exact h
theorem eclone (F : Nat → Prop) (w : World) (A : Option Addr) (c : Nat) (l : List Edge) (h : Walk F w A l) (hl : l.length ≤ 1000000) :
    Calls Try.prog 117 #[.slice A l.length c] w (NewE w (l.map Edge.cells).flatten l.length) := by
  have qT : ∀ (w : World) (a : Option Addr) (n c : Nat), (binOp .eql 22 (.slice a n c) (.slice none 0 0)).run Try.prog w = .ok (.bool a.isNone) w := fun w a n c => Lib.run_eql_slice_nil w _ _ a n c 0 0 Try.underlying22
  cases A with
  | none =>
    have h0 : l = [] := by
      cases l with
      | nil => rfl
      | cons a l => obtain ⟨_, e, _⟩ := h (by simp); cases e
    subst h0
    go_enter Try.func117, Try.ntmps117
    go_wp2
    go_ret
    exact ⟨none, 0, rfl, World.ownsRow_nil _ _ _ _, Upd.refl _ _⟩
  | some ad =>
    have hs := Lib.hid (h.upd ((Upd.refl No w).alloc (.cells #[] 89)) (fun _ _ => id))
    go_enter Try.func117, Try.ntmps117
    go_wp2_with (at_builtin; refine appN rfl rfl slt_edges (base := w.heap.size) (v := .slice (some ⟨w.heap.size, 0, none⟩) 0 0) (n := 0) (m := l.length) (xs := []) rfl rfl (own_emp4 rfl (Nat.le_refl _)) (Walk.src hs.out rfl) edges_one (by omega) (by omega) (by simp) ?_)
    intro v4 w4 hown4 hu4 hg4
    obtain ⟨A4, c4, rfl⟩ := own_slice hown4
    have uw4 : Upd No w w4 := ((Upd.refl No w).alloc _).then_ hu4 (fun j e => .inr (own_ge e))
    go_wp2
    go_ret
    exact ⟨A4, c4, rfl, hown4, uw4⟩
end Go.Proofs.Ytgakhpdclhlmpaa
