/- Walks begun elsewhere, and turned, by the program and by the document. -/
import Derived.Test.YtgakhpdclhlmpaaProg
import Derived.Test.YtgakhpdclhlmpaaWalkE
namespace Go.Proofs.Ytgakhpdclhlmpaa
set_option linter.unusedVariables false
open Go.RowKit

theorem own_emp4 {W : World} {B n : Nat} {e : TypeId} (hn : n = W.heap.size) (hB : B ≤ W.heap.size) : (W.alloc (.cells #[] e)).ownsRow B e 4 (.slice (some ⟨n, 0, none⟩) 0 0) 0 [] := by
  subst hn
  exact own_base (World.ownsRow_made W #[] 0 (Nat.le_refl _) (by decide) rfl) hB
theorem Walk.src {F : Nat → Prop} {w : World} {A : Option Addr} {l : List Edge} (h : Walk F w A l) {n : Nat} (hn : n = l.length) : Src w A n 4 (l.map Edge.cells).flatten := by
  subst hn
  have := Recs.src h edges_len
  rwa [List.length_map] at this
theorem Walk.drop {F : Nat → Prop} {w : World} {A : Option Addr} {l : List Edge} (h : Walk F w A l) {i c : Nat} (hc : l.length ≤ c) : Walk F w (cutA A c i 4) (l.drop i) := by
  unfold Walk
  rw [List.map_drop]
  exact Recs.cut h (by simpa using hc)
theorem Walk.take {F : Nat → Prop} {w : World} {A : Option Addr} {l : List Edge} (h : Walk F w A l) {i : Nat} : Walk F w A (l.take i) := by
  unfold Walk
  rw [List.map_take]
  exact Recs.take h
theorem Walk.of_new {w w' : World} {l : List Edge} {A : Option Addr} {c : Nat} (h : w'.ownsRow w.heap.size 89 4 (.slice A l.length c) l.length (l.map Edge.cells).flatten) : Walk (fun i => w.heap.size ≤ i) w' A l :=
  (Recs.of_own edges_len (by omega) h).weak fun i _ e => (h.lt i e).1

set_option maxRecDepth 100000 in
theorem rbegun (F : Nat → Prop) (w : World) (A : Option Addr) (c : Nat) (l : List Edge) (i : Nat) (h : Walk F w A l) (hl : l.length ≤ 1000000) (hc : l.length ≤ c) (hi : i ≤ l.length) :
    Calls Try.prog 52 #[.slice A l.length c, .int .i64 i] w (NewE w ((rot l i).map Edge.cells).flatten l.length) := by
  have k1 := fun W => run_cut_l W slt_edges A l.length c i hi
  have k2 := fun W => run_cut_h W slt_edges A l.length c i (by omega)
  have L1 := Lib.hid (show l.length - i = (l.drop i).length by rw [List.length_drop])
  have L2 := Lib.hid (show i = (l.take i).length by rw [List.length_take]; omega)
  have H0 : Hid (∀ W, Upd No w W → Walk F W A l) := Lib.hid fun W hu => h.upd hu (fun _ _ => id)
  have hiI : (i : Int) ≤ (l.length : Int) := by omega
  have hiI0 : (0 : Int) ≤ (i : Int) := Int.natCast_nonneg _
  have hicI : (i : Int) ≤ (c : Int) := by omega
  have tok : True := trivial
  go_enter Try.func52, Try.ntmps52
  go_wp2
  go_region_held3 (fun _ => True) (trivial)
    (first
      | (have _t := tok; refine step_appN (by rfl) (by rfl) slt_edges (base := w.heap.size) (v := .slice (some ⟨w.heap.size, 0, none⟩) 0 0) (n := 0) (m := l.length - i) (xs := []) (by rfl) (by rfl) (by exact own_emp4 rfl (by simp)) (Walk.src ((H0.out _ (by with_reducible (repeat (first | exact Upd.refl _ _ | apply Upd.alloc | apply Upd.drew | apply Upd.drewN)))).drop hc) L1.out) edges_one (by omega) (by omega) (by simp) ?_; intro v4 w4 hown4 hu4 hg4; clear tok; simp only [Nat.zero_add, List.nil_append] at hown4; obtain ⟨A4, c4, rfl⟩ := own_slice hown4; have uw4 : Upd No w w4 := (((Upd.refl No w).alloc _).then_ hu4.of_drew (fun j e => .inr (own_ge e))))
      | (refine step_appN (by rfl) (by rfl) slt_edges (n := l.length - i) (m := i) (by rfl) (by rfl) (by exact hown4) (Walk.src ((H0.out _ uw4).drop (i := 0) hc).take (by rw [List.drop_zero]; exact L2.out)) edges_one (by omega) (by omega) (by exact uw4.size) ?_; intro v5 w5 hown5 hu5 hg5; obtain ⟨A5, c5, rfl⟩ := own_slice hown5; have uw5 : Upd No w w5 := uw4.then_ hu5 (fun j e => .inr (hown4.lt j e).1)))
  all_goals go_wp2
  go_ret
  have hll : l.length = l.length - i + i := by omega
  refine ⟨A5, c5, by rw [← hll]; rfl, ?_, uw5⟩
  unfold rot
  rw [List.map_append, List.flatten_append]
  rw [List.drop_zero, ← hll] at hown5
  exact hown5

/-- where the first one begins, of those begun at the first k places -/
def bestF (l : List Edge) : Nat → Nat
  | 0 => 0
  | k + 1 => if lexB (rot l k) (rot l (bestF l k)) = true then k else bestF l k
theorem bestF_le (l : List Edge) : ∀ k, bestF l k ≤ k
  | 0 => Nat.le_refl _
  | k + 1 => by
    unfold bestF
    have := bestF_le l k
    split <;> omega
def turnOf (l : List Edge) : List Edge := rot l (bestF l l.length)
theorem turn_len (l : List Edge) : (turnOf l).length = l.length := rot_len l (bestF_le l _)
set_option maxRecDepth 100000 in
theorem wturn (F : Nat → Prop) (w : World) (A : Option Addr) (c : Nat) (l : List Edge) (h : Walk F w A l) (hl : l.length ≤ 1000000) (hc : l.length ≤ c) :
    Calls Try.prog 25 #[.slice A l.length c] w (NewE w ((turnOf l).map Edge.cells).flatten l.length) := by
  go_enter Try.func25, Try.ntmps25
  go_wp2
  go_loopg [3, 7] l.length (fun gk b n wr => ∃ k bb : Nat, k + gk = l.length ∧ n = .int .i64 k ∧ b = .int .i64 bb ∧ Hid (bb = bestF l k) ∧ Upd No w wr)
  case atStart => exact ⟨0, 0, by omega, rfl, rfl, Lib.hid rfl, Upd.refl _ _⟩
  case round =>
    obtain ⟨k, bb, hgk, rfl, rfl, hbb, hu⟩ := hrel
    have hbl : bb ≤ k := by rw [hbb.out]; exact bestF_le l k
    by_cases hlt : k < l.length
    · have hw := h.upd hu (fun _ _ => id)
      go_wp2_with fail
      refine (wahead F F _ A A c c l l k bb hw hw hl rfl (by omega) (by omega)).mono ?_
      rintro e w2 ⟨rfl, hu2⟩
      by_cases hx : lexB (rot l k) (rot l bb) = true
      · have H := Lib.hid (show k = bestF l (k + 1) by unfold bestF; rw [← hbb.out, if_pos hx])
        go_wp2
        go_roundg (gk - 1)
        case measure => omega
        case rel => exact ⟨k + 1, k, by omega, by go_num, rfl, H, hu.trans hu2⟩
      · have hx' : lexB (rot l k) (rot l bb) = false := by simpa using hx
        have H := Lib.hid (show bb = bestF l (k + 1) by unfold bestF; rw [← hbb.out, if_neg hx])
        clear hx
        go_wp2
        go_roundg (gk - 1)
        case measure => omega
        case rel => exact ⟨k + 1, bb, by omega, by go_num, rfl, H, hu.trans hu2⟩
    · obtain rfl : k = l.length := by omega
      have k1 := fun W => run_cut_l W slt_edges A l.length c bb hbl
      have k2 := fun W => run_cut_h W slt_edges A l.length c bb (by omega)
      have L1 := Lib.hid (show l.length - bb = (l.drop bb).length by rw [List.length_drop])
      have L2 := Lib.hid (show bb = ((l.drop 0).take bb).length by rw [List.length_take, List.drop_zero]; omega)
      have hiI : (bb : Int) ≤ (l.length : Int) := by omega
      have hiI0 : (0 : Int) ≤ (bb : Int) := Int.natCast_nonneg _
      have hicI : (bb : Int) ≤ (c : Int) := by omega
      have hw := h.upd hu (fun _ _ => id)
      have ua := (Upd.refl No wr).alloc (.cells #[.slice (cutA A c bb 4) (l.drop bb).length (c - bb), .slice (cutA A c 0 4) ((l.drop 0).take bb).length c] 22)
      have hcc := wconcat F (wr.alloc (.cells #[.slice (cutA A c bb 4) (l.drop bb).length (c - bb), .slice (cutA A c 0 4) ((l.drop 0).take bb).length c] 22)).drew wr.heap.size 2 _ _ _ _ _ _ (Blk.new wr 22 [.slice (cutA A c bb 4) (l.drop bb).length (c - bb), .slice (cutA A c 0 4) ((l.drop 0).take bb).length c])
        (Walk.upd (hw.drop hc) ua.drew (fun _ _ => id)) (Walk.upd ((hw.drop (i := 0) hc).take) ua.drew (fun _ _ => id)) (by rw [← L1.out, ← L2.out]; omega)
      rw [← L1.out, ← L2.out] at hcc
      have HC := Lib.hid hcc
      clear hcc
      go_wp2
      go_region_held3 (fun _ => True) (trivial)
        ((go_at_call 90; refine HC.out.mono ?_; rintro e w5 ⟨A5, c5, rfl, ho5, hu5⟩))
      all_goals go_wp2
      go_ret
      have hr : l.drop bb ++ (l.drop 0).take bb = turnOf l := by unfold turnOf rot; rw [← hbb.out, List.drop_zero]
      rw [hr, turn_len] at ho5
      refine ⟨A5, c5, rfl, own_base ho5 (Nat.le_trans hu.size (by simp)), (hu.alloc _).trans hu5.of_drew⟩

set_option maxRecDepth 100000 in
theorem rturn (F : Nat → Prop) (w : World) (A : Option Addr) (c : Nat) (l : List Edge) (h : Walk F w A l) (hl : l.length ≤ 1000000) (hc : l.length ≤ c) :
    Calls Try.prog 26 #[.slice A l.length c] w (NewE w ((turnOf l).map Edge.cells).flatten l.length) := by
  have h' : Walk (fun i => i < w.heap.size) w A l := Recs.lt h
  have s1 := Walk.src (Walk.upd h' ((Upd.refl No w).alloc (.cells #[] 89)) (fun _ _ => id)) rfl
  go_enter Try.func26, Try.ntmps26
  go_wp2_with (at_builtin; refine appN rfl rfl slt_edges (base := w.heap.size) (v := .slice (some ⟨w.heap.size, 0, none⟩) 0 0) (n := 0) (m := l.length) (xs := []) (by rfl) (by rfl) (own_emp4 rfl (Nat.le_refl _)) s1 edges_one (by omega) (by omega) (by simp) ?_; intro v1 w1 hown1 hupd1 hgrew1; simp only [Nat.zero_add, List.nil_append] at hown1; obtain ⟨A1, c1, rfl⟩ := own_slice hown1; have uw1 : Upd No w w1 := (((Upd.refl No w).alloc _).then_ hupd1 (fun j e => .inr (own_ge e))))
  go_loopg [3, 5, 11] l.length (fun gk o x n wr => ∃ (k : Nat) (A' : Option Addr) (c' : Nat), k + gk = l.length ∧ n = .int .i64 k ∧ o = .slice A' l.length c' ∧ wr.ownsRow w.heap.size 89 4 (.slice A' l.length c') l.length ((rot l (bestF l k)).map Edge.cells).flatten ∧ Upd No w wr)
  case atStart => exact ⟨0, A1, c1, by omega, rfl, rfl, by simpa [bestF, rot_zero] using hown1, uw1⟩
  case round =>
    obtain ⟨k, A', c', hgk, rfl, rfl, ho, hu⟩ := hrel
    clear hown1 hupd1 hgrew1 uw1 s1
    have hbk := bestF_le l k
    by_cases hlt : k < l.length
    · have hw := Walk.upd h' hu (fun _ _ => id)
      have hrl : (rot l (bestF l k)).length = l.length := rot_len l (by omega)
      have hrk : (rot l k).length = l.length := rot_len l (by omega)
      have hout : Walk (fun i => w.heap.size ≤ i) wr A' (rot l (bestF l k)) := Walk.of_new (by rw [hrl]; exact ho)
      go_wp2_with fail
      refine (rbegun _ _ A c l k hw hl hc (by omega)).mono ?_
      rintro e w2 ⟨A2, c2, rfl, ho2, hu2⟩
      have hx : Walk (fun i => wr.heap.size ≤ i) w2 A2 (rot l k) := Walk.of_new (by rw [hrk]; exact ho2)
      have hless := rwless _ _ w2 A2 A' c2 c' (rot l k) (rot l (bestF l k)) hx (Walk.upd hout hu2 (fun _ _ => id)) (by omega)
      rw [hrk, hrl, show lessB (rot l k) (rot l (bestF l k)) = lexB (rot l k) (rot l (bestF l k)) by unfold lessB; rw [if_pos (by rw [hrk, hrl])]] at hless
      have HL := Lib.hid hless
      clear hless
      go_wp2_with fail
      refine HL.out.mono ?_
      rintro e w3 ⟨rfl, hu3⟩
      by_cases hb : lexB (rot l k) (rot l (bestF l k)) = true
      · have H := Lib.hid (show bestF l (k + 1) = k by
          conv => lhs; unfold bestF
          rw [if_pos hb])
        go_wp2
        go_roundg (gk - 1)
        case measure => omega
        case rel => exact ⟨k + 1, A2, c2, by omega, by go_num, rfl, by rw [H.out]; exact own_upd (own_base ho2 hu.size) hu3 (fun _ _ => id), (hu.trans hu2).trans hu3⟩
      · have hb' : lexB (rot l k) (rot l (bestF l k)) = false := by simpa using hb
        have H := Lib.hid (show bestF l (k + 1) = bestF l k by
          conv => lhs; unfold bestF
          rw [if_neg hb])
        clear hb
        go_wp2
        go_roundg (gk - 1)
        case measure => omega
        case rel => exact ⟨k + 1, A', c', by omega, by go_num, rfl, by rw [H.out]; exact own_upd (own_upd ho hu2 (fun _ _ => id)) hu3 (fun _ _ => id), (hu.trans hu2).trans hu3⟩
    · obtain rfl : k = l.length := by omega
      go_wp2
      go_ret
      exact ⟨A', c', rfl, ho, hu⟩
end Go.Proofs.Ytgakhpdclhlmpaa
