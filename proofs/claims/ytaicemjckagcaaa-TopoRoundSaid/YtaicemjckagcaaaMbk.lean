/- Ways: one number, repeated. -/
import Derived.Shelf.Bits.Mul64
import Derived.Test.YtaicemjckagcaaaMaa
import Derived.Test.YtaicemjckagcaaaMad
import Derived.Test.YtaicemjckagcaaaMaj
import Derived.Test.YtaicemjckagcaaaMak
import Derived.Test.YtaicemjckagcaaaMbj
namespace Go.Proofs.Ytaicemjckagcaaa
set_option linter.unusedVariables false
open Go.RowKit
/-- numbers of the call's own, in a block of their own -/
def NewD (w : World) (l : List Int) (e : Ending) (w' : World) : Prop :=
  ∃ g, e = .returned (.slice (some ⟨g, 0, none⟩) l.length l.length) ∧ Blk w' g 3 (l.map (Value.int .i64)) ∧ w.heap.size ≤ g ∧ Upd No w w'
theorem made_ints (N : Nat) : madeCells #[Value.int .i64 0] (N * 1) = ((List.replicate N (0 : Int)).map (Value.int .i64)).toArray := by
  apply Array.ext
  · simp [madeCells]
  · intro i h1 h2
    simp [madeCells, Nat.mod_one]
def zerosA (N : Nat) : Array Value := ((List.replicate N (0 : Int)).map (Value.int .i64)).toArray
theorem mk_ints (N : Nat) (hN : N ≤ 1000000) (m : Int) (hm : m = (N : Int)) (W : World) : (Instr.makeSlice 22 (.int .i64 m) (.int .i64 m)).run Try.prog W = .ok (.slice (some ⟨W.heap.size, 0, none⟩) N N) (W.alloc (.cells (zerosA N) 3)) := by
  subst hm
  have := run_mk (P := Try.prog) W slt_int (z := .int .i64 0) (by kernel_rfl) N (by omega) (by omega)
  rw [this]
  show _ = Result.ok _ (W.alloc (.cells (zerosA N) _))
  unfold zerosA
  rw [← made_ints]
  rfl
theorem blk_zeros (W : World) (N : Nat) : Blk (W.alloc (.cells (zerosA N) 3)) W.heap.size 3 ((List.replicate N (0 : Int)).map (Value.int .i64)) := Blk.new W _ _
/-- the first k are x, the others nought -/
def partR (x : Int) (N k : Nat) : List Value := (List.replicate k x ++ List.replicate (N - k) 0).map (Value.int .i64)
theorem partR_len (x : Int) {N k : Nat} (h : k ≤ N) : (partR x N k).length = N := by unfold partR; simp; omega
theorem partR_copy (x : Int) {N k m : Nat} (h : k + m ≤ N) (hm : m ≤ k) : (partR x N k).take k ++ (List.replicate m x).map (Value.int .i64) ++ (partR x N k).drop (k + m) = partR x N (k + m) := by
  unfold partR
  rw [← List.map_take, ← List.map_drop, ← List.map_append, ← List.map_append]
  congr 1
  rw [List.take_append_of_le_length (by simp), List.take_of_length_le (by simp), List.drop_append, List.drop_of_length_le (by simp), List.nil_append, List.drop_replicate]
  simp only [List.length_replicate]
  rw [← List.replicate_append_replicate (n := k) (m := m)]
  congr 2
  omega
theorem bitsmul1 (w : World) (N : Nat) (hN : N ≤ 1000000) : Calls Try.prog 227 #[.int .u64 1, .int .u64 (N : Int)] w fun e w' => e = .returned (.tuple #[.int .u64 0, .int .u64 (N : Int)]) ∧ w = w' := by
  refine Calls.mono (Any.bits_Mul bitsMul_lay 1 N (by omega) (by omega) w) ?_
  rintro e w' ⟨rfl, rfl⟩
  refine ⟨?_, rfl⟩
  rw [show 1 * N / 18446744073709551616 = 0 by omega, show 1 * N % 18446744073709551616 = N by omega]
  rfl
set_option maxRecDepth 100000 in
set_option maxHeartbeats 1000000 in
theorem irepeat (w : World) (F : Nat → Prop) (A : Option Addr) (c : Nat) (x : Int) (N : Nat) (hN : N ≤ 1000000) (h : Ints F w A [x]) : Calls Try.prog 205 #[.slice A 1 c, .int .i64 (N : Int)] w (NewD w (List.replicate N x)) := by
  obtain ⟨ad, rfl, hF, hl, hc⟩ := h (by simp)
  have hc0 := hc 0 x rfl
  have hMk := fun m hm W => mk_ints N hN m hm W
  have hM := Lib.hid (fun W => bitsmul1 W N hN)
  have h0 : decide ((N : Int) < 0) = false := decide_eq_false (by omega)
  have h1 : decide ((0 : Int) < 0) = false := by decide
  have h2 : decide ((9223372036854775807 : Int) < (N : Int)) = false := decide_eq_false (by omega)
  have w1 : IntKind.u64.wrap (N : Int) = (N : Int) := by unfold IntKind.wrap; simp [IntKind.signed, IntKind.bits]; omega
  have w2 : IntKind.i64.wrap (N : Int) = (N : Int) := IntWalk.i64_in _ (by omega)
  go_enter Try.func205, Try.ntmps205
  go_wp2_with fail
  refine (hM.out _).mono ?_
  rintro e w1 ⟨rfl, rfl⟩
  obtain ⟨m0, hm0⟩ : ∃ m, min 1 N = m := ⟨_, rfl⟩
  have HM0 := Lib.hid hm0
  obtain ⟨wz, hwz⟩ : ∃ wz, w.alloc (.cells (zerosA N) 3) = wz := ⟨_, rfl⟩
  have uz : Upd No w wz := by rw [← hwz]; exact (Upd.refl No w).alloc _
  have bz : Blk wz w.heap.size 3 (partR x N 0) := by
    rw [← hwz]
    have := blk_zeros w N
    unfold partR
    simpa using this
  have hcz := uz.keepNo hc0
  have e0 : ad.add 0 = ad := by unfold Addr.add; simp
  rw [e0] at hcz
  have HW := Lib.hid hwz
  have BZ := Lib.hid bz
  have UZ := Lib.hid uz
  have HC := Lib.hid (show ∀ (j : Nat) v, ((List.replicate m0 x).map (Value.int .i64))[j]? = some v → wz.cell? (ad.add j) = some v from fun j v hj => by
    have hj1 : j < m0 := by have := (List.getElem?_eq_some_iff.1 hj).1; simpa using this
    obtain rfl : j = 0 := by omega
    rw [e0, hcz]
    rw [List.getElem?_map, List.getElem?_replicate, if_pos hj1] at hj
    exact hj)
  clear hm0 hwz uz bz hcz hc0 hc hM h e0
  go_wp2_with (refine wp_copyB rfl rfl slt_int (g := w.heap.size) (off := 0) (n := m0) (cs := (List.replicate m0 x).map (Value.int .i64)) rfl rfl (show Blk _ _ 3 (partR x N 0) by first | exact BZ.out | (rw [HW.out]; exact BZ.out)) (by have := HM0.out; simp only [Nat.min_def] at *; split at this <;> split <;> omega) (by simp) (by first | exact HC.out | (rw [HW.out]; exact HC.out)) (by rw [partR_len x (by omega)]; simp; have := HM0.out; omega) (Ints.one_ _) ?_; intro w5 hb5 hu5)
  have hb5' : Blk w5 w.heap.size 3 (partR x N m0) := by
    have e : List.take 0 (partR x N 0) ++ List.map (Value.int .i64) (List.replicate m0 x) ++ List.drop (0 + (List.map (Value.int .i64) (List.replicate m0 x)).length) (partR x N 0) = partR x N m0 := by
      have hm := HM0.out
      rw [List.length_map, List.length_replicate, List.take_zero, List.nil_append, Nat.zero_add]
      unfold partR
      rw [List.replicate_zero, List.nil_append, ← List.map_drop, ← List.map_append, List.drop_replicate]
      rfl
    rw [← e]
    exact hb5
  have hu5' : Upd No w w5 := UZ.out.then_ (HW.out ▸ hu5) fun i e => .inr (by unfold One at e; omega)
  clear hb5 hu5
  go_loopg [8] N (fun gk s wr => ∃ (k : Nat), s = .int .i64 k ∧ k ≤ N ∧ (k = 0 → N = 0) ∧ N ≤ k + gk ∧ Blk wr w.heap.size 3 (partR x N k) ∧ Upd No w wr)
  case atStart => exact ⟨m0, rfl, by have := HM0.out; omega, fun h => by have := HM0.out; omega, by omega, hb5', hu5'⟩
  case round =>
    obtain ⟨k, rfl, hkN, hk0, hgk, hb, hu⟩ := hrel
    by_cases hlt : k < N
    · have hkp : 0 < k := by omega
      obtain ⟨m, hm⟩ : ∃ m, min k (N - k) = m := ⟨_, rfl⟩
      have hn1 : (k : Int) < (N : Int) := by omega
      have hn2 : (0 : Int) ≤ (k : Int) := by omega
      have k2 : ∀ W, (Instr.slice 22 (.slice (some ⟨w.heap.size, 0, none⟩) N N) none (some (.int .i64 (k : Int))) none).run Try.prog W = .ok (.slice (some ⟨w.heap.size, 0, none⟩) k N) W := fun W => by
        have := run_cut_h W slt_int (some ⟨w.heap.size, 0, none⟩) N N k hkN
        rwa [cutA0] at this
      have k3 : ∀ W, (Instr.slice 22 (.slice (some ⟨w.heap.size, 0, none⟩) N N) (some (.int .i64 (k : Int))) none none).run Try.prog W = .ok (.slice (some ⟨w.heap.size, k * 1, none⟩) (N - k) (N - k)) W := fun W => by
        have := run_cut_l W slt_int (some ⟨w.heap.size, 0, none⟩) N N k hkN
        rwa [cutAi (by omega)] at this
      have HB := Lib.hid hb
      have HS := Lib.hid (show ∀ (j : Nat) v, ((List.replicate m x).map (Value.int .i64))[j]? = some v → wr.cell? ((⟨w.heap.size, 0, none⟩ : Addr).add j) = some v from fun j v hj => by
        have hj1 : j < m := by have := (List.getElem?_eq_some_iff.1 hj).1; simpa using this
        rw [blk_lit_add, Nat.zero_add, hb.cell j]
        unfold partR
        rw [List.getElem?_map, List.getElem?_append_left (by simp; omega)]
        simp only [List.getElem?_map] at hj
        rw [← hj]
        simp [show j < k by omega, hj1])
      have HM := Lib.hid hm
      have hwp : IntKind.i64.wrap ((k : Int) + (m : Int)) = (k : Int) + (m : Int) := IntWalk.i64_in _ (by omega)
      have hms : m ≤ k ∧ m ≤ N - k ∧ 0 < m := by omega
      have HU := Lib.hid hu
      clear hb hm hu
      go_wp2
      refine wp_region_noPanic ?_
      refine wp_region_held_drew (S := (fun w' => Upd (One w.heap.size) wr w')) (by kernel_rfl) ?_ (fun hHeld => ?_)
      · (first | exact (Upd.refl _ _).drew | exact hU5)
      refine wpT 0 ⟨some 38, .move (.tmp 8), 3, "slices.go:528", #[], none⟩ ?_ (.inl ⟨by rfl, ?_⟩) ?_
      rotate_left
      · (intro W hSw; (try dsimp only at hSw); go_simp; try (with_reducible rfl))
      try simp only [Act.put]
      try simp only [List.setIfInBounds_toArray]
      try simp only [List.set_cons_succ]
      try simp only [List.set_cons_zero]
      refine wpT 1 ⟨some 39, .move (.tmp 7), 22, "slices.go:528", #[], none⟩ ?_ (.inl ⟨by rfl, ?_⟩) ?_
      rotate_left
      · (intro W hSw; (try dsimp only at hSw); go_simp; try (with_reducible rfl))
      try simp only [Act.put]
      try simp only [List.setIfInBounds_toArray]
      try simp only [List.set_cons_succ]
      try simp only [List.set_cons_zero]
      refine wpT 2 ⟨some 40, .move (.tmp 8), 3, "slices.go:528", #[], none⟩ ?_ (.inl ⟨by rfl, ?_⟩) ?_
      rotate_left
      · (intro W hSw; (try dsimp only at hSw); go_simp; try (with_reducible rfl))
      try simp only [Act.put]
      try simp only [List.setIfInBounds_toArray]
      try simp only [List.set_cons_succ]
      try simp only [List.set_cons_zero]
      refine wpT 3 ⟨some 41, .slice 22 (.tmp 39) (some (.tmp 40)) none none, 22, "slices.go:528", #[⟨1, .data⟩, ⟨2, .data⟩], none⟩ ?_ (.inl ⟨by rfl, ?_⟩) ?_
      rotate_left
      · (intro W hSw; (try dsimp only at hSw); go_simp; try (with_reducible rfl))
      try simp only [Act.put]
      try simp only [List.setIfInBounds_toArray]
      try simp only [List.set_cons_succ]
      try simp only [List.set_cons_zero]
      refine wpT 4 ⟨some 42, .move (.tmp 7), 22, "slices.go:528", #[], none⟩ ?_ (.inl ⟨by rfl, ?_⟩) ?_
      rotate_left
      · (intro W hSw; (try dsimp only at hSw); go_simp; try (with_reducible rfl))
      try simp only [Act.put]
      try simp only [List.setIfInBounds_toArray]
      try simp only [List.set_cons_succ]
      try simp only [List.set_cons_zero]
      refine wpT 5 ⟨some 43, .move (.tmp 8), 3, "slices.go:528", #[], none⟩ ?_ (.inl ⟨by rfl, ?_⟩) ?_
      rotate_left
      · (intro W hSw; (try dsimp only at hSw); go_simp; try (with_reducible rfl))
      try simp only [Act.put]
      try simp only [List.setIfInBounds_toArray]
      try simp only [List.set_cons_succ]
      try simp only [List.set_cons_zero]
      refine wpT 6 ⟨some 44, .slice 22 (.tmp 42) none (some (.tmp 43)) none, 22, "slices.go:528", #[⟨4, .data⟩, ⟨5, .data⟩], none⟩ ?_ (.inl ⟨by rfl, ?_⟩) ?_
      rotate_left
      · (intro W hSw; (try dsimp only at hSw); go_simp; try (with_reducible rfl))
      try simp only [Act.put]
      try simp only [List.setIfInBounds_toArray]
      try simp only [List.set_cons_succ]
      try simp only [List.set_cons_zero]
      refine wpAnyH_ready (rs := [7]) (by kernel_rfl) (by simp) ?_
      refine AllReadyH.cons (o := ⟨some 45, .call { callee := .builtin .copy, args := #[.tmp 41, .tmp 44], argTypes := #[22, 22] }, 3, "slices.go:528", #[⟨3, .data⟩, ⟨6, .data⟩], none⟩) rfl (fun K hK => ?_) AllReadyH.nil
      (first
    | (refine step_copyB rfl rfl slt_int (g := w.heap.size) (off := k) (n := m) (cs := (List.replicate m x).map (Value.int .i64)) rfl rfl (show Blk _ w.heap.size 3 (partR x N k) from HB.out) (show Nat.min k (N - k) = m from HM.out) (by simp) HS.out (by rw [partR_len x hkN]; simp; omega) (Ints.one_ _) ?_; intro w5 hB5 hu5; have hU5 : Upd (One w.heap.size) wr w5 := hu5.of_drew))
      refine hK.out _ _ ?_ (fun hHeld => ?_)
      · (first | exact (Upd.refl _ _).drew | exact hU5)
      clear hK K
      try simp only [Act.put]
      try simp only [List.setIfInBounds_toArray]
      try simp only [List.set_cons_succ]
      try simp only [List.set_cons_zero]
      refine wpT 8 ⟨some 46, .binOp .add 3 (.tmp 38) (.tmp 45) 3, 3, "slices.go:528", #[⟨0, .data⟩, ⟨7, .data⟩], none⟩ ?_ (.inl ⟨by rfl, ?_⟩) ?_
      rotate_left
      · (intro W hSw; (try dsimp only at hSw); go_simp; try (with_reducible rfl))
      try simp only [Act.put]
      try simp only [List.setIfInBounds_toArray]
      try simp only [List.set_cons_succ]
      try simp only [List.set_cons_zero]
      refine wpT 9 ⟨some 8, .assign (.tmp 46), 3, "slices.go:528", #[⟨8, .data⟩, ⟨7, .chain⟩, ⟨0, .phase⟩, ⟨1, .phase⟩, ⟨2, .phase⟩, ⟨3, .phase⟩, ⟨4, .phase⟩, ⟨5, .phase⟩, ⟨6, .phase⟩, ⟨7, .phase⟩, ⟨8, .phase⟩], none⟩ ?_ (.inl ⟨by rfl, ?_⟩) ?_
      rotate_left
      · (intro W hSw; (try dsimp only at hSw); go_simp; try (with_reducible rfl))
      try simp only [Act.put]
      try simp only [List.setIfInBounds_toArray]
      try simp only [List.set_cons_succ]
      try simp only [List.set_cons_zero]
      refine wpAnyH_done (by kernel_rfl) (NoPanic.normal ?_) _
      have hb6 : Blk w5 w.heap.size 3 (partR x N (k + m)) := by
        rw [← partR_copy x (N := N) (k := k) (m := m) (by omega) (by omega)]
        simpa using hB5
      have HU5 := Lib.hid hU5
      clear hHeld hU5 hu5 hB5
      go_wp2
      go_roundg (gk - 1)
      case measure => omega
      case rel => exact ⟨k + m, by go_num, by omega, by omega, by omega, hb6, HU.out.then_ HU5.out fun i e => .inr (by unfold One at e; omega)⟩
    · obtain rfl : k = N := by omega
      go_wp2
      go_ret
      refine ⟨w.heap.size, by simp, ?_, Nat.le_refl _, hu⟩
      unfold partR at hb
      simpa using hb
end Go.Proofs.Ytaicemjckagcaaa

/- Ways: the digraph that is made of arcs; how far each node is. -/
namespace Go.Proofs.Ytaicemjckagcaaa
set_option linter.unusedVariables false
open Go.RowKit
section
variable {w : World} {G : Nat → Prop} {p : Option Addr} {N K : Nat} {q : List HArc}
set_option maxRecDepth 100000 in
theorem dnone (h : DG w G p N K q) (mask least : Int) : Calls Try.prog 162 #[.agg #[.pointer p, .int .i64 mask, .int .i64 least]] w (NewD w (List.replicate N (-1))) := by
  have hN := h.nodes_le
  obtain ⟨wb, hwb⟩ : ∃ wb, (w.alloc (.cells #[.pointer p, .int .i64 mask, .int .i64 least] 232)).alloc (.cells #[.int .i64 (-1)] 3) = wb := ⟨_, rfl⟩
  have u0 : Upd No w wb := by rw [← hwb]; exact ((Upd.refl No w).alloc _).alloc _
  have bS : Blk wb w.heap.size 232 [.pointer p, .int .i64 mask, .int .i64 least] := by rw [← hwb]; exact (Blk.new w _ _).alloc _
  have bL : Ints (fun i => i = w.heap.size + 1) wb (some ⟨w.heap.size + 1, 0, none⟩) [-1] := by
    have := lit_ints (W := w.alloc (.cells #[.pointer p, .int .i64 mask, .int .i64 least] 232)) [-1] 3
    rw [show (w.alloc (.cells #[.pointer p, .int .i64 mask, .int .i64 least] 232)).heap.size = w.heap.size + 1 by simp] at this
    rw [← hwb]
    exact this
  have hn := Lib.hid (dgnodes (h.no u0))
  have hr := Lib.hid (irepeat wb _ _ 1 (-1) N (by omega) bL)
  have c0 := bS.cell 0
  simp only [List.getElem?_cons_zero] at c0
  have U0 := Lib.hid u0
  clear h u0 bS bL
  go_enter Try.func162, Try.ntmps162
  go_wp2_with fail
  refine (hn.out).mono ?_
  rintro e w1 ⟨rfl, rfl⟩
  go_wp2_with fail
  refine (hr.out).mono ?_
  rintro e w2 ⟨g, rfl, hb, hg, hu⟩
  go_wp2
  go_ret
  have := U0.out.size
  exact ⟨g, by simp, hb, by omega, U0.out.trans hu⟩
def startB (N : Nat) (least node : Int) : Bool := decide (max least 0 ≤ node) && decide (node < (N : Int))
set_option maxRecDepth 100000 in
theorem dstart (h : DG w G p N K q) (mask least node : Int) : Calls Try.prog 163 #[.agg #[.pointer p, .int .i64 mask, .int .i64 least], .int .i64 node] w fun e w' => e = .returned (.bool (startB N least node)) ∧ Upd No w w' := by
  have u0 := (Upd.refl No w).alloc (.cells #[.pointer p, .int .i64 mask, .int .i64 least] 232)
  have bS := Blk.new w 232 [.pointer p, .int .i64 mask, .int .i64 least]
  have hn := Lib.hid (dgnodes (h.no u0))
  have c0 := bS.cell 0
  have c2 := bS.cell 2
  simp only [List.getElem?_cons_zero, List.getElem?_cons_succ] at c0 c2
  have U0 := Lib.hid u0
  clear h u0 bS
  by_cases h1 : max least 0 ≤ node
  · have HV := Lib.hid (show startB N least node = decide (node < (N : Int)) by unfold startB; rw [decide_eq_true h1]; rfl)
    by_cases h2 : least < 0
    · have h3 : 0 ≤ node := by omega
      have h4 : max least 0 = 0 := by omega
      go_enter Try.func163, Try.ntmps163
      go_wp2_with fail
      refine (hn.out).mono ?_
      rintro e w1 ⟨rfl, rfl⟩
      go_wp2
      go_ret
      exact ⟨by rw [HV.out]; rfl, U0.out⟩
    · have h3 : least ≤ node := by omega
      have h4 : max least 0 = least := by omega
      go_enter Try.func163, Try.ntmps163
      go_wp2_with fail
      refine (hn.out).mono ?_
      rintro e w1 ⟨rfl, rfl⟩
      go_wp2
      go_ret
      exact ⟨by rw [HV.out]; rfl, U0.out⟩
  · have HV := Lib.hid (show startB N least node = false by unfold startB; rw [decide_eq_false h1]; rfl)
    have hb : decide (max least 0 ≤ node) = false := decide_eq_false h1
    have hb2 : node < max least 0 := by omega
    go_enter Try.func163, Try.ntmps163
    go_wp2
    go_ret
    exact ⟨by rw [HV.out]; rfl, U0.out⟩
end
end Go.Proofs.Ytaicemjckagcaaa

/- Ways: how far each node is. -/
namespace Go.Proofs.Ytaicemjckagcaaa
set_option linter.unusedVariables false
open Go.RowKit
/-- what a row of numbers is, by a function -/
def rowD (N : Nat) (d : Int → Int) : List Int := (List.range N).map fun i : Nat => d (i : Int)
theorem rowD_len (N : Nat) (d : Int → Int) : (rowD N d).length = N := by unfold rowD; simp
theorem rowD_at {N i : Nat} (d : Int → Int) (h : i < N) : (rowD N d)[i]? = some (d (i : Int)) := by
  unfold rowD
  rw [List.getElem?_map, List.getElem?_range h]
  rfl
theorem rowD_const (N : Nat) (v : Int) : rowD N (fun _ => v) = List.replicate N v := by
  unfold rowD
  apply List.ext_getElem
  · simp
  · intro i h1 h2; simp
theorem rowD_set {N u : Nat} (d : Int → Int) (v : Int) (h : u < N) : (rowD N d).set u v = rowD N (updF d (u : Int) v) := by
  unfold rowD
  apply List.ext_getElem
  · simp
  · intro i h1 h2
    rw [List.getElem_set]
    simp only [List.getElem_map, List.getElem_range]
    unfold updF
    by_cases e : u = i
    · subst e; simp
    · rw [if_neg e, if_neg (by omega)]
def nodesZ (N : Nat) : List Int := (List.range N).map fun i : Nat => (i : Int)
theorem mem_nodesZ {N : Nat} {x : Int} : x ∈ nodesZ N ↔ 0 ≤ x ∧ x < (N : Int) := by
  unfold nodesZ
  rw [List.mem_map]
  constructor
  · rintro ⟨i, hi, rfl⟩
    rw [List.mem_range] at hi
    omega
  · rintro ⟨h1, h2⟩
    exact ⟨x.toNat, List.mem_range.2 (by omega), by omega⟩
theorem nodesZ_nodup (N : Nat) : (nodesZ N).Nodup := by
  unfold nodesZ
  refine List.Pairwise.map _ (fun a b h => ?_) (List.nodup_range (n := N))
  omega
theorem nodesZ_len (N : Nat) : (nodesZ N).length = N := by unfold nodesZ; simp
/-- distances and the queue lie there, and a list that is gone through -/
def DQ (w : World) (dg qg N : Nat) (d : Int → Int) (qu : List Int) (A : Option Addr) (us : List Int) (W : World) : Prop :=
  ∃ F F2, Blk W dg 3 ((rowD N d).map (Value.int .i64)) ∧ Que W F qg (N : Int) qu ∧ ¬ F dg ∧ (∀ i, F i → w.heap.size ≤ i) ∧ w.heap.size ≤ dg ∧ Upd No w W ∧ Ints F2 W A us ∧ (∀ i, F2 i → ¬ F i ∧ i ≠ dg ∧ i < W.heap.size)
namespace DQ
variable {w W W' : World} {dg qg N : Nat} {d : Int → Int} {qu us : List Int} {A : Option Addr}
theorem no (h : DQ w dg qg N d qu A us W) (k : Upd No W W') : DQ w dg qg N d qu A us W' := by
  obtain ⟨F, F2, h1, h2, h3, h4, h5, h6, h7, h8⟩ := h
  exact ⟨F, F2, h1.upd k id, h2.upd k (fun _ _ => id), h3, h4, h5, h6.trans k, h7.upd k (fun _ _ => id), fun i hi => ⟨(h8 i hi).1, (h8 i hi).2.1, Nat.lt_of_lt_of_le (h8 i hi).2.2 k.size⟩⟩
theorem upd (h : DQ w dg qg N d qu A us W) : Upd No w W := by
  obtain ⟨F, F2, h1, h2, h3, h4, h5, h6, h7, h8⟩ := h
  exact h6
theorem blk (h : DQ w dg qg N d qu A us W) : Blk W dg 3 ((rowD N d).map (Value.int .i64)) := by
  obtain ⟨F, F2, h1, h2, h3, h4, h5, h6, h7, h8⟩ := h
  exact h1
theorem sl (h : DQ w dg qg N d qu A us W) : ∃ F2, Ints F2 W A us := by
  obtain ⟨F, F2, h1, h2, h3, h4, h5, h6, h7, h8⟩ := h
  exact ⟨F2, h7⟩
theorem bare (h : DQ w dg qg N d qu A us W) : DQ w dg qg N d qu none [] W := by
  obtain ⟨F, F2, h1, h2, h3, h4, h5, h6, h7, h8⟩ := h
  exact ⟨F, fun _ => False, h1, h2, h3, h4, h5, h6, Ints.nil_, fun _ e => e.elim⟩
theorem list_ (h : DQ w dg qg N d qu A us W) {A' : Option Addr} {c' : Nat} {us' : List Int} (k : Upd No W W') (ho : W'.ownsRow W.heap.size 3 1 (.slice A' us'.length c') us'.length (us'.map (Value.int .i64))) : DQ w dg qg N d qu A' us' W' := by
  obtain ⟨F, F2, h1, h2, h3, h4, h5, h6, h7, h8⟩ := h
  have hI : Ints (fun i => W.heap.size ≤ i ∧ i < W'.heap.size) W' A' us' := fun hne => by
    obtain ⟨ad, e, hf, hl, hc⟩ := (Ints.of_own ho) hne
    exact ⟨ad, e, ⟨hf, hl⟩, hl, hc⟩
  refine ⟨F, _, h1.upd k id, h2.upd k (fun _ _ => id), h3, h4, h5, h6.trans k, hI, fun i hi => ⟨fun e => ?_, fun e => ?_, hi.2⟩⟩
  · have := h2.lt i e; omega
  · have := h1.lt; omega
theorem cell (h : DQ w dg qg N d qu A us W) {i : Nat} (hi : i < N) : W.cell? ⟨dg, i, none⟩ = some (.int .i64 (d (i : Int))) := by
  rw [h.blk.cell i, List.getElem?_map, rowD_at d hi]
  rfl
theorem free (h : DQ w dg qg N d qu A us W) (i : Nat) : W.frozen? ⟨dg, i, none⟩ = false := h.blk.free i
theorem set_ (h : DQ w dg qg N d qu A us W) {u : Nat} (hu : u < N) (v : Int) : DQ w dg qg N (updF d (u : Int) v) qu A us (W.setCell ⟨dg, u, none⟩ (.int .i64 v)) := by
  obtain ⟨F, F2, h1, h2, h3, h4, h5, h6, h7, h8⟩ := h
  have k := Upd.setOne (Upd.refl (One dg) W) u (.int .i64 v)
  refine ⟨F, F2, ?_, h2.upd k (fun i hi e => h3 (e ▸ hi)), h3, h4, h5, h6.then_ k fun i e => .inr (by rw [e]; exact h5), h7.upd k (fun i hi e => (h8 i hi).2.1 e), fun i hi => ⟨(h8 i hi).1, (h8 i hi).2.1, Nat.lt_of_lt_of_le (h8 i hi).2.2 k.size⟩⟩
  have := h1.set_ u (.int .i64 v)
  rw [← List.map_set, rowD_set d v hu] at this
  exact this
theorem push (h : DQ w dg qg N d qu A us W) (hN : N ≤ 65536) (hf : qu.length < N) (u : Int) : Calls Try.prog 165 #[.pointer (some ⟨qg, 0, none⟩), .int .i64 u] W fun e w' => e = .returned (.int .i64 0) ∧ DQ w dg qg N d (qu ++ [u]) A us w' := by
  obtain ⟨F, F2, h1, h2, h3, h4, h5, h6, h7, h8⟩ := h
  refine (qpush W F qg (N : Int) qu u h2 (by omega) (by omega) (by omega)).mono ?_
  rintro e w' ⟨rfl, F', hF', hq, hu⟩
  have hs := h6.size
  have hne : ∀ i, i < W.heap.size → ¬ F i → ¬ F' i := fun i hi hn e => by
    rcases hF' i e with e | e
    · exact hn e
    · omega
  refine ⟨rfl, F', F2, h1.upd hu h3, hq, hne dg h1.lt h3, fun i hi => ?_, h5, h6.then_ hu fun i e => .inr (h4 i e), h7.upd hu (fun i hi => (h8 i hi).1), fun i hi => ⟨hne i (h8 i hi).2.2 (h8 i hi).1, (h8 i hi).2.1, Nat.lt_of_lt_of_le (h8 i hi).2.2 hu.size⟩⟩
  rcases hF' i hi with e | e
  · exact h4 i e
  · omega
theorem pop {x : Int} (h : DQ w dg qg N d (x :: qu) A us W) : Calls Try.prog 166 #[.pointer (some ⟨qg, 0, none⟩)] W fun e w' => e = .returned (.tuple #[.int .i64 x, .bool true]) ∧ DQ w dg qg N d qu A us w' := by
  obtain ⟨F, F2, h1, h2, h3, h4, h5, h6, h7, h8⟩ := h
  refine (qpop W F qg (N : Int) x qu h2).mono ?_
  rintro e w' ⟨rfl, hq, hu⟩
  exact ⟨rfl, F, F2, h1.upd hu h3, hq, h3, h4, h5, h6.then_ hu fun i e => .inr (h4 i e), h7.upd hu (fun i hi => (h8 i hi).1), fun i hi => ⟨(h8 i hi).1, (h8 i hi).2.1, Nat.lt_of_lt_of_le (h8 i hi).2.2 hu.size⟩⟩
theorem pop0 (h : DQ w dg qg N d [] A us W) : Calls Try.prog 166 #[.pointer (some ⟨qg, 0, none⟩)] W fun e w' => e = .returned (.tuple #[.int .i64 0, .bool false]) ∧ W = w' := by
  obtain ⟨F, F2, h1, h2, h3, h4, h5, h6, h7, h8⟩ := h
  exact qpop_none W F qg (N : Int) h2
/-- what the next pop hands out -/
theorem popA (h : DQ w dg qg N d qu A us W) : Calls Try.prog 166 #[.pointer (some ⟨qg, 0, none⟩)] W fun e w' => ∃ x b qu', e = .returned (.tuple #[.int .i64 x, .bool b]) ∧ DQ w dg qg N d qu' A us w' ∧ (if b = true then qu = x :: qu' else qu = [] ∧ qu' = []) := by
  cases qu with
  | nil =>
    refine h.pop0.mono ?_
    rintro e w' ⟨rfl, rfl⟩
    exact ⟨0, false, [], rfl, h, by simp⟩
  | cons x qu =>
    refine h.pop.mono ?_
    rintro e w' ⟨rfl, h'⟩
    exact ⟨x, true, qu, rfl, h', by simp⟩
end DQ
def okL (least : Int) : Int → Bool := fun u => decide (least ≤ u)
def prevF (p : List HArc) : Int → List Int := fun x => nxA x true p
def rootF (node : Int) : Int → Int := fun u => if u = node then 0 else -1
/-- how far each node is -/
def distL (N : Nat) (p : List HArc) (least node : Int) : Int → Int := if startB N least node = true then bfsA (okL least) (prevF p) N (rootF node, [node]) else fun _ => -1
theorem rootF_upd (node : Int) : updF (fun _ => (-1 : Int)) node 0 = rootF node := rfl
theorem prevF_in {N : Nat} {p : List HArc} (hp : ∀ x ∈ p, 0 ≤ x.f ∧ x.f < (N : Int)) (v : Int) : ∀ u ∈ prevF p v, u ∈ nodesZ N := fun u hu => by
  unfold prevF nxA at hu
  rw [mem_nxS] at hu
  simp only [List.not_mem_nil, false_or, if_true] at hu
  obtain ⟨x, h1, h2, h3⟩ := hu
  rw [mem_nodesZ, h3]
  exact hp x h1
set_option maxRecDepth 100000 in
set_option maxHeartbeats 4000000 in
theorem dto (w : World) (G : Nat → Prop) (p0 : Option Addr) (N K : Nat) (q : List HArc) (h : DG w G p0 N K q) (hK : K ≤ 100000) (mask node least : Int) :
    Calls Try.prog 125 #[.pointer p0, .int .i64 mask, .int .i64 node, .int .i64 least] w (NewD w (rowD N (distL N (ofA mask q) least node))) := by
  have hN := h.nodes_le
  obtain ⟨p, hp⟩ : ∃ p, ofA mask q = p := ⟨_, rfl⟩
  have hpr : ∀ x ∈ p, 0 ≤ x.f ∧ x.f < (N : Int) := fun x hx => by
    rw [← hp] at hx
    have := (rightA_iff _ _).1 (h.right x (mem_ofA.1 hx).1)
    exact ⟨this.1, this.2.1⟩
  obtain ⟨wb, hwb⟩ : ∃ wb, w.alloc (.cells #[.pointer p0, .int .i64 mask, .int .i64 least] 232) = wb := ⟨_, rfl⟩
  have u0 : Upd No w wb := by rw [← hwb]; exact (Upd.refl No w).alloc _
  have bS : Blk wb w.heap.size 232 [.pointer p0, .int .i64 mask, .int .i64 least] := by rw [← hwb]; exact Blk.new w _ _
  have HG := Lib.hid (fun (W : World) (u : Upd No wb W) => h.no (u0.trans u))
  have HP := Lib.hid (fun (W : World) (u : Upd No wb W) (i : Int) => hp ▸ dgprev (h.no (u0.trans u)) i mask)
  have HS := Lib.hid (fun (W : World) (u : Upd No wb W) => (⟨(bS.upd u id).cell 0, (bS.upd u id).cell 1, (bS.upd u id).cell 2⟩ : W.cell? ⟨w.heap.size, 0, none⟩ = some (.pointer p0) ∧ W.cell? ⟨w.heap.size, 1, none⟩ = some (.int .i64 mask) ∧ W.cell? ⟨w.heap.size, 2, none⟩ = some (.int .i64 least)))
  have HPR := Lib.hid hpr
  have HPL := Lib.hid (show p.length ≤ 1000000 from by rw [← hp]; have := List.length_filter_le (fun x => bitM mask x.kind) q; have := h.few; unfold ofA; omega)
  have U0 := Lib.hid u0
  have Hp := Lib.hid hp
  obtain ⟨c0, c1, c2⟩ := HS.out wb (Upd.refl _ _)
  clear hp hpr h bS
  go_enter Try.func125, Try.ntmps125
  go_wp2_with fail
  refine (dnone (HG.out wb (Upd.refl _ _)) mask least).mono ?_
  rintro e w1 ⟨dg, rfl, hb1, hg1, hu1⟩
  obtain ⟨d0, d1, d2⟩ := HS.out w1 hu1
  cases hs : startB N least node
  · have hst := Lib.hid (hs ▸ dstart (HG.out w1 hu1) mask least node)
    have HV := Lib.hid (show distL N (ofA mask q) least node = fun _ => -1 by unfold distL; rw [hs]; rfl)
    go_wp2_with fail
    refine (hst.out).mono ?_
    rintro e w2 ⟨rfl, hu2⟩
    go_wp2
    go_ret
    refine ⟨dg, by simp [rowD_len], ?_, by have := U0.out.size; omega, (U0.out.trans hu1).trans hu2⟩
    rw [HV.out, rowD_const]
    exact hb1.upd hu2 id
  · have hst := Lib.hid (hs ▸ dstart (HG.out w1 hu1) mask least node)
    have HV := Lib.hid (show distL N (ofA mask q) least node = bfsA (okL least) (prevF p) N (rootF node, [node]) by unfold distL; rw [hs, Hp.out]; rfl)
    unfold startB at hs
    rw [Bool.and_eq_true, decide_eq_true_eq, decide_eq_true_eq] at hs
    obtain ⟨nd, rfl⟩ : ∃ nd : Nat, node = (nd : Int) := ⟨node.toNat, by omega⟩
    have hnd : nd < N := by omega
    have hln : least ≤ (nd : Int) := by omega
    clear hs
    go_wp2_with fail
    refine (hst.out).mono ?_
    rintro e w2 ⟨rfl, hu2⟩
    go_wp2_with fail
    refine (dgnodes (HG.out w2 (hu1.trans hu2))).mono ?_
    rintro e w3 ⟨rfl, rfl⟩
    have hwn : within (N : Int) = (N : Int) := by unfold within; omega
    have hqn := Lib.hid (hwn ▸ qnew w2 (N : Int))
    go_wp2_with fail
    refine (hqn.out).mono ?_
    rintro e w4 ⟨qg, rfl, hqg, hq4, hu4⟩
    have hz1 := U0.out.size
    have hz2 := (hu1.trans hu2).size
    have hb4 := (hb1.upd hu2 id).upd hu4 id
    rw [← rowD_const] at hb4
    have hdq : DQ wb dg qg N (fun _ => -1) [] none [] w4 := ⟨One qg, fun _ => False, hb4, hq4, fun e => by unfold One at e; have := (hb1.upd hu2 id).lt; omega, fun i e => by unfold One at e; omega, hg1, (hu1.trans hu2).trans hu4, Ints.nil_, fun _ e => e.elim⟩
    have fr := hdq.free nd
    have cc := hdq.cell hnd
    have i1 : (0 : Int) ≤ (nd : Int) := by omega
    have i2 : (nd : Int) < (N : Int) := by omega
    have HD := Lib.hid (hdq.set_ hnd 0)
    rw [rootF_upd] at HD
    clear hb1 hu1 hu2 hq4 hu4 hb4 hdq hst hqn d0 d1 d2 c0 c1 c2
    go_wp2_with fail
    refine (HD.out.push (by omega) (by simp; omega) (nd : Int)).mono ?_
    rintro e w5 ⟨rfl, hd5⟩
    rw [List.nil_append] at hd5
    have hdm : (nd : Int) ∈ nodesZ N := mem_nodesZ.2 ⟨i1, i2⟩
    have hcl : ∀ v ∈ nodesZ N, ∀ u ∈ prevF p v, okL least u = true → u ∈ nodesZ N := fun v _ u hu _ => prevF_in HPR.out v u hu
    have B0 := BInv.start (ok := okL least) (ps := prevF p) hdm (nodesZ_nodup N)
    have B1 := Lib.hid (show BInv (okL least) (prevF p) (nodesZ N) (nd : Int) (rootF (nd : Int)) [(nd : Int)] from B0)
    have HM := Lib.hid (show negs (nodesZ N) (rootF (nd : Int)) + [(nd : Int)].length ≤ N by have := B1.out.fit; unfold Fits at this; rw [nodesZ_len] at this; exact this)
    have HCL := Lib.hid hcl
    clear HD B0 hdm hcl HG
    go_wp2_with fail
    refine (hd5.popA).mono ?_
    rintro e w6 ⟨x, b, qu, rfl, hd6, hb6⟩
    have HB6 := Lib.hid hb6
    have HD6 := Lib.hid hd6
    clear hd5 hb6 hd6
    go_wp2
    go_loopg [12, 13] N (fun gk sx sb wr => ∃ (d : Int → Int) (pend qu : List Int) (x : Int) (b : Bool), sx = .int .i64 x ∧ sb = .bool b ∧ Hid (if b = true then pend = x :: qu else pend = [] ∧ qu = []) ∧ Hid (DQ wb dg qg N d qu none [] wr) ∧
      Hid (BInv (okL least) (prevF p) (nodesZ N) (nd : Int) d pend) ∧ Hid (bfsA (okL least) (prevF p) gk (d, pend) = bfsA (okL least) (prevF p) N (rootF (nd : Int), [(nd : Int)])) ∧ Hid (negs (nodesZ N) d + pend.length ≤ gk))
    case atStart => exact ⟨rootF (nd : Int), [(nd : Int)], qu, x, b, rfl, rfl, HB6, HD6, B1, Lib.hid rfl, HM⟩
    case round =>
      obtain ⟨d, pend, qu, x, b, rfl, rfl, hpe, hd, hbi, heq, hme⟩ := hrel
      cases b
      · have hp0 : pend = [] := (show pend = [] ∧ qu = [] from by simpa using hpe.out).1
        have HR := Lib.hid (show d = distL N (ofA mask q) least (nd : Int) by rw [HV.out, ← heq.out, hp0, bfsA_nil])
        have hb := hd.out.blk
        have hu := hd.out.upd
        clear hpe heq hme hbi hp0
        go_wp2
        go_ret
        have := U0.out.size
        refine ⟨dg, by simp [rowD_len], ?_, by omega, U0.out.trans hu⟩
        rw [← HR.out]
        exact hb
      · have hp0 : pend = x :: qu := by simpa using hpe.out
        subst hp0
        have hri := hbi.out.pop
        have hx0 := hbi.out.q0 x List.mem_cons_self
        have hxd := mem_nodesZ.1 (hbi.out.dm x hx0)
        obtain ⟨xi, rfl⟩ : ∃ xi : Nat, x = (xi : Int) := ⟨x.toNat, by omega⟩
        have hxi : xi < N := by omega
        have hme' := hme.out
        simp only [List.length_cons] at hme'
        obtain ⟨g1, rfl⟩ : ∃ g1, gk = g1 + 1 := ⟨gk - 1, by omega⟩
        have hst := heq.out
        rw [bfsA_cons] at hst
        obtain ⟨us, hus⟩ : ∃ us, prevF p (xi : Int) = us := ⟨_, rfl⟩
        have hPx := Lib.hid ((show nxA (xi : Int) true p = us from hus) ▸ HP.out wr hd.out.upd (xi : Int))
        have husl : us.length ≤ p.length := by rw [← hus]; exact nx_nodup _ _ _
        have hpl := HPL.out
        have HUS := Lib.hid hus
        rw [hus] at hst
        have HST := Lib.hid hst
        have HRI := Lib.hid hri
        obtain ⟨dx, hdx⟩ : ∃ v, d (xi : Int) = v := ⟨_, rfl⟩
        rw [hdx] at HST HRI
        obtain ⟨M, hM⟩ : ∃ M, negs (nodesZ N) d + qu.length = M := ⟨_, rfl⟩
        have HMM := Lib.hid (show M ≤ g1 by omega)
        have HM1 := Lib.hid hM
        clear hpe hbi heq hme hri hx0 hxd hme' hst hus hM hdx
        go_wp2_with fail
        refine (hPx.out).mono ?_
        rintro e w7 ⟨A7, c7, rfl, ho7, hu7⟩
        have HD7 := Lib.hid (hd.out.list_ hu7 ho7)
        clear hPx ho7 hu7 hd
        go_wp2
        go_loopg [52] us.length (fun gj i wr => ∃ (j : Nat) (d' : Int → Int) (qu' : List Int), j + gj = us.length ∧ i = .int .i64 j ∧ Hid (DQ wb dg qg N d' qu' A7 us wr) ∧ Hid (RInv (okL least) (prevF p) (nodesZ N) (nd : Int) (xi : Int) dx (us.take j) d' qu') ∧
          Hid (relaxA (okL least) dx (us.drop j) (d', qu') = relaxA (okL least) dx us (d, qu)) ∧ Hid (negs (nodesZ N) d' + qu'.length = M))
        case atStart => exact ⟨0, d, qu, by omega, rfl, HD7, HRI, Lib.hid rfl, HM1⟩
        case round =>
          obtain ⟨j, d', qu', hgj, rfl, hd, hri, heq, hme⟩ := hrel
          by_cases hlt : j < us.length
          · obtain ⟨F2, hI⟩ := hd.out.sl
            obtain ⟨ad, rfl, _, _, hc⟩ := hI.at_ hlt
            obtain ⟨u, hu⟩ : ∃ u, us[j] = u := ⟨_, rfl⟩
            rw [hu] at hc
            have hup : u ∈ prevF p (xi : Int) := by rw [HUS.out, ← hu]; exact List.getElem_mem hlt
            have hud := mem_nodesZ.1 (prevF_in HPR.out (xi : Int) u hup)
            obtain ⟨ui, rfl⟩ : ∃ ui : Nat, u = (ui : Int) := ⟨u.toNat, by omega⟩
            have hui : ui < N := by omega
            have htk : us.take (j + 1) = us.take j ++ [(ui : Int)] := by rw [List.take_succ_eq_append_getElem hlt, hu]
            have hst := heq.out
            rw [show us.drop j = (ui : Int) :: us.drop (j + 1) by rw [← hu]; exact List.drop_eq_getElem_cons hlt, relaxA_cons] at hst
            have b1 : (0 : Int) ≤ (j : Int) := Int.natCast_nonneg _
            have b2 : (j : Int) < (us.length : Int) := by omega
            have b3 : (0 : Int) ≤ (ui : Int) := Int.natCast_nonneg _
            have b4 : (ui : Int) < (N : Int) := by omega
            have cu := hd.out.cell hui
            clear hu hud hI
            by_cases hl : least ≤ (ui : Int)
            · by_cases hneg : d' (ui : Int) < 0
              · have hok : (okL least (ui : Int) && decide (d' (ui : Int) < 0)) = true := by unfold okL; rw [decide_eq_true hl, decide_eq_true hneg]; rfl
                rw [if_pos hok] at hst
                have cx := hd.out.cell hxi
                rw [hri.out.dxe] at cx
                have hri2 := hri.out.push (nodesZ_nodup N) HCL.out hup hok
                rw [← htk] at hri2
                have hfit := hri.out.fit.push (nodesZ_nodup N) (u := (ui : Int)) (mem_nodesZ.2 ⟨b3, b4⟩) hneg (v := dx + 1) (by have := hri.out.dxp; omega)
                rw [nodesZ_len] at hfit
                have hng := negs_upd (v := dx + 1) (nodesZ_nodup N) (mem_nodesZ.2 ⟨b3, b4⟩) hneg (by have := hri.out.dxp; omega)
                have HME := Lib.hid (show negs (nodesZ N) (updF d' (ui : Int) (dx + 1)) + (qu' ++ [(ui : Int)]).length = M by rw [List.length_append, List.length_singleton, ← hme.out]; omega)
                have hdxl : dx ≤ 5000 := by
                  have := hri.out.cap (xi : Int)
                  rw [nodesZ_len, hri.out.dxe] at this
                  omega
                have hdx0 := hri.out.dxp
                have hw : IntKind.i64.wrap (dx + 1) = dx + 1 := IntWalk.i64_in _ (by omega)
                have fu := hd.out.free ui
                have HD2 := Lib.hid (hd.out.set_ hui (dx + 1))
                have HR2 := Lib.hid hri2
                have HS2 := Lib.hid hst
                have HF2 := Lib.hid hfit.2
                clear hst hri hri2 hfit hng hme heq hok hd hup htk
                go_wp2_with fail
                refine (HD2.out.push (by omega) HF2.out (ui : Int)).mono ?_
                rintro e w9 ⟨rfl, hd9⟩
                go_wp2
                go_roundg (gk - 1)
                case measure => omega
                case rel => exact ⟨j + 1, _, _, by omega, by go_num, Lib.hid hd9, HR2, HS2, HME⟩
              · have hok : ¬ (okL least (ui : Int) && decide (d' (ui : Int) < 0)) = true := by rw [decide_eq_false hneg]; simp
                rw [if_neg hok] at hst
                have HR2 := Lib.hid (htk ▸ hri.out.skip hok)
                have HS2 := Lib.hid hst
                clear hst hri heq hok hup htk
                go_wp2
                go_roundg (gk - 1)
                case measure => omega
                case rel => exact ⟨j + 1, d', qu', by omega, by go_num, hd, HR2, HS2, hme⟩
            · have hok : ¬ (okL least (ui : Int) && decide (d' (ui : Int) < 0)) = true := by unfold okL; rw [decide_eq_false hl]; simp
              rw [if_neg hok] at hst
              have HR2 := Lib.hid (htk ▸ hri.out.skip hok)
              have HS2 := Lib.hid hst
              clear hst hri heq hok hup htk
              go_wp2
              go_roundg (gk - 1)
              case measure => omega
              case rel => exact ⟨j + 1, d', qu', by omega, by go_num, hd, HR2, HS2, hme⟩
          · obtain rfl : j = us.length := by omega
            have hst := heq.out
            rw [List.drop_length] at hst
            have hst : (d', qu') = relaxA (okL least) dx us (d, qu) := hst
            have hri' := hri.out
            rw [List.take_length, ← HUS.out] at hri'
            have HBI := Lib.hid hri'.done
            have HE := Lib.hid (show bfsA (okL least) (prevF p) g1 (d', qu') = bfsA (okL least) (prevF p) N (rootF (nd : Int), [(nd : Int)]) by rw [hst]; exact HST.out)
            have HME := Lib.hid (show negs (nodesZ N) d' + qu'.length ≤ g1 by rw [hme.out]; exact HMM.out)
            have HDb := Lib.hid hd.out.bare
            clear hst hri' hri heq hme hd
            go_wp2_with fail
            refine (HDb.out.popA).mono ?_
            rintro e w8 ⟨x2, b2, qu2, rfl, hd8, hb8⟩
            have HD8 := Lib.hid hd8
            have HB8 := Lib.hid hb8
            clear hd8 hb8
            go_wp2
            go_roundg g1
            case measure => omega
            case rel => exact ⟨d', qu', qu2, x2, b2, rfl, rfl, HB8, HD8, HBI, HE, HME⟩
end Go.Proofs.Ytaicemjckagcaaa

/- Ways: the first of the shortest. -/
namespace Go.Proofs.Ytaicemjckagcaaa
set_option linter.unusedVariables false
open Go.RowKit
/-- what the distances are: known by this alone -/
structure DistOf (N : Nat) (p : List HArc) (least node : Int) (d : Int → Int) : Prop where
  lo : ∀ u, -1 ≤ d u
  hi : ∀ u, d u < (N : Int) ∨ d u < 0
  inn : ∀ u, 0 ≤ d u → 0 ≤ u ∧ u < (N : Int)
  clo : ∀ v, 0 ≤ d v → ∀ u ∈ prevF p v, least ≤ u → 0 ≤ d u ∧ d u ≤ d v + 1
  par : ∀ u, 0 ≤ d u → (u = node ∧ startB N least node = true) ∨ ∃ v, u ∈ prevF p v ∧ least ≤ u ∧ 0 ≤ d v ∧ d v + 1 = d u
  z : ∀ u, d u = 0 ↔ (u = node ∧ startB N least node = true)
theorem distL_is {N : Nat} {p : List HArc} (hp : ∀ x ∈ p, 0 ≤ x.f ∧ x.f < (N : Int)) (least node : Int) : DistOf N p least node (distL N p least node) := by
  unfold distL
  by_cases hs : startB N least node = true
  · rw [if_pos hs]
    have hs' := hs
    unfold startB at hs'
    rw [Bool.and_eq_true, decide_eq_true_eq, decide_eq_true_eq] at hs'
    have hdm : node ∈ nodesZ N := mem_nodesZ.2 ⟨by omega, hs'.2⟩
    have hcl : ∀ v ∈ nodesZ N, ∀ u ∈ prevF p v, okL least u = true → u ∈ nodesZ N := fun v _ u hu _ => prevF_in hp v u hu
    have B0 := BInv.start (ok := okL least) (ps := prevF p) hdm (nodesZ_nodup N)
    have B1 : BInv (okL least) (prevF p) (nodesZ N) node (bfsA (okL least) (prevF p) N (rootF node, [node])) [] := bfsA_end (nodesZ_nodup N) hcl N _ _ B0 (by have := B0.fit; unfold Fits at this; rw [nodesZ_len] at this; exact this)
    refine ⟨B1.lo, fun u => ?_, fun u hu => mem_nodesZ.1 (B1.dm u hu), fun v hv u hu hl => B1.clo v hv (by simp) u hu (decide_eq_true hl), fun u hu => ?_, fun u => ?_⟩
    · have := B1.cap u
      rw [nodesZ_len] at this
      exact .inl (by show bfsA _ _ _ _ u < _; omega)
    · rcases B1.par u hu with e | ⟨v, h1, h2, h3⟩
      · exact .inl ⟨e, hs⟩
      · exact .inr ⟨v, h1, of_decide_eq_true h2, h3⟩
    · rw [hs]
      simp only [and_true]
      exact B1.z u
  · rw [if_neg hs]
    refine ⟨fun u => by omega, fun u => .inr (by omega), fun u hu => by omega, fun v hv => by omega, fun u hu => by omega, fun u => ?_⟩
    constructor
    · intro h; omega
    · intro h; exact absurd h.2 hs
theorem mem_prevF {p : List HArc} {u v : Int} : u ∈ prevF p v ↔ ∃ x ∈ p, x.t = v ∧ u = x.f := by
  unfold prevF nxA
  rw [mem_nxS]
  simp
theorem DistOf.le {N : Nat} {p : List HArc} {least node : Int} {d : Int → Int} (h : DistOf N p least node d) {u : Int} (hu : 0 ≤ d u) : least ≤ u := by
  rcases h.par u hu with ⟨e, hs⟩ | ⟨v, h1, h2, h3, h4⟩
  · unfold startB at hs
    rw [Bool.and_eq_true, decide_eq_true_eq] at hs
    omega
  · exact h2
end Go.Proofs.Ytaicemjckagcaaa

/- Ways: how far each node is, by walks with an arc of another mask; plain words on two states of a node. -/
namespace Go.Proofs.Ytaicemjckagcaaa
set_option linter.unusedVariables false
open Go.RowKit
theorem and_one (x : Int) : bits .and .i64 x 1 = x % 2 := by
  have h := and_lit x 1 (by omega)
  rw [Nat.and_one_is_mod] at h
  have h' : bits .and .i64 x 1 = (((x % 18446744073709551616).toNat % 2 : Nat) : Int) := h
  rw [h']
  omega
theorem or_low (u h : Nat) (hu : u ≤ 1000000) (hh : h ≤ 1) : bits .or .i64 ((u : Int) * 2) (h : Int) = (u : Int) * 2 + (h : Int) := by
  change IntKind.i64.wrap (((BitVec.ofInt 64 ((u : Int) * 2) ||| BitVec.ofInt 64 (h : Int)).toNat : Nat) : Int) = _
  have h1 : (BitVec.ofInt 64 ((u : Int) * 2)).toNat = u <<< 1 := by rw [BitVec.toNat_ofInt, Nat.shiftLeft_eq]; omega
  have h2 : (BitVec.ofInt 64 (h : Int)).toNat = h := by rw [BitVec.toNat_ofInt]; omega
  rw [BitVec.toNat_or, h1, h2, ← Nat.shiftLeft_add_eq_or_of_lt (by omega), Nat.shiftLeft_eq]
  have : IntKind.i64.wrap (((u * 2 ^ 1 + h : Nat) : Nat) : Int) = ((u * 2 ^ 1 + h : Nat) : Int) := IntWalk.i64_in _ (by omega)
  rw [this]
  omega
/-- a node's two states, as numbers -/
def nowF (m1 m2 : Int) (had : Int) : Int := if m1 = m2 then 1 else had
def prev2 (p1 p2 : List HArc) (m1 m2 : Int) : Int → List Int := fun x => ((nxA (x / 2) true p1).map fun u => u * 2 + nowF m1 m2 (x % 2)) ++ ((nxA (x / 2) true p2).map fun u => u * 2 + 1)
def okL2 (least : Int) : Int → Bool := fun y => decide (least ≤ y / 2)
def mustL (N : Nat) (p1 p2 : List HArc) (m1 m2 least node : Int) : Int → Int :=
  if startB N least node = true then bfsA (okL2 least) (prev2 p1 p2 m1 m2) (2 * N) (rootF (node * 2), [node * 2]) else fun _ => -1
def row0 (N : Nat) (d : Int → Int) (h : Int) : List Int := rowD N fun i : Int => d (i * 2 + h)
theorem row0_set {N u : Nat} (d : Int → Int) {h : Int} (hh : h = 0 ∨ h = 1) (v : Int) (hu : u < N) : (row0 N d h).set u v = row0 N (updF d ((u : Int) * 2 + h) v) h := by
  unfold row0
  rw [rowD_set _ v hu]
  unfold rowD
  apply List.map_congr_left
  intro i hi
  unfold updF
  by_cases e : (i : Int) = (u : Int)
  · rw [if_pos e]
    show v = if (i : Int) * 2 + h = (u : Int) * 2 + h then v else d ((i : Int) * 2 + h)
    rw [if_pos (by omega)]
  · rw [if_neg e]
    show d ((i : Int) * 2 + h) = if (i : Int) * 2 + h = (u : Int) * 2 + h then v else d ((i : Int) * 2 + h)
    rw [if_neg (by omega)]
theorem row0_other {N : Nat} (d : Int → Int) {u h k : Int} (hh : h = 0 ∨ h = 1) (hk : k = 0 ∨ k = 1) (hne : h ≠ k) (v : Int) : row0 N (updF d (u * 2 + h) v) k = row0 N d k := by
  unfold row0 rowD
  apply List.map_congr_left
  intro i hi
  unfold updF
  show (if (i : Int) * 2 + k = u * 2 + h then v else d ((i : Int) * 2 + k)) = d ((i : Int) * 2 + k)
  rw [if_neg (by omega)]
theorem row0_const (N : Nat) (v h : Int) : row0 N (fun _ => v) h = List.replicate N v := rowD_const N v
theorem prev2_in {N : Nat} {p1 p2 : List HArc} {m1 m2 : Int} (h1 : ∀ x ∈ p1, 0 ≤ x.f ∧ x.f < (N : Int)) (h2 : ∀ x ∈ p2, 0 ≤ x.f ∧ x.f < (N : Int)) (v : Int) : ∀ u ∈ prev2 p1 p2 m1 m2 v, u ∈ nodesZ (2 * N) := fun u hu => by
  unfold prev2 at hu
  rw [mem_nodesZ]
  rcases List.mem_append.1 hu with hu | hu
  · obtain ⟨y, hy, rfl⟩ := List.mem_map.1 hu
    have := mem_nodesZ.1 (prevF_in h1 _ y hy)
    have hn : nowF m1 m2 (v % 2) = 0 ∨ nowF m1 m2 (v % 2) = 1 := by unfold nowF; split <;> omega
    omega
  · obtain ⟨y, hy, rfl⟩ := List.mem_map.1 hu
    have := mem_nodesZ.1 (prevF_in h2 _ y hy)
    omega
end Go.Proofs.Ytaicemjckagcaaa
