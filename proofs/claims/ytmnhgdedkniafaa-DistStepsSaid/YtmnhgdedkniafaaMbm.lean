/- Ways: one number, repeated. -/
import Derived.Shelf.Bits.Mul64
import Derived.Test.YtmnhgdedkniafaaMab
import Derived.Test.YtmnhgdedkniafaaMaf
import Derived.Test.YtmnhgdedkniafaaMak
import Derived.Test.YtmnhgdedkniafaaMan
import Derived.Test.YtmnhgdedkniafaaMbk
import Derived.Test.YtmnhgdedkniafaaMbl
namespace Go.Proofs.Ytmnhgdedkniafaa
set_option linter.unusedVariables false
open Go.RowKit
/-- numbers of the call's own, in a block of their own -/
def NewD (w : World) (l : List Int) (e : Ending) (w' : World) : Prop :=
  ∃ g, e = .returned (.slice (some ⟨g, 0, none⟩) l.length l.length) ∧ Blk w' g 3 (l.map (Value.int .i64)) ∧ w.heap.size ≤ g ∧ Upd No w w'
theorem made_ints (N : Nat) : madeCells #[Value.int .i64 0] (N * 1) = ((List.replicate N (0 : Int)).map (Value.int .i64)).toArray := by
  apply Array.ext
  · simp [madeCells]
  · intro i h1 h2
    simp [madeCells, Nat.mod_one]
def zerosA (N : Nat) : Array Value := ((List.replicate N (0 : Int)).map (Value.int .i64)).toArray
theorem mk_ints (N : Nat) (hN : N ≤ 1000000) (m : Int) (hm : m = (N : Int)) (W : World) : (Instr.makeSlice 50 (.int .i64 m) (.int .i64 m)).run Try.prog W = .ok (.slice (some ⟨W.heap.size, 0, none⟩) N N) (W.alloc (.cells (zerosA N) 3)) := by
  subst hm
  have := run_mk (P := Try.prog) W slt_int (z := .int .i64 0) (by kernel_rfl) N (by omega) (by omega)
  rw [this]
  show _ = Result.ok _ (W.alloc (.cells (zerosA N) _))
  unfold zerosA
  rw [← made_ints]
  rfl
theorem blk_zeros (W : World) (N : Nat) : Blk (W.alloc (.cells (zerosA N) 3)) W.heap.size 3 ((List.replicate N (0 : Int)).map (Value.int .i64)) := Blk.new W _ _
/-- the first k are x, the others nought -/
def partR (x : Int) (N k : Nat) : List Value := (List.replicate k x ++ List.replicate (N - k) 0).map (Value.int .i64)
theorem partR_len (x : Int) {N k : Nat} (h : k ≤ N) : (partR x N k).length = N := by unfold partR; simp; omega
theorem partR_copy (x : Int) {N k m : Nat} (h : k + m ≤ N) (hm : m ≤ k) : (partR x N k).take k ++ (List.replicate m x).map (Value.int .i64) ++ (partR x N k).drop (k + m) = partR x N (k + m) := by
  unfold partR
  rw [← List.map_take, ← List.map_drop, ← List.map_append, ← List.map_append]
  congr 1
  rw [List.take_append_of_le_length (by simp), List.take_of_length_le (by simp), List.drop_append, List.drop_of_length_le (by simp), List.nil_append, List.drop_replicate]
  simp only [List.length_replicate]
  rw [← List.replicate_append_replicate (n := k) (m := m)]
  congr 2
  omega
theorem bitsmul1 (w : World) (N : Nat) (hN : N ≤ 1000000) : Calls Try.prog 212 #[.int .u64 1, .int .u64 (N : Int)] w fun e w' => e = .returned (.tuple #[.int .u64 0, .int .u64 (N : Int)]) ∧ w = w' := by
  refine Calls.mono (Any.bits_Mul bitsMul_lay 1 N (by omega) (by omega) w) ?_
  rintro e w' ⟨rfl, rfl⟩
  refine ⟨?_, rfl⟩
  rw [show 1 * N / 18446744073709551616 = 0 by omega, show 1 * N % 18446744073709551616 = N by omega]
  rfl
set_option maxRecDepth 100000 in
set_option maxHeartbeats 1000000 in
theorem irepeat (w : World) (F : Nat → Prop) (A : Option Addr) (c : Nat) (x : Int) (N : Nat) (hN : N ≤ 1000000) (h : Ints F w A [x]) : Calls Try.prog 169 #[.slice A 1 c, .int .i64 (N : Int)] w (NewD w (List.replicate N x)) := by
  obtain ⟨ad, rfl, hF, hl, hc⟩ := h (by simp)
  have hc0 := hc 0 x rfl
  have hMk := fun m hm W => mk_ints N hN m hm W
  have hM := Lib.hid (fun W => bitsmul1 W N hN)
  have h0 : decide ((N : Int) < 0) = false := decide_eq_false (by omega)
  have h1 : decide ((0 : Int) < 0) = false := by decide
  have h2 : decide ((9223372036854775807 : Int) < (N : Int)) = false := decide_eq_false (by omega)
  have w1 : IntKind.u64.wrap (N : Int) = (N : Int) := by unfold IntKind.wrap; simp [IntKind.signed, IntKind.bits]; omega
  have w2 : IntKind.i64.wrap (N : Int) = (N : Int) := IntWalk.i64_in _ (by omega)
  go_enter Try.func169, Try.ntmps169
  go_wp2_with fail
  refine (hM.out _).mono ?_
  rintro e w1 ⟨rfl, rfl⟩
  obtain ⟨m0, hm0⟩ : ∃ m, min 1 N = m := ⟨_, rfl⟩
  have HM0 := Lib.hid hm0
  obtain ⟨wz, hwz⟩ : ∃ wz, w.alloc (.cells (zerosA N) 3) = wz := ⟨_, rfl⟩
  have uz : Upd No w wz := by rw [← hwz]; exact (Upd.refl No w).alloc _
  have bz : Blk wz w.heap.size 3 (partR x N 0) := by
    rw [← hwz]
    have := blk_zeros w N
    unfold partR
    simpa using this
  have hcz := uz.keepNo hc0
  have e0 : ad.add 0 = ad := by unfold Addr.add; simp
  rw [e0] at hcz
  have HW := Lib.hid hwz
  have BZ := Lib.hid bz
  have UZ := Lib.hid uz
  have HC := Lib.hid (show ∀ (j : Nat) v, ((List.replicate m0 x).map (Value.int .i64))[j]? = some v → wz.cell? (ad.add j) = some v from fun j v hj => by
    have hj1 : j < m0 := by have := (List.getElem?_eq_some_iff.1 hj).1; simpa using this
    obtain rfl : j = 0 := by omega
    rw [e0, hcz]
    rw [List.getElem?_map, List.getElem?_replicate, if_pos hj1] at hj
    exact hj)
  clear hm0 hwz uz bz hcz hc0 hc hM h e0
  go_wp2_with (refine wp_copyB rfl rfl slt_int (g := w.heap.size) (off := 0) (n := m0) (cs := (List.replicate m0 x).map (Value.int .i64)) rfl rfl (show Blk _ _ 3 (partR x N 0) by first | exact BZ.out | (rw [HW.out]; exact BZ.out)) (by have := HM0.out; simp only [Nat.min_def] at *; split at this <;> split <;> omega) (by simp) (by first | exact HC.out | (rw [HW.out]; exact HC.out)) (by rw [partR_len x (by omega)]; simp; have := HM0.out; omega) (Ints.one_ _) ?_; intro w5 hb5 hu5)
  have hb5' : Blk w5 w.heap.size 3 (partR x N m0) := by
    have e : List.take 0 (partR x N 0) ++ List.map (Value.int .i64) (List.replicate m0 x) ++ List.drop (0 + (List.map (Value.int .i64) (List.replicate m0 x)).length) (partR x N 0) = partR x N m0 := by
      have hm := HM0.out
      rw [List.length_map, List.length_replicate, List.take_zero, List.nil_append, Nat.zero_add]
      unfold partR
      rw [List.replicate_zero, List.nil_append, ← List.map_drop, ← List.map_append, List.drop_replicate]
      rfl
    rw [← e]
    exact hb5
  have hu5' : Upd No w w5 := UZ.out.then_ (HW.out ▸ hu5) fun i e => .inr (by unfold One at e; omega)
  clear hb5 hu5
  go_loopg [8] N (fun gk s wr => ∃ (k : Nat), s = .int .i64 k ∧ k ≤ N ∧ (k = 0 → N = 0) ∧ N ≤ k + gk ∧ Blk wr w.heap.size 3 (partR x N k) ∧ Upd No w wr)
  case atStart => exact ⟨m0, rfl, by have := HM0.out; omega, fun h => by have := HM0.out; omega, by omega, hb5', hu5'⟩
  case round =>
    obtain ⟨k, rfl, hkN, hk0, hgk, hb, hu⟩ := hrel
    by_cases hlt : k < N
    · have hkp : 0 < k := by omega
      obtain ⟨m, hm⟩ : ∃ m, min k (N - k) = m := ⟨_, rfl⟩
      have hn1 : (k : Int) < (N : Int) := by omega
      have hn2 : (0 : Int) ≤ (k : Int) := by omega
      have k2 : ∀ W, (Instr.slice 50 (.slice (some ⟨w.heap.size, 0, none⟩) N N) none (some (.int .i64 (k : Int))) none).run Try.prog W = .ok (.slice (some ⟨w.heap.size, 0, none⟩) k N) W := fun W => by
        have := run_cut_h W slt_int (some ⟨w.heap.size, 0, none⟩) N N k hkN
        rwa [cutA0] at this
      have k3 : ∀ W, (Instr.slice 50 (.slice (some ⟨w.heap.size, 0, none⟩) N N) (some (.int .i64 (k : Int))) none none).run Try.prog W = .ok (.slice (some ⟨w.heap.size, k * 1, none⟩) (N - k) (N - k)) W := fun W => by
        have := run_cut_l W slt_int (some ⟨w.heap.size, 0, none⟩) N N k hkN
        rwa [cutAi (by omega)] at this
      have HB := Lib.hid hb
      have HS := Lib.hid (show ∀ (j : Nat) v, ((List.replicate m x).map (Value.int .i64))[j]? = some v → wr.cell? ((⟨w.heap.size, 0, none⟩ : Addr).add j) = some v from fun j v hj => by
        have hj1 : j < m := by have := (List.getElem?_eq_some_iff.1 hj).1; simpa using this
        rw [blk_lit_add, Nat.zero_add, hb.cell j]
        unfold partR
        rw [List.getElem?_map, List.getElem?_append_left (by simp; omega)]
        simp only [List.getElem?_map] at hj
        rw [← hj]
        simp [show j < k by omega, hj1])
      have HM := Lib.hid hm
      have hwp : IntKind.i64.wrap ((k : Int) + (m : Int)) = (k : Int) + (m : Int) := IntWalk.i64_in _ (by omega)
      have hms : m ≤ k ∧ m ≤ N - k ∧ 0 < m := by omega
      have HU := Lib.hid hu
      clear hb hm hu
      go_wp2
      refine wp_region_noPanic ?_
      refine wp_region_held_drew (S := (fun w' => Upd (One w.heap.size) wr w')) (by kernel_rfl) ?_ (fun hHeld => ?_)
      · (first | exact (Upd.refl _ _).drew | exact hU5)
      refine wpT 0 ⟨some 38, .move (.tmp 8), 3, "slices.go:528", #[], none⟩ ?_ (.inl ⟨by rfl, ?_⟩) ?_
      rotate_left
      · (intro W hSw; (try dsimp only at hSw); go_simp; try (with_reducible rfl))
      try simp only [Act.put]
      try simp only [List.setIfInBounds_toArray]
      try simp only [List.set_cons_succ]
      try simp only [List.set_cons_zero]
      refine wpT 1 ⟨some 39, .move (.tmp 7), 50, "slices.go:528", #[], none⟩ ?_ (.inl ⟨by rfl, ?_⟩) ?_
      rotate_left
      · (intro W hSw; (try dsimp only at hSw); go_simp; try (with_reducible rfl))
      try simp only [Act.put]
      try simp only [List.setIfInBounds_toArray]
      try simp only [List.set_cons_succ]
      try simp only [List.set_cons_zero]
      refine wpT 2 ⟨some 40, .move (.tmp 8), 3, "slices.go:528", #[], none⟩ ?_ (.inl ⟨by rfl, ?_⟩) ?_
      rotate_left
      · (intro W hSw; (try dsimp only at hSw); go_simp; try (with_reducible rfl))
      try simp only [Act.put]
      try simp only [List.setIfInBounds_toArray]
      try simp only [List.set_cons_succ]
      try simp only [List.set_cons_zero]
      refine wpT 3 ⟨some 41, .slice 50 (.tmp 39) (some (.tmp 40)) none none, 50, "slices.go:528", #[⟨1, .data⟩, ⟨2, .data⟩], none⟩ ?_ (.inl ⟨by rfl, ?_⟩) ?_
      rotate_left
      · (intro W hSw; (try dsimp only at hSw); go_simp; try (with_reducible rfl))
      try simp only [Act.put]
      try simp only [List.setIfInBounds_toArray]
      try simp only [List.set_cons_succ]
      try simp only [List.set_cons_zero]
      refine wpT 4 ⟨some 42, .move (.tmp 7), 50, "slices.go:528", #[], none⟩ ?_ (.inl ⟨by rfl, ?_⟩) ?_
      rotate_left
      · (intro W hSw; (try dsimp only at hSw); go_simp; try (with_reducible rfl))
      try simp only [Act.put]
      try simp only [List.setIfInBounds_toArray]
      try simp only [List.set_cons_succ]
      try simp only [List.set_cons_zero]
      refine wpT 5 ⟨some 43, .move (.tmp 8), 3, "slices.go:528", #[], none⟩ ?_ (.inl ⟨by rfl, ?_⟩) ?_
      rotate_left
      · (intro W hSw; (try dsimp only at hSw); go_simp; try (with_reducible rfl))
      try simp only [Act.put]
      try simp only [List.setIfInBounds_toArray]
      try simp only [List.set_cons_succ]
      try simp only [List.set_cons_zero]
      refine wpT 6 ⟨some 44, .slice 50 (.tmp 42) none (some (.tmp 43)) none, 50, "slices.go:528", #[⟨4, .data⟩, ⟨5, .data⟩], none⟩ ?_ (.inl ⟨by rfl, ?_⟩) ?_
      rotate_left
      · (intro W hSw; (try dsimp only at hSw); go_simp; try (with_reducible rfl))
      try simp only [Act.put]
      try simp only [List.setIfInBounds_toArray]
      try simp only [List.set_cons_succ]
      try simp only [List.set_cons_zero]
      refine wpAnyH_ready (rs := [7]) (by kernel_rfl) (by simp) ?_
      refine AllReadyH.cons (o := ⟨some 45, .call { callee := .builtin .copy, args := #[.tmp 41, .tmp 44], argTypes := #[50, 50] }, 3, "slices.go:528", #[⟨3, .data⟩, ⟨6, .data⟩], none⟩) rfl (fun K hK => ?_) AllReadyH.nil
      (first
    | (refine step_copyB rfl rfl slt_int (g := w.heap.size) (off := k) (n := m) (cs := (List.replicate m x).map (Value.int .i64)) rfl rfl (show Blk _ w.heap.size 3 (partR x N k) from HB.out) (show Nat.min k (N - k) = m from HM.out) (by simp) HS.out (by rw [partR_len x hkN]; simp; omega) (Ints.one_ _) ?_; intro w5 hB5 hu5; have hU5 : Upd (One w.heap.size) wr w5 := hu5.of_drew))
      refine hK.out _ _ ?_ (fun hHeld => ?_)
      · (first | exact (Upd.refl _ _).drew | exact hU5)
      clear hK K
      try simp only [Act.put]
      try simp only [List.setIfInBounds_toArray]
      try simp only [List.set_cons_succ]
      try simp only [List.set_cons_zero]
      refine wpT 8 ⟨some 46, .binOp .add 3 (.tmp 38) (.tmp 45) 3, 3, "slices.go:528", #[⟨0, .data⟩, ⟨7, .data⟩], none⟩ ?_ (.inl ⟨by rfl, ?_⟩) ?_
      rotate_left
      · (intro W hSw; (try dsimp only at hSw); go_simp; try (with_reducible rfl))
      try simp only [Act.put]
      try simp only [List.setIfInBounds_toArray]
      try simp only [List.set_cons_succ]
      try simp only [List.set_cons_zero]
      refine wpT 9 ⟨some 8, .assign (.tmp 46), 3, "slices.go:528", #[⟨8, .data⟩, ⟨7, .chain⟩, ⟨0, .phase⟩, ⟨1, .phase⟩, ⟨2, .phase⟩, ⟨3, .phase⟩, ⟨4, .phase⟩, ⟨5, .phase⟩, ⟨6, .phase⟩, ⟨7, .phase⟩, ⟨8, .phase⟩], none⟩ ?_ (.inl ⟨by rfl, ?_⟩) ?_
      rotate_left
      · (intro W hSw; (try dsimp only at hSw); go_simp; try (with_reducible rfl))
      try simp only [Act.put]
      try simp only [List.setIfInBounds_toArray]
      try simp only [List.set_cons_succ]
      try simp only [List.set_cons_zero]
      refine wpAnyH_done (by kernel_rfl) (NoPanic.normal ?_) _
      have hb6 : Blk w5 w.heap.size 3 (partR x N (k + m)) := by
        rw [← partR_copy x (N := N) (k := k) (m := m) (by omega) (by omega)]
        simpa using hB5
      have HU5 := Lib.hid hU5
      clear hHeld hU5 hu5 hB5
      go_wp2
      go_roundg (gk - 1)
      case measure => omega
      case rel => exact ⟨k + m, by go_num, by omega, by omega, by omega, hb6, HU.out.then_ HU5.out fun i e => .inr (by unfold One at e; omega)⟩
    · obtain rfl : k = N := by omega
      go_wp2
      go_ret
      refine ⟨w.heap.size, by simp, ?_, Nat.le_refl _, hu⟩
      unfold partR at hb
      simpa using hb
end Go.Proofs.Ytmnhgdedkniafaa

/- Ways: the digraph that is made of arcs; how far each node is. -/
namespace Go.Proofs.Ytmnhgdedkniafaa
set_option linter.unusedVariables false
open Go.RowKit
set_option maxRecDepth 100000 in
theorem dmade (F : Nat → Prop) (w : World) (n : Int) (A : Option Addr) (c : Nat) (l : List HArc) (hL : ArcsL F w A l) (hll : l.length ≤ 1000) :
    Calls Try.prog 58 #[.int .i64 n, .slice A l.length c] w fun e w' => ∃ g, e = .returned (.pointer (some ⟨g, 0, none⟩)) ∧ DMa w g (roomN n) l.length (madeQ (roomN n) [] l) w' := by
  have HNew := Lib.hid (fun W => dmnew W n)
  have HL := Lib.hid hL
  clear hL
  generalize roomN n = N at *
  go_enter Try.func58, Try.ntmps58
  go_wp2_with fail
  refine (HNew.out w).mono ?_
  rintro e w2 ⟨g, rfl, hd2⟩
  go_wp2
  go_loopg [12] l.length (fun gk i wr => ∃ (k : Nat) (q : List HArc), k + gk = l.length ∧ i = .int .i64 k ∧ Hid (DMa w g N k q wr) ∧ Hid (madeQ N q (l.drop k) = madeQ N [] l))
  case atStart => exact ⟨0, [], by omega, rfl, Lib.hid hd2, Lib.hid rfl⟩
  case round =>
    obtain ⟨k, q, hgk, rfl, hd, hq⟩ := hrel
    by_cases hlt : k < l.length
    · obtain ⟨ax, rfl, q0, q1, q2, q3⟩ := (HL.out.upd hd.out.upd (fun _ _ => id)).at_ hlt
      obtain ⟨x, hx⟩ : ∃ x, l[k] = x := ⟨_, rfl⟩
      rw [hx] at q0 q1 q2 q3
      have hst := hq.out
      rw [show l.drop k = x :: l.drop (k + 1) by rw [← hx]; exact List.drop_eq_getElem_cons hlt, madeQ_cons] at hst
      have HS := Lib.hid hst
      clear hx hst hq
      have b1 : (0 : Int) ≤ (k : Int) := Int.natCast_nonneg _
      have b2 : (k : Int) < (l.length : Int) := by omega
      have bo := Blk.new wr 63 [.int .i64 x.f, .int .i64 x.t, .int .i64 x.kind, .int .i64 x.label]
      have g0 := bo.cell 0
      have g1 := bo.cell 1
      have g2 := bo.cell 2
      have g3 := bo.cell 3
      simp only [List.getElem?_cons_zero, List.getElem?_cons_succ] at g0 g1 g2 g3
      have HD := Lib.hid (hd.out.no ((Upd.refl No wr).alloc (.cells #[.int .i64 x.f, .int .i64 x.t, .int .i64 x.kind, .int .i64 x.label] 63)))
      clear bo hd
      go_wp2_with fail
      refine (dmadd HD.out (by omega) x).mono ?_
      rintro e w3 ⟨rfl, hd3⟩
      go_wp2
      go_roundg (gk - 1)
      case measure => omega
      case rel => exact ⟨k + 1, addQ N q x, by omega, by go_num, Lib.hid hd3, HS⟩
    · obtain rfl : k = l.length := by omega
      have HQ := Lib.hid (show q = madeQ N [] l by have := hq.out; rw [List.drop_length] at this; exact this)
      clear hq
      go_wp2
      go_ret
      exact ⟨g, rfl, HQ.out ▸ hd.out⟩
section
variable {w : World} {G : Nat → Prop} {p : Option Addr} {N K : Nat} {q : List HArc}
set_option maxRecDepth 100000 in
theorem dnone (h : DG w G p N K q) (mask least : Int) : Calls Try.prog 118 #[.agg #[.pointer p, .int .i64 mask, .int .i64 least]] w (NewD w (List.replicate N (-1))) := by
  have hN := h.nodes_le
  obtain ⟨wb, hwb⟩ : ∃ wb, (w.alloc (.cells #[.pointer p, .int .i64 mask, .int .i64 least] 163)).alloc (.cells #[.int .i64 (-1)] 3) = wb := ⟨_, rfl⟩
  have u0 : Upd No w wb := by rw [← hwb]; exact ((Upd.refl No w).alloc _).alloc _
  have bS : Blk wb w.heap.size 163 [.pointer p, .int .i64 mask, .int .i64 least] := by rw [← hwb]; exact (Blk.new w _ _).alloc _
  have bL : Ints (fun i => i = w.heap.size + 1) wb (some ⟨w.heap.size + 1, 0, none⟩) [-1] := by
    have := lit_ints (W := w.alloc (.cells #[.pointer p, .int .i64 mask, .int .i64 least] 163)) [-1] 3
    rw [show (w.alloc (.cells #[.pointer p, .int .i64 mask, .int .i64 least] 163)).heap.size = w.heap.size + 1 by simp] at this
    rw [← hwb]
    exact this
  have hn := Lib.hid (dgnodes (h.no u0))
  have hr := Lib.hid (irepeat wb _ _ 1 (-1) N (by omega) bL)
  have c0 := bS.cell 0
  simp only [List.getElem?_cons_zero] at c0
  have U0 := Lib.hid u0
  clear h u0 bS bL
  go_enter Try.func118, Try.ntmps118
  go_wp2_with fail
  refine (hn.out).mono ?_
  rintro e w1 ⟨rfl, rfl⟩
  go_wp2_with fail
  refine (hr.out).mono ?_
  rintro e w2 ⟨g, rfl, hb, hg, hu⟩
  go_wp2
  go_ret
  have := U0.out.size
  exact ⟨g, by simp, hb, by omega, U0.out.trans hu⟩
def startB (N : Nat) (least node : Int) : Bool := decide (max least 0 ≤ node) && decide (node < (N : Int))
set_option maxRecDepth 100000 in
theorem dstart (h : DG w G p N K q) (mask least node : Int) : Calls Try.prog 119 #[.agg #[.pointer p, .int .i64 mask, .int .i64 least], .int .i64 node] w fun e w' => e = .returned (.bool (startB N least node)) ∧ Upd No w w' := by
  have u0 := (Upd.refl No w).alloc (.cells #[.pointer p, .int .i64 mask, .int .i64 least] 163)
  have bS := Blk.new w 163 [.pointer p, .int .i64 mask, .int .i64 least]
  have hn := Lib.hid (dgnodes (h.no u0))
  have c0 := bS.cell 0
  have c2 := bS.cell 2
  simp only [List.getElem?_cons_zero, List.getElem?_cons_succ] at c0 c2
  have U0 := Lib.hid u0
  clear h u0 bS
  by_cases h1 : max least 0 ≤ node
  · have HV := Lib.hid (show startB N least node = decide (node < (N : Int)) by unfold startB; rw [decide_eq_true h1]; rfl)
    by_cases h2 : least < 0
    · have h3 : 0 ≤ node := by omega
      have h4 : max least 0 = 0 := by omega
      go_enter Try.func119, Try.ntmps119
      go_wp2_with fail
      refine (hn.out).mono ?_
      rintro e w1 ⟨rfl, rfl⟩
      go_wp2
      go_ret
      exact ⟨by rw [HV.out]; rfl, U0.out⟩
    · have h3 : least ≤ node := by omega
      have h4 : max least 0 = least := by omega
      go_enter Try.func119, Try.ntmps119
      go_wp2_with fail
      refine (hn.out).mono ?_
      rintro e w1 ⟨rfl, rfl⟩
      go_wp2
      go_ret
      exact ⟨by rw [HV.out]; rfl, U0.out⟩
  · have HV := Lib.hid (show startB N least node = false by unfold startB; rw [decide_eq_false h1]; rfl)
    have hb : decide (max least 0 ≤ node) = false := decide_eq_false h1
    have hb2 : node < max least 0 := by omega
    go_enter Try.func119, Try.ntmps119
    go_wp2
    go_ret
    exact ⟨by rw [HV.out]; rfl, U0.out⟩
end
end Go.Proofs.Ytmnhgdedkniafaa
