/- Closed walks: the arc of an edge. -/
import Derived.Test.YtaicemjckagcaaaMag
import Derived.Test.YtaicemjckagcaaaMbo
namespace Go.Proofs.Ytaicemjckagcaaa
set_option linter.unusedVariables false
open Go.RowKit
theorem rk_count (x : Int) : ∀ {s : List Int}, s.Pairwise (· < ·) → ((s.countP (· < x) : Nat) : Int) = rk s x
  | [], _ => rfl
  | a :: s, h => by
    rw [List.pairwise_cons] at h
    unfold rk
    rw [List.countP_cons]
    by_cases ha : a < x
    · rw [if_pos ha, if_pos (by simpa using ha), Int.natCast_add, rk_count x h.2]
      rfl
    · rw [if_neg ha, if_neg (by simpa using ha), Nat.add_zero]
      have : s.countP (· < x) = 0 := by
        rw [List.countP_eq_zero]
        intro b hb
        have := h.1 b hb
        simp
        omega
      rw [this]
      rfl
theorem ibin (F : Nat → Prop) (w : World) (A : Option Addr) (c : Nat) (l : List Int) (x : Int) (h : Ints F w A l) (hne : l ≠ []) (hs : l.Pairwise (· < ·)) (hl : l.length ≤ 1000000) :
    Calls Try.prog 154 #[.slice A l.length c, .int .i64 x] w fun e w' => ∃ b, e = .returned (.tuple #[.int .i64 (rk l x), .bool b]) ∧ Upd No w w' := by
  obtain ⟨b, o, rfl, hc⟩ := h.cells_ hne
  refine Calls.mono (AnyG.slices_BinarySearch_int binI_lay b o l.length c l x w (Nat.le_refl _) (by omega) hc (by rw [List.take_length]; exact hs.imp fun {a b} h => Int.le_of_lt h)) ?_
  rintro e w' ⟨rfl, q, rfl⟩
  rw [List.take_length, rk_count x hs]
  exact ⟨_, rfl, (Upd.refl _ _).drewN q⟩
set_option maxRecDepth 100000 in
set_option maxHeartbeats 4000000 in
theorem carc (F1 F2 : Nat → Prop) (w : World) (A B : Option Addr) (ca cb : Nat) (ids keys : List Int) (hA : Ints F1 w A ids) (hB : Ints F2 w B keys) (hsi : ids.Pairwise (· < ·)) (hsk : keys.Pairwise (· < ·)) (hni : ids ≠ []) (hnk : keys ≠ []) (hl1 : ids.length ≤ 1000000) (hl2 : keys.length ≤ 1000000) (e : Edge) :
    Calls Try.prog 124 #[.agg #[.slice A ids.length ca, .slice B keys.length cb], .agg e.cells.toArray] w fun x w' => x = .returned (.agg (toR ids keys ⟨e.f, e.t, e.k, e.key⟩).cells.toArray) ∧ Upd No w w' := by
  obtain ⟨ef, et, ek, ey⟩ := e
  obtain ⟨wb, hwb⟩ : ∃ wb, ((w.alloc (.cells #[.slice A ids.length ca, .slice B keys.length cb] 106)).alloc (.cells #[.int .i64 ef, .int .i64 et, .int .i64 ek, .int .i64 ey] 33)).alloc (.cells #[.int .i64 0, .int .i64 0, .int .i64 0, .int .i64 0] 41) = wb := ⟨_, rfl⟩
  have u0 : Upd No w wb := by rw [← hwb]; exact (((Upd.refl No w).alloc _).alloc _).alloc _
  have bN : Blk wb w.heap.size 106 [.slice A ids.length ca, .slice B keys.length cb] := by rw [← hwb]; exact ((Blk.new w _ _).alloc _).alloc _
  have bE : Blk wb (w.heap.size + 1) 33 [.int .i64 ef, .int .i64 et, .int .i64 ek, .int .i64 ey] := by
    rw [← hwb]; have := (Blk.new (w.alloc (.cells #[.slice A ids.length ca, .slice B keys.length cb] 106)) 33 [.int .i64 ef, .int .i64 et, .int .i64 ek, .int .i64 ey]).alloc (.cells #[.int .i64 0, .int .i64 0, .int .i64 0, .int .i64 0] 41); simpa only [World.size_alloc] using this
  have bR : Blk wb (w.heap.size + 2) 41 [.int .i64 0, .int .i64 0, .int .i64 0, .int .i64 0] := by
    rw [← hwb]; have := Blk.new ((w.alloc (.cells #[.slice A ids.length ca, .slice B keys.length cb] 106)).alloc (.cells #[.int .i64 ef, .int .i64 et, .int .i64 ek, .int .i64 ey] 33)) 41 [.int .i64 0, .int .i64 0, .int .i64 0, .int .i64 0]; simpa only [World.size_alloc] using this
  have n0 : ∀ W, Upd No wb W → W.cell? ⟨w.heap.size, 0, none⟩ = some (.slice A ids.length ca) := fun W u => by have := (bN.upd u id).cell 0; simpa using this
  have n1 : ∀ W, Upd No wb W → W.cell? ⟨w.heap.size, 1, none⟩ = some (.slice B keys.length cb) := fun W u => by have := (bN.upd u id).cell 1; simpa using this
  have e0 : ∀ W, Upd No wb W → W.cell? ⟨w.heap.size + 1, 0, none⟩ = some (.int .i64 ef) := fun W u => by have := (bE.upd u id).cell 0; simpa using this
  have e1 : ∀ W, Upd No wb W → W.cell? ⟨w.heap.size + 1, 1, none⟩ = some (.int .i64 et) := fun W u => by have := (bE.upd u id).cell 1; simpa using this
  have e2 : ∀ W, Upd No wb W → W.cell? ⟨w.heap.size + 1, 2, none⟩ = some (.int .i64 ek) := fun W u => by have := (bE.upd u id).cell 2; simpa using this
  have e3 : ∀ W, Upd No wb W → W.cell? ⟨w.heap.size + 1, 3, none⟩ = some (.int .i64 ey) := fun W u => by have := (bE.upd u id).cell 3; simpa using this
  have HA := Lib.hid (fun (W : World) (u : Upd No wb W) (x : Int) => ibin F1 W A ca ids x (hA.upd (u0.trans u) (fun _ _ => id)) hni hsi hl1)
  have HB := Lib.hid (fun (W : World) (u : Upd No wb W) (x : Int) => ibin F2 W B cb keys x (hB.upd (u0.trans u) (fun _ _ => id)) hnk hsk hl2)
  have U0 := Lib.hid u0
  have BR := Lib.hid bR
  have hr : Upd No wb wb := Upd.refl _ _
  unfold toR HArc.cells Edge.cells
  simp only
  clear hA hB bN bE bR u0
  go_enter Try.func124, Try.ntmps124
  go_wp2_with fail
  refine (HA.out wb (Upd.refl _ _) ef).mono ?_
  rintro e w1 ⟨b1, rfl, hu1⟩
  go_wp2_with fail
  refine (HA.out w1 hu1 et).mono ?_
  rintro e w2 ⟨b2, rfl, hu2'⟩
  have hu2 := hu1.trans hu2'
  clear hu2'
  go_wp2_with fail
  refine (HB.out w2 hu2 ey).mono ?_
  rintro e w3 ⟨b3, rfl, hu3'⟩
  have hu3 := hu2.trans hu3'
  clear hu3'
  have HB3 := Lib.hid (BR.out.upd hu3 id)
  have U3 := Lib.hid hu3
  have hb3 := HB3.out
  have r0 := hb3.cell 0
  have r1 := hb3.cell 1
  have r2 := hb3.cell 2
  have r3 := hb3.cell 3
  have f0 := hb3.free 0
  have f1 := hb3.free 1
  have f2 := hb3.free 2
  have f3 := hb3.free 3
  simp only [List.getElem?_cons_zero, List.getElem?_cons_succ] at r0 r1 r2 r3
  clear hb3
  go_wp2
  have b4 := ((((HB3.out).set_ 0 (.int .i64 (rk ids ef))).set_ 1 (.int .i64 (rk ids et))).set_ 2 (.int .i64 ek)).set_ 3 (.int .i64 (rk keys ey))
  simp only [List.set_cons_zero, List.set_cons_succ] at b4
  have US := ((((Upd.refl (One (w.heap.size + 2)) w3).setOne 0 (.int .i64 (rk ids ef))).setOne 1 (.int .i64 (rk ids et))).setOne 2 (.int .i64 ek)).setOne 3 (.int .i64 (rk keys ey))
  refine bodyPost_ret (results_cell_row (p := 4) rfl _ _ _ _ _ _ _ rfl b4 Try.underlying41 rfl (by kernel_rfl)) rfl ⟨rfl, ?_⟩
  exact (U0.out.trans U3.out).then_ US fun k e => .inr (by unfold One at e; omega)
end Go.Proofs.Ytaicemjckagcaaa
