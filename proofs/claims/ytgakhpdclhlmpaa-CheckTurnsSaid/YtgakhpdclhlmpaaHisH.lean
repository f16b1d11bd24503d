/- Whether a version is there. -/
import Derived.Test.YtgakhpdclhlmpaaHisP
namespace Go.Proofs.Ytgakhpdclhlmpaa
set_option linter.unusedVariables false
open Go.RowKit
theorem hasB_zero {txs : List HTx} {v : Ver} (h1 : v.tx = 0) (h2 : v.nth = 0) : hasB txs v = idB v.key := by unfold hasB; rw [if_pos ⟨h1, h2⟩]
theorem hasB_none {txs : List HTx} {v : Ver} (h : ¬ (v.tx = 0 ∧ v.nth = 0)) (hf : findT txs v.tx = none) : hasB txs v = false := by unfold hasB; rw [if_neg h, hf]
theorem hasB_some {txs : List HTx} {v : Ver} {t : HTx} (h : ¬ (v.tx = 0 ∧ v.nth = 0)) (hf : findT txs v.tx = some t) : hasB txs v = (decide (1 ≤ v.nth) && decide (v.nth ≤ (writesN t.ops v.key : Int))) := by unfold hasB; rw [if_neg h, hf]
section
variable (F : Nat → Prop) (w : World) (txs : List HTx) (ords : List HOrd) (A : Option Addr) (c : Nat) (B : Option Addr) (d : Nat) (i : Int)
theorem pfind_none (H : Hist.lies F w ⟨txs, ords, A, c, B, d⟩) (hf : findT txs i = none) : Calls Try.prog 183 #[.agg #[.slice A txs.length c, .slice B ords.length d], .int .i64 i] w fun e w' =>
    e = .returned (.tuple #[.agg #[.int .i64 0, .bool false, .slice none 0 0], .bool false]) ∧ Upd No w w' := by
  refine (pfind F w ⟨txs, ords, A, c, B, d⟩ i H).mono ?_
  intro e w' h
  unfold Found at h
  rw [show findT (Hist.txs ⟨txs, ords, A, c, B, d⟩) i = none from hf] at h
  exact h
theorem pfind_some {t : HTx} (H : Hist.lies F w ⟨txs, ords, A, c, B, d⟩) (hf : findT txs i = some t) : Calls Try.prog 183 #[.agg #[.slice A txs.length c, .slice B ords.length d], .int .i64 i] w fun e w' =>
    ∃ A' c', e = .returned (.tuple #[.agg #[.int .i64 t.id, .bool t.done, .slice A' t.ops.length c'], .bool true]) ∧ t.ops.length ≤ c' ∧ HOps (fun i => w.heap.size ≤ i) w' A' t.ops ∧ Upd No w w' := by
  refine (pfind F w ⟨txs, ords, A, c, B, d⟩ i H).mono ?_
  intro e w' h
  unfold Found at h
  rw [show findT (Hist.txs ⟨txs, ords, A, c, B, d⟩) i = some t from hf] at h
  obtain ⟨⟨A', c', h1, h2, h3⟩, h4⟩ := h
  exact ⟨A', c', h1, h2, h3, h4⟩
end
theorem findT_mem {txs : List HTx} {i : Int} {t : HTx} (h : findT txs i = some t) : t ∈ txs := List.mem_of_find?_eq_some h
set_option maxRecDepth 100000 in
set_option maxHeartbeats 1000000 in
theorem hhas (F : Nat → Prop) (w : World) (h : Hist) (v : Ver) (H : h.lies F w) : Calls Try.prog 232 #[h.val, .agg v.cells.toArray] w fun e w' => e = .returned (.bool (hasB h.txs v)) ∧ Upd No w w' := by
  obtain ⟨txs, ords, A, c, B, d⟩ := h
  obtain ⟨tx, key, nth⟩ := v
  unfold Hist.val Ver.cells
  have uu := ((Upd.refl No w).alloc (.cells #[.slice A txs.length c, .slice B ords.length d] 45)).alloc (.cells #[.int .i64 tx, .int .i64 key, .int .i64 nth] 34)
  by_cases h1 : tx = 0
  · subst h1
    by_cases h2 : nth = 0
    · subst h2
      have hv := Lib.hid (hasB_zero (txs := txs) (v := ⟨0, key, 0⟩) rfl rfl)
      unfold idB at hv
      by_cases b1 : 1 ≤ key
      · by_cases b2 : key ≤ 1048575
        · go_enter Try.func232, Try.ntmps232
          go_wp2
          go_ret
          exact ⟨by rw [hv.out, decide_eq_true b1, decide_eq_true b2]; rfl, uu⟩
        · go_enter Try.func232, Try.ntmps232
          go_wp2
          go_ret
          exact ⟨by rw [hv.out, decide_eq_false (show ¬ key ≤ 1048575 by omega), Bool.and_false]; rfl, uu⟩
      · go_enter Try.func232, Try.ntmps232
        go_wp2
        go_ret
        exact ⟨by rw [hv.out, decide_eq_false (show ¬ 1 ≤ key by omega), Bool.false_and]; rfl, uu⟩
    · have hne : ¬ ((⟨0, key, nth⟩ : Ver).tx = 0 ∧ (⟨0, key, nth⟩ : Ver).nth = 0) := fun e => h2 e.2
      have h2b : (nth == 0) = false := by simpa using h2
      clear h2
      have HH := Lib.hid (H.upd uu (fun _ _ => id))
      have b1 := Blk.new (w.alloc (.cells #[.slice A txs.length c, .slice B ords.length d] 45)) 34 [.int .i64 0, .int .i64 key, .int .i64 nth]
      simp only [World.size_alloc] at b1
      have B1 := Lib.hid b1
      clear b1
      cases hf : findT txs 0 with
      | none =>
        have hv := Lib.hid (hasB_none hne hf)
        have Hf := Lib.hid hf
        clear hne hf
        go_enter Try.func232, Try.ntmps232
        go_wp2_with fail
        refine (pfind_none F _ txs ords A c B d 0 HH.out Hf.out).mono ?_
        rintro e w1 ⟨rfl, hu1⟩
        have bv := (B1.out.upd hu1 id).alloc (.cells #[.int .i64 0, .bool false, .slice none 0 0] 41)
        have g0 := bv.cell 0
        have g1 := bv.cell 1
        have g2 := bv.cell 2
        simp only [List.getElem?_cons_zero, List.getElem?_cons_succ] at g0 g1 g2
        go_wp2
        go_quiet (fail)
        go_wp2
        go_ret
        exact ⟨by rw [hv.out]; rfl, ((uu.trans hu1).alloc _).drewN _⟩
      | some t =>
        have hv := Lib.hid (hasB_some hne hf)
        have Hf := Lib.hid hf
        have hfew := Lib.hid (H.tx t (findT_mem hf)).2.2.1
        clear hne hf
        by_cases hn1 : 1 ≤ nth
        · go_enter Try.func232, Try.ntmps232
          go_wp2_with fail
          refine (pfind_some F _ txs ords A c B d 0 HH.out Hf.out).mono ?_
          rintro e w1 ⟨A1, c1, rfl, hc1, hh1, hu1⟩
          have bv := (B1.out.upd hu1 id).alloc (.cells #[.int .i64 t.id, .bool t.done, .slice A1 t.ops.length c1] 41)
          have bt := Blk.new w1 41 [.int .i64 t.id, .bool t.done, .slice A1 t.ops.length c1]
          have hh2 := HOps.upd hh1 ((Upd.refl No w1).alloc (.cells #[.int .i64 t.id, .bool t.done, .slice A1 t.ops.length c1] 41)) (fun _ _ => id)
          have g0 := bv.cell 0
          have g1 := bv.cell 1
          have g2 := bv.cell 2
          have k0 := bt.cell 0
          have k1 := bt.cell 1
          have k2 := bt.cell 2
          simp only [List.getElem?_cons_zero, List.getElem?_cons_succ] at g0 g1 g2 k0 k1 k2
          have U1 := Lib.hid ((uu.trans hu1).alloc (.cells #[.int .i64 t.id, .bool t.done, .slice A1 t.ops.length c1] 41))
          go_wp2
          go_region_held3 (fun w' => w'.cell? ⟨w.heap.size + 1, 0, none⟩ = some (.int .i64 0) ∧ w'.cell? ⟨w.heap.size + 1, 1, none⟩ = some (.int .i64 key) ∧ w'.cell? ⟨w.heap.size + 1, 2, none⟩ = some (.int .i64 nth) ∧
              w'.cell? ⟨w1.heap.size, 0, none⟩ = some (.int .i64 t.id) ∧ w'.cell? ⟨w1.heap.size, 1, none⟩ = some (.bool t.done) ∧ w'.cell? ⟨w1.heap.size, 2, none⟩ = some (.slice A1 t.ops.length c1) ∧ Upd No w w')
            (first | exact ⟨g0, g1, g2, k0, k1, k2, U1.out.drew⟩ | exact ⟨g0, g1, g2, k0, k1, k2, U1.out⟩ | (go_split_ands; refine ⟨?_, ?_, ?_, ?_, ?_, ?_, ?_⟩ <;> first | assumption | (exact hu3.keepNo (by assumption)) | (exact Upd.trans (by assumption) hu3)))
            ((go_at_call 184; refine (pwrites _ _ t.id t.done A1 c1 t.ops key (by exact hh2) hfew.out).mono ?_; rintro e w3 ⟨rfl, hu3⟩))
          go_wp2
          go_ret
          exact ⟨by rw [hv.out, decide_eq_true hn1]; rfl, (by go_split_ands; assumption)⟩
        · go_enter Try.func232, Try.ntmps232
          go_wp2_with fail
          refine (pfind_some F _ txs ords A c B d 0 HH.out Hf.out).mono ?_
          rintro e w1 ⟨A1, c1, rfl, hc1, hh1, hu1⟩
          have bv := (B1.out.upd hu1 id).alloc (.cells #[.int .i64 t.id, .bool t.done, .slice A1 t.ops.length c1] 41)
          have g0 := bv.cell 0
          have g1 := bv.cell 1
          have g2 := bv.cell 2
          simp only [List.getElem?_cons_zero, List.getElem?_cons_succ] at g0 g1 g2
          have hnb : decide (1 ≤ nth) = false := decide_eq_false (by omega)
          go_wp2
          go_quiet (fail)
          go_wp2
          go_ret
          exact ⟨by rw [hv.out, decide_eq_false (show ¬ 1 ≤ nth by omega), Bool.false_and]; rfl, ((uu.trans hu1).alloc _).drewN _⟩
  · have hne : ¬ ((⟨tx, key, nth⟩ : Ver).tx = 0 ∧ (⟨tx, key, nth⟩ : Ver).nth = 0) := fun e => h1 e.1
    have h1b : (tx == 0) = false := by simpa using h1
    clear h1
    have HH := Lib.hid (H.upd uu (fun _ _ => id))
    have b1 := Blk.new (w.alloc (.cells #[.slice A txs.length c, .slice B ords.length d] 45)) 34 [.int .i64 tx, .int .i64 key, .int .i64 nth]
    simp only [World.size_alloc] at b1
    have B1 := Lib.hid b1
    clear b1
    cases hf : findT txs tx with
    | none =>
      have hv := Lib.hid (hasB_none hne hf)
      have Hf := Lib.hid hf
      clear hne hf
      go_enter Try.func232, Try.ntmps232
      go_wp2_with fail
      refine (pfind_none F _ txs ords A c B d tx HH.out Hf.out).mono ?_
      rintro e w1 ⟨rfl, hu1⟩
      have bv := (B1.out.upd hu1 id).alloc (.cells #[.int .i64 0, .bool false, .slice none 0 0] 41)
      have g0 := bv.cell 0
      have g1 := bv.cell 1
      have g2 := bv.cell 2
      simp only [List.getElem?_cons_zero, List.getElem?_cons_succ] at g0 g1 g2
      go_wp2
      go_quiet (fail)
      go_wp2
      go_ret
      exact ⟨by rw [hv.out]; rfl, ((uu.trans hu1).alloc _).drewN _⟩
    | some t =>
      have hv := Lib.hid (hasB_some hne hf)
      have Hf := Lib.hid hf
      have hfew := Lib.hid (H.tx t (findT_mem hf)).2.2.1
      clear hne hf
      by_cases hn1 : 1 ≤ nth
      · go_enter Try.func232, Try.ntmps232
        go_wp2_with fail
        refine (pfind_some F _ txs ords A c B d tx HH.out Hf.out).mono ?_
        rintro e w1 ⟨A1, c1, rfl, hc1, hh1, hu1⟩
        have bv := (B1.out.upd hu1 id).alloc (.cells #[.int .i64 t.id, .bool t.done, .slice A1 t.ops.length c1] 41)
        have bt := Blk.new w1 41 [.int .i64 t.id, .bool t.done, .slice A1 t.ops.length c1]
        have hh2 := HOps.upd hh1 ((Upd.refl No w1).alloc (.cells #[.int .i64 t.id, .bool t.done, .slice A1 t.ops.length c1] 41)) (fun _ _ => id)
        have g0 := bv.cell 0
        have g1 := bv.cell 1
        have g2 := bv.cell 2
        have k0 := bt.cell 0
        have k1 := bt.cell 1
        have k2 := bt.cell 2
        simp only [List.getElem?_cons_zero, List.getElem?_cons_succ] at g0 g1 g2 k0 k1 k2
        have U1 := Lib.hid ((uu.trans hu1).alloc (.cells #[.int .i64 t.id, .bool t.done, .slice A1 t.ops.length c1] 41))
        go_wp2
        go_region_held3 (fun w' => w'.cell? ⟨w.heap.size + 1, 0, none⟩ = some (.int .i64 tx) ∧ w'.cell? ⟨w.heap.size + 1, 1, none⟩ = some (.int .i64 key) ∧ w'.cell? ⟨w.heap.size + 1, 2, none⟩ = some (.int .i64 nth) ∧
            w'.cell? ⟨w1.heap.size, 0, none⟩ = some (.int .i64 t.id) ∧ w'.cell? ⟨w1.heap.size, 1, none⟩ = some (.bool t.done) ∧ w'.cell? ⟨w1.heap.size, 2, none⟩ = some (.slice A1 t.ops.length c1) ∧ Upd No w w')
          (first | exact ⟨g0, g1, g2, k0, k1, k2, U1.out.drew⟩ | exact ⟨g0, g1, g2, k0, k1, k2, U1.out⟩ | (go_split_ands; refine ⟨?_, ?_, ?_, ?_, ?_, ?_, ?_⟩ <;> first | assumption | (exact hu3.keepNo (by assumption)) | (exact Upd.trans (by assumption) hu3)))
          ((go_at_call 184; refine (pwrites _ _ t.id t.done A1 c1 t.ops key (by exact hh2) hfew.out).mono ?_; rintro e w3 ⟨rfl, hu3⟩))
        go_wp2
        go_ret
        exact ⟨by rw [hv.out, decide_eq_true hn1]; rfl, (by go_split_ands; assumption)⟩
      · go_enter Try.func232, Try.ntmps232
        go_wp2_with fail
        refine (pfind_some F _ txs ords A c B d tx HH.out Hf.out).mono ?_
        rintro e w1 ⟨A1, c1, rfl, hc1, hh1, hu1⟩
        have bv := (B1.out.upd hu1 id).alloc (.cells #[.int .i64 t.id, .bool t.done, .slice A1 t.ops.length c1] 41)
        have g0 := bv.cell 0
        have g1 := bv.cell 1
        have g2 := bv.cell 2
        simp only [List.getElem?_cons_zero, List.getElem?_cons_succ] at g0 g1 g2
        have hnb : decide (1 ≤ nth) = false := decide_eq_false (by omega)
        go_wp2
        go_quiet (fail)
        go_wp2
        go_ret
        exact ⟨by rw [hv.out, decide_eq_false (show ¬ 1 ≤ nth by omega), Bool.false_and]; rfl, ((uu.trans hu1).alloc _).drewN _⟩
end Go.Proofs.Ytgakhpdclhlmpaa
