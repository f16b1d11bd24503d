/- Operations: the version that they read, whether they are right. -/
import Derived.Test.YtgakhpdclhlmpaaHisA
namespace Go.Proofs.Ytgakhpdclhlmpaa
set_option linter.unusedVariables false
open Go.RowKit
theorem hop_eq (w : World) (x y : HOp) : (Op.equalIn 10000 124 (.agg x.cells.toArray) (.agg y.cells.toArray)).run Try.prog w = .ok (decide (x = y)) w := by
  obtain ⟨a, b, c, d⟩ := x
  obtain ⟨a', b', c', d'⟩ := y
  unfold HOp.cells
  rw [run_equalIn_struct w _ _ _ _ (by kernel_rfl) (by kernel_rfl)]
  have hI : ∀ (w : World) (d : Nat) (x y : Int), (Op.equalIn (d + 1) 3 (.int .i64 x) (.int .i64 y)).run Try.prog w = .ok (x == y) w := fun w d x y => run_equalIn_int w d _ _ _ x y Try.underlying3
  have hB : ∀ (w : World) (d : Nat) (x y : Bool), (Op.equalIn (d + 1) 4 (.bool x) (.bool y)).run Try.prog w = .ok (x == y) w := fun w d x y => run_equalIn_bool w d _ x y Try.underlying4
  by_cases h1 : a = a' <;> by_cases h2 : b = b' <;> by_cases h3 : c = c' <;> by_cases h4 : d = d' <;>
    simp [Program.fieldsOf, Try.underlying124, Op.eqFields, part, hI, hB, h1, h2, h3, h4, Result.andThen]
theorem hop_neq (w : World) (x y : HOp) : (binOp .neq 124 (.agg #[.bool x.read, .int .i64 x.key, .int .i64 x.tx, .int .i64 x.nth]) (.agg #[.bool y.read, .int .i64 y.key, .int .i64 y.tx, .int .i64 y.nth])).run Try.prog w = .ok (.bool (x != y)) w := by
  rw [run_neq_struct]
  have := hop_eq w x y
  unfold HOp.cells at this
  rw [this]
  simp only [Result.andThen]
  by_cases h : x = y <;> simp [h]
theorem oof (w : World) (o : HOp) : Calls Try.prog 182 #[.agg o.cells.toArray] w fun e w' => e = .returned (.agg (verOf o).cells.toArray) ∧ Upd No w w' := by
  obtain ⟨r, k, t, n⟩ := o
  cases r
  · unfold HOp.cells
    go_enter Try.func182, Try.ntmps182
    go_wp2
    exact bodyPost_ret (v := .agg #[.int .i64 0, .int .i64 0, .int .i64 0]) (by simp [results, Try.results182, go_sem]) rfl ⟨rfl, ((Upd.refl _ _).alloc _).alloc _⟩
  · unfold HOp.cells
    go_enter Try.func182, Try.ntmps182
    go_wp2
    exact bodyPost_ret (v := .agg #[.int .i64 t, .int .i64 k, .int .i64 n]) (by simp [results, Try.results182, go_sem]) rfl ⟨rfl, ((Upd.refl _ _).alloc _).alloc _⟩
theorem rof (w : World) (o : HOp) : Calls Try.prog 204 #[.agg o.cells.toArray] w fun e w' => e = .returned (.agg (verOf o).cells.toArray) ∧ Upd No w w' := by
  obtain ⟨r, k, t, n⟩ := o
  cases r
  · unfold HOp.cells
    go_enter Try.func204, Try.ntmps204
    go_wp2
    exact bodyPost_ret (v := .agg #[.int .i64 0, .int .i64 0, .int .i64 0]) (by simp [results, Try.results204, go_sem]) rfl ⟨rfl, ((Upd.refl _ _).alloc _).alloc _⟩
  · unfold HOp.cells
    go_enter Try.func204, Try.ntmps204
    go_wp2
    exact bodyPost_ret (v := .agg #[.int .i64 t, .int .i64 k, .int .i64 n]) (by simp [results, Try.results204, go_sem]) rfl ⟨rfl, ((Upd.refl _ _).alloc _).alloc _⟩
theorem rver (w : World) (v : Ver) : Calls Try.prog 214 #[.agg v.cells.toArray] w fun e w' => e = .returned (.bool (verB v)) ∧ Upd No w w' := by
  unfold Ver.cells
  have i0 : idB 0 = false := by decide
  by_cases ht : v.tx = 0
  · by_cases hk : idB v.key = true
    · have hv := Lib.hid (show verB v = (v.nth == 0) by unfold verB; rw [hk, ht, i0]; simp)
      rw [ht]
      have Hk := Lib.hid hk
      clear ht hk i0
      by_cases hn : v.nth = 0
      · have hnb : (v.nth == 0) = true := by simpa using hn
        have Hn := Lib.hid hn
        clear hn
        go_enter Try.func214, Try.ntmps214
        go_wp2_with fail
        refine (ridV Hk.out).mono ?_
        rintro e w1 ⟨rfl, rfl⟩
        go_wp2
        go_ret
        exact ⟨by rw [hv.out, hnb]; rfl, (Upd.refl _ _).alloc _⟩
      · have hnb : (v.nth == 0) = false := by simpa using hn
        have Hn := Lib.hid hn
        clear hn
        go_enter Try.func214, Try.ntmps214
        go_wp2_with fail
        refine (ridV Hk.out).mono ?_
        rintro e w1 ⟨rfl, rfl⟩
        go_wp2
        go_ret
        exact ⟨by rw [hv.out, hnb]; rfl, (Upd.refl _ _).alloc _⟩
    · have hv := Lib.hid (show verB v = false by unfold verB; rw [bne_of hk]; rfl)
      rw [ht]
      have Hk := Lib.hid (bne_of hk)
      clear ht hk i0
      go_enter Try.func214, Try.ntmps214
      go_wp2_with fail
      refine (ridV Hk.out).mono ?_
      rintro e w1 ⟨rfl, rfl⟩
      go_wp2
      go_ret
      exact ⟨by rw [hv.out]; rfl, (Upd.refl _ _).alloc _⟩
  · have htb : (v.tx == 0) = false := by simpa using ht
    have Ht := Lib.hid ht
    clear ht i0
    by_cases hi : idB v.tx = true
    · have Hi := Lib.hid hi
      clear hi
      by_cases hk : idB v.key = true
      · have Hk := Lib.hid hk
        clear hk
        by_cases h1 : 1 ≤ v.nth
        · by_cases h2 : v.nth ≤ 4095
          · have hv := Lib.hid (show verB v = true by unfold verB; rw [htb, Hi.out, Hk.out, decide_eq_true h1, decide_eq_true h2]; rfl)
            go_enter Try.func214, Try.ntmps214
            go_wp2_with fail
            refine (ridV Hi.out).mono ?_
            rintro e w1 ⟨rfl, rfl⟩
            go_wp2_with fail
            refine (ridV Hk.out).mono ?_
            rintro e w1 ⟨rfl, rfl⟩
            go_wp2
            go_ret
            exact ⟨by rw [hv.out]; rfl, (Upd.refl _ _).alloc _⟩
          · have hv := Lib.hid (show verB v = false by unfold verB; rw [htb, Hi.out, Hk.out, decide_eq_false h2]; simp)
            have h2b : decide (v.nth ≤ 4095) = false := decide_eq_false h2
            go_enter Try.func214, Try.ntmps214
            go_wp2_with fail
            refine (ridV Hi.out).mono ?_
            rintro e w1 ⟨rfl, rfl⟩
            go_wp2_with fail
            refine (ridV Hk.out).mono ?_
            rintro e w1 ⟨rfl, rfl⟩
            go_wp2
            go_ret
            exact ⟨by rw [hv.out]; rfl, (Upd.refl _ _).alloc _⟩
        · have hv := Lib.hid (show verB v = false by unfold verB; rw [htb, Hi.out, Hk.out, decide_eq_false h1]; simp)
          go_enter Try.func214, Try.ntmps214
          go_wp2_with fail
          refine (ridV Hi.out).mono ?_
          rintro e w1 ⟨rfl, rfl⟩
          go_wp2_with fail
          refine (ridV Hk.out).mono ?_
          rintro e w1 ⟨rfl, rfl⟩
          go_wp2
          go_ret
          exact ⟨by rw [hv.out]; rfl, (Upd.refl _ _).alloc _⟩
      · have hv := Lib.hid (show verB v = false by unfold verB; rw [bne_of hk]; rfl)
        have Hk := Lib.hid (bne_of hk)
        clear hk
        go_enter Try.func214, Try.ntmps214
        go_wp2_with fail
        refine (ridV Hi.out).mono ?_
        rintro e w1 ⟨rfl, rfl⟩
        go_wp2_with fail
        refine (ridV Hk.out).mono ?_
        rintro e w1 ⟨rfl, rfl⟩
        go_wp2
        go_ret
        exact ⟨by rw [hv.out]; rfl, (Upd.refl _ _).alloc _⟩
    · have hv := Lib.hid (show verB v = false by unfold verB; rw [htb, bne_of hi]; simp)
      have Hi := Lib.hid (bne_of hi)
      clear hi
      go_enter Try.func214, Try.ntmps214
      go_wp2_with fail
      refine (ridV Hi.out).mono ?_
      rintro e w1 ⟨rfl, rfl⟩
      go_wp2
      go_ret
      exact ⟨by rw [hv.out]; rfl, (Upd.refl _ _).alloc _⟩
theorem oright (w : World) (o : HOp) : Calls Try.prog 213 #[.agg o.cells.toArray] w fun e w' => e = .returned (.int .i64 (errI (opB o))) ∧ Upd No w w' := by
  obtain ⟨r, k, t, n⟩ := o
  cases r
  · have hN := hop_neq
    unfold HOp.cells
    by_cases hz : (⟨false, k, t, n⟩ : HOp) = ⟨false, k, 0, 0⟩
    · have hzb : ((⟨false, k, t, n⟩ : HOp) != ⟨false, k, 0, 0⟩) = false := by rw [hz]; simp
      have h0 : t = 0 ∧ n = 0 := by injection hz with _ _ h3 h4; exact ⟨h3, h4⟩
      by_cases h1 : k < 1
      · have hv := Lib.hid (show opB ⟨false, k, t, n⟩ = false by unfold opB idB; rw [decide_eq_false (show ¬ 1 ≤ k by omega)]; rfl)
        clear hz h0
        have qn := fun w => (hN w ⟨false, k, t, n⟩ ⟨false, k, 0, 0⟩).trans (by rw [hzb])
        clear hN hzb
        go_enter Try.func213, Try.ntmps213
        go_wp2
        go_ret
        exact ⟨by rw [hv.out]; rfl, (Upd.refl _ _).alloc _⟩
      · by_cases h2 : 1048575 < k
        · have hv := Lib.hid (show opB ⟨false, k, t, n⟩ = false by unfold opB idB; rw [decide_eq_false (show ¬ k ≤ 1048575 by omega)]; simp)
          clear hz h0
          have qn := fun w => (hN w ⟨false, k, t, n⟩ ⟨false, k, 0, 0⟩).trans (by rw [hzb])
          clear hN hzb
          go_enter Try.func213, Try.ntmps213
          go_wp2
          go_ret
          exact ⟨by rw [hv.out]; rfl, (Upd.refl _ _).alloc _⟩
        · have hv := Lib.hid (show opB ⟨false, k, t, n⟩ = true by unfold opB idB; rw [decide_eq_true (show k ≤ 1048575 by omega), decide_eq_true (show 1 ≤ k by omega), h0.1, h0.2]; rfl)
          clear hz h0
          have qn := fun w => (hN w ⟨false, k, t, n⟩ ⟨false, k, 0, 0⟩).trans (by rw [hzb])
          clear hN hzb
          go_enter Try.func213, Try.ntmps213
          go_wp2
          go_ret
          exact ⟨by rw [hv.out]; rfl, (Upd.refl _ _).alloc _⟩
    · have hzb : ((⟨false, k, t, n⟩ : HOp) != ⟨false, k, 0, 0⟩) = true := by simpa using hz
      have hv := Lib.hid (show opB ⟨false, k, t, n⟩ = false by
        unfold opB
        by_cases h3 : t = 0
        · by_cases h4 : n = 0
          · exact absurd (by rw [h3, h4]) hz
          · simp [h4]
        · simp [h3])
      clear hz
      have qn := fun w => (hN w ⟨false, k, t, n⟩ ⟨false, k, 0, 0⟩).trans (by rw [hzb])
      clear hN hzb
      go_enter Try.func213, Try.ntmps213
      go_wp2
      go_ret
      exact ⟨by rw [hv.out]; rfl, (Upd.refl _ _).alloc _⟩
  · have hv := Lib.hid (show opB ⟨true, k, t, n⟩ = verB ⟨t, k, n⟩ from rfl)
    unfold HOp.cells
    go_enter Try.func213, Try.ntmps213
    go_wp2_with fail
    refine (oof _ ⟨true, k, t, n⟩).mono ?_
    rintro e w1 ⟨rfl, hu1⟩
    go_wp2_with fail
    refine (pver _ ⟨t, k, n⟩).mono ?_
    rintro e w2 ⟨x, rfl, hu2⟩
    go_wp2
    go_ret
    exact ⟨by rw [hv.out]; rfl, (((Upd.refl _ _).alloc _).trans hu1).trans hu2⟩
theorem rright (w : World) (o : HOp) : Calls Try.prog 164 #[.agg o.cells.toArray] w fun e w' => e = .returned (.bool (opB o)) ∧ Upd No w w' := by
  obtain ⟨r, k, t, n⟩ := o
  cases r
  · unfold HOp.cells
    by_cases hk : idB k = true
    · have Hk := Lib.hid hk
      clear hk
      by_cases h3 : t = 0
      · have hv := Lib.hid (show opB ⟨false, k, t, n⟩ = (n == 0) by unfold opB; rw [h3, Hk.out]; rfl)
        have h3b : (t == 0) = true := by simpa using h3
        clear h3
        by_cases h4 : n = 0
        · have h4b : (n == 0) = true := by simpa using h4
          clear h4
          go_enter Try.func164, Try.ntmps164
          go_wp2_with fail
          refine (ridV Hk.out).mono ?_
          rintro e w1 ⟨rfl, rfl⟩
          go_wp2
          go_ret
          exact ⟨by rw [hv.out, h4b]; rfl, (Upd.refl _ _).alloc _⟩
        · have h4b : (n == 0) = false := by simpa using h4
          clear h4
          go_enter Try.func164, Try.ntmps164
          go_wp2_with fail
          refine (ridV Hk.out).mono ?_
          rintro e w1 ⟨rfl, rfl⟩
          go_wp2
          go_ret
          exact ⟨by rw [hv.out, h4b]; rfl, (Upd.refl _ _).alloc _⟩
      · have h3b : (t == 0) = false := by simpa using h3
        have hv := Lib.hid (show opB ⟨false, k, t, n⟩ = false by unfold opB; simp [h3])
        clear h3
        go_enter Try.func164, Try.ntmps164
        go_wp2_with fail
        refine (ridV Hk.out).mono ?_
        rintro e w1 ⟨rfl, rfl⟩
        go_wp2
        go_ret
        exact ⟨by rw [hv.out]; rfl, (Upd.refl _ _).alloc _⟩
    · have hv := Lib.hid (show opB ⟨false, k, t, n⟩ = false by unfold opB; simp [bne_of hk])
      have Hk := Lib.hid (bne_of hk)
      clear hk
      go_enter Try.func164, Try.ntmps164
      go_wp2_with fail
      refine (ridV Hk.out).mono ?_
      rintro e w1 ⟨rfl, rfl⟩
      go_wp2
      go_ret
      exact ⟨by rw [hv.out]; rfl, (Upd.refl _ _).alloc _⟩
  · have hv := Lib.hid (show opB ⟨true, k, t, n⟩ = verB ⟨t, k, n⟩ from rfl)
    unfold HOp.cells
    go_enter Try.func164, Try.ntmps164
    go_wp2_with fail
    refine (rof _ ⟨true, k, t, n⟩).mono ?_
    rintro e w1 ⟨rfl, hu1⟩
    go_wp2_with fail
    refine (rver _ ⟨t, k, n⟩).mono ?_
    rintro e w2 ⟨rfl, hu2⟩
    go_wp2
    go_ret
    exact ⟨by rw [hv.out]; rfl, (((Upd.refl _ _).alloc _).trans hu1).trans hu2⟩
end Go.Proofs.Ytgakhpdclhlmpaa
