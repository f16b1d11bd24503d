/- The document: which version is the last one, which reads may not be. -/
import Derived.Test.YtgakhpdclhlmpaaGreatMao
namespace Go.Proofs.YtgakhpdclhlmpaaGreat
set_option linter.unusedVariables false
open Go.RowKit
theorem lastR_zero {txs : List HTx} {v : Ver} (h : v.tx = 0) : lastB txs v = true := by unfold lastB; rw [if_pos h]
theorem lastR_none {txs : List HTx} {v : Ver} (h : ¬ v.tx = 0) (hf : findT txs v.tx = none) : lastB txs v = false := by unfold lastB doneT; rw [if_neg h, hf]
theorem lastR_some {txs : List HTx} {v : Ver} {t : HTx} (h : ¬ v.tx = 0) (hf : findT txs v.tx = some t) : lastB txs v = (t.done && v.nth == (writesN t.ops v.key : Int)) := by
  unfold lastB doneT; rw [if_neg h, hf]
  cases hd : t.done <;> simp [hd]
set_option maxRecDepth 100000 in
set_option maxHeartbeats 1000000 in
theorem rLast (F : Nat → Prop) (w : World) (txs : List HTx) (ords : List HOrd) (A : Option Addr) (c : Nat) (B : Option Addr) (d : Nat) (o : HOp) (H : Hist.lies F w ⟨txs, ords, A, c, B, d⟩) :
    Calls Tryz.prog 47 #[.agg #[.slice A txs.length c, .slice B ords.length d], .agg o.cells.toArray] w fun e w' => e = .returned (.bool (lastB txs ⟨o.tx, o.key, o.nth⟩)) ∧ Upd No w w' := by
  obtain ⟨rd, ky, tx, nt⟩ := o
  unfold HOp.cells
  simp only
  have u0 := ((Upd.refl No w).alloc (.cells #[.slice A txs.length c, .slice B ords.length d] 25)).alloc (.cells #[.bool rd, .int .i64 ky, .int .i64 tx, .int .i64 nt] 53)
  have bH := Lib.hid ((Blk.new w 25 [.slice A txs.length c, .slice B ords.length d]).alloc (.cells #[.bool rd, .int .i64 ky, .int .i64 tx, .int .i64 nt] 53))
  have b1 := Blk.new (w.alloc (.cells #[.slice A txs.length c, .slice B ords.length d] 25)) 53 [.bool rd, .int .i64 ky, .int .i64 tx, .int .i64 nt]
  simp only [World.size_alloc] at b1
  have bX := Lib.hid b1
  have U0 := Lib.hid u0
  clear b1 u0
  have HH := Lib.hid (H.upd U0.out (fun _ _ => id))
  by_cases h0 : tx = 0
  · have HV := Lib.hid (lastR_zero (txs := txs) (v := ⟨tx, ky, nt⟩) h0)
    have hb : (tx == 0) = true := by simpa using h0
    clear h0
    go_enter Tryz.func47, Tryz.ntmps47
    go_wp2
    go_ret
    exact ⟨by rw [HV.out]; rfl, U0.out⟩
  · have hb : (tx == 0) = false := by simpa using h0
    cases hf : findT txs tx with
    | none =>
      have HV := Lib.hid (lastR_none (txs := txs) (v := ⟨tx, ky, nt⟩) h0 hf)
      have HF := Lib.hid hf
      clear hf h0
      go_enter Tryz.func47, Tryz.ntmps47
      go_wp2_with fail
      refine (rfind_none HH.out HF.out).mono ?_
      rintro e w1 ⟨rfl, hu1⟩
      have uT := hu1.alloc (.cells #[.int .i64 0, .bool false, .slice none 0 0] 47)
      clear hu1
      go_wp2
      refine wp_region_noPanic ?_
      refine wp_region_held_drew (S := (fun w' => Upd No (w1.alloc (.cells #[.int .i64 0, .bool false, .slice none 0 0] 47)) w')) (by kernel_rfl) ?_ (fun hHeld => ?_)
      · (first | exact (Upd.refl No _).drew | exact hHeld.trans hu3)
      refine wpT 0 ⟨some 17, .move (.tmp 6), 4, "ref.go:50", #[], none⟩ ?_ (.inl ⟨by rfl, ?_⟩) ?_
      rotate_left
      · (intro W hSw; (try dsimp only at hSw); go_simp; try (with_reducible rfl))
      try simp only [Act.put, List.setIfInBounds_toArray, List.set_cons_zero, List.set_cons_succ]
      refine wpT 1 ⟨some 18, .move (.tmp 17), 4, "ref.go:50", #[⟨0, .data⟩], none⟩ ?_ (.inl ⟨by rfl, ?_⟩) ?_
      rotate_left
      · (intro W hSw; (try dsimp only at hSw); go_simp; try (with_reducible rfl))
      try simp only [Act.put, List.setIfInBounds_toArray, List.set_cons_zero, List.set_cons_succ]
      refine wpT 2 ⟨some 19, .fieldAddr 47 (.tmp 5) 1, 0, "ref.go:50", #[⟨1, .guard⟩], some (1, true)⟩ undef (.inr ⟨by rfl, rfl⟩) ?_
      try simp only [Act.put, List.setIfInBounds_toArray, List.set_cons_zero, List.set_cons_succ]
      refine wpT 3 ⟨some 20, .load 4 (.tmp 19), 4, "ref.go:50", #[⟨2, .data⟩, ⟨1, .guard⟩], some (1, true)⟩ undef (.inr ⟨by rfl, rfl⟩) ?_
      try simp only [Act.put, List.setIfInBounds_toArray, List.set_cons_zero, List.set_cons_succ]
      refine wpT 4 ⟨some 21, .pick (.tmp 18) (.tmp 20) (.const (.bool false)), 4, "ref.go:50", #[⟨1, .data⟩, ⟨3, .data⟩], none⟩ ?_ (.inl ⟨by rfl, ?_⟩) ?_
      rotate_left
      · (intro W hSw; (try dsimp only at hSw); go_simp; try (with_reducible rfl))
      try simp only [Act.put, List.setIfInBounds_toArray, List.set_cons_zero, List.set_cons_succ]
      refine wpT 5 ⟨some 22, .move (.tmp 21), 4, "ref.go:50", #[⟨4, .data⟩, ⟨1, .chain⟩], none⟩ ?_ (.inl ⟨by rfl, ?_⟩) ?_
      rotate_left
      · (intro W hSw; (try dsimp only at hSw); go_simp; try (with_reducible rfl))
      try simp only [Act.put, List.setIfInBounds_toArray, List.set_cons_zero, List.set_cons_succ]
      refine wpT 6 ⟨some 23, .fieldAddr 53 (.tmp 3) 3, 0, "ref.go:50", #[⟨5, .guard⟩], some (5, true)⟩ undef (.inr ⟨by rfl, rfl⟩) ?_
      try simp only [Act.put, List.setIfInBounds_toArray, List.set_cons_zero, List.set_cons_succ]
      refine wpT 7 ⟨some 24, .load 3 (.tmp 23), 3, "ref.go:50", #[⟨6, .data⟩, ⟨5, .guard⟩], some (5, true)⟩ undef (.inr ⟨by rfl, rfl⟩) ?_
      try simp only [Act.put, List.setIfInBounds_toArray, List.set_cons_zero, List.set_cons_succ]
      refine wpT 8 ⟨some 25, .fieldAddr 47 (.tmp 5) 2, 0, "ref.go:50", #[⟨5, .guard⟩], some (5, true)⟩ undef (.inr ⟨by rfl, rfl⟩) ?_
      try simp only [Act.put, List.setIfInBounds_toArray, List.set_cons_zero, List.set_cons_succ]
      refine wpT 9 ⟨some 26, .load 45 (.tmp 25), 45, "ref.go:50", #[⟨8, .data⟩, ⟨5, .guard⟩], some (5, true)⟩ undef (.inr ⟨by rfl, rfl⟩) ?_
      try simp only [Act.put, List.setIfInBounds_toArray, List.set_cons_zero, List.set_cons_succ]
      refine wpT 10 ⟨some 27, .fieldAddr 53 (.tmp 3) 1, 0, "ref.go:50", #[⟨5, .guard⟩], some (5, true)⟩ undef (.inr ⟨by rfl, rfl⟩) ?_
      try simp only [Act.put, List.setIfInBounds_toArray, List.set_cons_zero, List.set_cons_succ]
      refine wpT 11 ⟨some 28, .load 3 (.tmp 27), 3, "ref.go:50", #[⟨10, .data⟩, ⟨5, .guard⟩], some (5, true)⟩ undef (.inr ⟨by rfl, rfl⟩) ?_
      try simp only [Act.put, List.setIfInBounds_toArray, List.set_cons_zero, List.set_cons_succ]
      refine wpAnyH_ready (rs := [12]) (by kernel_rfl) (by simp) ?_
      refine AllReadyH.cons (o := ⟨some 29, .call { callee := .value (.func 46), args := #[.tmp 26, .tmp 28], argTypes := #[45, 3] }, 3, "ref.go:50", #[⟨9, .data⟩, ⟨11, .data⟩, ⟨5, .chain⟩, ⟨5, .guard⟩], some (5, true)⟩) rfl (fun K hK => ?_) AllReadyH.nil
      go_simp
      refine hK.out _ _ ?_ (fun hHeld => ?_)
      · exact hHeld
      clear hK K
      try simp only [Act.put, List.setIfInBounds_toArray, List.set_cons_zero, List.set_cons_succ]
      refine wpT 13 ⟨some 30, .binOp .eql 3 (.tmp 24) (.tmp 29) 3, 4, "ref.go:50", #[⟨7, .data⟩, ⟨12, .data⟩, ⟨5, .guard⟩], some (5, true)⟩ undef (.inr ⟨by rfl, rfl⟩) ?_
      try simp only [Act.put, List.setIfInBounds_toArray, List.set_cons_zero, List.set_cons_succ]
      refine wpT 14 ⟨some 31, .pick (.tmp 22) (.tmp 30) (.const (.bool false)), 4, "ref.go:50", #[⟨5, .data⟩, ⟨13, .data⟩], none⟩ ?_ (.inl ⟨by rfl, ?_⟩) ?_
      rotate_left
      · (intro W hSw; (try dsimp only at hSw); go_simp; try (with_reducible rfl))
      try simp only [Act.put, List.setIfInBounds_toArray, List.set_cons_zero, List.set_cons_succ]
      refine wpT 15 ⟨some 4, .assign (.tmp 31), 4, "ref.go:50", #[⟨14, .data⟩, ⟨12, .chain⟩, ⟨0, .phase⟩, ⟨1, .phase⟩, ⟨2, .phase⟩, ⟨3, .phase⟩, ⟨4, .phase⟩, ⟨5, .phase⟩, ⟨6, .phase⟩, ⟨7, .phase⟩, ⟨8, .phase⟩, ⟨9, .phase⟩, ⟨10, .phase⟩, ⟨11, .phase⟩, ⟨12, .phase⟩, ⟨13, .phase⟩, ⟨14, .phase⟩], none⟩ ?_ (.inl ⟨by rfl, ?_⟩) ?_
      rotate_left
      · (intro W hSw; (try dsimp only at hSw); go_simp; try (with_reducible rfl))
      try simp only [Act.put, List.setIfInBounds_toArray, List.set_cons_zero, List.set_cons_succ]
      refine wpAnyH_done (by kernel_rfl) (NoPanic.normal ?_) _
      have HU := Lib.hid (U0.out.trans (uT.trans hHeld))
      clear hHeld
      go_wp2
      go_ret
      exact ⟨by rw [HV.out]; rfl, HU.out⟩
    | some t =>
      have HV := Lib.hid (lastR_some (txs := txs) (v := ⟨tx, ky, nt⟩) h0 hf)
      have HF := Lib.hid hf
      have HT := Lib.hid (H.tx t (find_mem hf))
      clear hf h0
      obtain ⟨ti, td, tO, tA, tc⟩ := t
      go_enter Tryz.func47, Tryz.ntmps47
      go_wp2_with fail
      refine (rfind_some HH.out HF.out).mono ?_
      rintro e w1 ⟨A1, c1, rfl, hc1, hh1, hu1⟩
      simp only at hc1 hh1 HV
      have bT := Blk.new w1 47 [.int .i64 ti, .bool td, .slice A1 tO.length c1]
      have uT := hu1.alloc (.cells #[.int .i64 ti, .bool td, .slice A1 tO.length c1] 47)
      have t1 : ∀ W, Upd No (w1.alloc (.cells #[.int .i64 ti, .bool td, .slice A1 tO.length c1] 47)) W → W.cell? ⟨w1.heap.size, 1, none⟩ = some (.bool td) := fun W hW => (bT.upd hW id).cell 1
      have t2 : ∀ W, Upd No (w1.alloc (.cells #[.int .i64 ti, .bool td, .slice A1 tO.length c1] 47)) W → W.cell? ⟨w1.heap.size, 2, none⟩ = some (.slice A1 tO.length c1) := fun W hW => (bT.upd hW id).cell 2
      have x1 : ∀ W, Upd No (w1.alloc (.cells #[.int .i64 ti, .bool td, .slice A1 tO.length c1] 47)) W → W.cell? ⟨w.heap.size + 1, 1, none⟩ = some (.int .i64 ky) := fun W hW => (bX.out.upd (uT.trans hW) id).cell 1
      have x3 : ∀ W, Upd No (w1.alloc (.cells #[.int .i64 ti, .bool td, .slice A1 tO.length c1] 47)) W → W.cell? ⟨w.heap.size + 1, 3, none⟩ = some (.int .i64 nt) := fun W hW => (bX.out.upd (uT.trans hW) id).cell 3
      have HW := Lib.hid fun W (hW : Upd No (w1.alloc (.cells #[.int .i64 ti, .bool td, .slice A1 tO.length c1] 47)) W) => rwrites F W A1 c1 tO ky (HOps.upd hh1 (((Upd.refl No _).alloc _).trans hW) (fun _ _ => id)) HT.out.2.2.1
      have UT := Lib.hid uT
      clear bT uT hu1 hh1
      cases td
      · go_wp2
        refine wp_region_noPanic ?_
        refine wp_region_held_drew (S := (fun w' => Upd No (w1.alloc (.cells #[.int .i64 ti, .bool false, .slice A1 tO.length c1] 47)) w')) (by kernel_rfl) ?_ (fun hHeld => ?_)
        · (first | exact (Upd.refl No _).drew | exact hHeld.trans hu3)
        refine wpT 0 ⟨some 17, .move (.tmp 6), 4, "ref.go:50", #[], none⟩ ?_ (.inl ⟨by rfl, ?_⟩) ?_
        rotate_left
        · (intro W hSw; (try dsimp only at hSw); go_simp; try (with_reducible rfl))
        try simp only [Act.put, List.setIfInBounds_toArray, List.set_cons_zero, List.set_cons_succ]
        refine wpT 1 ⟨some 18, .move (.tmp 17), 4, "ref.go:50", #[⟨0, .data⟩], none⟩ ?_ (.inl ⟨by rfl, ?_⟩) ?_
        rotate_left
        · (intro W hSw; (try dsimp only at hSw); go_simp; try (with_reducible rfl))
        try simp only [Act.put, List.setIfInBounds_toArray, List.set_cons_zero, List.set_cons_succ]
        refine wpT 2 ⟨some 19, .fieldAddr 47 (.tmp 5) 1, 0, "ref.go:50", #[⟨1, .guard⟩], some (1, true)⟩ ?_ (.inl ⟨by rfl, ?_⟩) ?_
        rotate_left
        · (intro W hSw; (try dsimp only at hSw); go_simp; try (with_reducible rfl))
        try simp only [Act.put, List.setIfInBounds_toArray, List.set_cons_zero, List.set_cons_succ]
        refine wpT 3 ⟨some 20, .load 4 (.tmp 19), 4, "ref.go:50", #[⟨2, .data⟩, ⟨1, .guard⟩], some (1, true)⟩ ?_ (.inl ⟨by rfl, ?_⟩) ?_
        rotate_left
        · (intro W hSw; (try dsimp only at hSw); go_simp; try (with_reducible rfl))
        try simp only [Act.put, List.setIfInBounds_toArray, List.set_cons_zero, List.set_cons_succ]
        refine wpT 4 ⟨some 21, .pick (.tmp 18) (.tmp 20) (.const (.bool false)), 4, "ref.go:50", #[⟨1, .data⟩, ⟨3, .data⟩], none⟩ ?_ (.inl ⟨by rfl, ?_⟩) ?_
        rotate_left
        · (intro W hSw; (try dsimp only at hSw); go_simp; try (with_reducible rfl))
        try simp only [Act.put, List.setIfInBounds_toArray, List.set_cons_zero, List.set_cons_succ]
        refine wpT 5 ⟨some 22, .move (.tmp 21), 4, "ref.go:50", #[⟨4, .data⟩, ⟨1, .chain⟩], none⟩ ?_ (.inl ⟨by rfl, ?_⟩) ?_
        rotate_left
        · (intro W hSw; (try dsimp only at hSw); go_simp; try (with_reducible rfl))
        try simp only [Act.put, List.setIfInBounds_toArray, List.set_cons_zero, List.set_cons_succ]
        refine wpT 6 ⟨some 23, .fieldAddr 53 (.tmp 3) 3, 0, "ref.go:50", #[⟨5, .guard⟩], some (5, true)⟩ undef (.inr ⟨by rfl, rfl⟩) ?_
        try simp only [Act.put, List.setIfInBounds_toArray, List.set_cons_zero, List.set_cons_succ]
        refine wpT 7 ⟨some 24, .load 3 (.tmp 23), 3, "ref.go:50", #[⟨6, .data⟩, ⟨5, .guard⟩], some (5, true)⟩ undef (.inr ⟨by rfl, rfl⟩) ?_
        try simp only [Act.put, List.setIfInBounds_toArray, List.set_cons_zero, List.set_cons_succ]
        refine wpT 8 ⟨some 25, .fieldAddr 47 (.tmp 5) 2, 0, "ref.go:50", #[⟨5, .guard⟩], some (5, true)⟩ undef (.inr ⟨by rfl, rfl⟩) ?_
        try simp only [Act.put, List.setIfInBounds_toArray, List.set_cons_zero, List.set_cons_succ]
        refine wpT 9 ⟨some 26, .load 45 (.tmp 25), 45, "ref.go:50", #[⟨8, .data⟩, ⟨5, .guard⟩], some (5, true)⟩ undef (.inr ⟨by rfl, rfl⟩) ?_
        try simp only [Act.put, List.setIfInBounds_toArray, List.set_cons_zero, List.set_cons_succ]
        refine wpT 10 ⟨some 27, .fieldAddr 53 (.tmp 3) 1, 0, "ref.go:50", #[⟨5, .guard⟩], some (5, true)⟩ undef (.inr ⟨by rfl, rfl⟩) ?_
        try simp only [Act.put, List.setIfInBounds_toArray, List.set_cons_zero, List.set_cons_succ]
        refine wpT 11 ⟨some 28, .load 3 (.tmp 27), 3, "ref.go:50", #[⟨10, .data⟩, ⟨5, .guard⟩], some (5, true)⟩ undef (.inr ⟨by rfl, rfl⟩) ?_
        try simp only [Act.put, List.setIfInBounds_toArray, List.set_cons_zero, List.set_cons_succ]
        refine wpAnyH_ready (rs := [12]) (by kernel_rfl) (by simp) ?_
        refine AllReadyH.cons (o := ⟨some 29, .call { callee := .value (.func 46), args := #[.tmp 26, .tmp 28], argTypes := #[45, 3] }, 3, "ref.go:50", #[⟨9, .data⟩, ⟨11, .data⟩, ⟨5, .chain⟩, ⟨5, .guard⟩], some (5, true)⟩) rfl (fun K hK => ?_) AllReadyH.nil
        go_simp
        refine hK.out _ _ ?_ (fun hHeld => ?_)
        · exact hHeld
        clear hK K
        try simp only [Act.put, List.setIfInBounds_toArray, List.set_cons_zero, List.set_cons_succ]
        refine wpT 13 ⟨some 30, .binOp .eql 3 (.tmp 24) (.tmp 29) 3, 4, "ref.go:50", #[⟨7, .data⟩, ⟨12, .data⟩, ⟨5, .guard⟩], some (5, true)⟩ undef (.inr ⟨by rfl, rfl⟩) ?_
        try simp only [Act.put, List.setIfInBounds_toArray, List.set_cons_zero, List.set_cons_succ]
        refine wpT 14 ⟨some 31, .pick (.tmp 22) (.tmp 30) (.const (.bool false)), 4, "ref.go:50", #[⟨5, .data⟩, ⟨13, .data⟩], none⟩ ?_ (.inl ⟨by rfl, ?_⟩) ?_
        rotate_left
        · (intro W hSw; (try dsimp only at hSw); go_simp; try (with_reducible rfl))
        try simp only [Act.put, List.setIfInBounds_toArray, List.set_cons_zero, List.set_cons_succ]
        refine wpT 15 ⟨some 4, .assign (.tmp 31), 4, "ref.go:50", #[⟨14, .data⟩, ⟨12, .chain⟩, ⟨0, .phase⟩, ⟨1, .phase⟩, ⟨2, .phase⟩, ⟨3, .phase⟩, ⟨4, .phase⟩, ⟨5, .phase⟩, ⟨6, .phase⟩, ⟨7, .phase⟩, ⟨8, .phase⟩, ⟨9, .phase⟩, ⟨10, .phase⟩, ⟨11, .phase⟩, ⟨12, .phase⟩, ⟨13, .phase⟩, ⟨14, .phase⟩], none⟩ ?_ (.inl ⟨by rfl, ?_⟩) ?_
        rotate_left
        · (intro W hSw; (try dsimp only at hSw); go_simp; try (with_reducible rfl))
        try simp only [Act.put, List.setIfInBounds_toArray, List.set_cons_zero, List.set_cons_succ]
        refine wpAnyH_done (by kernel_rfl) (NoPanic.normal ?_) _
        have HU := Lib.hid (U0.out.trans (UT.out.trans hHeld))
        clear hHeld
        go_wp2
        go_ret
        exact ⟨by rw [HV.out]; rfl, HU.out⟩
      · go_wp2
        refine wp_region_noPanic ?_
        refine wp_region_held_drew (S := (fun w' => Upd No (w1.alloc (.cells #[.int .i64 ti, .bool true, .slice A1 tO.length c1] 47)) w')) (by kernel_rfl) ?_ (fun hHeld => ?_)
        · (first | exact (Upd.refl No _).drew | exact hHeld.trans hu3)
        refine wpT 0 ⟨some 17, .move (.tmp 6), 4, "ref.go:50", #[], none⟩ ?_ (.inl ⟨by rfl, ?_⟩) ?_
        rotate_left
        · (intro W hSw; (try dsimp only at hSw); go_simp; try (with_reducible rfl))
        try simp only [Act.put, List.setIfInBounds_toArray, List.set_cons_zero, List.set_cons_succ]
        refine wpT 1 ⟨some 18, .move (.tmp 17), 4, "ref.go:50", #[⟨0, .data⟩], none⟩ ?_ (.inl ⟨by rfl, ?_⟩) ?_
        rotate_left
        · (intro W hSw; (try dsimp only at hSw); go_simp; try (with_reducible rfl))
        try simp only [Act.put, List.setIfInBounds_toArray, List.set_cons_zero, List.set_cons_succ]
        refine wpT 2 ⟨some 19, .fieldAddr 47 (.tmp 5) 1, 0, "ref.go:50", #[⟨1, .guard⟩], some (1, true)⟩ ?_ (.inl ⟨by rfl, ?_⟩) ?_
        rotate_left
        · (intro W hSw; (try dsimp only at hSw); go_simp; try (with_reducible rfl))
        try simp only [Act.put, List.setIfInBounds_toArray, List.set_cons_zero, List.set_cons_succ]
        refine wpT 3 ⟨some 20, .load 4 (.tmp 19), 4, "ref.go:50", #[⟨2, .data⟩, ⟨1, .guard⟩], some (1, true)⟩ ?_ (.inl ⟨by rfl, ?_⟩) ?_
        rotate_left
        · (intro W hSw; (try dsimp only at hSw); go_simp; try (with_reducible rfl))
        try simp only [Act.put, List.setIfInBounds_toArray, List.set_cons_zero, List.set_cons_succ]
        refine wpT 4 ⟨some 21, .pick (.tmp 18) (.tmp 20) (.const (.bool false)), 4, "ref.go:50", #[⟨1, .data⟩, ⟨3, .data⟩], none⟩ ?_ (.inl ⟨by rfl, ?_⟩) ?_
        rotate_left
        · (intro W hSw; (try dsimp only at hSw); go_simp; try (with_reducible rfl))
        try simp only [Act.put, List.setIfInBounds_toArray, List.set_cons_zero, List.set_cons_succ]
        refine wpT 5 ⟨some 22, .move (.tmp 21), 4, "ref.go:50", #[⟨4, .data⟩, ⟨1, .chain⟩], none⟩ ?_ (.inl ⟨by rfl, ?_⟩) ?_
        rotate_left
        · (intro W hSw; (try dsimp only at hSw); go_simp; try (with_reducible rfl))
        try simp only [Act.put, List.setIfInBounds_toArray, List.set_cons_zero, List.set_cons_succ]
        refine wpT 6 ⟨some 23, .fieldAddr 53 (.tmp 3) 3, 0, "ref.go:50", #[⟨5, .guard⟩], some (5, true)⟩ ?_ (.inl ⟨by rfl, ?_⟩) ?_
        rotate_left
        · (intro W hSw; (try dsimp only at hSw); go_simp; try (with_reducible rfl))
        try simp only [Act.put, List.setIfInBounds_toArray, List.set_cons_zero, List.set_cons_succ]
        refine wpT 7 ⟨some 24, .load 3 (.tmp 23), 3, "ref.go:50", #[⟨6, .data⟩, ⟨5, .guard⟩], some (5, true)⟩ ?_ (.inl ⟨by rfl, ?_⟩) ?_
        rotate_left
        · (intro W hSw; (try dsimp only at hSw); go_simp; try (with_reducible rfl))
        try simp only [Act.put, List.setIfInBounds_toArray, List.set_cons_zero, List.set_cons_succ]
        refine wpT 8 ⟨some 25, .fieldAddr 47 (.tmp 5) 2, 0, "ref.go:50", #[⟨5, .guard⟩], some (5, true)⟩ ?_ (.inl ⟨by rfl, ?_⟩) ?_
        rotate_left
        · (intro W hSw; (try dsimp only at hSw); go_simp; try (with_reducible rfl))
        try simp only [Act.put, List.setIfInBounds_toArray, List.set_cons_zero, List.set_cons_succ]
        refine wpT 9 ⟨some 26, .load 45 (.tmp 25), 45, "ref.go:50", #[⟨8, .data⟩, ⟨5, .guard⟩], some (5, true)⟩ ?_ (.inl ⟨by rfl, ?_⟩) ?_
        rotate_left
        · (intro W hSw; (try dsimp only at hSw); go_simp; try (with_reducible rfl))
        try simp only [Act.put, List.setIfInBounds_toArray, List.set_cons_zero, List.set_cons_succ]
        refine wpT 10 ⟨some 27, .fieldAddr 53 (.tmp 3) 1, 0, "ref.go:50", #[⟨5, .guard⟩], some (5, true)⟩ ?_ (.inl ⟨by rfl, ?_⟩) ?_
        rotate_left
        · (intro W hSw; (try dsimp only at hSw); go_simp; try (with_reducible rfl))
        try simp only [Act.put, List.setIfInBounds_toArray, List.set_cons_zero, List.set_cons_succ]
        refine wpT 11 ⟨some 28, .load 3 (.tmp 27), 3, "ref.go:50", #[⟨10, .data⟩, ⟨5, .guard⟩], some (5, true)⟩ ?_ (.inl ⟨by rfl, ?_⟩) ?_
        rotate_left
        · (intro W hSw; (try dsimp only at hSw); go_simp; try (with_reducible rfl))
        try simp only [Act.put, List.setIfInBounds_toArray, List.set_cons_zero, List.set_cons_succ]
        refine wpAnyH_ready (rs := [12]) (by kernel_rfl) (by simp) ?_
        refine AllReadyH.cons (o := ⟨some 29, .call { callee := .value (.func 46), args := #[.tmp 26, .tmp 28], argTypes := #[45, 3] }, 3, "ref.go:50", #[⟨9, .data⟩, ⟨11, .data⟩, ⟨5, .chain⟩, ⟨5, .guard⟩], some (5, true)⟩) rfl (fun K hK => ?_) AllReadyH.nil
        go_simp
        (first
    | (go_at_call 46; refine (HW.out _ hHeld).mono ?_; rintro e w3 ⟨rfl, hu3⟩))
        try (go_wp2_with fail)
        refine hK.out _ _ ?_ (fun hHeld => ?_)
        · (first | exact (Upd.refl No _).drew | exact hHeld.trans hu3)
        clear hK K
        try simp only [Act.put, List.setIfInBounds_toArray, List.set_cons_zero, List.set_cons_succ]
        refine wpT 13 ⟨some 30, .binOp .eql 3 (.tmp 24) (.tmp 29) 3, 4, "ref.go:50", #[⟨7, .data⟩, ⟨12, .data⟩, ⟨5, .guard⟩], some (5, true)⟩ ?_ (.inl ⟨by rfl, ?_⟩) ?_
        rotate_left
        · (intro W hSw; (try dsimp only at hSw); go_simp; try (with_reducible rfl))
        try simp only [Act.put, List.setIfInBounds_toArray, List.set_cons_zero, List.set_cons_succ]
        refine wpT 14 ⟨some 31, .pick (.tmp 22) (.tmp 30) (.const (.bool false)), 4, "ref.go:50", #[⟨5, .data⟩, ⟨13, .data⟩], none⟩ ?_ (.inl ⟨by rfl, ?_⟩) ?_
        rotate_left
        · (intro W hSw; (try dsimp only at hSw); go_simp; try (with_reducible rfl))
        try simp only [Act.put, List.setIfInBounds_toArray, List.set_cons_zero, List.set_cons_succ]
        refine wpT 15 ⟨some 4, .assign (.tmp 31), 4, "ref.go:50", #[⟨14, .data⟩, ⟨12, .chain⟩, ⟨0, .phase⟩, ⟨1, .phase⟩, ⟨2, .phase⟩, ⟨3, .phase⟩, ⟨4, .phase⟩, ⟨5, .phase⟩, ⟨6, .phase⟩, ⟨7, .phase⟩, ⟨8, .phase⟩, ⟨9, .phase⟩, ⟨10, .phase⟩, ⟨11, .phase⟩, ⟨12, .phase⟩, ⟨13, .phase⟩, ⟨14, .phase⟩], none⟩ ?_ (.inl ⟨by rfl, ?_⟩) ?_
        rotate_left
        · (intro W hSw; (try dsimp only at hSw); go_simp; try (with_reducible rfl))
        try simp only [Act.put, List.setIfInBounds_toArray, List.set_cons_zero, List.set_cons_succ]
        refine wpAnyH_done (by kernel_rfl) (NoPanic.normal ?_) _
        have HU := Lib.hid (U0.out.trans (UT.out.trans hHeld))
        clear hHeld
        go_wp2
        go_ret
        exact ⟨by rw [HV.out]; rfl, HU.out⟩
theorem badO_eq (txs : List HTx) (i0 : Int) (dn : Bool) (l : List HOp) (A : Option Addr) (c : Nat) (p : Int) (rd : Bool) (ky tx nt : Int) :
    badO txs ⟨i0, dn, l, A, c⟩ p ⟨rd, ky, tx, nt⟩ = (dn && (rd && (!(tx == 0) && (!(tx == i0) && (match findT txs tx with | none => false | some u => if p = 2 then !u.done else p == 3 && decide (nt < (writesN u.ops ky : Int))))))) := by
  unfold badO
  simp only [Bool.and_assoc]
  rfl
set_option maxRecDepth 100000 in
set_option maxHeartbeats 1000000 in
theorem rbad (F : Nat → Prop) (w : World) (txs : List HTx) (ords : List HOrd) (A : Option Addr) (c : Nat) (B : Option Addr) (d : Nat) (i0 : Int) (dn : Bool) (A1 : Option Addr) (c1 : Nat) (l : List HOp) (k : Nat) (p : Int) (o : HOp)
    (H : Hist.lies F w ⟨txs, ords, A, c, B, d⟩) (h : HOps F w A1 l) (hl : fewOps l.length) (hk : k < l.length) (ho : l[k] = o) :
    Calls Tryz.prog 19 #[.agg #[.slice A txs.length c, .slice B ords.length d], .agg #[.int .i64 i0, .bool dn, .slice A1 l.length c1], .int .i64 (k : Int), .int .i64 p] w fun e w' => e = .returned (.bool (badO txs ⟨i0, dn, l, A1, c1⟩ p o)) ∧ Upd No w w' := by
  unfold fewOps at hl
  have u0 := ((Upd.refl No w).alloc (.cells #[.slice A txs.length c, .slice B ords.length d] 25)).alloc (.cells #[.int .i64 i0, .bool dn, .slice A1 l.length c1] 47)
  have bH := Lib.hid ((Blk.new w 25 [.slice A txs.length c, .slice B ords.length d]).alloc (.cells #[.int .i64 i0, .bool dn, .slice A1 l.length c1] 47))
  have b1 := Blk.new (w.alloc (.cells #[.slice A txs.length c, .slice B ords.length d] 25)) 47 [.int .i64 i0, .bool dn, .slice A1 l.length c1]
  simp only [World.size_alloc] at b1
  have bX := Lib.hid b1
  have U0 := Lib.hid u0
  clear b1 u0
  obtain ⟨rd, ky, tx, nt⟩ := o
  obtain ⟨ad, hAd, q0, q1, q2, q3⟩ := (h.upd U0.out (fun _ _ => id)).at_ hk
  rw [ho] at q0 q1 q2 q3
  simp only at q0 q1 q2 q3
  subst hAd
  have hv := badO_eq txs i0 dn l (some ad) c1 p rd ky tx nt
  have b1 : (0 : Int) ≤ (k : Int) := Int.natCast_nonneg _
  have b2 : (k : Int) < (l.length : Int) := by omega
  have U1 := Lib.hid (U0.out.alloc (.cells #[.bool rd, .int .i64 ky, .int .i64 tx, .int .i64 nt] 53))
  have hbo := Blk.new ((w.alloc (.cells #[.slice A txs.length c, .slice B ords.length d] 25)).alloc (.cells #[.int .i64 i0, .bool dn, .slice (some ad) l.length c1] 47)) 53 [.bool rd, .int .i64 ky, .int .i64 tx, .int .i64 nt]
  simp only [World.size_alloc] at hbo
  have bO := Lib.hid hbo
  clear ho hbo
  cases dn
  · have HV := Lib.hid (show badO txs ⟨i0, false, l, some ad, c1⟩ p ⟨rd, ky, tx, nt⟩ = false by rw [hv]; rfl)
    clear hv
    go_enter Tryz.func19, Tryz.ntmps19
    go_wp2
    go_ret
    exact ⟨by rw [HV.out]; rfl, U1.out⟩
  · cases rd
    · have HV := Lib.hid (show badO txs ⟨i0, true, l, some ad, c1⟩ p ⟨false, ky, tx, nt⟩ = false by rw [hv]; rfl)
      clear hv
      go_enter Tryz.func19, Tryz.ntmps19
      go_wp2
      go_ret
      exact ⟨by rw [HV.out]; rfl, U1.out⟩
    · by_cases h0 : tx = 0
      · have HV := Lib.hid (show badO txs ⟨i0, true, l, some ad, c1⟩ p ⟨true, ky, tx, nt⟩ = false by rw [hv, h0]; rfl)
        have h0b : (tx == 0) = true := by simpa using h0
        clear hv h0
        go_enter Tryz.func19, Tryz.ntmps19
        go_wp2
        go_ret
        exact ⟨by rw [HV.out]; rfl, U1.out⟩
      · have h0b : (tx == 0) = false := by simpa using h0
        by_cases h1 : tx = i0
        · have HV := Lib.hid (show badO txs ⟨i0, true, l, some ad, c1⟩ p ⟨true, ky, tx, nt⟩ = false by rw [hv, h1]; simp)
          have h1b : (tx == i0) = true := by simpa using h1
          clear hv h0 h1
          go_enter Tryz.func19, Tryz.ntmps19
          go_wp2
          go_ret
          exact ⟨by rw [HV.out]; rfl, U1.out⟩
        · have h1b : (tx == i0) = false := by simpa using h1
          have HH := Lib.hid (H.upd U1.out (fun _ _ => id))
          cases hf : findT txs tx with
          | none =>
            have HV := Lib.hid (show badO txs ⟨i0, true, l, some ad, c1⟩ p ⟨true, ky, tx, nt⟩ = false by rw [hv, hf]; simp)
            have HF := Lib.hid hf
            clear hv h0 h1 hf
            go_enter Tryz.func19, Tryz.ntmps19
            go_wp2_with fail
            refine (rfind_none HH.out HF.out).mono ?_
            rintro e w1 ⟨rfl, hu1⟩
            have HU := Lib.hid (U1.out.trans (hu1.alloc (.cells #[.int .i64 0, .bool false, .slice none 0 0] 47)))
            clear hu1
            go_wp2
            go_ret
            exact ⟨by rw [HV.out]; rfl, HU.out⟩
          | some t =>
            have hv2 : badO txs ⟨i0, true, l, some ad, c1⟩ p ⟨true, ky, tx, nt⟩ = (if p = 2 then !t.done else p == 3 && decide (nt < (writesN t.ops ky : Int))) := by rw [hv, hf, h0b, h1b]; rfl
            have HF := Lib.hid hf
            have HT := Lib.hid (H.tx t (find_mem hf))
            clear hv h0 h1 hf
            obtain ⟨ti, td, tO, tA, tc⟩ := t
            simp only at hv2
            by_cases h2 : p = 2
            · have HV := Lib.hid (show badO txs ⟨i0, true, l, some ad, c1⟩ p ⟨true, ky, tx, nt⟩ = !td by rw [hv2, if_pos h2])
              have h2b : (p == 2) = true := by simpa using h2
              clear hv2 h2
              go_enter Tryz.func19, Tryz.ntmps19
              go_wp2_with fail
              refine (rfind_some HH.out HF.out).mono ?_
              rintro e w1 ⟨A2, c2, rfl, hc2, hh2, hu1⟩
              have HU := Lib.hid (U1.out.trans (hu1.alloc (.cells #[.int .i64 ti, .bool td, .slice A2 tO.length c2] 47)))
              clear hu1 hc2 hh2
              go_wp2
              go_ret
              exact ⟨by rw [HV.out]; rfl, HU.out⟩
            · rw [if_neg h2] at hv2
              have h2b : (p == 2) = false := by simpa using h2
              have HV2 := Lib.hid hv2
              clear hv2 h2
              go_enter Tryz.func19, Tryz.ntmps19
              go_wp2_with fail
              refine (rfind_some HH.out HF.out).mono ?_
              rintro e w1 ⟨A2, c2, rfl, hc2, hh2, hu1⟩
              simp only at hc2 hh2
              have bT := Blk.new w1 47 [.int .i64 ti, .bool td, .slice A2 tO.length c2]
              have uT := hu1.alloc (.cells #[.int .i64 ti, .bool td, .slice A2 tO.length c2] 47)
              have t2 : ∀ W, Upd No (w1.alloc (.cells #[.int .i64 ti, .bool td, .slice A2 tO.length c2] 47)) W → W.cell? ⟨w1.heap.size, 2, none⟩ = some (.slice A2 tO.length c2) := fun W hW => (bT.upd hW id).cell 2
              have x1 : ∀ W, Upd No (w1.alloc (.cells #[.int .i64 ti, .bool td, .slice A2 tO.length c2] 47)) W → W.cell? ⟨w.heap.size + 1 + 1, 1, none⟩ = some (.int .i64 ky) := fun W hW => (bO.out.upd (uT.trans hW) id).cell 1
              have x3 : ∀ W, Upd No (w1.alloc (.cells #[.int .i64 ti, .bool td, .slice A2 tO.length c2] 47)) W → W.cell? ⟨w.heap.size + 1 + 1, 3, none⟩ = some (.int .i64 nt) := fun W hW => (bO.out.upd (uT.trans hW) id).cell 3
              have HW := Lib.hid fun W (hW : Upd No (w1.alloc (.cells #[.int .i64 ti, .bool td, .slice A2 tO.length c2] 47)) W) => rwrites F W A2 c2 tO ky (HOps.upd hh2 (((Upd.refl No _).alloc _).trans hW) (fun _ _ => id)) HT.out.2.2.1
              have UT := Lib.hid uT
              clear bT uT hu1 hh2
              by_cases h3 : p = 3
              · have h3b : (p == 3) = true := by simpa using h3
                clear h3
                go_wp2
                refine wp_region_noPanic ?_
                refine wp_region_held_drew (S := (fun w' => Upd No (w1.alloc (.cells #[.int .i64 ti, .bool td, .slice A2 tO.length c2] 47)) w')) (by kernel_rfl) ?_ (fun hHeld => ?_)
                · (first | exact (Upd.refl No _).drew | exact hHeld.trans hu3)
                refine wpT 0 ⟨some 51, .move (.tmp 3), 3, "ref.go:24", #[], none⟩ ?_ (.inl ⟨by rfl, ?_⟩) ?_
                rotate_left
                · (intro W hSw; (try dsimp only at hSw); go_simp; try (with_reducible rfl))
                try simp only [Act.put, List.setIfInBounds_toArray, List.set_cons_zero, List.set_cons_succ]
                refine wpT 1 ⟨some 52, .binOp .eql 3 (.tmp 51) (.const (.int .i64 3)) 3, 4, "ref.go:24", #[⟨0, .data⟩], none⟩ ?_ (.inl ⟨by rfl, ?_⟩) ?_
                rotate_left
                · (intro W hSw; (try dsimp only at hSw); go_simp; try (with_reducible rfl))
                try simp only [Act.put, List.setIfInBounds_toArray, List.set_cons_zero, List.set_cons_succ]
                refine wpT 2 ⟨some 53, .move (.tmp 52), 4, "ref.go:24", #[⟨1, .data⟩], none⟩ ?_ (.inl ⟨by rfl, ?_⟩) ?_
                rotate_left
                · (intro W hSw; (try dsimp only at hSw); go_simp; try (with_reducible rfl))
                try simp only [Act.put, List.setIfInBounds_toArray, List.set_cons_zero, List.set_cons_succ]
                refine wpT 3 ⟨some 54, .fieldAddr 53 (.tmp 9) 3, 0, "ref.go:24", #[⟨2, .guard⟩], some (2, true)⟩ ?_ (.inl ⟨by rfl, ?_⟩) ?_
                rotate_left
                · (intro W hSw; (try dsimp only at hSw); go_simp; try (with_reducible rfl))
                try simp only [Act.put, List.setIfInBounds_toArray, List.set_cons_zero, List.set_cons_succ]
                refine wpT 4 ⟨some 55, .load 3 (.tmp 54), 3, "ref.go:24", #[⟨3, .data⟩, ⟨2, .guard⟩], some (2, true)⟩ ?_ (.inl ⟨by rfl, ?_⟩) ?_
                rotate_left
                · (intro W hSw; (try dsimp only at hSw); go_simp; try (with_reducible rfl))
                try simp only [Act.put, List.setIfInBounds_toArray, List.set_cons_zero, List.set_cons_succ]
                refine wpT 5 ⟨some 56, .fieldAddr 47 (.tmp 10) 2, 0, "ref.go:24", #[⟨2, .guard⟩], some (2, true)⟩ ?_ (.inl ⟨by rfl, ?_⟩) ?_
                rotate_left
                · (intro W hSw; (try dsimp only at hSw); go_simp; try (with_reducible rfl))
                try simp only [Act.put, List.setIfInBounds_toArray, List.set_cons_zero, List.set_cons_succ]
                refine wpT 6 ⟨some 57, .load 45 (.tmp 56), 45, "ref.go:24", #[⟨5, .data⟩, ⟨2, .guard⟩], some (2, true)⟩ ?_ (.inl ⟨by rfl, ?_⟩) ?_
                rotate_left
                · (intro W hSw; (try dsimp only at hSw); go_simp; try (with_reducible rfl))
                try simp only [Act.put, List.setIfInBounds_toArray, List.set_cons_zero, List.set_cons_succ]
                refine wpT 7 ⟨some 58, .fieldAddr 53 (.tmp 9) 1, 0, "ref.go:24", #[⟨2, .guard⟩], some (2, true)⟩ ?_ (.inl ⟨by rfl, ?_⟩) ?_
                rotate_left
                · (intro W hSw; (try dsimp only at hSw); go_simp; try (with_reducible rfl))
                try simp only [Act.put, List.setIfInBounds_toArray, List.set_cons_zero, List.set_cons_succ]
                refine wpT 8 ⟨some 59, .load 3 (.tmp 58), 3, "ref.go:24", #[⟨7, .data⟩, ⟨2, .guard⟩], some (2, true)⟩ ?_ (.inl ⟨by rfl, ?_⟩) ?_
                rotate_left
                · (intro W hSw; (try dsimp only at hSw); go_simp; try (with_reducible rfl))
                try simp only [Act.put, List.setIfInBounds_toArray, List.set_cons_zero, List.set_cons_succ]
                refine wpAnyH_ready (rs := [9]) (by kernel_rfl) (by simp) ?_
                refine AllReadyH.cons (o := ⟨some 60, .call { callee := .value (.func 46), args := #[.tmp 57, .tmp 59], argTypes := #[45, 3] }, 3, "ref.go:24", #[⟨6, .data⟩, ⟨8, .data⟩, ⟨2, .chain⟩, ⟨2, .guard⟩], some (2, true)⟩) rfl (fun K hK => ?_) AllReadyH.nil
                go_simp
                (first
    | (go_at_call 46; refine (HW.out _ hHeld).mono ?_; rintro e w3 ⟨rfl, hu3⟩))
                try (go_wp2_with fail)
                refine hK.out _ _ ?_ (fun hHeld => ?_)
                · (first | exact (Upd.refl No _).drew | exact hHeld.trans hu3)
                clear hK K
                try simp only [Act.put, List.setIfInBounds_toArray, List.set_cons_zero, List.set_cons_succ]
                refine wpT 10 ⟨some 61, .binOp .lss 3 (.tmp 55) (.tmp 60) 3, 4, "ref.go:24", #[⟨4, .data⟩, ⟨9, .data⟩, ⟨2, .guard⟩], some (2, true)⟩ ?_ (.inl ⟨by rfl, ?_⟩) ?_
                rotate_left
                · (intro W hSw; (try dsimp only at hSw); go_simp; try (with_reducible rfl))
                try simp only [Act.put, List.setIfInBounds_toArray, List.set_cons_zero, List.set_cons_succ]
                refine wpT 11 ⟨some 62, .pick (.tmp 53) (.tmp 61) (.const (.bool false)), 4, "ref.go:24", #[⟨2, .data⟩, ⟨10, .data⟩], none⟩ ?_ (.inl ⟨by rfl, ?_⟩) ?_
                rotate_left
                · (intro W hSw; (try dsimp only at hSw); go_simp; try (with_reducible rfl))
                try simp only [Act.put, List.setIfInBounds_toArray, List.set_cons_zero, List.set_cons_succ]
                refine wpT 12 ⟨some 8, .assign (.tmp 62), 4, "ref.go:24", #[⟨11, .data⟩, ⟨9, .chain⟩, ⟨0, .phase⟩, ⟨1, .phase⟩, ⟨2, .phase⟩, ⟨3, .phase⟩, ⟨4, .phase⟩, ⟨5, .phase⟩, ⟨6, .phase⟩, ⟨7, .phase⟩, ⟨8, .phase⟩, ⟨9, .phase⟩, ⟨10, .phase⟩, ⟨11, .phase⟩], none⟩ ?_ (.inl ⟨by rfl, ?_⟩) ?_
                rotate_left
                · (intro W hSw; (try dsimp only at hSw); go_simp; try (with_reducible rfl))
                try simp only [Act.put, List.setIfInBounds_toArray, List.set_cons_zero, List.set_cons_succ]
                refine wpAnyH_done (by kernel_rfl) (NoPanic.normal ?_) _
                have HU := Lib.hid (U1.out.trans (UT.out.trans hHeld))
                clear hHeld
                go_wp2
                go_ret
                exact ⟨by rw [HV2.out, h3b]; rfl, HU.out⟩
              · have h3b : (p == 3) = false := by simpa using h3
                clear h3
                go_wp2
                refine wp_region_noPanic ?_
                refine wp_region_held_drew (S := (fun w' => Upd No (w1.alloc (.cells #[.int .i64 ti, .bool td, .slice A2 tO.length c2] 47)) w')) (by kernel_rfl) ?_ (fun hHeld => ?_)
                · (first | exact (Upd.refl No _).drew | exact hHeld.trans hu3)
                refine wpT 0 ⟨some 51, .move (.tmp 3), 3, "ref.go:24", #[], none⟩ ?_ (.inl ⟨by rfl, ?_⟩) ?_
                rotate_left
                · (intro W hSw; (try dsimp only at hSw); go_simp; try (with_reducible rfl))
                try simp only [Act.put, List.setIfInBounds_toArray, List.set_cons_zero, List.set_cons_succ]
                refine wpT 1 ⟨some 52, .binOp .eql 3 (.tmp 51) (.const (.int .i64 3)) 3, 4, "ref.go:24", #[⟨0, .data⟩], none⟩ ?_ (.inl ⟨by rfl, ?_⟩) ?_
                rotate_left
                · (intro W hSw; (try dsimp only at hSw); go_simp; try (with_reducible rfl))
                try simp only [Act.put, List.setIfInBounds_toArray, List.set_cons_zero, List.set_cons_succ]
                refine wpT 2 ⟨some 53, .move (.tmp 52), 4, "ref.go:24", #[⟨1, .data⟩], none⟩ ?_ (.inl ⟨by rfl, ?_⟩) ?_
                rotate_left
                · (intro W hSw; (try dsimp only at hSw); go_simp; try (with_reducible rfl))
                try simp only [Act.put, List.setIfInBounds_toArray, List.set_cons_zero, List.set_cons_succ]
                refine wpT 3 ⟨some 54, .fieldAddr 53 (.tmp 9) 3, 0, "ref.go:24", #[⟨2, .guard⟩], some (2, true)⟩ undef (.inr ⟨by rfl, rfl⟩) ?_
                try simp only [Act.put, List.setIfInBounds_toArray, List.set_cons_zero, List.set_cons_succ]
                refine wpT 4 ⟨some 55, .load 3 (.tmp 54), 3, "ref.go:24", #[⟨3, .data⟩, ⟨2, .guard⟩], some (2, true)⟩ undef (.inr ⟨by rfl, rfl⟩) ?_
                try simp only [Act.put, List.setIfInBounds_toArray, List.set_cons_zero, List.set_cons_succ]
                refine wpT 5 ⟨some 56, .fieldAddr 47 (.tmp 10) 2, 0, "ref.go:24", #[⟨2, .guard⟩], some (2, true)⟩ undef (.inr ⟨by rfl, rfl⟩) ?_
                try simp only [Act.put, List.setIfInBounds_toArray, List.set_cons_zero, List.set_cons_succ]
                refine wpT 6 ⟨some 57, .load 45 (.tmp 56), 45, "ref.go:24", #[⟨5, .data⟩, ⟨2, .guard⟩], some (2, true)⟩ undef (.inr ⟨by rfl, rfl⟩) ?_
                try simp only [Act.put, List.setIfInBounds_toArray, List.set_cons_zero, List.set_cons_succ]
                refine wpT 7 ⟨some 58, .fieldAddr 53 (.tmp 9) 1, 0, "ref.go:24", #[⟨2, .guard⟩], some (2, true)⟩ undef (.inr ⟨by rfl, rfl⟩) ?_
                try simp only [Act.put, List.setIfInBounds_toArray, List.set_cons_zero, List.set_cons_succ]
                refine wpT 8 ⟨some 59, .load 3 (.tmp 58), 3, "ref.go:24", #[⟨7, .data⟩, ⟨2, .guard⟩], some (2, true)⟩ undef (.inr ⟨by rfl, rfl⟩) ?_
                try simp only [Act.put, List.setIfInBounds_toArray, List.set_cons_zero, List.set_cons_succ]
                refine wpAnyH_ready (rs := [9]) (by kernel_rfl) (by simp) ?_
                refine AllReadyH.cons (o := ⟨some 60, .call { callee := .value (.func 46), args := #[.tmp 57, .tmp 59], argTypes := #[45, 3] }, 3, "ref.go:24", #[⟨6, .data⟩, ⟨8, .data⟩, ⟨2, .chain⟩, ⟨2, .guard⟩], some (2, true)⟩) rfl (fun K hK => ?_) AllReadyH.nil
                go_simp
                refine hK.out _ _ ?_ (fun hHeld => ?_)
                · exact hHeld
                clear hK K
                try simp only [Act.put, List.setIfInBounds_toArray, List.set_cons_zero, List.set_cons_succ]
                refine wpT 10 ⟨some 61, .binOp .lss 3 (.tmp 55) (.tmp 60) 3, 4, "ref.go:24", #[⟨4, .data⟩, ⟨9, .data⟩, ⟨2, .guard⟩], some (2, true)⟩ undef (.inr ⟨by rfl, rfl⟩) ?_
                try simp only [Act.put, List.setIfInBounds_toArray, List.set_cons_zero, List.set_cons_succ]
                refine wpT 11 ⟨some 62, .pick (.tmp 53) (.tmp 61) (.const (.bool false)), 4, "ref.go:24", #[⟨2, .data⟩, ⟨10, .data⟩], none⟩ ?_ (.inl ⟨by rfl, ?_⟩) ?_
                rotate_left
                · (intro W hSw; (try dsimp only at hSw); go_simp; try (with_reducible rfl))
                try simp only [Act.put, List.setIfInBounds_toArray, List.set_cons_zero, List.set_cons_succ]
                refine wpT 12 ⟨some 8, .assign (.tmp 62), 4, "ref.go:24", #[⟨11, .data⟩, ⟨9, .chain⟩, ⟨0, .phase⟩, ⟨1, .phase⟩, ⟨2, .phase⟩, ⟨3, .phase⟩, ⟨4, .phase⟩, ⟨5, .phase⟩, ⟨6, .phase⟩, ⟨7, .phase⟩, ⟨8, .phase⟩, ⟨9, .phase⟩, ⟨10, .phase⟩, ⟨11, .phase⟩], none⟩ ?_ (.inl ⟨by rfl, ?_⟩) ?_
                rotate_left
                · (intro W hSw; (try dsimp only at hSw); go_simp; try (with_reducible rfl))
                try simp only [Act.put, List.setIfInBounds_toArray, List.set_cons_zero, List.set_cons_succ]
                refine wpAnyH_done (by kernel_rfl) (NoPanic.normal ?_) _
                have HU := Lib.hid (U1.out.trans (UT.out.trans hHeld))
                clear hHeld
                go_wp2
                go_ret
                exact ⟨by rw [HV2.out, h3b]; rfl, HU.out⟩
end Go.Proofs.YtgakhpdclhlmpaaGreat

/- Right histories: the document's own steps come to what the program tells. -/
namespace Go.Proofs.YtgakhpdclhlmpaaGreat
set_option linter.unusedVariables false
open Go.RowKit
theorem keysHG_eq : ∀ (l : List HTx) (s : List Int), keysHG s l = keysH s l
  | [], _ => rfl
  | t :: l, s => by
    rw [keysHG_cons, keysG_w, keysHG_eq l]
    rfl
theorem aheadR_eq (txs : List HTx) (k : Nat) (id : Int) : aheadR txs k id = aheadB txs k id := by
  cases k <;> rfl
theorem txR_eq {txs : List HTx} {k : Nat} (hk : k < txs.length) : txR txs k txs[k] = txOk txs k := by
  rw [txOk_eq hk rfl]
  unfold txR neededB
  rw [aheadR_eq, needsS_eq]
  rfl
theorem txsR_all (txs : List HTx) : ∀ (m k : Nat), k + m = txs.length → (txsR txs (txs.drop k) k = true ↔ ∀ i, k ≤ i → i < txs.length → txOk txs i = true)
  | 0, k, hk => by
    obtain rfl : k = txs.length := by omega
    rw [List.drop_length]
    exact ⟨fun _ i h1 h2 => by omega, fun _ => rfl⟩
  | m + 1, k, hk => by
    have hlt : k < txs.length := by omega
    rw [List.drop_eq_getElem_cons hlt, txsR_cons, Bool.and_eq_true, txsR_all txs m (k + 1) (by omega), txR_eq hlt]
    constructor
    · rintro ⟨h1, h2⟩ i hi hi2
      by_cases e : i = k
      · subst e; exact h1
      · exact h2 i (by omega) hi2
    · intro h
      exact ⟨h k (Nat.le_refl _) hlt, fun i hi hi2 => h i (by omega) hi2⟩
theorem wrS_eq (key : Int) : ∀ (l : List HTx) (acc : List Int), wrS key acc l = acc ++ writersOf l key
  | [], acc => by simp [wrS, writersOf]
  | t :: l, acc => by
    rw [wrS_cons, wrS_eq key l]
    have hc : (keysW t.ops).contains key = decide (0 < writesN t.ops key) := by
      rw [List.contains_eq_mem]
      congr 1
      simp only [mem_keysW]
    unfold writersOf
    rw [List.filter_cons]
    simp only [hc]
    split <;> simp
theorem wrS_w (key : Int) (l : List HTx) : wrS key [] l = writersOf l key := by rw [wrS_eq]; simp
theorem ordsR_all (txs : List HTx) (keys : List Int) (ords : List HOrd) (hl : ords.length = keys.length) : ∀ (m k : Nat), k + m = ords.length → (ordsR txs keys (ords.drop k) k = true ↔ ∀ i, k ≤ i → i < ords.length → ordR txs keys ords i = true)
  | 0, k, hk => by
    obtain rfl : k = ords.length := by omega
    rw [List.drop_length]
    exact ⟨fun _ i h1 h2 => by omega, fun _ => rfl⟩
  | m + 1, k, hk => by
    have hlt : k < ords.length := by omega
    have hlt2 : k < keys.length := by omega
    have hone : (ords[k].key == keys.getD k 0 && (ords[k].txs.length == (wrS ords[k].key [] txs).length && ords[k].txs.all fun x => ords[k].txs.count x == (wrS ords[k].key [] txs).count x)) = ordR txs keys ords k := by
      unfold ordR permR
      rw [List.getElem?_eq_getElem hlt, List.getElem?_eq_getElem hlt2, wrS_w, List.getD_eq_getElem?_getD, List.getElem?_eq_getElem hlt2]
      rfl
    rw [List.drop_eq_getElem_cons hlt, ordsR_cons, hone, Bool.and_eq_true, ordsR_all txs keys ords hl m (k + 1) (by omega)]
    constructor
    · rintro ⟨h1, h2⟩ i hi hi2
      by_cases e : i = k
      · subst e; exact h1
      · exact h2 i (by omega) hi2
    · intro h
      exact ⟨h k (Nat.le_refl _) hlt, fun i hi hi2 => h i (by omega) hi2⟩
theorem rightS_eq (h : Hist) : rightS h.txs h.ords = rightB h := by
  rw [← rightR_eq]
  unfold rightS rightR
  rw [keysHG_eq]
  have h1 : txsR h.txs h.txs 0 = (List.range h.txs.length).all (txOk h.txs) := by
    rw [Bool.eq_iff_iff, List.all_eq_true]
    have := txsR_all h.txs h.txs.length 0 (by omega)
    rw [List.drop_zero] at this
    rw [this]
    exact ⟨fun k i hi => k i (Nat.zero_le _) (List.mem_range.1 hi), fun k i _ hi => k i (List.mem_range.2 hi)⟩
  rw [h1]
  by_cases hl : h.ords.length = (keysH [] h.txs).length
  · have h2 : ordsR h.txs (keysH [] h.txs) h.ords 0 = (List.range h.ords.length).all (ordR h.txs (keysH [] h.txs) h.ords) := by
      rw [Bool.eq_iff_iff, List.all_eq_true]
      have := ordsR_all h.txs (keysH [] h.txs) h.ords hl h.ords.length 0 (by omega)
      rw [List.drop_zero] at this
      rw [this]
      exact ⟨fun k i hi => k i (Nat.zero_le _) (List.mem_range.1 hi), fun k i _ hi => k i (List.mem_range.2 hi)⟩
    rw [h2, Bool.and_assoc, Bool.and_assoc]
  · rw [show (h.ords.length == (keysH [] h.txs).length) = false by simpa using hl]
    simp
theorem rRightB (F : Nat → Prop) (w : World) (txs : List HTx) (ords : List HOrd) (A : Option Addr) (c : Nat) (B : Option Addr) (d : Nat) (H : Hist.lies F w ⟨txs, ords, A, c, B, d⟩) :
    Calls Tryz.prog 16 #[.agg #[.slice A txs.length c, .slice B ords.length d]] w fun e w' => e = .returned (.bool (rightB ⟨txs, ords, A, c, B, d⟩)) ∧ Upd No w w' := by
  have := rRight F w txs ords A c B d H
  rwa [show rightS txs ords = rightB ⟨txs, ords, A, c, B, d⟩ from rightS_eq ⟨txs, ords, A, c, B, d⟩] at this
theorem rRightV {F : Nat → Prop} {w : World} {txs : List HTx} {ords : List HOrd} {A : Option Addr} {c : Nat} {B : Option Addr} {d : Nat} {b : Bool} (H : Hist.lies F w ⟨txs, ords, A, c, B, d⟩) (hb : rightB ⟨txs, ords, A, c, B, d⟩ = b) :
    Calls Tryz.prog 16 #[.agg #[.slice A txs.length c, .slice B ords.length d]] w fun e w' => e = .returned (.bool b) ∧ Upd No w w' := by subst hb; exact rRightB F w txs ords A c B d H
end Go.Proofs.YtgakhpdclhlmpaaGreat
