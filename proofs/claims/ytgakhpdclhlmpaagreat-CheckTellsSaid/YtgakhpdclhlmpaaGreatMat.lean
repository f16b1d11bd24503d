/- The document: whether a witness is right. -/
import Derived.Test.YtgakhpdclhlmpaaGreatMas
namespace Go.Proofs.YtgakhpdclhlmpaaGreat
set_option linter.unusedVariables false
open Go.RowKit
section
variable {h : Hist} {p : Int} {l : List Edge} {b : HBad}
theorem acc_no (hr : rightB h = false) : acceptR h p l b = false := by unfold acceptR; rw [hr]; rfl
theorem acc_23 (hr : rightB h = true) (hp : p = 2 ∨ p = 3) : acceptR h p l b = (decide (l.length = 0) && (badsR h p).contains b) := by unfold acceptR; rw [hr, if_pos hp]; rfl
theorem acc_rest (hr : rightB h = true) (hp : ¬ (p = 2 ∨ p = 3)) : acceptR h p l b = (!(maskP p == 0) && (b == noBad && (closedB l && (l.all (fun e => decide (0 < countR h e)) && (!(decide ((ofM l (maskP p)).length < l.length)) && (mustP p == 0 || decide (0 < (ofM l (mustP p)).length))))))) := by
  unfold acceptR; rw [hr, if_neg hp]
  simp only [Bool.true_and, Bool.and_assoc]
end
theorem ofM_len (l : List Edge) (m : Int) : (ofM l m).length ≤ l.length := List.length_filter_le _ _
set_option maxRecDepth 100000 in
set_option maxHeartbeats 4000000 in
theorem rAccept (F G : Nat → Prop) (w : World) (txs : List HTx) (ords : List HOrd) (A : Option Addr) (c : Nat) (B : Option Addr) (d : Nat) (p : Int) (X : Option Addr) (xc : Nat) (l : List Edge) (bx bp vt vk vn : Int)
    (H : Hist.lies F w ⟨txs, ords, A, c, B, d⟩) (hW : Walk G w X l) (hl : l.length ≤ 1000000) :
    Calls Tryz.prog 12 #[.agg #[.slice A txs.length c, .slice B ords.length d], .agg #[.int .i64 p, .slice X l.length xc, .int .i64 bx, .int .i64 bp, .int .i64 vt, .int .i64 vk, .int .i64 vn]] w
      fun e w' => e = .returned (.bool (acceptR ⟨txs, ords, A, c, B, d⟩ p l ⟨bx, bp, ⟨vt, vk, vn⟩⟩)) ∧ Upd No w w' := by
  have u0 := ((Upd.refl No w).alloc (.cells #[.slice A txs.length c, .slice B ords.length d] 25)).alloc (.cells #[.int .i64 p, .slice X l.length xc, .int .i64 bx, .int .i64 bp, .int .i64 vt, .int .i64 vk, .int .i64 vn] 34)
  have bH := Lib.hid ((Blk.new w 25 [.slice A txs.length c, .slice B ords.length d]).alloc (.cells #[.int .i64 p, .slice X l.length xc, .int .i64 bx, .int .i64 bp, .int .i64 vt, .int .i64 vk, .int .i64 vn] 34))
  have b1 := Blk.new (w.alloc (.cells #[.slice A txs.length c, .slice B ords.length d] 25)) 34 [.int .i64 p, .slice X l.length xc, .int .i64 bx, .int .i64 bp, .int .i64 vt, .int .i64 vk, .int .i64 vn]
  simp only [World.size_alloc] at b1
  have bX := Lib.hid b1
  have U0 := Lib.hid u0
  clear b1 u0
  obtain ⟨b, hb⟩ : ∃ b, rightB ⟨txs, ords, A, c, B, d⟩ = b := ⟨_, rfl⟩
  have HR := Lib.hid (rRightV (H.upd U0.out (fun _ _ => id)) hb)
  cases b
  · have HV := Lib.hid (acc_no (p := p) (l := l) (b := ⟨bx, bp, ⟨vt, vk, vn⟩⟩) hb)
    clear hb
    go_enter Tryz.func12, Tryz.ntmps12
    go_wp2_with fail
    refine (HR.out).mono ?_
    rintro e w1 ⟨rfl, hu1⟩
    have U1 := Lib.hid (U0.out.trans hu1)
    go_wp2
    go_ret
    exact ⟨by rw [HV.out]; rfl, U1.out⟩
  · have HB := Lib.hid hb
    clear hb
    go_enter Tryz.func12, Tryz.ntmps12
    go_wp2_with fail
    refine (HR.out).mono ?_
    rintro e w1 ⟨rfl, hu1⟩
    have U1 := Lib.hid (U0.out.trans hu1)
    have bX1 := Lib.hid (bX.out.upd hu1 id)
    have bH1 := Lib.hid (bH.out.upd hu1 id)
    have g0 : ∀ W, Upd No w1 W → W.cell? ⟨w.heap.size, 0, none⟩ = some (.slice A txs.length c) := fun W hW => (bH1.out.upd hW id).cell 0
    have g1 : ∀ W, Upd No w1 W → W.cell? ⟨w.heap.size, 1, none⟩ = some (.slice B ords.length d) := fun W hW => (bH1.out.upd hW id).cell 1
    have y0 : ∀ W, Upd No w1 W → W.cell? ⟨w.heap.size + 1, 0, none⟩ = some (.int .i64 p) := fun W hW => (bX1.out.upd hW id).cell 0
    have y1 : ∀ W, Upd No w1 W → W.cell? ⟨w.heap.size + 1, 1, none⟩ = some (.slice X l.length xc) := fun W hW => (bX1.out.upd hW id).cell 1
    have y2 : ∀ W, Upd No w1 W → W.cell? ⟨w.heap.size + 1, 2, none⟩ = some (.int .i64 bx) := fun W hW => (bX1.out.upd hW id).cell 2
    have y3 : ∀ W, Upd No w1 W → W.cell? ⟨w.heap.size + 1, 3, none⟩ = some (.int .i64 bp) := fun W hW => (bX1.out.upd hW id).cell 3
    have y4 : ∀ W, Upd No w1 W → W.cell? ⟨w.heap.size + 1, 4, none⟩ = some (.int .i64 vt) := fun W hW => (bX1.out.upd hW id).cell 4
    have y5 : ∀ W, Upd No w1 W → W.cell? ⟨w.heap.size + 1, 5, none⟩ = some (.int .i64 vk) := fun W hW => (bX1.out.upd hW id).cell 5
    have y6 : ∀ W, Upd No w1 W → W.cell? ⟨w.heap.size + 1, 6, none⟩ = some (.int .i64 vn) := fun W hW => (bX1.out.upd hW id).cell 6
    have hr1 : Upd No w1 w1 := Upd.refl _ _
    have HW1 := Lib.hid fun W (hq : Upd No w1 W) => hW.upd (U1.out.trans hq) (fun _ _ => id)
    clear hu1
    by_cases hp : p = 2 ∨ p = 3
    · have hv := acc_23 (h := ⟨txs, ords, A, c, B, d⟩) (p := p) (l := l) (b := ⟨bx, bp, ⟨vt, vk, vn⟩⟩) HB.out hp
      have HOf := Lib.hid fun W (hq : Upd No w1 W) => rOf18 F W txs ords A c B d p (H.upd (U1.out.trans hq) (fun _ _ => id))
      have hbl := badsR_len ⟨txs, ords, A, c, B, d⟩ p
      obtain ⟨bl, hbl2⟩ : ∃ bl, badsR ⟨txs, ords, A, c, B, d⟩ p = bl := ⟨_, rfl⟩
      rw [hbl2] at hv HOf hbl
      have hpb : ((p == 2) = true) ∨ ((p == 2) = false ∧ (p == 3) = true) := by
        rcases hp with rfl | rfl
        · exact .inl rfl
        · exact .inr ⟨rfl, rfl⟩
      clear hp hbl2
      by_cases h0 : l.length = 0
      · obtain rfl : l = [] := List.eq_nil_of_length_eq_zero h0
        obtain ⟨q, hq⟩ : ∃ q, bl.contains ⟨bx, bp, ⟨vt, vk, vn⟩⟩ = q := ⟨_, rfl⟩
        have HV := Lib.hid (show acceptR ⟨txs, ords, A, c, B, d⟩ p [] ⟨bx, bp, ⟨vt, vk, vn⟩⟩ = q by rw [hv, hq]; rfl)
        have hin := fun W A6 c6 (G6 : Nat → Prop) (hI : Bads G6 W A6 bl) => rIn18 G6 W A6 c6 bl ⟨bx, bp, ⟨vt, vk, vn⟩⟩ hI hbl
        simp only [hq] at hin
        have HIn := Lib.hid hin
        clear hv h0 hin hq
        rcases hpb with hb2 | ⟨hb2, hb3⟩
        · go_wp2
          refine wp_region_noPanic ?_
          refine wp_region_held_drew (S := (fun w' => Upd No w1 w')) (by kernel_rfl) ?_ (fun hHeld => ?_)
          · (first | exact (Upd.refl No _).drew | exact hHeld.trans hu3)
          refine wpT 0 ⟨some 18, .fieldAddr 34 (.tmp 3) 1, 0, "ref.go:20", #[], none⟩ ?_ (.inl ⟨by rfl, ?_⟩) ?_
          rotate_left
          · (intro W hSw; (try dsimp only at hSw); go_simp; try (with_reducible rfl))
          try simp only [Act.put, List.setIfInBounds_toArray, List.set_cons_zero, List.set_cons_succ]
          refine wpT 1 ⟨some 19, .load 32 (.tmp 18), 32, "ref.go:20", #[⟨0, .data⟩], none⟩ ?_ (.inl ⟨by rfl, ?_⟩) ?_
          rotate_left
          · (intro W hSw; (try dsimp only at hSw); go_simp; try (with_reducible rfl))
          try simp only [Act.put, List.setIfInBounds_toArray, List.set_cons_zero, List.set_cons_succ]
          refine wpT 2 ⟨some 20, .call { callee := .builtin .len, args := #[.tmp 19], argTypes := #[32] }, 3, "ref.go:20", #[⟨1, .data⟩], none⟩ ?_ (.inl ⟨by rfl, ?_⟩) ?_
          rotate_left
          · (intro W hSw; (try dsimp only at hSw); go_simp; try (with_reducible rfl))
          try simp only [Act.put, List.setIfInBounds_toArray, List.set_cons_zero, List.set_cons_succ]
          refine wpT 3 ⟨some 21, .binOp .eql 3 (.tmp 20) (.const (.int .i64 0)) 3, 4, "ref.go:20", #[⟨2, .data⟩], none⟩ ?_ (.inl ⟨by rfl, ?_⟩) ?_
          rotate_left
          · (intro W hSw; (try dsimp only at hSw); go_simp; try (with_reducible rfl))
          try simp only [Act.put, List.setIfInBounds_toArray, List.set_cons_zero, List.set_cons_succ]
          refine wpT 4 ⟨some 22, .move (.tmp 21), 4, "ref.go:20", #[⟨3, .data⟩], none⟩ ?_ (.inl ⟨by rfl, ?_⟩) ?_
          rotate_left
          · (intro W hSw; (try dsimp only at hSw); go_simp; try (with_reducible rfl))
          try simp only [Act.put, List.setIfInBounds_toArray, List.set_cons_zero, List.set_cons_succ]
          refine wpT 5 ⟨some 23, .load 25 (.tmp 2), 25, "ref.go:20", #[⟨4, .guard⟩], some (4, true)⟩ ?_ (.inl ⟨by rfl, ?_⟩) ?_
          rotate_left
          · (intro W hSw; (try dsimp only at hSw); go_simp; try (with_reducible rfl))
          try simp only [Act.put, List.setIfInBounds_toArray, List.set_cons_zero, List.set_cons_succ]
          refine wpT 6 ⟨some 24, .fieldAddr 34 (.tmp 3) 0, 0, "ref.go:20", #[⟨4, .guard⟩], some (4, true)⟩ ?_ (.inl ⟨by rfl, ?_⟩) ?_
          rotate_left
          · (intro W hSw; (try dsimp only at hSw); go_simp; try (with_reducible rfl))
          try simp only [Act.put, List.setIfInBounds_toArray, List.set_cons_zero, List.set_cons_succ]
          refine wpT 7 ⟨some 25, .load 3 (.tmp 24), 3, "ref.go:20", #[⟨6, .data⟩, ⟨4, .guard⟩], some (4, true)⟩ ?_ (.inl ⟨by rfl, ?_⟩) ?_
          rotate_left
          · (intro W hSw; (try dsimp only at hSw); go_simp; try (with_reducible rfl))
          try simp only [Act.put, List.setIfInBounds_toArray, List.set_cons_zero, List.set_cons_succ]
          refine wpT 9 ⟨some 27, .fieldAddr 34 (.tmp 3) 2, 0, "ref.go:20", #[⟨4, .guard⟩], some (4, true)⟩ ?_ (.inl ⟨by rfl, ?_⟩) ?_
          rotate_left
          · (intro W hSw; (try dsimp only at hSw); go_simp; try (with_reducible rfl))
          try simp only [Act.put, List.setIfInBounds_toArray, List.set_cons_zero, List.set_cons_succ]
          refine wpT 10 ⟨some 28, .load 31 (.tmp 27), 31, "ref.go:20", #[⟨9, .data⟩, ⟨4, .guard⟩], some (4, true)⟩ ?_ (.inl ⟨by rfl, ?_⟩) ?_
          rotate_left
          · (intro W hSw; (try dsimp only at hSw); go_simp; try (with_reducible rfl))
          try simp only [Act.put, List.setIfInBounds_toArray, List.set_cons_zero, List.set_cons_succ]
          refine wpAnyH_ready (rs := [8]) (by kernel_rfl) (by simp) ?_
          refine AllReadyH.cons (o := ⟨some 26, .call { callee := .value (.func 10), args := #[.tmp 23, .tmp 25], argTypes := #[25, 3] }, 41, "ref.go:20", #[⟨5, .data⟩, ⟨7, .data⟩, ⟨4, .chain⟩, ⟨4, .guard⟩], some (4, true)⟩) rfl (fun K hK => ?_) AllReadyH.nil
          go_simp
          (first
    | (go_at_call 10; refine (HOf.out _ hHeld).mono ?_; rintro e w3 ⟨A6, c6, rfl, ho6, hu3⟩; have hI6 := bads_new_own ho6))
          try (go_wp2_with fail)
          refine hK.out _ _ ?_ (fun hHeld => ?_)
          · (first | exact (Upd.refl No _).drew | exact hHeld.trans hu3)
          clear hK K
          try simp only [Act.put, List.setIfInBounds_toArray, List.set_cons_zero, List.set_cons_succ]
          refine wpAnyH_ready (rs := [11]) (by kernel_rfl) (by simp) ?_
          refine AllReadyH.cons (o := ⟨some 29, .call { callee := .value (.func 9), args := #[.tmp 26, .tmp 28], argTypes := #[41, 31] }, 4, "ref.go:20", #[⟨8, .data⟩, ⟨10, .data⟩, ⟨8, .chain⟩, ⟨4, .guard⟩], some (4, true)⟩) rfl (fun K hK => ?_) AllReadyH.nil
          go_simp
          (first
    | (go_at_call 9; refine (HIn.out _ A6 c6 _ hI6).mono ?_; rintro e w3 ⟨rfl, hu3⟩))
          try (go_wp2_with fail)
          refine hK.out _ _ ?_ (fun hHeld => ?_)
          · (first | exact (Upd.refl No _).drew | exact hHeld.trans hu3)
          clear hK K
          try simp only [Act.put, List.setIfInBounds_toArray, List.set_cons_zero, List.set_cons_succ]
          refine wpT 12 ⟨some 30, .pick (.tmp 22) (.tmp 29) (.const (.bool false)), 4, "ref.go:20", #[⟨4, .data⟩, ⟨11, .data⟩], none⟩ ?_ (.inl ⟨by rfl, ?_⟩) ?_
          rotate_left
          · (intro W hSw; (try dsimp only at hSw); go_simp; try (with_reducible rfl))
          try simp only [Act.put, List.setIfInBounds_toArray, List.set_cons_zero, List.set_cons_succ]
          refine wpT 13 ⟨some 4, .assign (.tmp 30), 4, "ref.go:20", #[⟨12, .data⟩, ⟨11, .chain⟩, ⟨0, .phase⟩, ⟨1, .phase⟩, ⟨2, .phase⟩, ⟨3, .phase⟩, ⟨4, .phase⟩, ⟨5, .phase⟩, ⟨6, .phase⟩, ⟨7, .phase⟩, ⟨8, .phase⟩, ⟨9, .phase⟩, ⟨10, .phase⟩, ⟨11, .phase⟩, ⟨12, .phase⟩], none⟩ ?_ (.inl ⟨by rfl, ?_⟩) ?_
          rotate_left
          · (intro W hSw; (try dsimp only at hSw); go_simp; try (with_reducible rfl))
          try simp only [Act.put, List.setIfInBounds_toArray, List.set_cons_zero, List.set_cons_succ]
          refine wpAnyH_done (by kernel_rfl) (NoPanic.normal ?_) _
          have HU := Lib.hid (U1.out.trans hHeld)
          clear hHeld
          go_wp2
          go_ret
          exact ⟨by rw [HV.out]; rfl, HU.out⟩
        · go_wp2
          refine wp_region_noPanic ?_
          refine wp_region_held_drew (S := (fun w' => Upd No w1 w')) (by kernel_rfl) ?_ (fun hHeld => ?_)
          · (first | exact (Upd.refl No _).drew | exact hHeld.trans hu3)
          refine wpT 0 ⟨some 18, .fieldAddr 34 (.tmp 3) 1, 0, "ref.go:20", #[], none⟩ ?_ (.inl ⟨by rfl, ?_⟩) ?_
          rotate_left
          · (intro W hSw; (try dsimp only at hSw); go_simp; try (with_reducible rfl))
          try simp only [Act.put, List.setIfInBounds_toArray, List.set_cons_zero, List.set_cons_succ]
          refine wpT 1 ⟨some 19, .load 32 (.tmp 18), 32, "ref.go:20", #[⟨0, .data⟩], none⟩ ?_ (.inl ⟨by rfl, ?_⟩) ?_
          rotate_left
          · (intro W hSw; (try dsimp only at hSw); go_simp; try (with_reducible rfl))
          try simp only [Act.put, List.setIfInBounds_toArray, List.set_cons_zero, List.set_cons_succ]
          refine wpT 2 ⟨some 20, .call { callee := .builtin .len, args := #[.tmp 19], argTypes := #[32] }, 3, "ref.go:20", #[⟨1, .data⟩], none⟩ ?_ (.inl ⟨by rfl, ?_⟩) ?_
          rotate_left
          · (intro W hSw; (try dsimp only at hSw); go_simp; try (with_reducible rfl))
          try simp only [Act.put, List.setIfInBounds_toArray, List.set_cons_zero, List.set_cons_succ]
          refine wpT 3 ⟨some 21, .binOp .eql 3 (.tmp 20) (.const (.int .i64 0)) 3, 4, "ref.go:20", #[⟨2, .data⟩], none⟩ ?_ (.inl ⟨by rfl, ?_⟩) ?_
          rotate_left
          · (intro W hSw; (try dsimp only at hSw); go_simp; try (with_reducible rfl))
          try simp only [Act.put, List.setIfInBounds_toArray, List.set_cons_zero, List.set_cons_succ]
          refine wpT 4 ⟨some 22, .move (.tmp 21), 4, "ref.go:20", #[⟨3, .data⟩], none⟩ ?_ (.inl ⟨by rfl, ?_⟩) ?_
          rotate_left
          · (intro W hSw; (try dsimp only at hSw); go_simp; try (with_reducible rfl))
          try simp only [Act.put, List.setIfInBounds_toArray, List.set_cons_zero, List.set_cons_succ]
          refine wpT 5 ⟨some 23, .load 25 (.tmp 2), 25, "ref.go:20", #[⟨4, .guard⟩], some (4, true)⟩ ?_ (.inl ⟨by rfl, ?_⟩) ?_
          rotate_left
          · (intro W hSw; (try dsimp only at hSw); go_simp; try (with_reducible rfl))
          try simp only [Act.put, List.setIfInBounds_toArray, List.set_cons_zero, List.set_cons_succ]
          refine wpT 6 ⟨some 24, .fieldAddr 34 (.tmp 3) 0, 0, "ref.go:20", #[⟨4, .guard⟩], some (4, true)⟩ ?_ (.inl ⟨by rfl, ?_⟩) ?_
          rotate_left
          · (intro W hSw; (try dsimp only at hSw); go_simp; try (with_reducible rfl))
          try simp only [Act.put, List.setIfInBounds_toArray, List.set_cons_zero, List.set_cons_succ]
          refine wpT 7 ⟨some 25, .load 3 (.tmp 24), 3, "ref.go:20", #[⟨6, .data⟩, ⟨4, .guard⟩], some (4, true)⟩ ?_ (.inl ⟨by rfl, ?_⟩) ?_
          rotate_left
          · (intro W hSw; (try dsimp only at hSw); go_simp; try (with_reducible rfl))
          try simp only [Act.put, List.setIfInBounds_toArray, List.set_cons_zero, List.set_cons_succ]
          refine wpT 9 ⟨some 27, .fieldAddr 34 (.tmp 3) 2, 0, "ref.go:20", #[⟨4, .guard⟩], some (4, true)⟩ ?_ (.inl ⟨by rfl, ?_⟩) ?_
          rotate_left
          · (intro W hSw; (try dsimp only at hSw); go_simp; try (with_reducible rfl))
          try simp only [Act.put, List.setIfInBounds_toArray, List.set_cons_zero, List.set_cons_succ]
          refine wpT 10 ⟨some 28, .load 31 (.tmp 27), 31, "ref.go:20", #[⟨9, .data⟩, ⟨4, .guard⟩], some (4, true)⟩ ?_ (.inl ⟨by rfl, ?_⟩) ?_
          rotate_left
          · (intro W hSw; (try dsimp only at hSw); go_simp; try (with_reducible rfl))
          try simp only [Act.put, List.setIfInBounds_toArray, List.set_cons_zero, List.set_cons_succ]
          refine wpAnyH_ready (rs := [8]) (by kernel_rfl) (by simp) ?_
          refine AllReadyH.cons (o := ⟨some 26, .call { callee := .value (.func 10), args := #[.tmp 23, .tmp 25], argTypes := #[25, 3] }, 41, "ref.go:20", #[⟨5, .data⟩, ⟨7, .data⟩, ⟨4, .chain⟩, ⟨4, .guard⟩], some (4, true)⟩) rfl (fun K hK => ?_) AllReadyH.nil
          go_simp
          (first
    | (go_at_call 10; refine (HOf.out _ hHeld).mono ?_; rintro e w3 ⟨A6, c6, rfl, ho6, hu3⟩; have hI6 := bads_new_own ho6))
          try (go_wp2_with fail)
          refine hK.out _ _ ?_ (fun hHeld => ?_)
          · (first | exact (Upd.refl No _).drew | exact hHeld.trans hu3)
          clear hK K
          try simp only [Act.put, List.setIfInBounds_toArray, List.set_cons_zero, List.set_cons_succ]
          refine wpAnyH_ready (rs := [11]) (by kernel_rfl) (by simp) ?_
          refine AllReadyH.cons (o := ⟨some 29, .call { callee := .value (.func 9), args := #[.tmp 26, .tmp 28], argTypes := #[41, 31] }, 4, "ref.go:20", #[⟨8, .data⟩, ⟨10, .data⟩, ⟨8, .chain⟩, ⟨4, .guard⟩], some (4, true)⟩) rfl (fun K hK => ?_) AllReadyH.nil
          go_simp
          (first
    | (go_at_call 9; refine (HIn.out _ A6 c6 _ hI6).mono ?_; rintro e w3 ⟨rfl, hu3⟩))
          try (go_wp2_with fail)
          refine hK.out _ _ ?_ (fun hHeld => ?_)
          · (first | exact (Upd.refl No _).drew | exact hHeld.trans hu3)
          clear hK K
          try simp only [Act.put, List.setIfInBounds_toArray, List.set_cons_zero, List.set_cons_succ]
          refine wpT 12 ⟨some 30, .pick (.tmp 22) (.tmp 29) (.const (.bool false)), 4, "ref.go:20", #[⟨4, .data⟩, ⟨11, .data⟩], none⟩ ?_ (.inl ⟨by rfl, ?_⟩) ?_
          rotate_left
          · (intro W hSw; (try dsimp only at hSw); go_simp; try (with_reducible rfl))
          try simp only [Act.put, List.setIfInBounds_toArray, List.set_cons_zero, List.set_cons_succ]
          refine wpT 13 ⟨some 4, .assign (.tmp 30), 4, "ref.go:20", #[⟨12, .data⟩, ⟨11, .chain⟩, ⟨0, .phase⟩, ⟨1, .phase⟩, ⟨2, .phase⟩, ⟨3, .phase⟩, ⟨4, .phase⟩, ⟨5, .phase⟩, ⟨6, .phase⟩, ⟨7, .phase⟩, ⟨8, .phase⟩, ⟨9, .phase⟩, ⟨10, .phase⟩, ⟨11, .phase⟩, ⟨12, .phase⟩], none⟩ ?_ (.inl ⟨by rfl, ?_⟩) ?_
          rotate_left
          · (intro W hSw; (try dsimp only at hSw); go_simp; try (with_reducible rfl))
          try simp only [Act.put, List.setIfInBounds_toArray, List.set_cons_zero, List.set_cons_succ]
          refine wpAnyH_done (by kernel_rfl) (NoPanic.normal ?_) _
          have HU := Lib.hid (U1.out.trans hHeld)
          clear hHeld
          go_wp2
          go_ret
          exact ⟨by rw [HV.out]; rfl, HU.out⟩
      · have HV := Lib.hid (show acceptR ⟨txs, ords, A, c, B, d⟩ p l ⟨bx, bp, ⟨vt, vk, vn⟩⟩ = false by rw [hv, decide_eq_false h0]; rfl)
        have h0b : ((l.length : Int) == 0) = false := by rw [beq_eq_false_iff_ne]; omega
        have h0c : ¬ l = [] := fun e => h0 (by rw [e]; rfl)
        clear hv h0
        rcases hpb with hb2 | ⟨hb2, hb3⟩
        · go_wp2
          refine wp_region_noPanic ?_
          refine wp_region_held_drew (S := (fun w' => Upd No w1 w')) (by kernel_rfl) ?_ (fun hHeld => ?_)
          · (first | exact (Upd.refl No _).drew | exact hHeld.trans hu3)
          refine wpT 0 ⟨some 18, .fieldAddr 34 (.tmp 3) 1, 0, "ref.go:20", #[], none⟩ ?_ (.inl ⟨by rfl, ?_⟩) ?_
          rotate_left
          · (intro W hSw; (try dsimp only at hSw); go_simp; try (with_reducible rfl))
          try simp only [Act.put, List.setIfInBounds_toArray, List.set_cons_zero, List.set_cons_succ]
          refine wpT 1 ⟨some 19, .load 32 (.tmp 18), 32, "ref.go:20", #[⟨0, .data⟩], none⟩ ?_ (.inl ⟨by rfl, ?_⟩) ?_
          rotate_left
          · (intro W hSw; (try dsimp only at hSw); go_simp; try (with_reducible rfl))
          try simp only [Act.put, List.setIfInBounds_toArray, List.set_cons_zero, List.set_cons_succ]
          refine wpT 2 ⟨some 20, .call { callee := .builtin .len, args := #[.tmp 19], argTypes := #[32] }, 3, "ref.go:20", #[⟨1, .data⟩], none⟩ ?_ (.inl ⟨by rfl, ?_⟩) ?_
          rotate_left
          · (intro W hSw; (try dsimp only at hSw); go_simp; try (with_reducible rfl))
          try simp only [Act.put, List.setIfInBounds_toArray, List.set_cons_zero, List.set_cons_succ]
          refine wpT 3 ⟨some 21, .binOp .eql 3 (.tmp 20) (.const (.int .i64 0)) 3, 4, "ref.go:20", #[⟨2, .data⟩], none⟩ ?_ (.inl ⟨by rfl, ?_⟩) ?_
          rotate_left
          · (intro W hSw; (try dsimp only at hSw); go_simp; try (with_reducible rfl))
          try simp only [Act.put, List.setIfInBounds_toArray, List.set_cons_zero, List.set_cons_succ]
          refine wpT 4 ⟨some 22, .move (.tmp 21), 4, "ref.go:20", #[⟨3, .data⟩], none⟩ ?_ (.inl ⟨by rfl, ?_⟩) ?_
          rotate_left
          · (intro W hSw; (try dsimp only at hSw); go_simp; try (with_reducible rfl))
          try simp only [Act.put, List.setIfInBounds_toArray, List.set_cons_zero, List.set_cons_succ]
          refine wpT 5 ⟨some 23, .load 25 (.tmp 2), 25, "ref.go:20", #[⟨4, .guard⟩], some (4, true)⟩ undef (.inr ⟨by rfl, rfl⟩) ?_
          try simp only [Act.put, List.setIfInBounds_toArray, List.set_cons_zero, List.set_cons_succ]
          refine wpT 6 ⟨some 24, .fieldAddr 34 (.tmp 3) 0, 0, "ref.go:20", #[⟨4, .guard⟩], some (4, true)⟩ undef (.inr ⟨by rfl, rfl⟩) ?_
          try simp only [Act.put, List.setIfInBounds_toArray, List.set_cons_zero, List.set_cons_succ]
          refine wpT 7 ⟨some 25, .load 3 (.tmp 24), 3, "ref.go:20", #[⟨6, .data⟩, ⟨4, .guard⟩], some (4, true)⟩ undef (.inr ⟨by rfl, rfl⟩) ?_
          try simp only [Act.put, List.setIfInBounds_toArray, List.set_cons_zero, List.set_cons_succ]
          refine wpT 9 ⟨some 27, .fieldAddr 34 (.tmp 3) 2, 0, "ref.go:20", #[⟨4, .guard⟩], some (4, true)⟩ undef (.inr ⟨by rfl, rfl⟩) ?_
          try simp only [Act.put, List.setIfInBounds_toArray, List.set_cons_zero, List.set_cons_succ]
          refine wpT 10 ⟨some 28, .load 31 (.tmp 27), 31, "ref.go:20", #[⟨9, .data⟩, ⟨4, .guard⟩], some (4, true)⟩ undef (.inr ⟨by rfl, rfl⟩) ?_
          try simp only [Act.put, List.setIfInBounds_toArray, List.set_cons_zero, List.set_cons_succ]
          refine wpAnyH_ready (rs := [8]) (by kernel_rfl) (by simp) ?_
          refine AllReadyH.cons (o := ⟨some 26, .call { callee := .value (.func 10), args := #[.tmp 23, .tmp 25], argTypes := #[25, 3] }, 41, "ref.go:20", #[⟨5, .data⟩, ⟨7, .data⟩, ⟨4, .chain⟩, ⟨4, .guard⟩], some (4, true)⟩) rfl (fun K hK => ?_) AllReadyH.nil
          go_simp
          refine hK.out _ _ ?_ (fun hHeld => ?_)
          · exact hHeld
          clear hK K
          try simp only [Act.put, List.setIfInBounds_toArray, List.set_cons_zero, List.set_cons_succ]
          refine wpAnyH_ready (rs := [11]) (by kernel_rfl) (by simp) ?_
          refine AllReadyH.cons (o := ⟨some 29, .call { callee := .value (.func 9), args := #[.tmp 26, .tmp 28], argTypes := #[41, 31] }, 4, "ref.go:20", #[⟨8, .data⟩, ⟨10, .data⟩, ⟨8, .chain⟩, ⟨4, .guard⟩], some (4, true)⟩) rfl (fun K hK => ?_) AllReadyH.nil
          go_simp
          refine hK.out _ _ ?_ (fun hHeld => ?_)
          · exact hHeld
          clear hK K
          try simp only [Act.put, List.setIfInBounds_toArray, List.set_cons_zero, List.set_cons_succ]
          refine wpT 12 ⟨some 30, .pick (.tmp 22) (.tmp 29) (.const (.bool false)), 4, "ref.go:20", #[⟨4, .data⟩, ⟨11, .data⟩], none⟩ ?_ (.inl ⟨by rfl, ?_⟩) ?_
          rotate_left
          · (intro W hSw; (try dsimp only at hSw); go_simp; try (with_reducible rfl))
          try simp only [Act.put, List.setIfInBounds_toArray, List.set_cons_zero, List.set_cons_succ]
          refine wpT 13 ⟨some 4, .assign (.tmp 30), 4, "ref.go:20", #[⟨12, .data⟩, ⟨11, .chain⟩, ⟨0, .phase⟩, ⟨1, .phase⟩, ⟨2, .phase⟩, ⟨3, .phase⟩, ⟨4, .phase⟩, ⟨5, .phase⟩, ⟨6, .phase⟩, ⟨7, .phase⟩, ⟨8, .phase⟩, ⟨9, .phase⟩, ⟨10, .phase⟩, ⟨11, .phase⟩, ⟨12, .phase⟩], none⟩ ?_ (.inl ⟨by rfl, ?_⟩) ?_
          rotate_left
          · (intro W hSw; (try dsimp only at hSw); go_simp; try (with_reducible rfl))
          try simp only [Act.put, List.setIfInBounds_toArray, List.set_cons_zero, List.set_cons_succ]
          refine wpAnyH_done (by kernel_rfl) (NoPanic.normal ?_) _
          have HU := Lib.hid (U1.out.trans hHeld)
          clear hHeld
          go_wp2
          go_ret
          exact ⟨by rw [HV.out]; rfl, HU.out⟩
        · go_wp2
          refine wp_region_noPanic ?_
          refine wp_region_held_drew (S := (fun w' => Upd No w1 w')) (by kernel_rfl) ?_ (fun hHeld => ?_)
          · (first | exact (Upd.refl No _).drew | exact hHeld.trans hu3)
          refine wpT 0 ⟨some 18, .fieldAddr 34 (.tmp 3) 1, 0, "ref.go:20", #[], none⟩ ?_ (.inl ⟨by rfl, ?_⟩) ?_
          rotate_left
          · (intro W hSw; (try dsimp only at hSw); go_simp; try (with_reducible rfl))
          try simp only [Act.put, List.setIfInBounds_toArray, List.set_cons_zero, List.set_cons_succ]
          refine wpT 1 ⟨some 19, .load 32 (.tmp 18), 32, "ref.go:20", #[⟨0, .data⟩], none⟩ ?_ (.inl ⟨by rfl, ?_⟩) ?_
          rotate_left
          · (intro W hSw; (try dsimp only at hSw); go_simp; try (with_reducible rfl))
          try simp only [Act.put, List.setIfInBounds_toArray, List.set_cons_zero, List.set_cons_succ]
          refine wpT 2 ⟨some 20, .call { callee := .builtin .len, args := #[.tmp 19], argTypes := #[32] }, 3, "ref.go:20", #[⟨1, .data⟩], none⟩ ?_ (.inl ⟨by rfl, ?_⟩) ?_
          rotate_left
          · (intro W hSw; (try dsimp only at hSw); go_simp; try (with_reducible rfl))
          try simp only [Act.put, List.setIfInBounds_toArray, List.set_cons_zero, List.set_cons_succ]
          refine wpT 3 ⟨some 21, .binOp .eql 3 (.tmp 20) (.const (.int .i64 0)) 3, 4, "ref.go:20", #[⟨2, .data⟩], none⟩ ?_ (.inl ⟨by rfl, ?_⟩) ?_
          rotate_left
          · (intro W hSw; (try dsimp only at hSw); go_simp; try (with_reducible rfl))
          try simp only [Act.put, List.setIfInBounds_toArray, List.set_cons_zero, List.set_cons_succ]
          refine wpT 4 ⟨some 22, .move (.tmp 21), 4, "ref.go:20", #[⟨3, .data⟩], none⟩ ?_ (.inl ⟨by rfl, ?_⟩) ?_
          rotate_left
          · (intro W hSw; (try dsimp only at hSw); go_simp; try (with_reducible rfl))
          try simp only [Act.put, List.setIfInBounds_toArray, List.set_cons_zero, List.set_cons_succ]
          refine wpT 5 ⟨some 23, .load 25 (.tmp 2), 25, "ref.go:20", #[⟨4, .guard⟩], some (4, true)⟩ undef (.inr ⟨by rfl, rfl⟩) ?_
          try simp only [Act.put, List.setIfInBounds_toArray, List.set_cons_zero, List.set_cons_succ]
          refine wpT 6 ⟨some 24, .fieldAddr 34 (.tmp 3) 0, 0, "ref.go:20", #[⟨4, .guard⟩], some (4, true)⟩ undef (.inr ⟨by rfl, rfl⟩) ?_
          try simp only [Act.put, List.setIfInBounds_toArray, List.set_cons_zero, List.set_cons_succ]
          refine wpT 7 ⟨some 25, .load 3 (.tmp 24), 3, "ref.go:20", #[⟨6, .data⟩, ⟨4, .guard⟩], some (4, true)⟩ undef (.inr ⟨by rfl, rfl⟩) ?_
          try simp only [Act.put, List.setIfInBounds_toArray, List.set_cons_zero, List.set_cons_succ]
          refine wpT 9 ⟨some 27, .fieldAddr 34 (.tmp 3) 2, 0, "ref.go:20", #[⟨4, .guard⟩], some (4, true)⟩ undef (.inr ⟨by rfl, rfl⟩) ?_
          try simp only [Act.put, List.setIfInBounds_toArray, List.set_cons_zero, List.set_cons_succ]
          refine wpT 10 ⟨some 28, .load 31 (.tmp 27), 31, "ref.go:20", #[⟨9, .data⟩, ⟨4, .guard⟩], some (4, true)⟩ undef (.inr ⟨by rfl, rfl⟩) ?_
          try simp only [Act.put, List.setIfInBounds_toArray, List.set_cons_zero, List.set_cons_succ]
          refine wpAnyH_ready (rs := [8]) (by kernel_rfl) (by simp) ?_
          refine AllReadyH.cons (o := ⟨some 26, .call { callee := .value (.func 10), args := #[.tmp 23, .tmp 25], argTypes := #[25, 3] }, 41, "ref.go:20", #[⟨5, .data⟩, ⟨7, .data⟩, ⟨4, .chain⟩, ⟨4, .guard⟩], some (4, true)⟩) rfl (fun K hK => ?_) AllReadyH.nil
          go_simp
          refine hK.out _ _ ?_ (fun hHeld => ?_)
          · exact hHeld
          clear hK K
          try simp only [Act.put, List.setIfInBounds_toArray, List.set_cons_zero, List.set_cons_succ]
          refine wpAnyH_ready (rs := [11]) (by kernel_rfl) (by simp) ?_
          refine AllReadyH.cons (o := ⟨some 29, .call { callee := .value (.func 9), args := #[.tmp 26, .tmp 28], argTypes := #[41, 31] }, 4, "ref.go:20", #[⟨8, .data⟩, ⟨10, .data⟩, ⟨8, .chain⟩, ⟨4, .guard⟩], some (4, true)⟩) rfl (fun K hK => ?_) AllReadyH.nil
          go_simp
          refine hK.out _ _ ?_ (fun hHeld => ?_)
          · exact hHeld
          clear hK K
          try simp only [Act.put, List.setIfInBounds_toArray, List.set_cons_zero, List.set_cons_succ]
          refine wpT 12 ⟨some 30, .pick (.tmp 22) (.tmp 29) (.const (.bool false)), 4, "ref.go:20", #[⟨4, .data⟩, ⟨11, .data⟩], none⟩ ?_ (.inl ⟨by rfl, ?_⟩) ?_
          rotate_left
          · (intro W hSw; (try dsimp only at hSw); go_simp; try (with_reducible rfl))
          try simp only [Act.put, List.setIfInBounds_toArray, List.set_cons_zero, List.set_cons_succ]
          refine wpT 13 ⟨some 4, .assign (.tmp 30), 4, "ref.go:20", #[⟨12, .data⟩, ⟨11, .chain⟩, ⟨0, .phase⟩, ⟨1, .phase⟩, ⟨2, .phase⟩, ⟨3, .phase⟩, ⟨4, .phase⟩, ⟨5, .phase⟩, ⟨6, .phase⟩, ⟨7, .phase⟩, ⟨8, .phase⟩, ⟨9, .phase⟩, ⟨10, .phase⟩, ⟨11, .phase⟩, ⟨12, .phase⟩], none⟩ ?_ (.inl ⟨by rfl, ?_⟩) ?_
          rotate_left
          · (intro W hSw; (try dsimp only at hSw); go_simp; try (with_reducible rfl))
          try simp only [Act.put, List.setIfInBounds_toArray, List.set_cons_zero, List.set_cons_succ]
          refine wpAnyH_done (by kernel_rfl) (NoPanic.normal ?_) _
          have HU := Lib.hid (U1.out.trans hHeld)
          clear hHeld
          go_wp2
          go_ret
          exact ⟨by rw [HV.out]; rfl, HU.out⟩
    · have hv := acc_rest (h := ⟨txs, ords, A, c, B, d⟩) (p := p) (l := l) (b := ⟨bx, bp, ⟨vt, vk, vn⟩⟩) HB.out hp
      have hb2 : (p == 2) = false := by rw [beq_eq_false_iff_ne]; exact fun e => hp (.inl e)
      have hb3 : (p == 3) = false := by rw [beq_eq_false_iff_ne]; exact fun e => hp (.inr e)
      have hcl := fun W (hq : Upd No w1 W) => rclosed G W X xc l (HW1.out W hq) hl
      have hne := fun W => bad_neq W ⟨bx, bp, ⟨vt, vk, vn⟩⟩ noBad
      simp only [noBad] at hne
      obtain ⟨mk, hmk⟩ : ∃ mk, maskP p = mk := ⟨_, rfl⟩
      obtain ⟨nb, hnb⟩ : ∃ nb, ((⟨bx, bp, ⟨vt, vk, vn⟩⟩ : HBad) == noBad) = nb := ⟨_, rfl⟩
      obtain ⟨cl, hcl2⟩ : ∃ cl, closedB l = cl := ⟨_, rfl⟩
      have hmask := fun W => rMask W p
      simp only [hmk] at hmask
      simp only [hcl2] at hcl
      rw [hmk, hnb, hcl2] at hv
      have HM := Lib.hid hmask
      have HCl := Lib.hid hcl
      have hne2 : ∀ W, (binOp .neq 31 (.agg #[.int .i64 bx, .int .i64 bp, .int .i64 vt, .int .i64 vk, .int .i64 vn]) (.agg #[.int .i64 0, .int .i64 0, .int .i64 0, .int .i64 0, .int .i64 0])).run Tryz.prog W = .ok (.bool (!nb)) W := fun W => by
        rw [hne W]; unfold bne; rw [show ((⟨bx, bp, ⟨vt, vk, vn⟩⟩ : HBad) == ⟨0, 0, ⟨0, 0, 0⟩⟩) = nb from hnb]
      clear hp hcl hne hmk hnb hcl2 hmask
      by_cases hm0 : mk = 0
      · have HV := Lib.hid (show acceptR ⟨txs, ords, A, c, B, d⟩ p l ⟨bx, bp, ⟨vt, vk, vn⟩⟩ = false by rw [hv, hm0]; rfl)
        have hmb : (mk == 0) = true := by simpa using hm0
        clear hv hm0
        go_wp2_with fail
        refine (HM.out _).mono ?_
        rintro e w2 ⟨rfl, hu2⟩
        have HU := Lib.hid (U1.out.trans hu2)
        go_wp2
        go_ret
        exact ⟨by rw [HV.out]; rfl, HU.out⟩
      · have hmb : (mk == 0) = false := by simpa using hm0
        cases nb
        · have HV := Lib.hid (show acceptR ⟨txs, ords, A, c, B, d⟩ p l ⟨bx, bp, ⟨vt, vk, vn⟩⟩ = false by rw [hv, hmb]; rfl)
          have hne3 : ∀ W, (binOp .neq 31 (.agg #[.int .i64 bx, .int .i64 bp, .int .i64 vt, .int .i64 vk, .int .i64 vn]) (.agg #[.int .i64 0, .int .i64 0, .int .i64 0, .int .i64 0, .int .i64 0])).run Tryz.prog W = .ok (.bool true) W := hne2
          clear hv hm0 hne2
          go_wp2_with fail
          refine (HM.out _).mono ?_
          rintro e w2 ⟨rfl, hu2⟩
          have HU := Lib.hid (U1.out.trans hu2)
          go_wp2
          go_ret
          exact ⟨by rw [HV.out]; rfl, HU.out⟩
        · have hne3 : ∀ W, (binOp .neq 31 (.agg #[.int .i64 bx, .int .i64 bp, .int .i64 vt, .int .i64 vk, .int .i64 vn]) (.agg #[.int .i64 0, .int .i64 0, .int .i64 0, .int .i64 0, .int .i64 0])).run Tryz.prog W = .ok (.bool false) W := hne2
          cases cl
          · have HV := Lib.hid (show acceptR ⟨txs, ords, A, c, B, d⟩ p l ⟨bx, bp, ⟨vt, vk, vn⟩⟩ = false by rw [hv, hmb]; rfl)
            clear hv hm0 hne2
            go_wp2_with fail
            refine (HM.out _).mono ?_
            rintro e w2 ⟨rfl, hu2⟩
            go_wp2_with fail
            refine (HCl.out _ hu2).mono ?_
            rintro e w3 ⟨rfl, hu3⟩
            have HU := Lib.hid (U1.out.trans (hu2.trans hu3))
            go_wp2
            go_ret
            exact ⟨by rw [HV.out]; rfl, HU.out⟩
          · have HV1 := Lib.hid (show acceptR ⟨txs, ords, A, c, B, d⟩ p l ⟨bx, bp, ⟨vt, vk, vn⟩⟩ = (l.all (fun e => decide (0 < countR ⟨txs, ords, A, c, B, d⟩ e)) && (!(decide ((ofM l mk).length < l.length)) && (mustP p == 0 || decide (0 < (ofM l (mustP p)).length)))) by rw [hv, hmb]; rfl)
            have HCn := Lib.hid fun W (hq : Upd No w1 W) e => rCount16 F W txs ords A c B d e (H.upd (U1.out.trans hq) (fun _ _ => id))
            have HOm := Lib.hid fun W (hq : Upd No w1 W) m => rOf27 G W X xc l m (HW1.out W hq) hl
            clear hv hm0 hne2
            go_wp2_with fail
            refine (HM.out _).mono ?_
            rintro e w2 ⟨rfl, hu2⟩
            go_wp2_with fail
            refine (HCl.out _ hu2).mono ?_
            rintro e w3 ⟨rfl, hu3⟩
            have hr3 := hu2.trans hu3
            clear hu2 hu3
            go_wp2
            clear hne3
            go_loopg [50] l.length (fun gk i wr => ∃ (k : Nat), k + gk = l.length ∧ i = .int .i64 k ∧ Hid ((l.drop k).all (fun e => decide (0 < countR ⟨txs, ords, A, c, B, d⟩ e)) = l.all (fun e => decide (0 < countR ⟨txs, ords, A, c, B, d⟩ e))) ∧ Upd No w1 wr)
            case atStart => exact ⟨0, by omega, rfl, Lib.hid rfl, hr3⟩
            case round =>
              obtain ⟨k, hgk, rfl, hs, hu⟩ := hrel
              clear hr3
              by_cases hlt : k < l.length
              · obtain ⟨ad, hAd, q0, q1, q2, q3⟩ := (HW1.out _ hu).at_ hlt
                obtain ⟨x, hx⟩ : ∃ x, l[k] = x := ⟨_, rfl⟩
                rw [hx] at q0 q1 q2 q3
                obtain ⟨xf, xt, xk, xy⟩ := x
                simp only at q0 q1 q2 q3
                subst hAd
                have XX := Lib.hid (show l.drop k = ⟨xf, xt, xk, xy⟩ :: l.drop (k + 1) by rw [← hx]; exact List.drop_eq_getElem_cons hlt)
                have b1 : (0 : Int) ≤ (k : Int) := Int.natCast_nonneg _
                have b2 : (k : Int) < (l.length : Int) := by omega
                have hub := hu.alloc (.cells #[.int .i64 xf, .int .i64 xt, .int .i64 xk, .int .i64 xy] 27)
                have HC := Lib.hid (HCn.out _ hub ⟨xf, xt, xk, xy⟩)
                obtain ⟨n, hn⟩ : ∃ n, countR ⟨txs, ords, A, c, B, d⟩ ⟨xf, xt, xk, xy⟩ = n := ⟨_, rfl⟩
                have hst := hs.out
                rw [XX.out, List.all_cons] at hst
                simp only [hn] at hst
                rw [hn] at HC
                clear hx hn
                by_cases hn0 : n = 0
                · have HV := Lib.hid (show acceptR ⟨txs, ords, A, c, B, d⟩ p l ⟨bx, bp, ⟨vt, vk, vn⟩⟩ = false by rw [HV1.out, ← hst, hn0]; rfl)
                  have hnb : ((n : Int) == 0) = true := by rw [beq_iff_eq]; omega
                  have hnb2 : (n == 0) = true := by simpa using hn0
                  clear hst hn0
                  go_wp2_with fail
                  refine (HC.out).mono ?_
                  rintro e w4 ⟨rfl, hu4⟩
                  have HU := Lib.hid (U1.out.trans (hub.trans hu4))
                  go_wp2
                  go_ret
                  exact ⟨by rw [HV.out]; rfl, HU.out⟩
                · have HS := Lib.hid (show (l.drop (k + 1)).all (fun e => decide (0 < countR ⟨txs, ords, A, c, B, d⟩ e)) = l.all (fun e => decide (0 < countR ⟨txs, ords, A, c, B, d⟩ e)) by rw [← hst, decide_eq_true (show 0 < n by omega), Bool.true_and])
                  have hnb : ((n : Int) == 0) = false := by rw [beq_eq_false_iff_ne]; omega
                  have hnb2 : (n == 0) = false := by simpa using hn0
                  clear hst hn0
                  go_wp2_with fail
                  refine (HC.out).mono ?_
                  rintro e w4 ⟨rfl, hu4⟩
                  go_wp2
                  go_roundg (gk - 1)
                  case measure => omega
                  case rel => exact ⟨k + 1, by omega, by go_num, HS, hub.trans hu4⟩
              · obtain rfl : k = l.length := by omega
                have HV2 := Lib.hid (show acceptR ⟨txs, ords, A, c, B, d⟩ p l ⟨bx, bp, ⟨vt, vk, vn⟩⟩ = (!(decide ((ofM l mk).length < l.length)) && (mustP p == 0 || decide (0 < (ofM l (mustP p)).length))) by
                  rw [HV1.out, ← hs.out, List.drop_length]; rfl)
                have hmu := fun W => rMust W p
                have hle1 := ofM_len l mk
                obtain ⟨mu, hmu2⟩ : ∃ mu, mustP p = mu := ⟨_, rfl⟩
                simp only [hmu2] at hmu
                have hv3 := HV2.out
                rw [hmu2] at hv3
                have ho1 := fun W (hq : Upd No w1 W) => HOm.out W hq mk
                have ho2 := fun W (hq : Upd No w1 W) => HOm.out W hq mu
                obtain ⟨m1, hm1⟩ : ∃ m1, ofM l mk = m1 := ⟨_, rfl⟩
                obtain ⟨m2, hm2⟩ : ∃ m2, ofM l mu = m2 := ⟨_, rfl⟩
                simp only [hm1] at ho1
                simp only [hm2] at ho2
                rw [hm1, hm2] at hv3
                have HO1 := Lib.hid ho1
                have HO2 := Lib.hid ho2
                have HMu := Lib.hid hmu
                have b1 : (0 : Int) ≤ (l.length : Int) := Int.natCast_nonneg _
                clear ho1 ho2 hm1 hm2 hmu hmu2 hle1 hs
                by_cases hlen : m1.length < l.length
                · have HV := Lib.hid (show acceptR ⟨txs, ords, A, c, B, d⟩ p l ⟨bx, bp, ⟨vt, vk, vn⟩⟩ = false by rw [hv3, decide_eq_true hlen]; rfl)
                  have hd1 : decide ((m1.length : Int) < (l.length : Int)) = true := decide_eq_true (by omega)
                  have hd2 : decide (m1.length < l.length) = true := decide_eq_true hlen
                  clear hlen hv3
                  go_wp2
                  refine wp_region_noPanic ?_
                  refine wp_region_held_drew (S := (fun w' => Upd No w1 w')) (by kernel_rfl) ?_ (fun hHeld => ?_)
                  · (first | exact hu.drew | exact hHeld.trans hu3)
                  refine wpT 0 ⟨some 59, .fieldAddr 34 (.tmp 3) 1, 0, "ref.go:30", #[], none⟩ ?_ (.inl ⟨by rfl, ?_⟩) ?_
                  rotate_left
                  · (intro W hSw; (try dsimp only at hSw); go_simp; try (with_reducible rfl))
                  try simp only [Act.put, List.setIfInBounds_toArray, List.set_cons_zero, List.set_cons_succ]
                  refine wpT 1 ⟨some 60, .load 32 (.tmp 59), 32, "ref.go:30", #[⟨0, .data⟩], none⟩ ?_ (.inl ⟨by rfl, ?_⟩) ?_
                  rotate_left
                  · (intro W hSw; (try dsimp only at hSw); go_simp; try (with_reducible rfl))
                  try simp only [Act.put, List.setIfInBounds_toArray, List.set_cons_zero, List.set_cons_succ]
                  refine wpT 2 ⟨some 61, .fieldAddr 34 (.tmp 3) 0, 0, "ref.go:30", #[], none⟩ ?_ (.inl ⟨by rfl, ?_⟩) ?_
                  rotate_left
                  · (intro W hSw; (try dsimp only at hSw); go_simp; try (with_reducible rfl))
                  try simp only [Act.put, List.setIfInBounds_toArray, List.set_cons_zero, List.set_cons_succ]
                  refine wpT 3 ⟨some 62, .load 3 (.tmp 61), 3, "ref.go:30", #[⟨2, .data⟩], none⟩ ?_ (.inl ⟨by rfl, ?_⟩) ?_
                  rotate_left
                  · (intro W hSw; (try dsimp only at hSw); go_simp; try (with_reducible rfl))
                  try simp only [Act.put, List.setIfInBounds_toArray, List.set_cons_zero, List.set_cons_succ]
                  refine wpT 7 ⟨some 66, .fieldAddr 34 (.tmp 3) 1, 0, "ref.go:30", #[], none⟩ ?_ (.inl ⟨by rfl, ?_⟩) ?_
                  rotate_left
                  · (intro W hSw; (try dsimp only at hSw); go_simp; try (with_reducible rfl))
                  try simp only [Act.put, List.setIfInBounds_toArray, List.set_cons_zero, List.set_cons_succ]
                  refine wpT 8 ⟨some 67, .load 32 (.tmp 66), 32, "ref.go:30", #[⟨7, .data⟩], none⟩ ?_ (.inl ⟨by rfl, ?_⟩) ?_
                  rotate_left
                  · (intro W hSw; (try dsimp only at hSw); go_simp; try (with_reducible rfl))
                  try simp only [Act.put, List.setIfInBounds_toArray, List.set_cons_zero, List.set_cons_succ]
                  refine wpT 9 ⟨some 68, .call { callee := .builtin .len, args := #[.tmp 67], argTypes := #[32] }, 3, "ref.go:30", #[⟨8, .data⟩], none⟩ ?_ (.inl ⟨by rfl, ?_⟩) ?_
                  rotate_left
                  · (intro W hSw; (try dsimp only at hSw); go_simp; try (with_reducible rfl))
                  try simp only [Act.put, List.setIfInBounds_toArray, List.set_cons_zero, List.set_cons_succ]
                  refine wpAnyH_ready (rs := [4]) (by kernel_rfl) (by simp) ?_
                  refine AllReadyH.cons (o := ⟨some 63, .call { callee := .value (.func 24), args := #[.tmp 62], argTypes := #[3] }, 3, "ref.go:30", #[⟨3, .data⟩], none⟩) rfl (fun K hK => ?_) AllReadyH.nil
                  go_simp
                  (first
    | (go_at_call 24; refine (HM.out _).mono ?_; rintro e w3 ⟨rfl, hu3⟩))
                  try (go_wp2_with fail)
                  refine hK.out _ _ ?_ (fun hHeld => ?_)
                  · (first | exact hu.drew | exact hHeld.trans hu3)
                  clear hK K
                  try simp only [Act.put, List.setIfInBounds_toArray, List.set_cons_zero, List.set_cons_succ]
                  refine wpAnyH_ready (rs := [5]) (by kernel_rfl) (by simp) ?_
                  refine AllReadyH.cons (o := ⟨some 64, .call { callee := .value (.func 26), args := #[.tmp 60, .tmp 63], argTypes := #[32, 3] }, 32, "ref.go:30", #[⟨1, .data⟩, ⟨4, .data⟩, ⟨4, .chain⟩], none⟩) rfl (fun K hK => ?_) AllReadyH.nil
                  go_simp
                  (first
    | (go_at_call 26; refine (HO1.out _ hHeld).mono ?_; rintro e w3 ⟨A6, c6, rfl, ho6, hu3⟩))
                  try (go_wp2_with fail)
                  refine hK.out _ _ ?_ (fun hHeld => ?_)
                  · (first | exact hu.drew | exact hHeld.trans hu3)
                  clear hK K
                  try simp only [Act.put, List.setIfInBounds_toArray, List.set_cons_zero, List.set_cons_succ]
                  refine wpT 6 ⟨some 65, .call { callee := .builtin .len, args := #[.tmp 64], argTypes := #[32] }, 3, "ref.go:30", #[⟨5, .data⟩], none⟩ ?_ (.inl ⟨by rfl, ?_⟩) ?_
                  rotate_left
                  · (intro W hSw; (try dsimp only at hSw); go_simp; try (with_reducible rfl))
                  try simp only [Act.put, List.setIfInBounds_toArray, List.set_cons_zero, List.set_cons_succ]
                  refine wpT 10 ⟨some 69, .binOp .lss 3 (.tmp 65) (.tmp 68) 3, 4, "ref.go:30", #[⟨6, .data⟩, ⟨9, .data⟩], none⟩ ?_ (.inl ⟨by rfl, ?_⟩) ?_
                  rotate_left
                  · (intro W hSw; (try dsimp only at hSw); go_simp; try (with_reducible rfl))
                  try simp only [Act.put, List.setIfInBounds_toArray, List.set_cons_zero, List.set_cons_succ]
                  refine wpAnyH_done (by kernel_rfl) (NoPanic.normal ?_) _
                  have HU := Lib.hid (U1.out.trans hHeld)
                  clear hHeld
                  go_wp2
                  go_ret
                  exact ⟨by rw [HV.out]; rfl, HU.out⟩
                · have HV3 := Lib.hid (show acceptR ⟨txs, ords, A, c, B, d⟩ p l ⟨bx, bp, ⟨vt, vk, vn⟩⟩ = (mu == 0 || decide (0 < m2.length)) by rw [hv3, decide_eq_false hlen]; rfl)
                  have hd1 : decide ((m1.length : Int) < (l.length : Int)) = false := decide_eq_false (by omega)
                  have hd2 : decide (m1.length < l.length) = false := decide_eq_false hlen
                  clear hlen hv3
                  by_cases hmu0 : mu = 0
                  · have HV := Lib.hid (show acceptR ⟨txs, ords, A, c, B, d⟩ p l ⟨bx, bp, ⟨vt, vk, vn⟩⟩ = true by rw [HV3.out, hmu0]; rfl)
                    have hmub : (mu == 0) = true := by simpa using hmu0
                    clear hmu0
                    go_wp2
                    refine wp_region_noPanic ?_
                    refine wp_region_held_drew (S := (fun w' => Upd No w1 w')) (by kernel_rfl) ?_ (fun hHeld => ?_)
                    · (first | exact hu.drew | exact hHeld.trans hu3)
                    refine wpT 0 ⟨some 59, .fieldAddr 34 (.tmp 3) 1, 0, "ref.go:30", #[], none⟩ ?_ (.inl ⟨by rfl, ?_⟩) ?_
                    rotate_left
                    · (intro W hSw; (try dsimp only at hSw); go_simp; try (with_reducible rfl))
                    try simp only [Act.put, List.setIfInBounds_toArray, List.set_cons_zero, List.set_cons_succ]
                    refine wpT 1 ⟨some 60, .load 32 (.tmp 59), 32, "ref.go:30", #[⟨0, .data⟩], none⟩ ?_ (.inl ⟨by rfl, ?_⟩) ?_
                    rotate_left
                    · (intro W hSw; (try dsimp only at hSw); go_simp; try (with_reducible rfl))
                    try simp only [Act.put, List.setIfInBounds_toArray, List.set_cons_zero, List.set_cons_succ]
                    refine wpT 2 ⟨some 61, .fieldAddr 34 (.tmp 3) 0, 0, "ref.go:30", #[], none⟩ ?_ (.inl ⟨by rfl, ?_⟩) ?_
                    rotate_left
                    · (intro W hSw; (try dsimp only at hSw); go_simp; try (with_reducible rfl))
                    try simp only [Act.put, List.setIfInBounds_toArray, List.set_cons_zero, List.set_cons_succ]
                    refine wpT 3 ⟨some 62, .load 3 (.tmp 61), 3, "ref.go:30", #[⟨2, .data⟩], none⟩ ?_ (.inl ⟨by rfl, ?_⟩) ?_
                    rotate_left
                    · (intro W hSw; (try dsimp only at hSw); go_simp; try (with_reducible rfl))
                    try simp only [Act.put, List.setIfInBounds_toArray, List.set_cons_zero, List.set_cons_succ]
                    refine wpT 7 ⟨some 66, .fieldAddr 34 (.tmp 3) 1, 0, "ref.go:30", #[], none⟩ ?_ (.inl ⟨by rfl, ?_⟩) ?_
                    rotate_left
                    · (intro W hSw; (try dsimp only at hSw); go_simp; try (with_reducible rfl))
                    try simp only [Act.put, List.setIfInBounds_toArray, List.set_cons_zero, List.set_cons_succ]
                    refine wpT 8 ⟨some 67, .load 32 (.tmp 66), 32, "ref.go:30", #[⟨7, .data⟩], none⟩ ?_ (.inl ⟨by rfl, ?_⟩) ?_
                    rotate_left
                    · (intro W hSw; (try dsimp only at hSw); go_simp; try (with_reducible rfl))
                    try simp only [Act.put, List.setIfInBounds_toArray, List.set_cons_zero, List.set_cons_succ]
                    refine wpT 9 ⟨some 68, .call { callee := .builtin .len, args := #[.tmp 67], argTypes := #[32] }, 3, "ref.go:30", #[⟨8, .data⟩], none⟩ ?_ (.inl ⟨by rfl, ?_⟩) ?_
                    rotate_left
                    · (intro W hSw; (try dsimp only at hSw); go_simp; try (with_reducible rfl))
                    try simp only [Act.put, List.setIfInBounds_toArray, List.set_cons_zero, List.set_cons_succ]
                    refine wpAnyH_ready (rs := [4]) (by kernel_rfl) (by simp) ?_
                    refine AllReadyH.cons (o := ⟨some 63, .call { callee := .value (.func 24), args := #[.tmp 62], argTypes := #[3] }, 3, "ref.go:30", #[⟨3, .data⟩], none⟩) rfl (fun K hK => ?_) AllReadyH.nil
                    go_simp
                    (first
    | (go_at_call 24; refine (HM.out _).mono ?_; rintro e w3 ⟨rfl, hu3⟩))
                    try (go_wp2_with fail)
                    refine hK.out _ _ ?_ (fun hHeld => ?_)
                    · (first | exact hu.drew | exact hHeld.trans hu3)
                    clear hK K
                    try simp only [Act.put, List.setIfInBounds_toArray, List.set_cons_zero, List.set_cons_succ]
                    refine wpAnyH_ready (rs := [5]) (by kernel_rfl) (by simp) ?_
                    refine AllReadyH.cons (o := ⟨some 64, .call { callee := .value (.func 26), args := #[.tmp 60, .tmp 63], argTypes := #[32, 3] }, 32, "ref.go:30", #[⟨1, .data⟩, ⟨4, .data⟩, ⟨4, .chain⟩], none⟩) rfl (fun K hK => ?_) AllReadyH.nil
                    go_simp
                    (first
    | (go_at_call 26; refine (HO1.out _ hHeld).mono ?_; rintro e w3 ⟨A6, c6, rfl, ho6, hu3⟩))
                    try (go_wp2_with fail)
                    refine hK.out _ _ ?_ (fun hHeld => ?_)
                    · (first | exact hu.drew | exact hHeld.trans hu3)
                    clear hK K
                    try simp only [Act.put, List.setIfInBounds_toArray, List.set_cons_zero, List.set_cons_succ]
                    refine wpT 6 ⟨some 65, .call { callee := .builtin .len, args := #[.tmp 64], argTypes := #[32] }, 3, "ref.go:30", #[⟨5, .data⟩], none⟩ ?_ (.inl ⟨by rfl, ?_⟩) ?_
                    rotate_left
                    · (intro W hSw; (try dsimp only at hSw); go_simp; try (with_reducible rfl))
                    try simp only [Act.put, List.setIfInBounds_toArray, List.set_cons_zero, List.set_cons_succ]
                    refine wpT 10 ⟨some 69, .binOp .lss 3 (.tmp 65) (.tmp 68) 3, 4, "ref.go:30", #[⟨6, .data⟩, ⟨9, .data⟩], none⟩ ?_ (.inl ⟨by rfl, ?_⟩) ?_
                    rotate_left
                    · (intro W hSw; (try dsimp only at hSw); go_simp; try (with_reducible rfl))
                    try simp only [Act.put, List.setIfInBounds_toArray, List.set_cons_zero, List.set_cons_succ]
                    refine wpAnyH_done (by kernel_rfl) (NoPanic.normal ?_) _
                    have h13 := hHeld
                    clear hHeld
                    go_wp2
                    refine wp_region_noPanic ?_
                    refine wp_region_held_drew (S := (fun w' => Upd No w1 w')) (by kernel_rfl) ?_ (fun hHeld => ?_)
                    · (first | exact h13.drew | exact hHeld.trans hu3)
                    refine wpT 0 ⟨some 70, .fieldAddr 34 (.tmp 3) 0, 0, "ref.go:33", #[], none⟩ ?_ (.inl ⟨by rfl, ?_⟩) ?_
                    rotate_left
                    · (intro W hSw; (try dsimp only at hSw); go_simp; try (with_reducible rfl))
                    try simp only [Act.put, List.setIfInBounds_toArray, List.set_cons_zero, List.set_cons_succ]
                    refine wpT 1 ⟨some 71, .load 3 (.tmp 70), 3, "ref.go:33", #[⟨0, .data⟩], none⟩ ?_ (.inl ⟨by rfl, ?_⟩) ?_
                    rotate_left
                    · (intro W hSw; (try dsimp only at hSw); go_simp; try (with_reducible rfl))
                    try simp only [Act.put, List.setIfInBounds_toArray, List.set_cons_zero, List.set_cons_succ]
                    refine wpAnyH_ready (rs := [2]) (by kernel_rfl) (by simp) ?_
                    refine AllReadyH.cons (o := ⟨some 72, .call { callee := .value (.func 27), args := #[.tmp 71], argTypes := #[3] }, 3, "ref.go:33", #[⟨1, .data⟩], none⟩) rfl (fun K hK => ?_) AllReadyH.nil
                    go_simp
                    (first
    | (go_at_call 27; refine (HMu.out _).mono ?_; rintro e w3 ⟨rfl, hu3⟩))
                    try (go_wp2_with fail)
                    refine hK.out _ _ ?_ (fun hHeld => ?_)
                    · (first | exact h13.drew | exact hHeld.trans hu3)
                    clear hK K
                    try simp only [Act.put, List.setIfInBounds_toArray, List.set_cons_zero, List.set_cons_succ]
                    refine wpT 3 ⟨some 73, .binOp .eql 3 (.tmp 72) (.const (.int .i64 0)) 3, 4, "ref.go:33", #[⟨2, .data⟩], none⟩ ?_ (.inl ⟨by rfl, ?_⟩) ?_
                    rotate_left
                    · (intro W hSw; (try dsimp only at hSw); go_simp; try (with_reducible rfl))
                    try simp only [Act.put, List.setIfInBounds_toArray, List.set_cons_zero, List.set_cons_succ]
                    refine wpT 4 ⟨some 74, .move (.tmp 73), 4, "ref.go:33", #[⟨3, .data⟩, ⟨2, .chain⟩], none⟩ ?_ (.inl ⟨by rfl, ?_⟩) ?_
                    rotate_left
                    · (intro W hSw; (try dsimp only at hSw); go_simp; try (with_reducible rfl))
                    try simp only [Act.put, List.setIfInBounds_toArray, List.set_cons_zero, List.set_cons_succ]
                    refine wpT 5 ⟨some 75, .fieldAddr 34 (.tmp 3) 1, 0, "ref.go:33", #[⟨4, .guard⟩], some (4, false)⟩ undef (.inr ⟨by rfl, rfl⟩) ?_
                    try simp only [Act.put, List.setIfInBounds_toArray, List.set_cons_zero, List.set_cons_succ]
                    refine wpT 6 ⟨some 76, .load 32 (.tmp 75), 32, "ref.go:33", #[⟨5, .data⟩, ⟨4, .guard⟩], some (4, false)⟩ undef (.inr ⟨by rfl, rfl⟩) ?_
                    try simp only [Act.put, List.setIfInBounds_toArray, List.set_cons_zero, List.set_cons_succ]
                    refine wpT 7 ⟨some 77, .fieldAddr 34 (.tmp 3) 0, 0, "ref.go:33", #[⟨4, .guard⟩], some (4, false)⟩ undef (.inr ⟨by rfl, rfl⟩) ?_
                    try simp only [Act.put, List.setIfInBounds_toArray, List.set_cons_zero, List.set_cons_succ]
                    refine wpT 8 ⟨some 78, .load 3 (.tmp 77), 3, "ref.go:33", #[⟨7, .data⟩, ⟨4, .guard⟩], some (4, false)⟩ undef (.inr ⟨by rfl, rfl⟩) ?_
                    try simp only [Act.put, List.setIfInBounds_toArray, List.set_cons_zero, List.set_cons_succ]
                    refine wpAnyH_ready (rs := [9]) (by kernel_rfl) (by simp) ?_
                    refine AllReadyH.cons (o := ⟨some 79, .call { callee := .value (.func 27), args := #[.tmp 78], argTypes := #[3] }, 3, "ref.go:33", #[⟨8, .data⟩, ⟨4, .chain⟩, ⟨4, .guard⟩], some (4, false)⟩) rfl (fun K hK => ?_) AllReadyH.nil
                    go_simp
                    refine hK.out _ _ ?_ (fun hHeld => ?_)
                    · exact hHeld
                    clear hK K
                    try simp only [Act.put, List.setIfInBounds_toArray, List.set_cons_zero, List.set_cons_succ]
                    refine wpAnyH_ready (rs := [10]) (by kernel_rfl) (by simp) ?_
                    refine AllReadyH.cons (o := ⟨some 80, .call { callee := .value (.func 26), args := #[.tmp 76, .tmp 79], argTypes := #[32, 3] }, 32, "ref.go:33", #[⟨6, .data⟩, ⟨9, .data⟩, ⟨9, .chain⟩, ⟨4, .guard⟩], some (4, false)⟩) rfl (fun K hK => ?_) AllReadyH.nil
                    go_simp
                    refine hK.out _ _ ?_ (fun hHeld => ?_)
                    · exact hHeld
                    clear hK K
                    try simp only [Act.put, List.setIfInBounds_toArray, List.set_cons_zero, List.set_cons_succ]
                    refine wpT 11 ⟨some 81, .call { callee := .builtin .len, args := #[.tmp 80], argTypes := #[32] }, 3, "ref.go:33", #[⟨10, .data⟩, ⟨4, .guard⟩], some (4, false)⟩ undef (.inr ⟨by rfl, rfl⟩) ?_
                    try simp only [Act.put, List.setIfInBounds_toArray, List.set_cons_zero, List.set_cons_succ]
                    refine wpT 12 ⟨some 82, .binOp .gtr 3 (.tmp 81) (.const (.int .i64 0)) 3, 4, "ref.go:33", #[⟨11, .data⟩, ⟨4, .guard⟩], some (4, false)⟩ undef (.inr ⟨by rfl, rfl⟩) ?_
                    try simp only [Act.put, List.setIfInBounds_toArray, List.set_cons_zero, List.set_cons_succ]
                    refine wpT 13 ⟨some 83, .pick (.tmp 74) (.const (.bool true)) (.tmp 82), 4, "ref.go:33", #[⟨4, .data⟩, ⟨12, .data⟩], none⟩ ?_ (.inl ⟨by rfl, ?_⟩) ?_
                    rotate_left
                    · (intro W hSw; (try dsimp only at hSw); go_simp; try (with_reducible rfl))
                    try simp only [Act.put, List.setIfInBounds_toArray, List.set_cons_zero, List.set_cons_succ]
                    refine wpT 14 ⟨some 4, .assign (.tmp 83), 4, "ref.go:33", #[⟨13, .data⟩, ⟨10, .chain⟩, ⟨0, .phase⟩, ⟨1, .phase⟩, ⟨2, .phase⟩, ⟨3, .phase⟩, ⟨4, .phase⟩, ⟨5, .phase⟩, ⟨6, .phase⟩, ⟨7, .phase⟩, ⟨8, .phase⟩, ⟨9, .phase⟩, ⟨10, .phase⟩, ⟨11, .phase⟩, ⟨12, .phase⟩, ⟨13, .phase⟩], none⟩ ?_ (.inl ⟨by rfl, ?_⟩) ?_
                    rotate_left
                    · (intro W hSw; (try dsimp only at hSw); go_simp; try (with_reducible rfl))
                    try simp only [Act.put, List.setIfInBounds_toArray, List.set_cons_zero, List.set_cons_succ]
                    refine wpAnyH_done (by kernel_rfl) (NoPanic.normal ?_) _
                    have HU := Lib.hid (U1.out.trans hHeld)
                    clear hHeld h13
                    go_wp2
                    go_ret
                    exact ⟨by rw [HV.out]; rfl, HU.out⟩
                  · have HV := Lib.hid (show acceptR ⟨txs, ords, A, c, B, d⟩ p l ⟨bx, bp, ⟨vt, vk, vn⟩⟩ = decide ((0 : Int) < (m2.length : Int)) by rw [HV3.out, beq_eq_false_iff_ne.2 hmu0, Bool.false_or]; congr 1; simp only [eq_iff_iff]; omega)
                    have hmub : (mu == 0) = false := by simpa using hmu0
                    obtain ⟨q, hq⟩ : ∃ q, decide ((0 : Int) < (m2.length : Int)) = q := ⟨_, rfl⟩
                    rw [hq] at HV
                    have hq2 : decide (0 < m2.length) = q := by rw [← hq]; congr 1; simp only [eq_iff_iff]; omega
                    have HQ := Lib.hid hq
                    clear hmu0 hq hq2
                    go_wp2
                    refine wp_region_noPanic ?_
                    refine wp_region_held_drew (S := (fun w' => Upd No w1 w')) (by kernel_rfl) ?_ (fun hHeld => ?_)
                    · (first | exact hu.drew | exact hHeld.trans hu3)
                    refine wpT 0 ⟨some 59, .fieldAddr 34 (.tmp 3) 1, 0, "ref.go:30", #[], none⟩ ?_ (.inl ⟨by rfl, ?_⟩) ?_
                    rotate_left
                    · (intro W hSw; (try dsimp only at hSw); go_simp; try (with_reducible rfl))
                    try simp only [Act.put, List.setIfInBounds_toArray, List.set_cons_zero, List.set_cons_succ]
                    refine wpT 1 ⟨some 60, .load 32 (.tmp 59), 32, "ref.go:30", #[⟨0, .data⟩], none⟩ ?_ (.inl ⟨by rfl, ?_⟩) ?_
                    rotate_left
                    · (intro W hSw; (try dsimp only at hSw); go_simp; try (with_reducible rfl))
                    try simp only [Act.put, List.setIfInBounds_toArray, List.set_cons_zero, List.set_cons_succ]
                    refine wpT 2 ⟨some 61, .fieldAddr 34 (.tmp 3) 0, 0, "ref.go:30", #[], none⟩ ?_ (.inl ⟨by rfl, ?_⟩) ?_
                    rotate_left
                    · (intro W hSw; (try dsimp only at hSw); go_simp; try (with_reducible rfl))
                    try simp only [Act.put, List.setIfInBounds_toArray, List.set_cons_zero, List.set_cons_succ]
                    refine wpT 3 ⟨some 62, .load 3 (.tmp 61), 3, "ref.go:30", #[⟨2, .data⟩], none⟩ ?_ (.inl ⟨by rfl, ?_⟩) ?_
                    rotate_left
                    · (intro W hSw; (try dsimp only at hSw); go_simp; try (with_reducible rfl))
                    try simp only [Act.put, List.setIfInBounds_toArray, List.set_cons_zero, List.set_cons_succ]
                    refine wpT 7 ⟨some 66, .fieldAddr 34 (.tmp 3) 1, 0, "ref.go:30", #[], none⟩ ?_ (.inl ⟨by rfl, ?_⟩) ?_
                    rotate_left
                    · (intro W hSw; (try dsimp only at hSw); go_simp; try (with_reducible rfl))
                    try simp only [Act.put, List.setIfInBounds_toArray, List.set_cons_zero, List.set_cons_succ]
                    refine wpT 8 ⟨some 67, .load 32 (.tmp 66), 32, "ref.go:30", #[⟨7, .data⟩], none⟩ ?_ (.inl ⟨by rfl, ?_⟩) ?_
                    rotate_left
                    · (intro W hSw; (try dsimp only at hSw); go_simp; try (with_reducible rfl))
                    try simp only [Act.put, List.setIfInBounds_toArray, List.set_cons_zero, List.set_cons_succ]
                    refine wpT 9 ⟨some 68, .call { callee := .builtin .len, args := #[.tmp 67], argTypes := #[32] }, 3, "ref.go:30", #[⟨8, .data⟩], none⟩ ?_ (.inl ⟨by rfl, ?_⟩) ?_
                    rotate_left
                    · (intro W hSw; (try dsimp only at hSw); go_simp; try (with_reducible rfl))
                    try simp only [Act.put, List.setIfInBounds_toArray, List.set_cons_zero, List.set_cons_succ]
                    refine wpAnyH_ready (rs := [4]) (by kernel_rfl) (by simp) ?_
                    refine AllReadyH.cons (o := ⟨some 63, .call { callee := .value (.func 24), args := #[.tmp 62], argTypes := #[3] }, 3, "ref.go:30", #[⟨3, .data⟩], none⟩) rfl (fun K hK => ?_) AllReadyH.nil
                    go_simp
                    (first
    | (go_at_call 24; refine (HM.out _).mono ?_; rintro e w3 ⟨rfl, hu3⟩))
                    try (go_wp2_with fail)
                    refine hK.out _ _ ?_ (fun hHeld => ?_)
                    · (first | exact hu.drew | exact hHeld.trans hu3)
                    clear hK K
                    try simp only [Act.put, List.setIfInBounds_toArray, List.set_cons_zero, List.set_cons_succ]
                    refine wpAnyH_ready (rs := [5]) (by kernel_rfl) (by simp) ?_
                    refine AllReadyH.cons (o := ⟨some 64, .call { callee := .value (.func 26), args := #[.tmp 60, .tmp 63], argTypes := #[32, 3] }, 32, "ref.go:30", #[⟨1, .data⟩, ⟨4, .data⟩, ⟨4, .chain⟩], none⟩) rfl (fun K hK => ?_) AllReadyH.nil
                    go_simp
                    (first
    | (go_at_call 26; refine (HO1.out _ hHeld).mono ?_; rintro e w3 ⟨A6, c6, rfl, ho6, hu3⟩))
                    try (go_wp2_with fail)
                    refine hK.out _ _ ?_ (fun hHeld => ?_)
                    · (first | exact hu.drew | exact hHeld.trans hu3)
                    clear hK K
                    try simp only [Act.put, List.setIfInBounds_toArray, List.set_cons_zero, List.set_cons_succ]
                    refine wpT 6 ⟨some 65, .call { callee := .builtin .len, args := #[.tmp 64], argTypes := #[32] }, 3, "ref.go:30", #[⟨5, .data⟩], none⟩ ?_ (.inl ⟨by rfl, ?_⟩) ?_
                    rotate_left
                    · (intro W hSw; (try dsimp only at hSw); go_simp; try (with_reducible rfl))
                    try simp only [Act.put, List.setIfInBounds_toArray, List.set_cons_zero, List.set_cons_succ]
                    refine wpT 10 ⟨some 69, .binOp .lss 3 (.tmp 65) (.tmp 68) 3, 4, "ref.go:30", #[⟨6, .data⟩, ⟨9, .data⟩], none⟩ ?_ (.inl ⟨by rfl, ?_⟩) ?_
                    rotate_left
                    · (intro W hSw; (try dsimp only at hSw); go_simp; try (with_reducible rfl))
                    try simp only [Act.put, List.setIfInBounds_toArray, List.set_cons_zero, List.set_cons_succ]
                    refine wpAnyH_done (by kernel_rfl) (NoPanic.normal ?_) _
                    have h13 := hHeld
                    clear hHeld
                    go_wp2
                    refine wp_region_noPanic ?_
                    refine wp_region_held_drew (S := (fun w' => Upd No w1 w')) (by kernel_rfl) ?_ (fun hHeld => ?_)
                    · (first | exact h13.drew | exact hHeld.trans hu3)
                    refine wpT 0 ⟨some 70, .fieldAddr 34 (.tmp 3) 0, 0, "ref.go:33", #[], none⟩ ?_ (.inl ⟨by rfl, ?_⟩) ?_
                    rotate_left
                    · (intro W hSw; (try dsimp only at hSw); go_simp; try (with_reducible rfl))
                    try simp only [Act.put, List.setIfInBounds_toArray, List.set_cons_zero, List.set_cons_succ]
                    refine wpT 1 ⟨some 71, .load 3 (.tmp 70), 3, "ref.go:33", #[⟨0, .data⟩], none⟩ ?_ (.inl ⟨by rfl, ?_⟩) ?_
                    rotate_left
                    · (intro W hSw; (try dsimp only at hSw); go_simp; try (with_reducible rfl))
                    try simp only [Act.put, List.setIfInBounds_toArray, List.set_cons_zero, List.set_cons_succ]
                    refine wpAnyH_ready (rs := [2]) (by kernel_rfl) (by simp) ?_
                    refine AllReadyH.cons (o := ⟨some 72, .call { callee := .value (.func 27), args := #[.tmp 71], argTypes := #[3] }, 3, "ref.go:33", #[⟨1, .data⟩], none⟩) rfl (fun K hK => ?_) AllReadyH.nil
                    go_simp
                    (first
    | (go_at_call 27; refine (HMu.out _).mono ?_; rintro e w3 ⟨rfl, hu3⟩))
                    try (go_wp2_with fail)
                    refine hK.out _ _ ?_ (fun hHeld => ?_)
                    · (first | exact h13.drew | exact hHeld.trans hu3)
                    clear hK K
                    try simp only [Act.put, List.setIfInBounds_toArray, List.set_cons_zero, List.set_cons_succ]
                    refine wpT 3 ⟨some 73, .binOp .eql 3 (.tmp 72) (.const (.int .i64 0)) 3, 4, "ref.go:33", #[⟨2, .data⟩], none⟩ ?_ (.inl ⟨by rfl, ?_⟩) ?_
                    rotate_left
                    · (intro W hSw; (try dsimp only at hSw); go_simp; try (with_reducible rfl))
                    try simp only [Act.put, List.setIfInBounds_toArray, List.set_cons_zero, List.set_cons_succ]
                    refine wpT 4 ⟨some 74, .move (.tmp 73), 4, "ref.go:33", #[⟨3, .data⟩, ⟨2, .chain⟩], none⟩ ?_ (.inl ⟨by rfl, ?_⟩) ?_
                    rotate_left
                    · (intro W hSw; (try dsimp only at hSw); go_simp; try (with_reducible rfl))
                    try simp only [Act.put, List.setIfInBounds_toArray, List.set_cons_zero, List.set_cons_succ]
                    refine wpT 5 ⟨some 75, .fieldAddr 34 (.tmp 3) 1, 0, "ref.go:33", #[⟨4, .guard⟩], some (4, false)⟩ ?_ (.inl ⟨by rfl, ?_⟩) ?_
                    rotate_left
                    · (intro W hSw; (try dsimp only at hSw); go_simp; try (with_reducible rfl))
                    try simp only [Act.put, List.setIfInBounds_toArray, List.set_cons_zero, List.set_cons_succ]
                    refine wpT 6 ⟨some 76, .load 32 (.tmp 75), 32, "ref.go:33", #[⟨5, .data⟩, ⟨4, .guard⟩], some (4, false)⟩ ?_ (.inl ⟨by rfl, ?_⟩) ?_
                    rotate_left
                    · (intro W hSw; (try dsimp only at hSw); go_simp; try (with_reducible rfl))
                    try simp only [Act.put, List.setIfInBounds_toArray, List.set_cons_zero, List.set_cons_succ]
                    refine wpT 7 ⟨some 77, .fieldAddr 34 (.tmp 3) 0, 0, "ref.go:33", #[⟨4, .guard⟩], some (4, false)⟩ ?_ (.inl ⟨by rfl, ?_⟩) ?_
                    rotate_left
                    · (intro W hSw; (try dsimp only at hSw); go_simp; try (with_reducible rfl))
                    try simp only [Act.put, List.setIfInBounds_toArray, List.set_cons_zero, List.set_cons_succ]
                    refine wpT 8 ⟨some 78, .load 3 (.tmp 77), 3, "ref.go:33", #[⟨7, .data⟩, ⟨4, .guard⟩], some (4, false)⟩ ?_ (.inl ⟨by rfl, ?_⟩) ?_
                    rotate_left
                    · (intro W hSw; (try dsimp only at hSw); go_simp; try (with_reducible rfl))
                    try simp only [Act.put, List.setIfInBounds_toArray, List.set_cons_zero, List.set_cons_succ]
                    refine wpAnyH_ready (rs := [9]) (by kernel_rfl) (by simp) ?_
                    refine AllReadyH.cons (o := ⟨some 79, .call { callee := .value (.func 27), args := #[.tmp 78], argTypes := #[3] }, 3, "ref.go:33", #[⟨8, .data⟩, ⟨4, .chain⟩, ⟨4, .guard⟩], some (4, false)⟩) rfl (fun K hK => ?_) AllReadyH.nil
                    go_simp
                    (first
    | (go_at_call 27; refine (HMu.out _).mono ?_; rintro e w3 ⟨rfl, hu3⟩))
                    try (go_wp2_with fail)
                    refine hK.out _ _ ?_ (fun hHeld => ?_)
                    · (first | exact h13.drew | exact hHeld.trans hu3)
                    clear hK K
                    try simp only [Act.put, List.setIfInBounds_toArray, List.set_cons_zero, List.set_cons_succ]
                    refine wpAnyH_ready (rs := [10]) (by kernel_rfl) (by simp) ?_
                    refine AllReadyH.cons (o := ⟨some 80, .call { callee := .value (.func 26), args := #[.tmp 76, .tmp 79], argTypes := #[32, 3] }, 32, "ref.go:33", #[⟨6, .data⟩, ⟨9, .data⟩, ⟨9, .chain⟩, ⟨4, .guard⟩], some (4, false)⟩) rfl (fun K hK => ?_) AllReadyH.nil
                    go_simp
                    (first
    | (go_at_call 26; refine (HO2.out _ hHeld).mono ?_; rintro e w3 ⟨A7, c7, rfl, ho7, hu3⟩))
                    try (go_wp2_with fail)
                    refine hK.out _ _ ?_ (fun hHeld => ?_)
                    · (first | exact h13.drew | exact hHeld.trans hu3)
                    clear hK K
                    try simp only [Act.put, List.setIfInBounds_toArray, List.set_cons_zero, List.set_cons_succ]
                    refine wpT 11 ⟨some 81, .call { callee := .builtin .len, args := #[.tmp 80], argTypes := #[32] }, 3, "ref.go:33", #[⟨10, .data⟩, ⟨4, .guard⟩], some (4, false)⟩ ?_ (.inl ⟨by rfl, ?_⟩) ?_
                    rotate_left
                    · (intro W hSw; (try dsimp only at hSw); go_simp; try (with_reducible rfl))
                    try simp only [Act.put, List.setIfInBounds_toArray, List.set_cons_zero, List.set_cons_succ]
                    refine wpT 12 ⟨some 82, .binOp .gtr 3 (.tmp 81) (.const (.int .i64 0)) 3, 4, "ref.go:33", #[⟨11, .data⟩, ⟨4, .guard⟩], some (4, false)⟩ ?_ (.inl ⟨by rfl, ?_⟩) ?_
                    rotate_left
                    · (intro W hSw; (try dsimp only at hSw); go_simp; try (with_reducible rfl))
                    try simp only [Act.put, List.setIfInBounds_toArray, List.set_cons_zero, List.set_cons_succ]
                    refine wpT 13 ⟨some 83, .pick (.tmp 74) (.const (.bool true)) (.tmp 82), 4, "ref.go:33", #[⟨4, .data⟩, ⟨12, .data⟩], none⟩ ?_ (.inl ⟨by rfl, ?_⟩) ?_
                    rotate_left
                    · (intro W hSw; (try dsimp only at hSw); go_simp; try (with_reducible rfl))
                    try simp only [Act.put, List.setIfInBounds_toArray, List.set_cons_zero, List.set_cons_succ]
                    refine wpT 14 ⟨some 4, .assign (.tmp 83), 4, "ref.go:33", #[⟨13, .data⟩, ⟨10, .chain⟩, ⟨0, .phase⟩, ⟨1, .phase⟩, ⟨2, .phase⟩, ⟨3, .phase⟩, ⟨4, .phase⟩, ⟨5, .phase⟩, ⟨6, .phase⟩, ⟨7, .phase⟩, ⟨8, .phase⟩, ⟨9, .phase⟩, ⟨10, .phase⟩, ⟨11, .phase⟩, ⟨12, .phase⟩, ⟨13, .phase⟩], none⟩ ?_ (.inl ⟨by rfl, ?_⟩) ?_
                    rotate_left
                    · (intro W hSw; (try dsimp only at hSw); go_simp; try (with_reducible rfl))
                    try simp only [Act.put, List.setIfInBounds_toArray, List.set_cons_zero, List.set_cons_succ]
                    refine wpAnyH_done (by kernel_rfl) (NoPanic.normal ?_) _
                    have HU := Lib.hid (U1.out.trans hHeld)
                    clear hHeld h13
                    go_wp2
                    go_ret
                    exact ⟨by rw [HV.out, ← HQ.out]; simp, HU.out⟩
end Go.Proofs.YtgakhpdclhlmpaaGreat
