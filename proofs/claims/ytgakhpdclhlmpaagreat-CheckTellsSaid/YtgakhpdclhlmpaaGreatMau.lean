/- Looking at a history: the law that whether edges, reads and witnesses are right is what the document says. -/
import Derived.Test.YtgakhpdclhlmpaaGreatMat
namespace Go.Proofs.YtgakhpdclhlmpaaGreat
set_option linter.unusedVariables false
open Go.RowKit
theorem lightT {F : Nat → Prop} {w : World} {txs : List HTx} {ords : List HOrd} {A : Option Addr} {c : Nat} {B : Option Addr} {d : Nat} {v : Bool} (H : Hist.lies F w ⟨txs, ords, A, c, B, d⟩) (hv : lightB ⟨txs, ords, A, c, B, d⟩ = v) :
    Calls Tryz.prog 4 #[.agg #[.slice A txs.length c, .slice B ords.length d]] w fun e w' => e = .returned (.bool v) ∧ Upd No w w' := by subst hv; exact rlight F w ⟨txs, ords, A, c, B, d⟩ H
theorem count_v (h : Hist) (e : Edge) : decide (0 < countR h e) = (rightB h && edgeB h e) := by
  unfold countR
  cases hr : rightB h
  · rfl
  · rw [if_pos rfl, cnt_edge hr]; rfl
theorem bads_v (h : Hist) (p : Int) (b : HBad) : (badsR h p).contains b = (rightB h && badB h.txs p b) := by
  cases hr : rightB h
  · unfold badsR; rw [hr]; rfl
  · rw [bads_bad hr]; rfl
set_option maxRecDepth 100000 in
set_option maxHeartbeats 16000000 in
theorem tells32 (F G : Nat → Prop) (w : World) (txs : List HTx) (ords : List HOrd) (A : Option Addr) (c : Nat) (B : Option Addr) (d : Nat) (ef et ek ey p x pl vt vk vn q : Int) (X : Option Addr) (xc : Nat) (l : List Edge) (bx bp bt bk bn : Int)
    (H : Hist.lies F w ⟨txs, ords, A, c, B, d⟩) (W : Walk G w X l) (hl4 : l.length ≤ 4398046511103)
    (L : Hid (∀ w, Calls Tryz.prog 5 #[] w fun e w' => e = .returned (.bool true) ∧ Upd No w w')) :
    Calls Tryz.prog 3 #[.agg #[.slice A txs.length c, .slice B ords.length d], .agg #[.int .i64 ef, .int .i64 et, .int .i64 ek, .int .i64 ey], .int .i64 p, .agg #[.int .i64 x, .int .i64 pl, .int .i64 vt, .int .i64 vk, .int .i64 vn],
      .agg #[.int .i64 q, .slice X l.length xc, .int .i64 bx, .int .i64 bp, .int .i64 bt, .int .i64 bk, .int .i64 bn]] w fun e w' => e = .returned (.bool true) ∧ Upd No w w' := by
  have u0 := ((((Upd.refl No w).alloc (.cells #[.slice A txs.length c, .slice B ords.length d] 25)).alloc (.cells #[.int .i64 ef, .int .i64 et, .int .i64 ek, .int .i64 ey] 27)).alloc (.cells #[.int .i64 x, .int .i64 pl, .int .i64 vt, .int .i64 vk, .int .i64 vn] 31)).alloc (.cells #[.int .i64 q, .slice X l.length xc, .int .i64 bx, .int .i64 bp, .int .i64 bt, .int .i64 bk, .int .i64 bn] 34)
  have BH := Lib.hid ((((Blk.new w 25 [.slice A txs.length c, .slice B ords.length d]).alloc (.cells #[.int .i64 ef, .int .i64 et, .int .i64 ek, .int .i64 ey] 27)).alloc (.cells #[.int .i64 x, .int .i64 pl, .int .i64 vt, .int .i64 vk, .int .i64 vn] 31)).alloc (.cells #[.int .i64 q, .slice X l.length xc, .int .i64 bx, .int .i64 bp, .int .i64 bt, .int .i64 bk, .int .i64 bn] 34))
  have b1 := ((Blk.new (w.alloc (.cells #[.slice A txs.length c, .slice B ords.length d] 25)) 27 [.int .i64 ef, .int .i64 et, .int .i64 ek, .int .i64 ey]).alloc (.cells #[.int .i64 x, .int .i64 pl, .int .i64 vt, .int .i64 vk, .int .i64 vn] 31)).alloc (.cells #[.int .i64 q, .slice X l.length xc, .int .i64 bx, .int .i64 bp, .int .i64 bt, .int .i64 bk, .int .i64 bn] 34)
  have b2 := (Blk.new ((w.alloc (.cells #[.slice A txs.length c, .slice B ords.length d] 25)).alloc (.cells #[.int .i64 ef, .int .i64 et, .int .i64 ek, .int .i64 ey] 27)) 31 [.int .i64 x, .int .i64 pl, .int .i64 vt, .int .i64 vk, .int .i64 vn]).alloc (.cells #[.int .i64 q, .slice X l.length xc, .int .i64 bx, .int .i64 bp, .int .i64 bt, .int .i64 bk, .int .i64 bn] 34)
  have b3 := Blk.new (((w.alloc (.cells #[.slice A txs.length c, .slice B ords.length d] 25)).alloc (.cells #[.int .i64 ef, .int .i64 et, .int .i64 ek, .int .i64 ey] 27)).alloc (.cells #[.int .i64 x, .int .i64 pl, .int .i64 vt, .int .i64 vk, .int .i64 vn] 31)) 34 [.int .i64 q, .slice X l.length xc, .int .i64 bx, .int .i64 bp, .int .i64 bt, .int .i64 bk, .int .i64 bn]
  simp only [World.size_alloc] at b1 b2 b3
  have B1 := Lib.hid b1
  have B2 := Lib.hid b2
  have B3 := Lib.hid b3
  have U0 := Lib.hid u0
  clear u0 b1 b2 b3
  go_enter Tryz.func3, Tryz.ntmps3
  cases hlg : lightB ⟨txs, ords, A, c, B, d⟩
  · have Hlg := Lib.hid hlg
    clear hlg
    go_wp2_with fail
    refine (lightT (H.upd U0.out (fun _ _ => id)) Hlg.out).mono ?_
    rintro e w2 ⟨rfl, hu2⟩
    have HU := Lib.hid (U0.out.trans hu2)
    clear hu2
    go_wp2_with fail
    refine (L.out _).mono ?_
    rintro e w3 ⟨rfl, hu3⟩
    go_wp2
    go_ret
    exact ⟨rfl, HU.out.trans hu3⟩
  · have Hlg := Lib.hid hlg
    clear hlg
    go_wp2_with fail
    refine (lightT (H.upd U0.out (fun _ _ => id)) Hlg.out).mono ?_
    rintro e w2 ⟨rfl, hu2⟩
    have HU := Lib.hid (U0.out.trans hu2)
    have g0 : ∀ W, Upd No w2 W → W.cell? ⟨w.heap.size, 0, none⟩ = some (.slice A txs.length c) := fun W hW => (BH.out.upd (hu2.trans hW) id).cell 0
    have g1 : ∀ W, Upd No w2 W → W.cell? ⟨w.heap.size, 1, none⟩ = some (.slice B ords.length d) := fun W hW => (BH.out.upd (hu2.trans hW) id).cell 1
    have e0 : ∀ W, Upd No w2 W → W.cell? ⟨w.heap.size + 1, 0, none⟩ = some (.int .i64 ef) := fun W hW => (B1.out.upd (hu2.trans hW) id).cell 0
    have e1 : ∀ W, Upd No w2 W → W.cell? ⟨w.heap.size + 1, 1, none⟩ = some (.int .i64 et) := fun W hW => (B1.out.upd (hu2.trans hW) id).cell 1
    have e2 : ∀ W, Upd No w2 W → W.cell? ⟨w.heap.size + 1, 2, none⟩ = some (.int .i64 ek) := fun W hW => (B1.out.upd (hu2.trans hW) id).cell 2
    have e3 : ∀ W, Upd No w2 W → W.cell? ⟨w.heap.size + 1, 3, none⟩ = some (.int .i64 ey) := fun W hW => (B1.out.upd (hu2.trans hW) id).cell 3
    have k0 : ∀ W, Upd No w2 W → W.cell? ⟨w.heap.size + 1 + 1, 0, none⟩ = some (.int .i64 x) := fun W hW => (B2.out.upd (hu2.trans hW) id).cell 0
    have k1 : ∀ W, Upd No w2 W → W.cell? ⟨w.heap.size + 1 + 1, 1, none⟩ = some (.int .i64 pl) := fun W hW => (B2.out.upd (hu2.trans hW) id).cell 1
    have k2 : ∀ W, Upd No w2 W → W.cell? ⟨w.heap.size + 1 + 1, 2, none⟩ = some (.int .i64 vt) := fun W hW => (B2.out.upd (hu2.trans hW) id).cell 2
    have k3 : ∀ W, Upd No w2 W → W.cell? ⟨w.heap.size + 1 + 1, 3, none⟩ = some (.int .i64 vk) := fun W hW => (B2.out.upd (hu2.trans hW) id).cell 3
    have k4 : ∀ W, Upd No w2 W → W.cell? ⟨w.heap.size + 1 + 1, 4, none⟩ = some (.int .i64 vn) := fun W hW => (B2.out.upd (hu2.trans hW) id).cell 4
    have y0 : ∀ W, Upd No w2 W → W.cell? ⟨w.heap.size + 1 + 1 + 1, 0, none⟩ = some (.int .i64 q) := fun W hW => (B3.out.upd (hu2.trans hW) id).cell 0
    have y1 : ∀ W, Upd No w2 W → W.cell? ⟨w.heap.size + 1 + 1 + 1, 1, none⟩ = some (.slice X l.length xc) := fun W hW => (B3.out.upd (hu2.trans hW) id).cell 1
    have y2 : ∀ W, Upd No w2 W → W.cell? ⟨w.heap.size + 1 + 1 + 1, 2, none⟩ = some (.int .i64 bx) := fun W hW => (B3.out.upd (hu2.trans hW) id).cell 2
    have y3 : ∀ W, Upd No w2 W → W.cell? ⟨w.heap.size + 1 + 1 + 1, 3, none⟩ = some (.int .i64 bp) := fun W hW => (B3.out.upd (hu2.trans hW) id).cell 3
    have y4 : ∀ W, Upd No w2 W → W.cell? ⟨w.heap.size + 1 + 1 + 1, 4, none⟩ = some (.int .i64 bt) := fun W hW => (B3.out.upd (hu2.trans hW) id).cell 4
    have y5 : ∀ W, Upd No w2 W → W.cell? ⟨w.heap.size + 1 + 1 + 1, 5, none⟩ = some (.int .i64 bk) := fun W hW => (B3.out.upd (hu2.trans hW) id).cell 5
    have y6 : ∀ W, Upd No w2 W → W.cell? ⟨w.heap.size + 1 + 1 + 1, 6, none⟩ = some (.int .i64 bn) := fun W hW => (B3.out.upd (hu2.trans hW) id).cell 6
    have hr : Upd No w2 w2 := Upd.refl _ _
    clear hu2
    by_cases hl : 60 < l.length
    · have hl2 : (60 : Int) < (l.length : Int) := by omega
      clear hl
      go_wp2_with fail
      refine (L.out _).mono ?_
      rintro e w3 ⟨rfl, hu3⟩
      go_wp2
      go_ret
      exact ⟨rfl, HU.out.trans hu3⟩
    · have hl2 : ¬ (60 : Int) < (l.length : Int) := by omega
      obtain ⟨v1, hv1⟩ : ∃ v, (rightB ⟨txs, ords, A, c, B, d⟩ && edgeB ⟨txs, ords, A, c, B, d⟩ ⟨ef, et, ek, ey⟩) = v := ⟨_, rfl⟩
      obtain ⟨v2, hv2⟩ : ∃ v, (rightB ⟨txs, ords, A, c, B, d⟩ && badB txs p ⟨x, pl, ⟨vt, vk, vn⟩⟩) = v := ⟨_, rfl⟩
      obtain ⟨v3, hv3⟩ : ∃ v, acceptB ⟨txs, ords, A, c, B, d⟩ q l ⟨bx, bp, ⟨bt, bk, bn⟩⟩ = v := ⟨_, rfl⟩
      have hH := fun W (hq : Upd No w2 W) => H.upd (HU.out.trans hq) (fun _ _ => id)
      have HE := Lib.hid fun W (hq : Upd No w2 W) => cEdgeV (e := ⟨ef, et, ek, ey⟩) (hH W hq) rfl rfl hv1
      have HRd := Lib.hid fun W (hq : Upd No w2 W) => cReadV (p := p) (x := x) (pl := pl) (vt := vt) (vk := vk) (vn := vn) (hH W hq) rfl rfl hv2
      have HA := Lib.hid fun W (hq : Upd No w2 W) => caccV (xc := xc) (hH W hq) ⟨_, Walk.upd ‹Walk G w X l› (HU.out.trans hq) (fun _ _ => id)⟩ (by omega) rfl rfl rfl hv3
      have ha2 := fun W (hq : Upd No w2 W) => rAccept F G W txs ords A c B d q X xc l bx bp bt bk bn (hH W hq) (Walk.upd ‹Walk G w X l› (HU.out.trans hq) (fun _ _ => id)) (by omega)
      simp only [acceptR_eq, hv3] at ha2
      have HA2 := Lib.hid ha2
      have hc := fun W (hq : Upd No w2 W) => rCount16 F W txs ords A c B d ⟨ef, et, ek, ey⟩ (hH W hq)
      have hcv := count_v ⟨txs, ords, A, c, B, d⟩ ⟨ef, et, ek, ey⟩
      rw [hv1] at hcv
      obtain ⟨n, hn⟩ : ∃ n, countR ⟨txs, ords, A, c, B, d⟩ ⟨ef, et, ek, ey⟩ = n := ⟨_, rfl⟩
      simp only [hn] at hc hcv
      have HC := Lib.hid hc
      have hnd : decide (0 < n) = v1 := hcv
      have hnd2 : (v1 == decide (0 < n)) = true := by rw [hnd]; simp
      have ho := fun W (hq : Upd No w2 W) => rOf18 F W txs ords A c B d p (hH W hq)
      have hbv := bads_v ⟨txs, ords, A, c, B, d⟩ p ⟨x, pl, ⟨vt, vk, vn⟩⟩
      have hbl := badsR_len ⟨txs, ords, A, c, B, d⟩ p
      rw [hv2] at hbv
      obtain ⟨bl, hbl2⟩ : ∃ bl, badsR ⟨txs, ords, A, c, B, d⟩ p = bl := ⟨_, rfl⟩
      simp only [hbl2] at ho hbv hbl
      have HO := Lib.hid ho
      have hi := fun W A6 c6 (G6 : Nat → Prop) (hI : Bads G6 W A6 bl) => rIn18 G6 W A6 c6 bl ⟨x, pl, ⟨vt, vk, vn⟩⟩ hI hbl
      rw [hbv] at hi
      have HI := Lib.hid hi
      have hvv1 : (v1 == v1) = true := by simp
      clear hH ha2 hc ho hi hv1 hv2 hv3 hn hbl2 hbv hbl hl hcv
      go_wp2
      refine wp_region_noPanic ?_
      refine wp_region_held_drew (S := (fun w' => Upd No w2 w')) (by kernel_rfl) ?_ (fun hHeld => ?_)
      · (first | exact hr.drew | exact hHeld.trans hu3)
      refine wpT 0 ⟨some 21, .load 25 (.tmp 5), 25, "law.go:33", #[], none⟩ ?_ (.inl ⟨by rfl, ?_⟩) ?_
      rotate_left
      · (intro W hSw; (try dsimp only at hSw); go_simp; try (with_reducible rfl))
      try simp only [Act.put, List.setIfInBounds_toArray, List.set_cons_zero, List.set_cons_succ]
      refine wpT 1 ⟨some 22, .load 27 (.tmp 6), 27, "law.go:33", #[], none⟩ ?_ (.inl ⟨by rfl, ?_⟩) ?_
      rotate_left
      · (intro W hSw; (try dsimp only at hSw); go_simp; try (with_reducible rfl))
      try simp only [Act.put, List.setIfInBounds_toArray, List.set_cons_zero, List.set_cons_succ]
      refine wpT 3 ⟨some 24, .load 25 (.tmp 5), 25, "law.go:33", #[], none⟩ ?_ (.inl ⟨by rfl, ?_⟩) ?_
      rotate_left
      · (intro W hSw; (try dsimp only at hSw); go_simp; try (with_reducible rfl))
      try simp only [Act.put, List.setIfInBounds_toArray, List.set_cons_zero, List.set_cons_succ]
      refine wpT 4 ⟨some 25, .load 27 (.tmp 6), 27, "law.go:33", #[], none⟩ ?_ (.inl ⟨by rfl, ?_⟩) ?_
      rotate_left
      · (intro W hSw; (try dsimp only at hSw); go_simp; try (with_reducible rfl))
      try simp only [Act.put, List.setIfInBounds_toArray, List.set_cons_zero, List.set_cons_succ]
      refine wpAnyH_ready (rs := [2]) (by kernel_rfl) (by simp) ?_
      refine AllReadyH.cons (o := ⟨some 23, .call { callee := .value (.func 6), args := #[.tmp 21, .tmp 22], argTypes := #[25, 27] }, 4, "law.go:33", #[⟨0, .data⟩, ⟨1, .data⟩], none⟩) rfl (fun K hK => ?_) AllReadyH.nil
      go_simp
      (first
    | (go_at_call 6; refine (HE.out _ hHeld).mono ?_; rintro e w3 ⟨rfl, hu3⟩))
      try (go_wp2_with fail)
      refine hK.out _ _ ?_ (fun hHeld => ?_)
      · (first | exact hr.drew | exact hHeld.trans hu3)
      clear hK K
      try simp only [Act.put, List.setIfInBounds_toArray, List.set_cons_zero, List.set_cons_succ]
      refine wpAnyH_ready (rs := [5]) (by kernel_rfl) (by simp) ?_
      refine AllReadyH.cons (o := ⟨some 26, .call { callee := .value (.func 7), args := #[.tmp 24, .tmp 25], argTypes := #[25, 27] }, 3, "law.go:33", #[⟨3, .data⟩, ⟨4, .data⟩, ⟨2, .chain⟩], none⟩) rfl (fun K hK => ?_) AllReadyH.nil
      go_simp
      (first
    | (go_at_call 7; refine (HC.out _ hHeld).mono ?_; rintro e w3 ⟨rfl, hu3⟩))
      try (go_wp2_with fail)
      refine hK.out _ _ ?_ (fun hHeld => ?_)
      · (first | exact hr.drew | exact hHeld.trans hu3)
      clear hK K
      try simp only [Act.put, List.setIfInBounds_toArray, List.set_cons_zero, List.set_cons_succ]
      refine wpT 6 ⟨some 27, .binOp .gtr 3 (.tmp 26) (.const (.int .i64 0)) 3, 4, "law.go:33", #[⟨5, .data⟩], none⟩ ?_ (.inl ⟨by rfl, ?_⟩) ?_
      rotate_left
      · (intro W hSw; (try dsimp only at hSw); go_simp; try (with_reducible rfl))
      try simp only [Act.put, List.setIfInBounds_toArray, List.set_cons_zero, List.set_cons_succ]
      refine wpT 7 ⟨some 28, .binOp .eql 4 (.tmp 23) (.tmp 27) 4, 4, "law.go:33", #[⟨2, .data⟩, ⟨6, .data⟩], none⟩ ?_ (.inl ⟨by rfl, ?_⟩) ?_
      rotate_left
      · (intro W hSw; (try dsimp only at hSw); go_simp; try (with_reducible rfl))
      try simp only [Act.put, List.setIfInBounds_toArray, List.set_cons_zero, List.set_cons_succ]
      refine wpT 8 ⟨some 29, .move (.tmp 28), 4, "law.go:33", #[⟨7, .data⟩, ⟨5, .chain⟩], none⟩ ?_ (.inl ⟨by rfl, ?_⟩) ?_
      rotate_left
      · (intro W hSw; (try dsimp only at hSw); go_simp; try (with_reducible rfl))
      try simp only [Act.put, List.setIfInBounds_toArray, List.set_cons_zero, List.set_cons_succ]
      refine wpT 9 ⟨some 30, .load 25 (.tmp 5), 25, "law.go:33", #[⟨8, .guard⟩], some (8, true)⟩ ?_ (.inl ⟨by rfl, ?_⟩) ?_
      rotate_left
      · (intro W hSw; (try dsimp only at hSw); go_simp; try (with_reducible rfl))
      try simp only [Act.put, List.setIfInBounds_toArray, List.set_cons_zero, List.set_cons_succ]
      refine wpT 10 ⟨some 31, .move (.tmp 2), 3, "law.go:33", #[⟨8, .guard⟩], some (8, true)⟩ ?_ (.inl ⟨by rfl, ?_⟩) ?_
      rotate_left
      · (intro W hSw; (try dsimp only at hSw); go_simp; try (with_reducible rfl))
      try simp only [Act.put, List.setIfInBounds_toArray, List.set_cons_zero, List.set_cons_succ]
      refine wpT 11 ⟨some 32, .load 31 (.tmp 8), 31, "law.go:33", #[⟨8, .guard⟩], some (8, true)⟩ ?_ (.inl ⟨by rfl, ?_⟩) ?_
      rotate_left
      · (intro W hSw; (try dsimp only at hSw); go_simp; try (with_reducible rfl))
      try simp only [Act.put, List.setIfInBounds_toArray, List.set_cons_zero, List.set_cons_succ]
      refine wpT 13 ⟨some 34, .load 25 (.tmp 5), 25, "law.go:33", #[⟨8, .guard⟩], some (8, true)⟩ ?_ (.inl ⟨by rfl, ?_⟩) ?_
      rotate_left
      · (intro W hSw; (try dsimp only at hSw); go_simp; try (with_reducible rfl))
      try simp only [Act.put, List.setIfInBounds_toArray, List.set_cons_zero, List.set_cons_succ]
      refine wpT 14 ⟨some 35, .move (.tmp 2), 3, "law.go:33", #[⟨8, .guard⟩], some (8, true)⟩ ?_ (.inl ⟨by rfl, ?_⟩) ?_
      rotate_left
      · (intro W hSw; (try dsimp only at hSw); go_simp; try (with_reducible rfl))
      try simp only [Act.put, List.setIfInBounds_toArray, List.set_cons_zero, List.set_cons_succ]
      refine wpT 16 ⟨some 37, .load 31 (.tmp 8), 31, "law.go:33", #[⟨8, .guard⟩], some (8, true)⟩ ?_ (.inl ⟨by rfl, ?_⟩) ?_
      rotate_left
      · (intro W hSw; (try dsimp only at hSw); go_simp; try (with_reducible rfl))
      try simp only [Act.put, List.setIfInBounds_toArray, List.set_cons_zero, List.set_cons_succ]
      refine wpAnyH_ready (rs := [12]) (by kernel_rfl) (by simp) ?_
      refine AllReadyH.cons (o := ⟨some 33, .call { callee := .value (.func 8), args := #[.tmp 30, .tmp 31, .tmp 32], argTypes := #[25, 3, 31] }, 4, "law.go:33", #[⟨9, .data⟩, ⟨10, .data⟩, ⟨11, .data⟩, ⟨8, .chain⟩, ⟨8, .guard⟩], some (8, true)⟩) rfl (fun K hK => ?_) AllReadyH.nil
      go_simp
      (first
    | (go_at_call 8; refine (HRd.out _ hHeld).mono ?_; rintro e w3 ⟨rfl, hu3⟩))
      try (go_wp2_with fail)
      refine hK.out _ _ ?_ (fun hHeld => ?_)
      · (first | exact hr.drew | exact hHeld.trans hu3)
      clear hK K
      try simp only [Act.put, List.setIfInBounds_toArray, List.set_cons_zero, List.set_cons_succ]
      refine wpAnyH_ready (rs := [15]) (by kernel_rfl) (by simp) ?_
      refine AllReadyH.cons (o := ⟨some 36, .call { callee := .value (.func 10), args := #[.tmp 34, .tmp 35], argTypes := #[25, 3] }, 41, "law.go:33", #[⟨13, .data⟩, ⟨14, .data⟩, ⟨12, .chain⟩, ⟨8, .guard⟩], some (8, true)⟩) rfl (fun K hK => ?_) AllReadyH.nil
      go_simp
      (first
    | (go_at_call 10; refine (HO.out _ hHeld).mono ?_; rintro e w3 ⟨A6, c6, rfl, ho6, hu3⟩; have hI6 := bads_new_own ho6))
      try (go_wp2_with fail)
      refine hK.out _ _ ?_ (fun hHeld => ?_)
      · (first | exact hr.drew | exact hHeld.trans hu3)
      clear hK K
      try simp only [Act.put, List.setIfInBounds_toArray, List.set_cons_zero, List.set_cons_succ]
      refine wpAnyH_ready (rs := [17]) (by kernel_rfl) (by simp) ?_
      refine AllReadyH.cons (o := ⟨some 38, .call { callee := .value (.func 9), args := #[.tmp 36, .tmp 37], argTypes := #[41, 31] }, 4, "law.go:33", #[⟨15, .data⟩, ⟨16, .data⟩, ⟨15, .chain⟩, ⟨8, .guard⟩], some (8, true)⟩) rfl (fun K hK => ?_) AllReadyH.nil
      go_simp
      (first
    | (go_at_call 9; refine (HI.out _ A6 c6 _ hI6).mono ?_; rintro e w3 ⟨rfl, hu3⟩))
      try (go_wp2_with fail)
      refine hK.out _ _ ?_ (fun hHeld => ?_)
      · (first | exact hr.drew | exact hHeld.trans hu3)
      clear hK K
      try simp only [Act.put, List.setIfInBounds_toArray, List.set_cons_zero, List.set_cons_succ]
      refine wpT 18 ⟨some 39, .binOp .eql 4 (.tmp 33) (.tmp 38) 4, 4, "law.go:33", #[⟨12, .data⟩, ⟨17, .data⟩, ⟨8, .guard⟩], some (8, true)⟩ ?_ (.inl ⟨by rfl, ?_⟩) ?_
      rotate_left
      · (intro W hSw; (try dsimp only at hSw); go_simp; try (with_reducible rfl))
      try simp only [Act.put, List.setIfInBounds_toArray, List.set_cons_zero, List.set_cons_succ]
      refine wpT 19 ⟨some 40, .pick (.tmp 29) (.tmp 39) (.const (.bool false)), 4, "law.go:33", #[⟨8, .data⟩, ⟨18, .data⟩], none⟩ ?_ (.inl ⟨by rfl, ?_⟩) ?_
      rotate_left
      · (intro W hSw; (try dsimp only at hSw); go_simp; try (with_reducible rfl))
      try simp only [Act.put, List.setIfInBounds_toArray, List.set_cons_zero, List.set_cons_succ]
      refine wpT 20 ⟨some 41, .move (.tmp 40), 4, "law.go:33", #[⟨19, .data⟩, ⟨17, .chain⟩], none⟩ ?_ (.inl ⟨by rfl, ?_⟩) ?_
      rotate_left
      · (intro W hSw; (try dsimp only at hSw); go_simp; try (with_reducible rfl))
      try simp only [Act.put, List.setIfInBounds_toArray, List.set_cons_zero, List.set_cons_succ]
      refine wpT 21 ⟨some 42, .load 25 (.tmp 5), 25, "law.go:33", #[⟨20, .guard⟩], some (20, true)⟩ ?_ (.inl ⟨by rfl, ?_⟩) ?_
      rotate_left
      · (intro W hSw; (try dsimp only at hSw); go_simp; try (with_reducible rfl))
      try simp only [Act.put, List.setIfInBounds_toArray, List.set_cons_zero, List.set_cons_succ]
      refine wpT 22 ⟨some 43, .load 34 (.tmp 9), 34, "law.go:33", #[⟨20, .guard⟩], some (20, true)⟩ ?_ (.inl ⟨by rfl, ?_⟩) ?_
      rotate_left
      · (intro W hSw; (try dsimp only at hSw); go_simp; try (with_reducible rfl))
      try simp only [Act.put, List.setIfInBounds_toArray, List.set_cons_zero, List.set_cons_succ]
      refine wpT 24 ⟨some 45, .load 25 (.tmp 5), 25, "law.go:33", #[⟨20, .guard⟩], some (20, true)⟩ ?_ (.inl ⟨by rfl, ?_⟩) ?_
      rotate_left
      · (intro W hSw; (try dsimp only at hSw); go_simp; try (with_reducible rfl))
      try simp only [Act.put, List.setIfInBounds_toArray, List.set_cons_zero, List.set_cons_succ]
      refine wpT 25 ⟨some 46, .load 34 (.tmp 9), 34, "law.go:33", #[⟨20, .guard⟩], some (20, true)⟩ ?_ (.inl ⟨by rfl, ?_⟩) ?_
      rotate_left
      · (intro W hSw; (try dsimp only at hSw); go_simp; try (with_reducible rfl))
      try simp only [Act.put, List.setIfInBounds_toArray, List.set_cons_zero, List.set_cons_succ]
      refine wpAnyH_ready (rs := [23]) (by kernel_rfl) (by simp) ?_
      refine AllReadyH.cons (o := ⟨some 44, .call { callee := .value (.func 11), args := #[.tmp 42, .tmp 43], argTypes := #[25, 34] }, 4, "law.go:33", #[⟨21, .data⟩, ⟨22, .data⟩, ⟨20, .chain⟩, ⟨20, .guard⟩], some (20, true)⟩) rfl (fun K hK => ?_) AllReadyH.nil
      go_simp
      (first
    | (go_at_call 11; refine (HA.out _ hHeld).mono ?_; rintro e w3 ⟨rfl, hu3⟩))
      try (go_wp2_with fail)
      refine hK.out _ _ ?_ (fun hHeld => ?_)
      · (first | exact hr.drew | exact hHeld.trans hu3)
      clear hK K
      try simp only [Act.put, List.setIfInBounds_toArray, List.set_cons_zero, List.set_cons_succ]
      refine wpAnyH_ready (rs := [26]) (by kernel_rfl) (by simp) ?_
      refine AllReadyH.cons (o := ⟨some 47, .call { callee := .value (.func 12), args := #[.tmp 45, .tmp 46], argTypes := #[25, 34] }, 4, "law.go:33", #[⟨24, .data⟩, ⟨25, .data⟩, ⟨23, .chain⟩, ⟨20, .guard⟩], some (20, true)⟩) rfl (fun K hK => ?_) AllReadyH.nil
      go_simp
      (first
    | (go_at_call 12; refine (HA2.out _ hHeld).mono ?_; rintro e w3 ⟨rfl, hu3⟩))
      try (go_wp2_with fail)
      refine hK.out _ _ ?_ (fun hHeld => ?_)
      · (first | exact hr.drew | exact hHeld.trans hu3)
      clear hK K
      try simp only [Act.put, List.setIfInBounds_toArray, List.set_cons_zero, List.set_cons_succ]
      refine wpT 27 ⟨some 48, .binOp .eql 4 (.tmp 44) (.tmp 47) 4, 4, "law.go:33", #[⟨23, .data⟩, ⟨26, .data⟩, ⟨20, .guard⟩], some (20, true)⟩ ?_ (.inl ⟨by rfl, ?_⟩) ?_
      rotate_left
      · (intro W hSw; (try dsimp only at hSw); go_simp; try (with_reducible rfl))
      try simp only [Act.put, List.setIfInBounds_toArray, List.set_cons_zero, List.set_cons_succ]
      refine wpT 28 ⟨some 49, .pick (.tmp 41) (.tmp 48) (.const (.bool false)), 4, "law.go:33", #[⟨20, .data⟩, ⟨27, .data⟩], none⟩ ?_ (.inl ⟨by rfl, ?_⟩) ?_
      rotate_left
      · (intro W hSw; (try dsimp only at hSw); go_simp; try (with_reducible rfl))
      try simp only [Act.put, List.setIfInBounds_toArray, List.set_cons_zero, List.set_cons_succ]
      refine wpT 29 ⟨some 50, .move (.tmp 49), 4, "law.go:33", #[⟨28, .data⟩, ⟨26, .chain⟩], none⟩ ?_ (.inl ⟨by rfl, ?_⟩) ?_
      rotate_left
      · (intro W hSw; (try dsimp only at hSw); go_simp; try (with_reducible rfl))
      try simp only [Act.put, List.setIfInBounds_toArray, List.set_cons_zero, List.set_cons_succ]
      refine wpAnyH_ready (rs := [30]) (by kernel_rfl) (by simp) ?_
      refine AllReadyH.cons (o := ⟨some 51, .call { callee := .value (.func 5), args := #[], argTypes := #[] }, 4, "law.go:33", #[⟨29, .chain⟩, ⟨29, .guard⟩], some (29, true)⟩) rfl (fun K hK => ?_) AllReadyH.nil
      go_simp
      (first
    | (go_at_call 5; refine (L.out _).mono ?_; rintro e w3 ⟨rfl, hu3⟩))
      try (go_wp2_with fail)
      refine hK.out _ _ ?_ (fun hHeld => ?_)
      · (first | exact hr.drew | exact hHeld.trans hu3)
      clear hK K
      try simp only [Act.put, List.setIfInBounds_toArray, List.set_cons_zero, List.set_cons_succ]
      refine wpT 31 ⟨some 52, .pick (.tmp 50) (.tmp 51) (.const (.bool false)), 4, "law.go:33", #[⟨29, .data⟩, ⟨30, .data⟩], none⟩ ?_ (.inl ⟨by rfl, ?_⟩) ?_
      rotate_left
      · (intro W hSw; (try dsimp only at hSw); go_simp; try (with_reducible rfl))
      try simp only [Act.put, List.setIfInBounds_toArray, List.set_cons_zero, List.set_cons_succ]
      refine wpT 32 ⟨some 10, .assign (.tmp 52), 4, "law.go:33", #[⟨31, .data⟩, ⟨30, .chain⟩, ⟨0, .phase⟩, ⟨1, .phase⟩, ⟨2, .phase⟩, ⟨3, .phase⟩, ⟨4, .phase⟩, ⟨5, .phase⟩, ⟨6, .phase⟩, ⟨7, .phase⟩, ⟨8, .phase⟩, ⟨9, .phase⟩, ⟨10, .phase⟩, ⟨11, .phase⟩, ⟨12, .phase⟩, ⟨13, .phase⟩, ⟨14, .phase⟩, ⟨15, .phase⟩, ⟨16, .phase⟩, ⟨17, .phase⟩, ⟨18, .phase⟩, ⟨19, .phase⟩, ⟨20, .phase⟩, ⟨21, .phase⟩, ⟨22, .phase⟩, ⟨23, .phase⟩, ⟨24, .phase⟩, ⟨25, .phase⟩, ⟨26, .phase⟩, ⟨27, .phase⟩, ⟨28, .phase⟩, ⟨29, .phase⟩, ⟨30, .phase⟩, ⟨31, .phase⟩], none⟩ ?_ (.inl ⟨by rfl, ?_⟩) ?_
      rotate_left
      · (intro W hSw; (try dsimp only at hSw); go_simp; try (with_reducible rfl))
      try simp only [Act.put, List.setIfInBounds_toArray, List.set_cons_zero, List.set_cons_succ]
      refine wpAnyH_done (by kernel_rfl) (NoPanic.normal ?_) _
      have HU2 := Lib.hid (HU.out.trans hHeld)
      clear hHeld
      go_wp2
      go_ret
      exact ⟨rfl, HU2.out⟩
end Go.Proofs.YtgakhpdclhlmpaaGreat

/- What the law on what is told of histories imports. -/
namespace Go.Proofs.YtgakhpdclhlmpaaGreat
set_option linter.unusedVariables false
end Go.Proofs.YtgakhpdclhlmpaaGreat
