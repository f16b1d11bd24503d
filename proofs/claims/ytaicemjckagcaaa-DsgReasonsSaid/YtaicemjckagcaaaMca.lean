/- Edges of a history: the law on reasons: the walk. -/
import Derived.Test.YtaicemjckagcaaaMbz
namespace Go.Proofs.Ytaicemjckagcaaa
set_option linter.unusedVariables false
open Go.RowKit
/-- a transaction is found that is done -/
theorem findD {F : Nat → Prop} {w : World} {txs : List HTx} {ords : List HOrd} {A : Option Addr} {c : Nat} {B : Option Addr} {d : Nat} {i : Int} (H : Hist.lies F w ⟨txs, ords, A, c, B, d⟩) (hf : ∃ t, findT txs i = some t ∧ t.done = true) :
    Calls Try.prog 40 #[.agg #[.slice A txs.length c, .slice B ords.length d], .int .i64 i] w fun e w' =>
      ∃ x A' n' c', e = .returned (.tuple #[.agg #[.int .i64 x, .bool true, .slice A' n' c'], .bool true]) ∧ Upd No w w' := by
  obtain ⟨t, hf, hd⟩ := hf
  refine (pfind_some F w txs ords A c B d i H hf).mono ?_
  rintro e w' ⟨A', c', rfl, _, _, hu⟩
  exact ⟨_, _, _, _, by rw [hd], hu⟩
theorem plessV {af at_ ak ay bf bt bk by_ : Int} {v : Bool} (hv : ltE ⟨af, at_, ak, ay⟩ ⟨bf, bt, bk, by_⟩ = v) (w : World) :
    Calls Try.prog 41 #[.agg #[.int .i64 af, .int .i64 at_, .int .i64 ak, .int .i64 ay], .agg #[.int .i64 bf, .int .i64 bt, .int .i64 bk, .int .i64 by_]] w fun e w' => e = .returned (.bool v) ∧ Upd No w w' := by
  subst hv; exact pless w ⟨af, at_, ak, ay⟩ ⟨bf, bt, bk, by_⟩
theorem rLastV {F : Nat → Prop} {w : World} {txs : List HTx} {ords : List HOrd} {A : Option Addr} {c : Nat} {B : Option Addr} {d : Nat} {rd : Bool} {ky tx nt : Int} {v : Bool} (H : Hist.lies F w ⟨txs, ords, A, c, B, d⟩) (hv : lastB txs ⟨tx, ky, nt⟩ = v) :
    Calls Try.prog 42 #[.agg #[.slice A txs.length c, .slice B ords.length d], .agg #[.bool rd, .int .i64 ky, .int .i64 tx, .int .i64 nt]] w fun e w' => e = .returned (.bool v) ∧ Upd No w w' := by
  subst hv; exact rLast F w txs ords A c B d ⟨rd, ky, tx, nt⟩ H
set_option maxRecDepth 100000 in
set_option maxHeartbeats 8000000 in
theorem reasons16 (F : Nat → Prop) (w : World) (txs : List HTx) (ords : List HOrd) (A : Option Addr) (c : Nat) (B : Option Addr) (d : Nat) (H : Hist.lies F w ⟨txs, ords, A, c, B, d⟩)
    (L : Hid (∀ w, Calls Try.prog 34 #[] w fun e w' => e = .returned (.bool true) ∧ Upd No w w')) :
    Calls Try.prog 9 #[.agg #[.slice A txs.length c, .slice B ords.length d]] w fun e w' => e = .returned (.bool true) ∧ Upd No w w' := by
  obtain ⟨z, hz⟩ : ∃ z, w.heap.size = z := ⟨_, rfl⟩
  obtain ⟨wb, hwb⟩ : ∃ wb, w.alloc (.cells #[.slice A txs.length c, .slice B ords.length d] 58) = wb := ⟨_, rfl⟩
  have u0 : Upd No w wb := by rw [← hwb]; exact (Upd.refl No w).alloc _
  have bH : Blk wb z 58 [.slice A txs.length c, .slice B ords.length d] := by rw [← hwb, ← hz]; exact Blk.new w _ _
  have HB := Lib.hid (H.upd u0 (fun _ _ => id))
  have U0 := Lib.hid u0
  have d0 : ∀ W, Upd No wb W → W.cell? ⟨z, 0, none⟩ = some (.slice A txs.length c) := fun W u => (bH.upd u id).cell 0
  have d1 : ∀ W, Upd No wb W → W.cell? ⟨z, 1, none⟩ = some (.slice B ords.length d) := fun W u => (bH.upd u id).cell 1
  clear bH u0 H
  obtain ⟨v, hv⟩ : ∃ v, lightB ⟨txs, ords, A, c, B, d⟩ = v := ⟨_, rfl⟩
  have HV := Lib.hid hv
  have C1 := Lib.hid (fun (W : World) (u : Upd No wb W) => light_d (HB.out.upd u (fun _ _ => id)) hv)
  clear hv
  obtain ⟨r, hr⟩ : ∃ r, rightB ⟨txs, ords, A, c, B, d⟩ = r := ⟨_, rfl⟩
  have HR := Lib.hid hr
  have C2 := Lib.hid (fun (W : World) (u : Upd No wb W) => hrightV (HB.out.upd u (fun _ _ => id)) hr)
  clear hr
  go_enter Try.func9, Try.ntmps9
  cases v
  · go_wp2_with fail
    refine (L.out _).mono ?_
    rintro e w1 ⟨rfl, hu1⟩
    go_wp2_with fail
    refine (C1.out _ hu1).mono ?_
    rintro e w2 ⟨rfl, hu2⟩
    go_wp2
    go_ret
    exact ⟨rfl, (U0.out.trans hu1).trans hu2⟩
  cases r
  · go_wp2_with fail
    refine (L.out _).mono ?_
    rintro e w1 ⟨rfl, hu1⟩
    go_wp2_with fail
    refine (C1.out _ hu1).mono ?_
    rintro e w2 ⟨rfl, hu2⟩
    have h12 := hu1.trans hu2
    go_wp2_with fail
    refine (C2.out _ h12).mono ?_
    rintro e w3 ⟨rfl, hu3⟩
    go_wp2
    go_ret
    exact ⟨rfl, (U0.out.trans h12).trans hu3⟩
  have HN := Lib.hid (light_few HV.out)
  go_wp2_with fail
  refine (L.out _).mono ?_
  rintro e w1 ⟨rfl, hu1⟩
  go_wp2_with fail
  refine (C1.out _ hu1).mono ?_
  rintro e w2 ⟨rfl, hu2'⟩
  have h12 := hu1.trans hu2'
  go_wp2_with fail
  refine (C2.out _ h12).mono ?_
  rintro e w2b ⟨rfl, hu2''⟩
  have hu2 := h12.trans hu2''
  clear hu1 hu2' hu2'' h12
  obtain ⟨l, hl⟩ : ∃ l, edgesR ⟨txs, ords, A, c, B, d⟩ = l := ⟨_, rfl⟩
  have C3 := Lib.hid (vEdges (HB.out.upd hu2 (fun _ _ => id)) HN.out.1 HN.out.2 rfl rfl hl rfl)
  have hll : l.length ≤ 200000 := by rw [← hl]; exact edgesR_len HN.out.1 HN.out.2
  have HE := Lib.hid hl
  have HM : ∀ x ∈ l, 0 ≤ x.n ∧ x.n ≤ 24 := fun x hx => edge_few HN.out.2 (by rw [hl]; exact hx)
  have HF := Lib.hid HM
  have HS := Lib.hid (show (l.map (·.e)).Pairwise (fun a b => ltE a b = true) by rw [← hl]; exact edgesR_strict)
  clear hl HM
  go_wp2_with fail
  refine (C3.out).mono ?_
  rintro e w3 ⟨A3, c3, rfl, hx3, hu3⟩
  obtain ⟨G, hx3⟩ := hx3
  have HG := Lib.hid hx3
  have V3 := Lib.hid (hu2.trans hu3)
  have HB3 := Lib.hid (HB.out.upd V3.out (fun _ _ => id))
  have D0 := Lib.hid (fun (W : World) (u : Upd No w3 W) => d0 W (V3.out.trans u))
  have D1 := Lib.hid (fun (W : World) (u : Upd No w3 W) => d1 W (V3.out.trans u))
  clear hx3 hu2 hu3 d0 d1
  have hr3 : Upd No w3 w3 := Upd.refl _ _
  have htl : txs.length ≤ 12 := HN.out.1
  have hol : ords.length ≤ 4398046511103 := HB3.out.fewo
  have HR := Lib.hid (show rightB ⟨txs, ords, A, c, B, d⟩ = true from HR.out)
  go_wp2
  go_loopg [37] l.length (fun gk i wr => ∃ k : Nat, k + gk = l.length ∧ i = .int .i64 k ∧ Upd No w3 wr)
  case atStart => exact ⟨0, by omega, rfl, hr3⟩
  case round =>
    obtain ⟨k, hgk, rfl, hu⟩ := hrel
    by_cases hlt : k < l.length
    · have x0 : ∀ W, Upd No wr W → W.cell? ⟨z, 0, none⟩ = some (.slice A txs.length c) := fun W u => D0.out W (hu.trans u)
      have x1 : ∀ W, Upd No wr W → W.cell? ⟨z, 1, none⟩ = some (.slice B ords.length d) := fun W u => D1.out W (hu.trans u)
      obtain ⟨ad, rfl, q0, q1, q2, q3, q4⟩ := (Hvys.upd HG.out hu (fun _ _ => id)).at_ hlt
      have hxm := List.getElem_mem hlt
      obtain ⟨⟨⟨xf, xt, xk, xy⟩, xn⟩, hx⟩ : ∃ x, l[k] = x := ⟨_, rfl⟩
      rw [hx] at q0 q1 q2 q3 q4 hxm
      simp only at q0 q1 q2 q3 q4
      have i1 : (0 : Int) ≤ (k : Int) := Int.natCast_nonneg _
      have i2 : (k : Int) < (l.length : Int) := by omega
      obtain ⟨wx, hwx⟩ : ∃ wx, wr.alloc (.cells #[.int .i64 xf, .int .i64 xt, .int .i64 xk, .int .i64 xy, .int .i64 xn] 69) = wx := ⟨_, rfl⟩
      have ux : Upd No wr wx := by rw [← hwx]; exact (Upd.refl No wr).alloc _
      have bo : Blk wx wr.heap.size 69 [.int .i64 xf, .int .i64 xt, .int .i64 xk, .int .i64 xy, .int .i64 xn] := by rw [← hwx]; exact Blk.new wr _ _
      have m0 : ∀ W, Upd No wx W → W.cell? ⟨wr.heap.size, 0, none⟩ = some (.int .i64 xf) := fun W u => (bo.upd u id).cell 0
      have m1 : ∀ W, Upd No wx W → W.cell? ⟨wr.heap.size, 1, none⟩ = some (.int .i64 xt) := fun W u => (bo.upd u id).cell 1
      have m2 : ∀ W, Upd No wx W → W.cell? ⟨wr.heap.size, 2, none⟩ = some (.int .i64 xk) := fun W u => (bo.upd u id).cell 2
      have m3 : ∀ W, Upd No wx W → W.cell? ⟨wr.heap.size, 3, none⟩ = some (.int .i64 xy) := fun W u => (bo.upd u id).cell 3
      have m4 : ∀ W, Upd No wx W → W.cell? ⟨wr.heap.size, 4, none⟩ = some (.int .i64 xn) := fun W u => (bo.upd u id).cell 4
      have HUX := Lib.hid (hu.trans ux)
      have hxz : Upd No wx wx := Upd.refl _ _
      have ok := edge_ok HR.out (by rw [HE.out]; exact hxm)
      simp only at ok
      obtain ⟨ok1, ok2, ok3, ok4⟩ := ok
      have CA := Lib.hid (fun (W : World) (u : Upd No wx W) => findD (HB3.out.upd (HUX.out.trans u) (fun _ _ => id)) ok1)
      have CB := Lib.hid (fun (W : World) (u : Upd No wx W) => findD (HB3.out.upd (HUX.out.trans u) (fun _ _ => id)) ok2)
      have e1 : (xf == xt) = false := by simpa using ok3
      have e2 : decide (xn < 1) = false := decide_eq_false (by omega)
      have x0' : ∀ W, Upd No wx W → W.cell? ⟨z, 0, none⟩ = some (.slice A txs.length c) := fun W u => x0 W (ux.trans u)
      have x1' : ∀ W, Upd No wx W → W.cell? ⟨z, 1, none⟩ = some (.slice B ords.length d) := fun W u => x1 W (ux.trans u)
      have HXK := Lib.hid hx
      clear hx hxm bo ux ok1 ok2 ok3 ok4 x0 x1
      go_wp2_with fail
      refine (CA.out _ hxz).mono ?_
      rintro e w4 ⟨ai, aA, an, ac, rfl, hu4⟩
      obtain ⟨wy, hwy⟩ : ∃ wy, w4.alloc (.cells #[.int .i64 ai, .bool true, .slice aA an ac] 64) = wy := ⟨_, rfl⟩
      have uy : Upd No wx wy := by rw [← hwy]; exact hu4.alloc _
      have by1 : ∀ W, Upd No wy W → W.cell? ⟨w4.heap.size, 1, none⟩ = some (.bool true) := fun W u => by have := ((show Blk wy w4.heap.size 64 [.int .i64 ai, .bool true, .slice aA an ac] by rw [← hwy]; exact Blk.new w4 _ _).upd u id).cell 1; simpa using this
      go_wp2_with fail
      refine (CB.out _ uy).mono ?_
      rintro e w5 ⟨bi, bA, bn, bc, rfl, hu5⟩
      obtain ⟨wz, hwz⟩ : ∃ wz, w5.alloc (.cells #[.int .i64 bi, .bool true, .slice bA bn bc] 64) = wz := ⟨_, rfl⟩
      have uz : Upd No wx wz := by rw [← hwz]; exact (uy.trans hu5).alloc _
      have uyz : Upd No wy wz := by rw [← hwz]; exact hu5.alloc _
      have by2 : ∀ W, Upd No wz W → W.cell? ⟨w5.heap.size, 1, none⟩ = some (.bool true) := fun W u => by have := ((show Blk wz w5.heap.size 64 [.int .i64 bi, .bool true, .slice bA bn bc] by rw [← hwz]; exact Blk.new w5 _ _).upd u id).cell 1; simpa using this
      have by1' : ∀ W, Upd No wz W → W.cell? ⟨w4.heap.size, 1, none⟩ = some (.bool true) := fun W u => by1 W (uyz.trans u)
      have hzz : Upd No wz wz := Upd.refl _ _
      have m0' : ∀ W, Upd No wz W → W.cell? ⟨wr.heap.size, 0, none⟩ = some (.int .i64 xf) := fun W u => m0 W (uz.trans u)
      have m1' : ∀ W, Upd No wz W → W.cell? ⟨wr.heap.size, 1, none⟩ = some (.int .i64 xt) := fun W u => m1 W (uz.trans u)
      have m2' : ∀ W, Upd No wz W → W.cell? ⟨wr.heap.size, 2, none⟩ = some (.int .i64 xk) := fun W u => m2 W (uz.trans u)
      have m3' : ∀ W, Upd No wz W → W.cell? ⟨wr.heap.size, 3, none⟩ = some (.int .i64 xy) := fun W u => m3 W (uz.trans u)
      have m4' : ∀ W, Upd No wz W → W.cell? ⟨wr.heap.size, 4, none⟩ = some (.int .i64 xn) := fun W u => m4 W (uz.trans u)
      have HUZ := Lib.hid (HUX.out.trans uz)
      clear by1 uy uyz uz m0 m1 m2 m3 m4 hu4 hu5
      have hless : ∀ j (hj : j + 1 = k), ∃ yf yt yk yy : Int, ltE ⟨yf, yt, yk, yy⟩ ⟨xf, xt, xk, xy⟩ = true ∧ ∀ W, Upd No wz W → W.cell? (ad.add (j * 5)) = some (.int .i64 yf) ∧ W.cell? ⟨(ad.add (j * 5)).block, (ad.add (j * 5)).off + 1, none⟩ = some (.int .i64 yt) ∧ W.cell? ⟨(ad.add (j * 5)).block, (ad.add (j * 5)).off + 2, none⟩ = some (.int .i64 yk) ∧ W.cell? ⟨(ad.add (j * 5)).block, (ad.add (j * 5)).off + 3, none⟩ = some (.int .i64 yy) := by
        intro j hj
        refine ⟨l[j].e.f, l[j].e.t, l[j].e.k, l[j].e.key, ?_, fun W u => ?_⟩
        · have h2 := List.pairwise_iff_getElem.1 HS.out j k (by rw [List.length_map]; omega) (by rw [List.length_map]; omega) (by omega)
          simp only [List.getElem_map] at h2
          rw [HXK.out] at h2
          exact h2
        · obtain ⟨ad', e, q0, q1, q2, q3, _⟩ := (Hvys.upd HG.out (HUZ.out.trans u) (fun _ _ => id)).at_ (show j < l.length by omega)
          cases e
          exact ⟨q0, q1, q2, q3⟩
      have HL := Lib.hid hless
      clear hless
      go_wp2
      by_cases hk0 : k = 0
      · have hg : decide (0 < k) = false := decide_eq_false (by omega)
        refine wp_region_noPanic ?_
        refine wp_region_held_drew (S := (fun W' => Upd No wz W')) (by kernel_rfl) ?_ (fun hHeld => ?_)
        · (first | exact hzz.drew | exact hHeld)
        refine wpT 0 ⟨some 58, .move (.tmp 7), 4, "law.go:49", #[], none⟩ ?_ (.inl ⟨by rfl, ?_⟩) ?_
        rotate_left
        · (intro W hSw; (try dsimp only at hSw); go_simp; try (with_reducible rfl))
        try simp only [Act.put]
        try simp only [List.setIfInBounds_toArray]
        try simp only [List.set_cons_succ]
        try simp only [List.set_cons_zero]
        refine wpT 1 ⟨some 59, .unOp .not 4 (.tmp 58), 4, "law.go:49", #[⟨0, .data⟩], none⟩ ?_ (.inl ⟨by rfl, ?_⟩) ?_
        rotate_left
        · (intro W hSw; (try dsimp only at hSw); go_simp; try (with_reducible rfl))
        try simp only [Act.put]
        try simp only [List.setIfInBounds_toArray]
        try simp only [List.set_cons_succ]
        try simp only [List.set_cons_zero]
        refine wpT 2 ⟨some 60, .move (.tmp 59), 4, "law.go:49", #[⟨1, .data⟩], none⟩ ?_ (.inl ⟨by rfl, ?_⟩) ?_
        rotate_left
        · (intro W hSw; (try dsimp only at hSw); go_simp; try (with_reducible rfl))
        try simp only [Act.put]
        try simp only [List.setIfInBounds_toArray]
        try simp only [List.set_cons_succ]
        try simp only [List.set_cons_zero]
        refine wpT 3 ⟨some 61, .move (.tmp 9), 4, "law.go:49", #[⟨2, .guard⟩], some (2, false)⟩ ?_ (.inl ⟨by rfl, ?_⟩) ?_
        rotate_left
        · (intro W hSw; (try dsimp only at hSw); go_simp; try (with_reducible rfl))
        try simp only [Act.put]
        try simp only [List.setIfInBounds_toArray]
        try simp only [List.set_cons_succ]
        try simp only [List.set_cons_zero]
        refine wpT 4 ⟨some 62, .unOp .not 4 (.tmp 61), 4, "law.go:49", #[⟨3, .data⟩, ⟨2, .guard⟩], some (2, false)⟩ ?_ (.inl ⟨by rfl, ?_⟩) ?_
        rotate_left
        · (intro W hSw; (try dsimp only at hSw); go_simp; try (with_reducible rfl))
        try simp only [Act.put]
        try simp only [List.setIfInBounds_toArray]
        try simp only [List.set_cons_succ]
        try simp only [List.set_cons_zero]
        refine wpT 5 ⟨some 63, .pick (.tmp 60) (.const (.bool true)) (.tmp 62), 4, "law.go:49", #[⟨2, .data⟩, ⟨4, .data⟩], none⟩ ?_ (.inl ⟨by rfl, ?_⟩) ?_
        rotate_left
        · (intro W hSw; (try dsimp only at hSw); go_simp; try (with_reducible rfl))
        try simp only [Act.put]
        try simp only [List.setIfInBounds_toArray]
        try simp only [List.set_cons_succ]
        try simp only [List.set_cons_zero]
        refine wpT 6 ⟨some 64, .move (.tmp 63), 4, "law.go:49", #[⟨5, .data⟩, ⟨2, .chain⟩], none⟩ ?_ (.inl ⟨by rfl, ?_⟩) ?_
        rotate_left
        · (intro W hSw; (try dsimp only at hSw); go_simp; try (with_reducible rfl))
        try simp only [Act.put]
        try simp only [List.setIfInBounds_toArray]
        try simp only [List.set_cons_succ]
        try simp only [List.set_cons_zero]
        refine wpT 7 ⟨some 65, .fieldAddr 64 (.tmp 6) 1, 0, "law.go:49", #[⟨6, .guard⟩], some (6, false)⟩ ?_ (.inl ⟨by rfl, ?_⟩) ?_
        rotate_left
        · (intro W hSw; (try dsimp only at hSw); go_simp; try (with_reducible rfl))
        try simp only [Act.put]
        try simp only [List.setIfInBounds_toArray]
        try simp only [List.set_cons_succ]
        try simp only [List.set_cons_zero]
        refine wpT 8 ⟨some 66, .load 4 (.tmp 65), 4, "law.go:49", #[⟨7, .data⟩, ⟨6, .guard⟩], some (6, false)⟩ ?_ (.inl ⟨by rfl, ?_⟩) ?_
        rotate_left
        · (intro W hSw; (try dsimp only at hSw); go_simp; try (with_reducible rfl))
        try simp only [Act.put]
        try simp only [List.setIfInBounds_toArray]
        try simp only [List.set_cons_succ]
        try simp only [List.set_cons_zero]
        refine wpT 9 ⟨some 67, .unOp .not 4 (.tmp 66), 4, "law.go:49", #[⟨8, .data⟩, ⟨6, .guard⟩], some (6, false)⟩ ?_ (.inl ⟨by rfl, ?_⟩) ?_
        rotate_left
        · (intro W hSw; (try dsimp only at hSw); go_simp; try (with_reducible rfl))
        try simp only [Act.put]
        try simp only [List.setIfInBounds_toArray]
        try simp only [List.set_cons_succ]
        try simp only [List.set_cons_zero]
        refine wpT 10 ⟨some 68, .pick (.tmp 64) (.const (.bool true)) (.tmp 67), 4, "law.go:49", #[⟨6, .data⟩, ⟨9, .data⟩], none⟩ ?_ (.inl ⟨by rfl, ?_⟩) ?_
        rotate_left
        · (intro W hSw; (try dsimp only at hSw); go_simp; try (with_reducible rfl))
        try simp only [Act.put]
        try simp only [List.setIfInBounds_toArray]
        try simp only [List.set_cons_succ]
        try simp only [List.set_cons_zero]
        refine wpT 11 ⟨some 69, .move (.tmp 68), 4, "law.go:49", #[⟨10, .data⟩, ⟨6, .chain⟩], none⟩ ?_ (.inl ⟨by rfl, ?_⟩) ?_
        rotate_left
        · (intro W hSw; (try dsimp only at hSw); go_simp; try (with_reducible rfl))
        try simp only [Act.put]
        try simp only [List.setIfInBounds_toArray]
        try simp only [List.set_cons_succ]
        try simp only [List.set_cons_zero]
        refine wpT 12 ⟨some 70, .fieldAddr 64 (.tmp 8) 1, 0, "law.go:49", #[⟨11, .guard⟩], some (11, false)⟩ ?_ (.inl ⟨by rfl, ?_⟩) ?_
        rotate_left
        · (intro W hSw; (try dsimp only at hSw); go_simp; try (with_reducible rfl))
        try simp only [Act.put]
        try simp only [List.setIfInBounds_toArray]
        try simp only [List.set_cons_succ]
        try simp only [List.set_cons_zero]
        refine wpT 13 ⟨some 71, .load 4 (.tmp 70), 4, "law.go:49", #[⟨12, .data⟩, ⟨11, .guard⟩], some (11, false)⟩ ?_ (.inl ⟨by rfl, ?_⟩) ?_
        rotate_left
        · (intro W hSw; (try dsimp only at hSw); go_simp; try (with_reducible rfl))
        try simp only [Act.put]
        try simp only [List.setIfInBounds_toArray]
        try simp only [List.set_cons_succ]
        try simp only [List.set_cons_zero]
        refine wpT 14 ⟨some 72, .unOp .not 4 (.tmp 71), 4, "law.go:49", #[⟨13, .data⟩, ⟨11, .guard⟩], some (11, false)⟩ ?_ (.inl ⟨by rfl, ?_⟩) ?_
        rotate_left
        · (intro W hSw; (try dsimp only at hSw); go_simp; try (with_reducible rfl))
        try simp only [Act.put]
        try simp only [List.setIfInBounds_toArray]
        try simp only [List.set_cons_succ]
        try simp only [List.set_cons_zero]
        refine wpT 15 ⟨some 73, .pick (.tmp 69) (.const (.bool true)) (.tmp 72), 4, "law.go:49", #[⟨11, .data⟩, ⟨14, .data⟩], none⟩ ?_ (.inl ⟨by rfl, ?_⟩) ?_
        rotate_left
        · (intro W hSw; (try dsimp only at hSw); go_simp; try (with_reducible rfl))
        try simp only [Act.put]
        try simp only [List.setIfInBounds_toArray]
        try simp only [List.set_cons_succ]
        try simp only [List.set_cons_zero]
        refine wpT 16 ⟨some 74, .move (.tmp 73), 4, "law.go:49", #[⟨15, .data⟩, ⟨11, .chain⟩], none⟩ ?_ (.inl ⟨by rfl, ?_⟩) ?_
        rotate_left
        · (intro W hSw; (try dsimp only at hSw); go_simp; try (with_reducible rfl))
        try simp only [Act.put]
        try simp only [List.setIfInBounds_toArray]
        try simp only [List.set_cons_succ]
        try simp only [List.set_cons_zero]
        refine wpT 17 ⟨some 75, .fieldAddr 69 (.tmp 5) 0, 0, "law.go:49", #[⟨16, .guard⟩], some (16, false)⟩ ?_ (.inl ⟨by rfl, ?_⟩) ?_
        rotate_left
        · (intro W hSw; (try dsimp only at hSw); go_simp; try (with_reducible rfl))
        try simp only [Act.put]
        try simp only [List.setIfInBounds_toArray]
        try simp only [List.set_cons_succ]
        try simp only [List.set_cons_zero]
        refine wpT 18 ⟨some 76, .fieldAddr 33 (.tmp 75) 0, 0, "law.go:49", #[⟨17, .data⟩, ⟨16, .guard⟩], some (16, false)⟩ ?_ (.inl ⟨by rfl, ?_⟩) ?_
        rotate_left
        · (intro W hSw; (try dsimp only at hSw); go_simp; try (with_reducible rfl))
        try simp only [Act.put]
        try simp only [List.setIfInBounds_toArray]
        try simp only [List.set_cons_succ]
        try simp only [List.set_cons_zero]
        refine wpT 19 ⟨some 77, .load 3 (.tmp 76), 3, "law.go:49", #[⟨18, .data⟩, ⟨16, .guard⟩], some (16, false)⟩ ?_ (.inl ⟨by rfl, ?_⟩) ?_
        rotate_left
        · (intro W hSw; (try dsimp only at hSw); go_simp; try (with_reducible rfl))
        try simp only [Act.put]
        try simp only [List.setIfInBounds_toArray]
        try simp only [List.set_cons_succ]
        try simp only [List.set_cons_zero]
        refine wpT 20 ⟨some 78, .fieldAddr 69 (.tmp 5) 0, 0, "law.go:49", #[⟨16, .guard⟩], some (16, false)⟩ ?_ (.inl ⟨by rfl, ?_⟩) ?_
        rotate_left
        · (intro W hSw; (try dsimp only at hSw); go_simp; try (with_reducible rfl))
        try simp only [Act.put]
        try simp only [List.setIfInBounds_toArray]
        try simp only [List.set_cons_succ]
        try simp only [List.set_cons_zero]
        refine wpT 21 ⟨some 79, .fieldAddr 33 (.tmp 78) 1, 0, "law.go:49", #[⟨20, .data⟩, ⟨16, .guard⟩], some (16, false)⟩ ?_ (.inl ⟨by rfl, ?_⟩) ?_
        rotate_left
        · (intro W hSw; (try dsimp only at hSw); go_simp; try (with_reducible rfl))
        try simp only [Act.put]
        try simp only [List.setIfInBounds_toArray]
        try simp only [List.set_cons_succ]
        try simp only [List.set_cons_zero]
        refine wpT 22 ⟨some 80, .load 3 (.tmp 79), 3, "law.go:49", #[⟨21, .data⟩, ⟨16, .guard⟩], some (16, false)⟩ ?_ (.inl ⟨by rfl, ?_⟩) ?_
        rotate_left
        · (intro W hSw; (try dsimp only at hSw); go_simp; try (with_reducible rfl))
        try simp only [Act.put]
        try simp only [List.setIfInBounds_toArray]
        try simp only [List.set_cons_succ]
        try simp only [List.set_cons_zero]
        refine wpT 23 ⟨some 81, .binOp .eql 3 (.tmp 77) (.tmp 80) 3, 4, "law.go:49", #[⟨19, .data⟩, ⟨22, .data⟩, ⟨16, .guard⟩], some (16, false)⟩ ?_ (.inl ⟨by rfl, ?_⟩) ?_
        rotate_left
        · (intro W hSw; (try dsimp only at hSw); go_simp; try (with_reducible rfl))
        try simp only [Act.put]
        try simp only [List.setIfInBounds_toArray]
        try simp only [List.set_cons_succ]
        try simp only [List.set_cons_zero]
        refine wpT 24 ⟨some 82, .pick (.tmp 74) (.const (.bool true)) (.tmp 81), 4, "law.go:49", #[⟨16, .data⟩, ⟨23, .data⟩], none⟩ ?_ (.inl ⟨by rfl, ?_⟩) ?_
        rotate_left
        · (intro W hSw; (try dsimp only at hSw); go_simp; try (with_reducible rfl))
        try simp only [Act.put]
        try simp only [List.setIfInBounds_toArray]
        try simp only [List.set_cons_succ]
        try simp only [List.set_cons_zero]
        refine wpT 25 ⟨some 83, .move (.tmp 82), 4, "law.go:49", #[⟨24, .data⟩, ⟨16, .chain⟩], none⟩ ?_ (.inl ⟨by rfl, ?_⟩) ?_
        rotate_left
        · (intro W hSw; (try dsimp only at hSw); go_simp; try (with_reducible rfl))
        try simp only [Act.put]
        try simp only [List.setIfInBounds_toArray]
        try simp only [List.set_cons_succ]
        try simp only [List.set_cons_zero]
        refine wpT 26 ⟨some 84, .fieldAddr 69 (.tmp 5) 1, 0, "law.go:49", #[⟨25, .guard⟩], some (25, false)⟩ ?_ (.inl ⟨by rfl, ?_⟩) ?_
        rotate_left
        · (intro W hSw; (try dsimp only at hSw); go_simp; try (with_reducible rfl))
        try simp only [Act.put]
        try simp only [List.setIfInBounds_toArray]
        try simp only [List.set_cons_succ]
        try simp only [List.set_cons_zero]
        refine wpT 27 ⟨some 85, .load 3 (.tmp 84), 3, "law.go:49", #[⟨26, .data⟩, ⟨25, .guard⟩], some (25, false)⟩ ?_ (.inl ⟨by rfl, ?_⟩) ?_
        rotate_left
        · (intro W hSw; (try dsimp only at hSw); go_simp; try (with_reducible rfl))
        try simp only [Act.put]
        try simp only [List.setIfInBounds_toArray]
        try simp only [List.set_cons_succ]
        try simp only [List.set_cons_zero]
        refine wpT 28 ⟨some 86, .binOp .lss 3 (.tmp 85) (.const (.int .i64 1)) 3, 4, "law.go:49", #[⟨27, .data⟩, ⟨25, .guard⟩], some (25, false)⟩ ?_ (.inl ⟨by rfl, ?_⟩) ?_
        rotate_left
        · (intro W hSw; (try dsimp only at hSw); go_simp; try (with_reducible rfl))
        try simp only [Act.put]
        try simp only [List.setIfInBounds_toArray]
        try simp only [List.set_cons_succ]
        try simp only [List.set_cons_zero]
        refine wpT 29 ⟨some 87, .pick (.tmp 83) (.const (.bool true)) (.tmp 86), 4, "law.go:49", #[⟨25, .data⟩, ⟨28, .data⟩], none⟩ ?_ (.inl ⟨by rfl, ?_⟩) ?_
        rotate_left
        · (intro W hSw; (try dsimp only at hSw); go_simp; try (with_reducible rfl))
        try simp only [Act.put]
        try simp only [List.setIfInBounds_toArray]
        try simp only [List.set_cons_succ]
        try simp only [List.set_cons_zero]
        refine wpT 30 ⟨some 88, .move (.tmp 87), 4, "law.go:49", #[⟨29, .data⟩, ⟨25, .chain⟩], none⟩ ?_ (.inl ⟨by rfl, ?_⟩) ?_
        rotate_left
        · (intro W hSw; (try dsimp only at hSw); go_simp; try (with_reducible rfl))
        try simp only [Act.put]
        try simp only [List.setIfInBounds_toArray]
        try simp only [List.set_cons_succ]
        try simp only [List.set_cons_zero]
        refine wpT 31 ⟨some 89, .move (.tmp 4), 3, "law.go:49", #[⟨30, .guard⟩], some (30, false)⟩ ?_ (.inl ⟨by rfl, ?_⟩) ?_
        rotate_left
        · (intro W hSw; (try dsimp only at hSw); go_simp; try (with_reducible rfl))
        try simp only [Act.put]
        try simp only [List.setIfInBounds_toArray]
        try simp only [List.set_cons_succ]
        try simp only [List.set_cons_zero]
        refine wpT 32 ⟨some 90, .binOp .gtr 3 (.tmp 89) (.const (.int .i64 0)) 3, 4, "law.go:49", #[⟨31, .data⟩, ⟨30, .guard⟩], some (30, false)⟩ ?_ (.inl ⟨by rfl, ?_⟩) ?_
        rotate_left
        · (intro W hSw; (try dsimp only at hSw); go_simp; try (with_reducible rfl))
        try simp only [Act.put]
        try simp only [List.setIfInBounds_toArray]
        try simp only [List.set_cons_succ]
        try simp only [List.set_cons_zero]
        refine wpT 33 ⟨some 91, .move (.tmp 90), 4, "law.go:49", #[⟨32, .data⟩, ⟨30, .chain⟩, ⟨30, .guard⟩], some (30, false)⟩ ?_ (.inl ⟨by rfl, ?_⟩) ?_
        rotate_left
        · (intro W hSw; (try dsimp only at hSw); go_simp; try (with_reducible rfl))
        try simp only [Act.put]
        try simp only [List.setIfInBounds_toArray]
        try simp only [List.set_cons_succ]
        try simp only [List.set_cons_zero]
        refine wpT 34 ⟨some 92, .move (.tmp 3), 60, "law.go:49", #[⟨33, .guard⟩], some (33, true)⟩ undef (.inr ⟨by rfl, rfl⟩) ?_
        try simp only [Act.put]
        try simp only [List.setIfInBounds_toArray]
        try simp only [List.set_cons_succ]
        try simp only [List.set_cons_zero]
        refine wpT 35 ⟨some 93, .move (.tmp 4), 3, "law.go:49", #[⟨33, .guard⟩], some (33, true)⟩ undef (.inr ⟨by rfl, rfl⟩) ?_
        try simp only [Act.put]
        try simp only [List.setIfInBounds_toArray]
        try simp only [List.set_cons_succ]
        try simp only [List.set_cons_zero]
        refine wpT 36 ⟨some 94, .binOp .sub 3 (.tmp 93) (.const (.int .i64 1)) 3, 3, "law.go:49", #[⟨35, .data⟩, ⟨33, .guard⟩], some (33, true)⟩ undef (.inr ⟨by rfl, rfl⟩) ?_
        try simp only [Act.put]
        try simp only [List.setIfInBounds_toArray]
        try simp only [List.set_cons_succ]
        try simp only [List.set_cons_zero]
        refine wpT 37 ⟨some 95, .indexAddr 60 (.tmp 92) (.tmp 94), 0, "law.go:49", #[⟨34, .data⟩, ⟨36, .data⟩, ⟨33, .guard⟩], some (33, true)⟩ undef (.inr ⟨by rfl, rfl⟩) ?_
        try simp only [Act.put]
        try simp only [List.setIfInBounds_toArray]
        try simp only [List.set_cons_succ]
        try simp only [List.set_cons_zero]
        refine wpT 38 ⟨some 96, .fieldAddr 69 (.tmp 95) 0, 0, "law.go:49", #[⟨37, .data⟩, ⟨33, .guard⟩], some (33, true)⟩ undef (.inr ⟨by rfl, rfl⟩) ?_
        try simp only [Act.put]
        try simp only [List.setIfInBounds_toArray]
        try simp only [List.set_cons_succ]
        try simp only [List.set_cons_zero]
        refine wpT 39 ⟨some 97, .load 33 (.tmp 96), 33, "law.go:49", #[⟨38, .data⟩, ⟨33, .guard⟩], some (33, true)⟩ undef (.inr ⟨by rfl, rfl⟩) ?_
        try simp only [Act.put]
        try simp only [List.setIfInBounds_toArray]
        try simp only [List.set_cons_succ]
        try simp only [List.set_cons_zero]
        refine wpT 40 ⟨some 98, .fieldAddr 69 (.tmp 5) 0, 0, "law.go:49", #[⟨33, .guard⟩], some (33, true)⟩ undef (.inr ⟨by rfl, rfl⟩) ?_
        try simp only [Act.put]
        try simp only [List.setIfInBounds_toArray]
        try simp only [List.set_cons_succ]
        try simp only [List.set_cons_zero]
        refine wpT 41 ⟨some 99, .load 33 (.tmp 98), 33, "law.go:49", #[⟨40, .data⟩, ⟨33, .guard⟩], some (33, true)⟩ undef (.inr ⟨by rfl, rfl⟩) ?_
        try simp only [Act.put]
        try simp only [List.setIfInBounds_toArray]
        try simp only [List.set_cons_succ]
        try simp only [List.set_cons_zero]
        refine wpAnyH_ready (rs := [42]) (by kernel_rfl) (by simp) ?_
        refine AllReadyH.cons (o := ⟨some 100, .call { callee := .value (.func 41), args := #[.tmp 97, .tmp 99], argTypes := #[33, 33] }, 4, "law.go:49", #[⟨39, .data⟩, ⟨41, .data⟩, ⟨33, .chain⟩, ⟨33, .guard⟩], some (33, true)⟩) rfl (fun K hK => ?_) AllReadyH.nil
        go_simp
        refine hK.out _ _ ?_ (fun hHeld => ?_)
        · exact hHeld
        clear hK K
        try simp only [Act.put]
        try simp only [List.setIfInBounds_toArray]
        try simp only [List.set_cons_succ]
        try simp only [List.set_cons_zero]
        refine wpT 43 ⟨some 101, .unOp .not 4 (.tmp 100), 4, "law.go:49", #[⟨42, .data⟩, ⟨33, .guard⟩], some (33, true)⟩ undef (.inr ⟨by rfl, rfl⟩) ?_
        try simp only [Act.put]
        try simp only [List.setIfInBounds_toArray]
        try simp only [List.set_cons_succ]
        try simp only [List.set_cons_zero]
        refine wpT 44 ⟨some 102, .pick (.tmp 91) (.tmp 101) (.const (.bool false)), 4, "law.go:49", #[⟨33, .data⟩, ⟨43, .data⟩, ⟨30, .guard⟩], some (30, false)⟩ ?_ (.inl ⟨by rfl, ?_⟩) ?_
        rotate_left
        · (intro W hSw; (try dsimp only at hSw); go_simp; try (with_reducible rfl))
        try simp only [Act.put]
        try simp only [List.setIfInBounds_toArray]
        try simp only [List.set_cons_succ]
        try simp only [List.set_cons_zero]
        refine wpT 45 ⟨some 103, .pick (.tmp 88) (.const (.bool true)) (.tmp 102), 4, "law.go:49", #[⟨30, .data⟩, ⟨44, .data⟩], none⟩ ?_ (.inl ⟨by rfl, ?_⟩) ?_
        rotate_left
        · (intro W hSw; (try dsimp only at hSw); go_simp; try (with_reducible rfl))
        try simp only [Act.put]
        try simp only [List.setIfInBounds_toArray]
        try simp only [List.set_cons_succ]
        try simp only [List.set_cons_zero]
        refine wpAnyH_done (by kernel_rfl) (NoPanic.normal ?_) _
        have HH := Lib.hid hHeld
        clear hHeld
        go_wp2
        go_roundg (gk - 1)
        case measure => omega
        case rel => exact ⟨k + 1, by omega, by go_num, HUZ.out.trans HH.out⟩
      · have hg : decide (0 < k) = true := decide_eq_true (by omega)
        obtain ⟨j, hj⟩ : ∃ j, j + 1 = k := ⟨k - 1, by omega⟩
        obtain ⟨yf, yt, yk, yy, hlt2, hyc⟩ := HL.out j hj
        have y0 : ∀ W, Upd No wz W → W.cell? (ad.add (j * 5)) = some (.int .i64 yf) := fun W u => (hyc W u).1
        have y1 : ∀ W, Upd No wz W → W.cell? ⟨(ad.add (j * 5)).block, (ad.add (j * 5)).off + 1, none⟩ = some (.int .i64 yt) := fun W u => (hyc W u).2.1
        have y2 : ∀ W, Upd No wz W → W.cell? ⟨(ad.add (j * 5)).block, (ad.add (j * 5)).off + 2, none⟩ = some (.int .i64 yk) := fun W u => (hyc W u).2.2.1
        have y3 : ∀ W, Upd No wz W → W.cell? ⟨(ad.add (j * 5)).block, (ad.add (j * 5)).off + 3, none⟩ = some (.int .i64 yy) := fun W u => (hyc W u).2.2.2
        have PL := Lib.hid (fun W => plessV hlt2 W)
        have hkj : (k : Int) - 1 = (j : Int) := by omega
        have hwj : IntKind.i64.wrap (j : Int) = (j : Int) := IntWalk.i64_in _ (by omega)
        have j1 : (0 : Int) ≤ (j : Int) := Int.natCast_nonneg _
        have j2 : (j : Int) < (l.length : Int) := by omega
        clear hlt2 hyc
        refine wp_region_noPanic ?_
        refine wp_region_held_drew (S := (fun W' => Upd No wz W')) (by kernel_rfl) ?_ (fun hHeld => ?_)
        · (first | exact hzz.drew | exact hHeld.trans hu9 | exact hHeld)
        refine wpT 0 ⟨some 58, .move (.tmp 7), 4, "law.go:49", #[], none⟩ ?_ (.inl ⟨by rfl, ?_⟩) ?_
        rotate_left
        · (intro W hSw; (try dsimp only at hSw); go_simp; try (with_reducible rfl))
        try simp only [Act.put]
        try simp only [List.setIfInBounds_toArray]
        try simp only [List.set_cons_succ]
        try simp only [List.set_cons_zero]
        refine wpT 1 ⟨some 59, .unOp .not 4 (.tmp 58), 4, "law.go:49", #[⟨0, .data⟩], none⟩ ?_ (.inl ⟨by rfl, ?_⟩) ?_
        rotate_left
        · (intro W hSw; (try dsimp only at hSw); go_simp; try (with_reducible rfl))
        try simp only [Act.put]
        try simp only [List.setIfInBounds_toArray]
        try simp only [List.set_cons_succ]
        try simp only [List.set_cons_zero]
        refine wpT 2 ⟨some 60, .move (.tmp 59), 4, "law.go:49", #[⟨1, .data⟩], none⟩ ?_ (.inl ⟨by rfl, ?_⟩) ?_
        rotate_left
        · (intro W hSw; (try dsimp only at hSw); go_simp; try (with_reducible rfl))
        try simp only [Act.put]
        try simp only [List.setIfInBounds_toArray]
        try simp only [List.set_cons_succ]
        try simp only [List.set_cons_zero]
        refine wpT 3 ⟨some 61, .move (.tmp 9), 4, "law.go:49", #[⟨2, .guard⟩], some (2, false)⟩ ?_ (.inl ⟨by rfl, ?_⟩) ?_
        rotate_left
        · (intro W hSw; (try dsimp only at hSw); go_simp; try (with_reducible rfl))
        try simp only [Act.put]
        try simp only [List.setIfInBounds_toArray]
        try simp only [List.set_cons_succ]
        try simp only [List.set_cons_zero]
        refine wpT 4 ⟨some 62, .unOp .not 4 (.tmp 61), 4, "law.go:49", #[⟨3, .data⟩, ⟨2, .guard⟩], some (2, false)⟩ ?_ (.inl ⟨by rfl, ?_⟩) ?_
        rotate_left
        · (intro W hSw; (try dsimp only at hSw); go_simp; try (with_reducible rfl))
        try simp only [Act.put]
        try simp only [List.setIfInBounds_toArray]
        try simp only [List.set_cons_succ]
        try simp only [List.set_cons_zero]
        refine wpT 5 ⟨some 63, .pick (.tmp 60) (.const (.bool true)) (.tmp 62), 4, "law.go:49", #[⟨2, .data⟩, ⟨4, .data⟩], none⟩ ?_ (.inl ⟨by rfl, ?_⟩) ?_
        rotate_left
        · (intro W hSw; (try dsimp only at hSw); go_simp; try (with_reducible rfl))
        try simp only [Act.put]
        try simp only [List.setIfInBounds_toArray]
        try simp only [List.set_cons_succ]
        try simp only [List.set_cons_zero]
        refine wpT 6 ⟨some 64, .move (.tmp 63), 4, "law.go:49", #[⟨5, .data⟩, ⟨2, .chain⟩], none⟩ ?_ (.inl ⟨by rfl, ?_⟩) ?_
        rotate_left
        · (intro W hSw; (try dsimp only at hSw); go_simp; try (with_reducible rfl))
        try simp only [Act.put]
        try simp only [List.setIfInBounds_toArray]
        try simp only [List.set_cons_succ]
        try simp only [List.set_cons_zero]
        refine wpT 7 ⟨some 65, .fieldAddr 64 (.tmp 6) 1, 0, "law.go:49", #[⟨6, .guard⟩], some (6, false)⟩ ?_ (.inl ⟨by rfl, ?_⟩) ?_
        rotate_left
        · (intro W hSw; (try dsimp only at hSw); go_simp; try (with_reducible rfl))
        try simp only [Act.put]
        try simp only [List.setIfInBounds_toArray]
        try simp only [List.set_cons_succ]
        try simp only [List.set_cons_zero]
        refine wpT 8 ⟨some 66, .load 4 (.tmp 65), 4, "law.go:49", #[⟨7, .data⟩, ⟨6, .guard⟩], some (6, false)⟩ ?_ (.inl ⟨by rfl, ?_⟩) ?_
        rotate_left
        · (intro W hSw; (try dsimp only at hSw); go_simp; try (with_reducible rfl))
        try simp only [Act.put]
        try simp only [List.setIfInBounds_toArray]
        try simp only [List.set_cons_succ]
        try simp only [List.set_cons_zero]
        refine wpT 9 ⟨some 67, .unOp .not 4 (.tmp 66), 4, "law.go:49", #[⟨8, .data⟩, ⟨6, .guard⟩], some (6, false)⟩ ?_ (.inl ⟨by rfl, ?_⟩) ?_
        rotate_left
        · (intro W hSw; (try dsimp only at hSw); go_simp; try (with_reducible rfl))
        try simp only [Act.put]
        try simp only [List.setIfInBounds_toArray]
        try simp only [List.set_cons_succ]
        try simp only [List.set_cons_zero]
        refine wpT 10 ⟨some 68, .pick (.tmp 64) (.const (.bool true)) (.tmp 67), 4, "law.go:49", #[⟨6, .data⟩, ⟨9, .data⟩], none⟩ ?_ (.inl ⟨by rfl, ?_⟩) ?_
        rotate_left
        · (intro W hSw; (try dsimp only at hSw); go_simp; try (with_reducible rfl))
        try simp only [Act.put]
        try simp only [List.setIfInBounds_toArray]
        try simp only [List.set_cons_succ]
        try simp only [List.set_cons_zero]
        refine wpT 11 ⟨some 69, .move (.tmp 68), 4, "law.go:49", #[⟨10, .data⟩, ⟨6, .chain⟩], none⟩ ?_ (.inl ⟨by rfl, ?_⟩) ?_
        rotate_left
        · (intro W hSw; (try dsimp only at hSw); go_simp; try (with_reducible rfl))
        try simp only [Act.put]
        try simp only [List.setIfInBounds_toArray]
        try simp only [List.set_cons_succ]
        try simp only [List.set_cons_zero]
        refine wpT 12 ⟨some 70, .fieldAddr 64 (.tmp 8) 1, 0, "law.go:49", #[⟨11, .guard⟩], some (11, false)⟩ ?_ (.inl ⟨by rfl, ?_⟩) ?_
        rotate_left
        · (intro W hSw; (try dsimp only at hSw); go_simp; try (with_reducible rfl))
        try simp only [Act.put]
        try simp only [List.setIfInBounds_toArray]
        try simp only [List.set_cons_succ]
        try simp only [List.set_cons_zero]
        refine wpT 13 ⟨some 71, .load 4 (.tmp 70), 4, "law.go:49", #[⟨12, .data⟩, ⟨11, .guard⟩], some (11, false)⟩ ?_ (.inl ⟨by rfl, ?_⟩) ?_
        rotate_left
        · (intro W hSw; (try dsimp only at hSw); go_simp; try (with_reducible rfl))
        try simp only [Act.put]
        try simp only [List.setIfInBounds_toArray]
        try simp only [List.set_cons_succ]
        try simp only [List.set_cons_zero]
        refine wpT 14 ⟨some 72, .unOp .not 4 (.tmp 71), 4, "law.go:49", #[⟨13, .data⟩, ⟨11, .guard⟩], some (11, false)⟩ ?_ (.inl ⟨by rfl, ?_⟩) ?_
        rotate_left
        · (intro W hSw; (try dsimp only at hSw); go_simp; try (with_reducible rfl))
        try simp only [Act.put]
        try simp only [List.setIfInBounds_toArray]
        try simp only [List.set_cons_succ]
        try simp only [List.set_cons_zero]
        refine wpT 15 ⟨some 73, .pick (.tmp 69) (.const (.bool true)) (.tmp 72), 4, "law.go:49", #[⟨11, .data⟩, ⟨14, .data⟩], none⟩ ?_ (.inl ⟨by rfl, ?_⟩) ?_
        rotate_left
        · (intro W hSw; (try dsimp only at hSw); go_simp; try (with_reducible rfl))
        try simp only [Act.put]
        try simp only [List.setIfInBounds_toArray]
        try simp only [List.set_cons_succ]
        try simp only [List.set_cons_zero]
        refine wpT 16 ⟨some 74, .move (.tmp 73), 4, "law.go:49", #[⟨15, .data⟩, ⟨11, .chain⟩], none⟩ ?_ (.inl ⟨by rfl, ?_⟩) ?_
        rotate_left
        · (intro W hSw; (try dsimp only at hSw); go_simp; try (with_reducible rfl))
        try simp only [Act.put]
        try simp only [List.setIfInBounds_toArray]
        try simp only [List.set_cons_succ]
        try simp only [List.set_cons_zero]
        refine wpT 17 ⟨some 75, .fieldAddr 69 (.tmp 5) 0, 0, "law.go:49", #[⟨16, .guard⟩], some (16, false)⟩ ?_ (.inl ⟨by rfl, ?_⟩) ?_
        rotate_left
        · (intro W hSw; (try dsimp only at hSw); go_simp; try (with_reducible rfl))
        try simp only [Act.put]
        try simp only [List.setIfInBounds_toArray]
        try simp only [List.set_cons_succ]
        try simp only [List.set_cons_zero]
        refine wpT 18 ⟨some 76, .fieldAddr 33 (.tmp 75) 0, 0, "law.go:49", #[⟨17, .data⟩, ⟨16, .guard⟩], some (16, false)⟩ ?_ (.inl ⟨by rfl, ?_⟩) ?_
        rotate_left
        · (intro W hSw; (try dsimp only at hSw); go_simp; try (with_reducible rfl))
        try simp only [Act.put]
        try simp only [List.setIfInBounds_toArray]
        try simp only [List.set_cons_succ]
        try simp only [List.set_cons_zero]
        refine wpT 19 ⟨some 77, .load 3 (.tmp 76), 3, "law.go:49", #[⟨18, .data⟩, ⟨16, .guard⟩], some (16, false)⟩ ?_ (.inl ⟨by rfl, ?_⟩) ?_
        rotate_left
        · (intro W hSw; (try dsimp only at hSw); go_simp; try (with_reducible rfl))
        try simp only [Act.put]
        try simp only [List.setIfInBounds_toArray]
        try simp only [List.set_cons_succ]
        try simp only [List.set_cons_zero]
        refine wpT 20 ⟨some 78, .fieldAddr 69 (.tmp 5) 0, 0, "law.go:49", #[⟨16, .guard⟩], some (16, false)⟩ ?_ (.inl ⟨by rfl, ?_⟩) ?_
        rotate_left
        · (intro W hSw; (try dsimp only at hSw); go_simp; try (with_reducible rfl))
        try simp only [Act.put]
        try simp only [List.setIfInBounds_toArray]
        try simp only [List.set_cons_succ]
        try simp only [List.set_cons_zero]
        refine wpT 21 ⟨some 79, .fieldAddr 33 (.tmp 78) 1, 0, "law.go:49", #[⟨20, .data⟩, ⟨16, .guard⟩], some (16, false)⟩ ?_ (.inl ⟨by rfl, ?_⟩) ?_
        rotate_left
        · (intro W hSw; (try dsimp only at hSw); go_simp; try (with_reducible rfl))
        try simp only [Act.put]
        try simp only [List.setIfInBounds_toArray]
        try simp only [List.set_cons_succ]
        try simp only [List.set_cons_zero]
        refine wpT 22 ⟨some 80, .load 3 (.tmp 79), 3, "law.go:49", #[⟨21, .data⟩, ⟨16, .guard⟩], some (16, false)⟩ ?_ (.inl ⟨by rfl, ?_⟩) ?_
        rotate_left
        · (intro W hSw; (try dsimp only at hSw); go_simp; try (with_reducible rfl))
        try simp only [Act.put]
        try simp only [List.setIfInBounds_toArray]
        try simp only [List.set_cons_succ]
        try simp only [List.set_cons_zero]
        refine wpT 23 ⟨some 81, .binOp .eql 3 (.tmp 77) (.tmp 80) 3, 4, "law.go:49", #[⟨19, .data⟩, ⟨22, .data⟩, ⟨16, .guard⟩], some (16, false)⟩ ?_ (.inl ⟨by rfl, ?_⟩) ?_
        rotate_left
        · (intro W hSw; (try dsimp only at hSw); go_simp; try (with_reducible rfl))
        try simp only [Act.put]
        try simp only [List.setIfInBounds_toArray]
        try simp only [List.set_cons_succ]
        try simp only [List.set_cons_zero]
        refine wpT 24 ⟨some 82, .pick (.tmp 74) (.const (.bool true)) (.tmp 81), 4, "law.go:49", #[⟨16, .data⟩, ⟨23, .data⟩], none⟩ ?_ (.inl ⟨by rfl, ?_⟩) ?_
        rotate_left
        · (intro W hSw; (try dsimp only at hSw); go_simp; try (with_reducible rfl))
        try simp only [Act.put]
        try simp only [List.setIfInBounds_toArray]
        try simp only [List.set_cons_succ]
        try simp only [List.set_cons_zero]
        refine wpT 25 ⟨some 83, .move (.tmp 82), 4, "law.go:49", #[⟨24, .data⟩, ⟨16, .chain⟩], none⟩ ?_ (.inl ⟨by rfl, ?_⟩) ?_
        rotate_left
        · (intro W hSw; (try dsimp only at hSw); go_simp; try (with_reducible rfl))
        try simp only [Act.put]
        try simp only [List.setIfInBounds_toArray]
        try simp only [List.set_cons_succ]
        try simp only [List.set_cons_zero]
        refine wpT 26 ⟨some 84, .fieldAddr 69 (.tmp 5) 1, 0, "law.go:49", #[⟨25, .guard⟩], some (25, false)⟩ ?_ (.inl ⟨by rfl, ?_⟩) ?_
        rotate_left
        · (intro W hSw; (try dsimp only at hSw); go_simp; try (with_reducible rfl))
        try simp only [Act.put]
        try simp only [List.setIfInBounds_toArray]
        try simp only [List.set_cons_succ]
        try simp only [List.set_cons_zero]
        refine wpT 27 ⟨some 85, .load 3 (.tmp 84), 3, "law.go:49", #[⟨26, .data⟩, ⟨25, .guard⟩], some (25, false)⟩ ?_ (.inl ⟨by rfl, ?_⟩) ?_
        rotate_left
        · (intro W hSw; (try dsimp only at hSw); go_simp; try (with_reducible rfl))
        try simp only [Act.put]
        try simp only [List.setIfInBounds_toArray]
        try simp only [List.set_cons_succ]
        try simp only [List.set_cons_zero]
        refine wpT 28 ⟨some 86, .binOp .lss 3 (.tmp 85) (.const (.int .i64 1)) 3, 4, "law.go:49", #[⟨27, .data⟩, ⟨25, .guard⟩], some (25, false)⟩ ?_ (.inl ⟨by rfl, ?_⟩) ?_
        rotate_left
        · (intro W hSw; (try dsimp only at hSw); go_simp; try (with_reducible rfl))
        try simp only [Act.put]
        try simp only [List.setIfInBounds_toArray]
        try simp only [List.set_cons_succ]
        try simp only [List.set_cons_zero]
        refine wpT 29 ⟨some 87, .pick (.tmp 83) (.const (.bool true)) (.tmp 86), 4, "law.go:49", #[⟨25, .data⟩, ⟨28, .data⟩], none⟩ ?_ (.inl ⟨by rfl, ?_⟩) ?_
        rotate_left
        · (intro W hSw; (try dsimp only at hSw); go_simp; try (with_reducible rfl))
        try simp only [Act.put]
        try simp only [List.setIfInBounds_toArray]
        try simp only [List.set_cons_succ]
        try simp only [List.set_cons_zero]
        refine wpT 30 ⟨some 88, .move (.tmp 87), 4, "law.go:49", #[⟨29, .data⟩, ⟨25, .chain⟩], none⟩ ?_ (.inl ⟨by rfl, ?_⟩) ?_
        rotate_left
        · (intro W hSw; (try dsimp only at hSw); go_simp; try (with_reducible rfl))
        try simp only [Act.put]
        try simp only [List.setIfInBounds_toArray]
        try simp only [List.set_cons_succ]
        try simp only [List.set_cons_zero]
        refine wpT 31 ⟨some 89, .move (.tmp 4), 3, "law.go:49", #[⟨30, .guard⟩], some (30, false)⟩ ?_ (.inl ⟨by rfl, ?_⟩) ?_
        rotate_left
        · (intro W hSw; (try dsimp only at hSw); go_simp; try (with_reducible rfl))
        try simp only [Act.put]
        try simp only [List.setIfInBounds_toArray]
        try simp only [List.set_cons_succ]
        try simp only [List.set_cons_zero]
        refine wpT 32 ⟨some 90, .binOp .gtr 3 (.tmp 89) (.const (.int .i64 0)) 3, 4, "law.go:49", #[⟨31, .data⟩, ⟨30, .guard⟩], some (30, false)⟩ ?_ (.inl ⟨by rfl, ?_⟩) ?_
        rotate_left
        · (intro W hSw; (try dsimp only at hSw); go_simp; try (with_reducible rfl))
        try simp only [Act.put]
        try simp only [List.setIfInBounds_toArray]
        try simp only [List.set_cons_succ]
        try simp only [List.set_cons_zero]
        refine wpT 33 ⟨some 91, .move (.tmp 90), 4, "law.go:49", #[⟨32, .data⟩, ⟨30, .chain⟩, ⟨30, .guard⟩], some (30, false)⟩ ?_ (.inl ⟨by rfl, ?_⟩) ?_
        rotate_left
        · (intro W hSw; (try dsimp only at hSw); go_simp; try (with_reducible rfl))
        try simp only [Act.put]
        try simp only [List.setIfInBounds_toArray]
        try simp only [List.set_cons_succ]
        try simp only [List.set_cons_zero]
        refine wpT 34 ⟨some 92, .move (.tmp 3), 60, "law.go:49", #[⟨33, .guard⟩], some (33, true)⟩ ?_ (.inl ⟨by rfl, ?_⟩) ?_
        rotate_left
        · (intro W hSw; (try dsimp only at hSw); go_simp; try (with_reducible rfl))
        try simp only [Act.put]
        try simp only [List.setIfInBounds_toArray]
        try simp only [List.set_cons_succ]
        try simp only [List.set_cons_zero]
        refine wpT 35 ⟨some 93, .move (.tmp 4), 3, "law.go:49", #[⟨33, .guard⟩], some (33, true)⟩ ?_ (.inl ⟨by rfl, ?_⟩) ?_
        rotate_left
        · (intro W hSw; (try dsimp only at hSw); go_simp; try (with_reducible rfl))
        try simp only [Act.put]
        try simp only [List.setIfInBounds_toArray]
        try simp only [List.set_cons_succ]
        try simp only [List.set_cons_zero]
        refine wpT 36 ⟨some 94, .binOp .sub 3 (.tmp 93) (.const (.int .i64 1)) 3, 3, "law.go:49", #[⟨35, .data⟩, ⟨33, .guard⟩], some (33, true)⟩ ?_ (.inl ⟨by rfl, ?_⟩) ?_
        rotate_left
        · (intro W hSw; (try dsimp only at hSw); go_simp; try (with_reducible rfl))
        try simp only [Act.put]
        try simp only [List.setIfInBounds_toArray]
        try simp only [List.set_cons_succ]
        try simp only [List.set_cons_zero]
        refine wpT 37 ⟨some 95, .indexAddr 60 (.tmp 92) (.tmp 94), 0, "law.go:49", #[⟨34, .data⟩, ⟨36, .data⟩, ⟨33, .guard⟩], some (33, true)⟩ ?_ (.inl ⟨by rfl, ?_⟩) ?_
        rotate_left
        · (intro W hSw; (try dsimp only at hSw); go_simp; try (with_reducible rfl))
        try simp only [Act.put]
        try simp only [List.setIfInBounds_toArray]
        try simp only [List.set_cons_succ]
        try simp only [List.set_cons_zero]
        refine wpT 38 ⟨some 96, .fieldAddr 69 (.tmp 95) 0, 0, "law.go:49", #[⟨37, .data⟩, ⟨33, .guard⟩], some (33, true)⟩ ?_ (.inl ⟨by rfl, ?_⟩) ?_
        rotate_left
        · (intro W hSw; (try dsimp only at hSw); go_simp; try (with_reducible rfl))
        try simp only [Act.put]
        try simp only [List.setIfInBounds_toArray]
        try simp only [List.set_cons_succ]
        try simp only [List.set_cons_zero]
        refine wpT 39 ⟨some 97, .load 33 (.tmp 96), 33, "law.go:49", #[⟨38, .data⟩, ⟨33, .guard⟩], some (33, true)⟩ ?_ (.inl ⟨by rfl, ?_⟩) ?_
        rotate_left
        · (intro W hSw; (try dsimp only at hSw); go_simp; try (with_reducible rfl))
        try simp only [Act.put]
        try simp only [List.setIfInBounds_toArray]
        try simp only [List.set_cons_succ]
        try simp only [List.set_cons_zero]
        refine wpT 40 ⟨some 98, .fieldAddr 69 (.tmp 5) 0, 0, "law.go:49", #[⟨33, .guard⟩], some (33, true)⟩ ?_ (.inl ⟨by rfl, ?_⟩) ?_
        rotate_left
        · (intro W hSw; (try dsimp only at hSw); go_simp; try (with_reducible rfl))
        try simp only [Act.put]
        try simp only [List.setIfInBounds_toArray]
        try simp only [List.set_cons_succ]
        try simp only [List.set_cons_zero]
        refine wpT 41 ⟨some 99, .load 33 (.tmp 98), 33, "law.go:49", #[⟨40, .data⟩, ⟨33, .guard⟩], some (33, true)⟩ ?_ (.inl ⟨by rfl, ?_⟩) ?_
        rotate_left
        · (intro W hSw; (try dsimp only at hSw); go_simp; try (with_reducible rfl))
        try simp only [Act.put]
        try simp only [List.setIfInBounds_toArray]
        try simp only [List.set_cons_succ]
        try simp only [List.set_cons_zero]
        refine wpAnyH_ready (rs := [42]) (by kernel_rfl) (by simp) ?_
        refine AllReadyH.cons (o := ⟨some 100, .call { callee := .value (.func 41), args := #[.tmp 97, .tmp 99], argTypes := #[33, 33] }, 4, "law.go:49", #[⟨39, .data⟩, ⟨41, .data⟩, ⟨33, .chain⟩, ⟨33, .guard⟩], some (33, true)⟩) rfl (fun K hK => ?_) AllReadyH.nil
        go_simp
        (first
    | (go_at_call 41; refine Calls.mono (PL.out _) ?_; rintro r w9 ⟨rfl, hu9⟩))
        try (go_wp2_with fail)
        refine hK.out _ _ ?_ (fun hHeld => ?_)
        · (first | exact hzz.drew | exact hHeld.trans hu9 | exact hHeld)
        clear hK K
        try simp only [Act.put]
        try simp only [List.setIfInBounds_toArray]
        try simp only [List.set_cons_succ]
        try simp only [List.set_cons_zero]
        refine wpT 43 ⟨some 101, .unOp .not 4 (.tmp 100), 4, "law.go:49", #[⟨42, .data⟩, ⟨33, .guard⟩], some (33, true)⟩ ?_ (.inl ⟨by rfl, ?_⟩) ?_
        rotate_left
        · (intro W hSw; (try dsimp only at hSw); go_simp; try (with_reducible rfl))
        try simp only [Act.put]
        try simp only [List.setIfInBounds_toArray]
        try simp only [List.set_cons_succ]
        try simp only [List.set_cons_zero]
        refine wpT 44 ⟨some 102, .pick (.tmp 91) (.tmp 101) (.const (.bool false)), 4, "law.go:49", #[⟨33, .data⟩, ⟨43, .data⟩, ⟨30, .guard⟩], some (30, false)⟩ ?_ (.inl ⟨by rfl, ?_⟩) ?_
        rotate_left
        · (intro W hSw; (try dsimp only at hSw); go_simp; try (with_reducible rfl))
        try simp only [Act.put]
        try simp only [List.setIfInBounds_toArray]
        try simp only [List.set_cons_succ]
        try simp only [List.set_cons_zero]
        refine wpT 45 ⟨some 103, .pick (.tmp 88) (.const (.bool true)) (.tmp 102), 4, "law.go:49", #[⟨30, .data⟩, ⟨44, .data⟩], none⟩ ?_ (.inl ⟨by rfl, ?_⟩) ?_
        rotate_left
        · (intro W hSw; (try dsimp only at hSw); go_simp; try (with_reducible rfl))
        try simp only [Act.put]
        try simp only [List.setIfInBounds_toArray]
        try simp only [List.set_cons_succ]
        try simp only [List.set_cons_zero]
        refine wpAnyH_done (by kernel_rfl) (NoPanic.normal ?_) _
        have HH := Lib.hid hHeld
        clear hHeld
        go_wp2
        go_roundg (gk - 1)
        case measure => omega
        case rel => exact ⟨k + 1, by omega, by go_num, HUZ.out.trans HH.out⟩
    · obtain rfl : k = l.length := by omega
      generalize gk = GK at *
      obtain ⟨wo, hwo⟩ : ∃ wo, wo = wr := ⟨_, rfl⟩
      subst hwo
      have d0 := D0.out
      have d1 := D1.out
      have hxl : List.length (l.take l.length) = l.length := by rw [List.take_length]
      go_wp2
      go_loopg [108] txs.length (fun gk i wr => ∃ k : Nat, k + gk = txs.length ∧ i = .int .i64 k ∧ Upd No w3 wr)
      case atStart => exact ⟨0, by omega, rfl, hu⟩
      case round =>
        clear hu
        obtain ⟨k, hgk, rfl, hu⟩ := hrel
        by_cases hlt : k < txs.length
        · obtain ⟨ad, hAd, q0, q1, q2⟩ := (HB3.out.upd hu (fun _ _ => id)).tx_at hlt
          simp only at hAd q0 q1 q2
          have hx2 := HN.out.2 _ (List.getElem_mem hlt)
          have hx0 := HB3.out.tx txs[k] (List.getElem_mem hlt)
          have hxm := List.getElem_mem hlt
          obtain ⟨⟨xi, xd, xo, xA, xc⟩, hx⟩ : ∃ x, txs[k] = x := ⟨_, rfl⟩
          rw [hx] at q0 q1 q2 hx2 hx0 hxm
          simp only at q0 q1 q2 hx2
          subst hAd
          have HX0 := Lib.hid (show HOps F w3 xA xo from hx0.1)
          have HSM := Lib.hid (show wsum (toT xi) 0 l = (xo.countP (rdOf ⟨txs, ords, some ad, c, B, d⟩ ⟨xi, xd, xo, xA, xc⟩) : Int) by rw [← HE.out]; exact reads_sum HR.out hxm)
          have b1 : (0 : Int) ≤ (k : Int) := Int.natCast_nonneg _
          have b2 : (k : Int) < (txs.length : Int) := by omega
          obtain ⟨wx, hwx⟩ : ∃ wx, wr.alloc (.cells #[.int .i64 xi, .bool xd, .slice xA xo.length xc] 64) = wx := ⟨_, rfl⟩
          have ux : Upd No wr wx := by rw [← hwx]; exact (Upd.refl No wr).alloc _
          have bo : Blk wx wr.heap.size 64 [.int .i64 xi, .bool xd, .slice xA xo.length xc] := by rw [← hwx]; exact Blk.new wr _ _
          have t0 : ∀ W, Upd No wx W → W.cell? ⟨wr.heap.size, 0, none⟩ = some (.int .i64 xi) := fun W u => (bo.upd u id).cell 0
          have t1 : ∀ W, Upd No wx W → W.cell? ⟨wr.heap.size, 1, none⟩ = some (.bool xd) := fun W u => (bo.upd u id).cell 1
          have t2 : ∀ W, Upd No wx W → W.cell? ⟨wr.heap.size, 2, none⟩ = some (.slice xA xo.length xc) := fun W u => (bo.upd u id).cell 2
          have HUX := Lib.hid (hu.trans ux)
          have hxz : Upd No wx wx := Upd.refl _ _
          have e0 : ∀ W, Upd No wx W → W.cell? ⟨z, 0, none⟩ = some (.slice (some ad) txs.length c) := fun W u => d0 W (HUX.out.trans u)
          have e1 : ∀ W, Upd No wx W → W.cell? ⟨z, 1, none⟩ = some (.slice B ords.length d) := fun W u => d1 W (HUX.out.trans u)
          clear hx hxm bo ux hx0
          obtain ⟨wo2, hwo2⟩ : ∃ wo2, wo2 = wr := ⟨_, rfl⟩
          subst hwo2
          generalize gk = GK2 at *
          go_wp2
          go_loopg [12, 114] l.length (fun gj n i wr => ∃ j : Nat, j + gj = l.length ∧ n = .int .i64 (wsum (toT xi) 0 (l.take j)) ∧ i = .int .i64 j ∧ Upd No wx wr)
          case atStart => exact ⟨0, by omega, rfl, rfl, hxz⟩
          case round =>
            obtain ⟨j, hgj, rfl, rfl, hu2⟩ := hrel
            by_cases hltj : j < l.length
            · obtain ⟨ad, rfl, q0, q1, q2, q3, q4⟩ := (Hvys.upd HG.out (HUX.out.trans hu2) (fun _ _ => id)).at_ hltj
              have hxm := List.getElem_mem hltj
              obtain ⟨⟨⟨xf, xt, xk, xy⟩, xn⟩, hx⟩ : ∃ x, l[j] = x := ⟨_, rfl⟩
              rw [hx] at q0 q1 q2 q3 q4 hxm
              simp only at q0 q1 q2 q3 q4
              have i1 : (0 : Int) ≤ (j : Int) := Int.natCast_nonneg _
              have i2 : (j : Int) < (l.length : Int) := by omega
              obtain ⟨wh, hwh⟩ : ∃ wh, wr.alloc (.cells #[.int .i64 xf, .int .i64 xt, .int .i64 xk, .int .i64 xy, .int .i64 xn] 69) = wh := ⟨_, rfl⟩
              have uh : Upd No wr wh := by rw [← hwh]; exact (Upd.refl No wr).alloc _
              have bo : Blk wh wr.heap.size 69 [.int .i64 xf, .int .i64 xt, .int .i64 xk, .int .i64 xy, .int .i64 xn] := by rw [← hwh]; exact Blk.new wr _ _
              have m1 := bo.cell 1
              have m2 := bo.cell 2
              have m3 := bo.cell 3
              have m4 := bo.cell 4
              simp only [List.getElem?_cons_zero, List.getElem?_cons_succ] at m1 m2 m3 m4
              have HUH := Lib.hid (hu2.trans uh)
              have hxh : Upd No wx wh := hu2.trans uh
              have hn := HF.out _ hxm
              simp only at hn
              obtain ⟨N, hN⟩ : ∃ N, wsum (toT xi) 0 (l.take j) = N := ⟨_, rfl⟩
              have hNb := wsum_bound (toT xi) (l.take j) 0 fun x hx => HF.out x (List.mem_of_mem_take hx)
              rw [hN, List.length_take] at hNb
              have hwr : IntKind.i64.wrap (N + xn) = N + xn := IntWalk.i64_in _ (by omega)
              have HT := Lib.hid (wsum_take (p := toT xi) (a := 0) hltj hx)
              rw [hN]
              clear hx hxm bo uh
              by_cases k2 : xk = 2
              · subst k2
                by_cases kt : xt = xi
                · subst kt
                  have HS := Lib.hid (show wsum (toT xt) 0 (l.take (j + 1)) = N + xn by rw [HT.out, hN, if_pos (by simp [toT])])
                  go_wp2
                  go_roundg (gk - 1)
                  case measure => omega
                  case rel => exact ⟨j + 1, by omega, by rw [HS.out], by go_num, HUH.out⟩
                · have ht : (xt == xi) = false := by simpa using kt
                  have HS := Lib.hid (show wsum (toT xi) 0 (l.take (j + 1)) = N by rw [HT.out, hN, if_neg (by simp [toT, kt])])
                  go_wp2
                  go_roundg (gk - 1)
                  case measure => omega
                  case rel => exact ⟨j + 1, by omega, by rw [HS.out], by go_num, HUH.out⟩
              · have ht : (xk == 2) = false := by simpa using k2
                have HS := Lib.hid (show wsum (toT xi) 0 (l.take (j + 1)) = N by rw [HT.out, hN, if_neg (by simp [toT, k2])])
                go_wp2
                go_roundg (gk - 1)
                case measure => omega
                case rel => exact ⟨j + 1, by omega, by rw [HS.out], by go_num, HUH.out⟩
            · obtain rfl : j = l.length := by omega
              have hfin : wsum (toT xi) 0 (l.take l.length) = (xo.countP (rdOf ⟨txs, ords, some ad, c, B, d⟩ ⟨xi, xd, xo, xA, xc⟩) : Int) := by rw [List.take_length]; exact HSM.out
              rw [hfin]
              clear hfin
              obtain ⟨M, hM⟩ : ∃ M : Nat, xo.countP (rdOf ⟨txs, ords, some ad, c, B, d⟩ ⟨xi, xd, xo, xA, xc⟩) = M := ⟨_, rfl⟩
              rw [hM]
              have HM := Lib.hid hM
              clear hM
              obtain ⟨wo3, hwo3⟩ : ∃ wo3, wo3 = wr := ⟨_, rfl⟩
              subst hwo3
              generalize gk = GK3 at *
              go_wp2
              go_loopg [13, 138] xo.length (fun gj n i wr => ∃ j : Nat, j + gj = xo.length ∧ n = .int .i64 (((xo.take j).countP (rdOf ⟨txs, ords, some ad, c, B, d⟩ ⟨xi, xd, xo, xA, xc⟩) : Nat) : Int) ∧ i = .int .i64 j ∧ Upd No wx wr)
              case atStart => exact ⟨0, by omega, rfl, rfl, hu2⟩
              case round =>
                clear hu2
                obtain ⟨j, hgj, rfl, rfl, hu2⟩ := hrel
                by_cases hltj : j < xo.length
                · obtain ⟨ad2, hAd2, p0, p1, p2, p3⟩ := (HX0.out.upd (HUX.out.trans hu2) (fun _ _ => id)).at_ hltj
                  have hcs := countP_take (p := rdOf ⟨txs, ords, some ad, c, B, d⟩ ⟨xi, xd, xo, xA, xc⟩) hltj rfl
                  obtain ⟨⟨yr, yk, yt, yn⟩, hy⟩ : ∃ y, xo[j] = y := ⟨_, rfl⟩
                  rw [hy] at p0 p1 p2 p3 hcs
                  simp only at p0 p1 p2 p3
                  subst hAd2
                  have c1 : (0 : Int) ≤ (j : Int) := Int.natCast_nonneg _
                  have c2 : (j : Int) < (xo.length : Int) := by omega
                  obtain ⟨wy, hwy⟩ : ∃ wy, wr.alloc (.cells #[.bool yr, .int .i64 yk, .int .i64 yt, .int .i64 yn] 66) = wy := ⟨_, rfl⟩
                  have uy : Upd No wr wy := by rw [← hwy]; exact (Upd.refl No wr).alloc _
                  have bo : Blk wy wr.heap.size 66 [.bool yr, .int .i64 yk, .int .i64 yt, .int .i64 yn] := by rw [← hwy]; exact Blk.new wr _ _
                  have o0 := bo.cell 0
                  have o1 := bo.cell 1
                  have o2 := bo.cell 2
                  have o3 := bo.cell 3
                  simp only [List.getElem?_cons_zero, List.getElem?_cons_succ] at o0 o1 o2 o3
                  have hxy : Upd No wx wy := hu2.trans uy
                  have HUY := Lib.hid hxy
                  obtain ⟨N, hN⟩ : ∃ N, (xo.take j).countP (rdOf ⟨txs, ords, some ad, c, B, d⟩ ⟨xi, xd, xo, some ad2, xc⟩) = N := ⟨_, rfl⟩
                  have hNb : N ≤ 24 := by
                    have := List.countP_le_length (p := rdOf ⟨txs, ords, some ad, c, B, d⟩ ⟨xi, xd, xo, some ad2, xc⟩) (l := xo.take j)
                    rw [List.length_take] at this
                    omega
                  rw [hN] at hcs ⊢
                  have HC := Lib.hid hcs
                  have hwr : IntKind.i64.wrap ((N : Int) + 1) = (N : Int) + 1 := IntWalk.i64_in _ (by omega)
                  clear hy bo uy hcs
                  cases xd
                  · have HS := Lib.hid (show (xo.take (j + 1)).countP _ = N from HC.out.trans (by rw [if_neg (by simp [rdOf])]; rfl))
                    go_wp2
                    go_roundg (gk - 1)
                    case measure => omega
                    case rel => exact ⟨j + 1, by omega, by rw [HS.out], by go_num, HUY.out⟩
                  cases yr
                  · have HS := Lib.hid (show (xo.take (j + 1)).countP _ = N from HC.out.trans (by rw [if_neg (by simp [rdOf])]; rfl))
                    go_wp2
                    go_roundg (gk - 1)
                    case measure => omega
                    case rel => exact ⟨j + 1, by omega, by rw [HS.out], by go_num, HUY.out⟩
                  by_cases k0 : yt = 0
                  · subst k0
                    have HS := Lib.hid (show (xo.take (j + 1)).countP _ = N from HC.out.trans (by rw [if_neg (by simp [rdOf])]; rfl))
                    go_wp2
                    go_roundg (gk - 1)
                    case measure => omega
                    case rel => exact ⟨j + 1, by omega, by rw [HS.out], by go_num, HUY.out⟩
                  have f0 : (yt != 0) = true := by simpa using k0
                  by_cases ki : yt = xi
                  · subst ki
                    have HS := Lib.hid (show (xo.take (j + 1)).countP _ = N from HC.out.trans (by rw [if_neg (by simp [rdOf])]; rfl))
                    go_wp2
                    go_roundg (gk - 1)
                    case measure => omega
                    case rel => exact ⟨j + 1, by omega, by rw [HS.out], by go_num, HUY.out⟩
                  have f1 : (yt != xi) = true := by simpa using ki
                  obtain ⟨lb, hlb⟩ : ∃ lb, lastB txs ⟨yt, yk, yn⟩ = lb := ⟨_, rfl⟩
                  have CL := Lib.hid (fun (W : World) (u : Upd No wx W) => rLastV (rd := true) (HB3.out.upd (HUX.out.trans u) (fun _ _ => id)) hlb)
                  have HLB := Lib.hid hlb
                  have K0 := Lib.hid k0
                  have KI := Lib.hid ki
                  clear hlb k0 ki
                  go_wp2_with fail
                  refine (CL.out _ hxy).mono ?_
                  rintro e w9 ⟨rfl, hu9⟩
                  have HU9 := Lib.hid (hxy.trans hu9)
                  cases lb
                  · have HS := Lib.hid (show (xo.take (j + 1)).countP (rdOf ⟨txs, ords, some ad, c, B, d⟩ ⟨xi, true, xo, some ad2, xc⟩) = N by rw [HC.out, if_neg (by simp [rdOf, HLB.out])]; rfl)
                    go_wp2
                    go_roundg (gk - 1)
                    case measure => omega
                    case rel => exact ⟨j + 1, by omega, by rw [HS.out], by go_num, HU9.out⟩
                  · have HS := Lib.hid (show (xo.take (j + 1)).countP (rdOf ⟨txs, ords, some ad, c, B, d⟩ ⟨xi, true, xo, some ad2, xc⟩) = N + 1 by rw [HC.out, if_pos (by simp [rdOf, HLB.out, K0.out, KI.out])])
                    go_wp2
                    go_roundg (gk - 1)
                    case measure => omega
                    case rel => exact ⟨j + 1, by omega, by rw [HS.out]; go_num, by go_num, HU9.out⟩
                · obtain rfl : j = xo.length := by omega
                  have hfin : (xo.take xo.length).countP (rdOf ⟨txs, ords, some ad, c, B, d⟩ ⟨xi, xd, xo, xA, xc⟩) = M := by rw [List.take_length]; exact HM.out
                  rw [hfin]
                  clear hfin
                  go_wp2
                  go_roundg (GK2 - 1)
                  case measure => omega
                  case rel => exact ⟨k + 1, by omega, by go_num, HUX.out.trans hu2⟩
        · obtain rfl : k = txs.length := by omega
          obtain ⟨wo2, hwo2⟩ : ∃ wo2, wo2 = wr := ⟨_, rfl⟩
          subst hwo2
          generalize gk = GK2 at *
          go_wp2
          go_loopg [175] ords.length (fun gk i wr => ∃ k : Nat, k + gk = ords.length ∧ i = .int .i64 k ∧ Upd No w3 wr)
          case atStart => exact ⟨0, by omega, rfl, hu⟩
          case round =>
            clear hu
            obtain ⟨k, hgk, rfl, hu⟩ := hrel
            by_cases hlt : k < ords.length
            · obtain ⟨ad, hAd, q0, q1⟩ := (HB3.out.upd hu (fun _ _ => id)).ord_at hlt
              simp only at hAd q0 q1
              have hxm := List.getElem_mem hlt
              obtain ⟨⟨yk, yt, yA, yc⟩, hx⟩ : ∃ x, ords[k] = x := ⟨_, rfl⟩
              rw [hx] at q0 q1 hxm
              simp only at q0 q1
              subst hAd
              have HSM := Lib.hid (show wsum (atK yk) 1 l = (yt.length : Int) by rw [← HE.out]; exact order_sum HR.out hxm)
              have b1 : (0 : Int) ≤ (k : Int) := Int.natCast_nonneg _
              have b2 : (k : Int) < (ords.length : Int) := by omega
              obtain ⟨wx, hwx⟩ : ∃ wx, wr.alloc (.cells #[.int .i64 yk, .slice yA yt.length yc] 76) = wx := ⟨_, rfl⟩
              have ux : Upd No wr wx := by rw [← hwx]; exact (Upd.refl No wr).alloc _
              have bo : Blk wx wr.heap.size 76 [.int .i64 yk, .slice yA yt.length yc] := by rw [← hwx]; exact Blk.new wr _ _
              have t0 : ∀ W, Upd No wx W → W.cell? ⟨wr.heap.size, 0, none⟩ = some (.int .i64 yk) := fun W u => (bo.upd u id).cell 0
              have t1 : ∀ W, Upd No wx W → W.cell? ⟨wr.heap.size, 1, none⟩ = some (.slice yA yt.length yc) := fun W u => (bo.upd u id).cell 1
              have HUX := Lib.hid (hu.trans ux)
              have hxz : Upd No wx wx := Upd.refl _ _
              clear hx hxm bo ux
              obtain ⟨wo3, hwo3⟩ : ∃ wo3, wo3 = wr := ⟨_, rfl⟩
              subst hwo3
              generalize gk = GK3 at *
              go_wp2
              go_loopg [20, 181] l.length (fun gj n i wr => ∃ j : Nat, j + gj = l.length ∧ n = .int .i64 (wsum (atK yk) 1 (l.take j)) ∧ i = .int .i64 j ∧ Upd No wx wr)
              case atStart => exact ⟨0, by omega, rfl, rfl, hxz⟩
              case round =>
                obtain ⟨j, hgj, rfl, rfl, hu2⟩ := hrel
                by_cases hltj : j < l.length
                · obtain ⟨ad, rfl, q0, q1, q2, q3, q4⟩ := (Hvys.upd HG.out (HUX.out.trans hu2) (fun _ _ => id)).at_ hltj
                  have hxm := List.getElem_mem hltj
                  obtain ⟨⟨⟨xf, xt, xk, xy⟩, xn⟩, hx⟩ : ∃ x, l[j] = x := ⟨_, rfl⟩
                  rw [hx] at q0 q1 q2 q3 q4 hxm
                  simp only at q0 q1 q2 q3 q4
                  have i1 : (0 : Int) ≤ (j : Int) := Int.natCast_nonneg _
                  have i2 : (j : Int) < (l.length : Int) := by omega
                  obtain ⟨wh, hwh⟩ : ∃ wh, wr.alloc (.cells #[.int .i64 xf, .int .i64 xt, .int .i64 xk, .int .i64 xy, .int .i64 xn] 69) = wh := ⟨_, rfl⟩
                  have uh : Upd No wr wh := by rw [← hwh]; exact (Upd.refl No wr).alloc _
                  have bo : Blk wh wr.heap.size 69 [.int .i64 xf, .int .i64 xt, .int .i64 xk, .int .i64 xy, .int .i64 xn] := by rw [← hwh]; exact Blk.new wr _ _
                  have m1 := bo.cell 1
                  have m2 := bo.cell 2
                  have m3 := bo.cell 3
                  have m4 := bo.cell 4
                  simp only [List.getElem?_cons_zero, List.getElem?_cons_succ] at m1 m2 m3 m4
                  have HUH := Lib.hid (hu2.trans uh)
                  have hxh : Upd No wx wh := hu2.trans uh
                  have hn := HF.out _ hxm
                  simp only at hn
                  obtain ⟨N, hN⟩ : ∃ N, wsum (atK yk) 1 (l.take j) = N := ⟨_, rfl⟩
                  have hNb := wsum_bound (atK yk) (l.take j) 1 fun x hx => HF.out x (List.mem_of_mem_take hx)
                  rw [hN, List.length_take] at hNb
                  have hwr : IntKind.i64.wrap (N + xn) = N + xn := IntWalk.i64_in _ (by omega)
                  have HT := Lib.hid (wsum_take (p := atK yk) (a := 1) hltj hx)
                  rw [hN]
                  clear hx hxm bo uh
                  by_cases k2 : xk = 1
                  · subst k2
                    by_cases kt : xy = yk
                    · subst kt
                      have HS := Lib.hid (show wsum (atK xy) 1 (l.take (j + 1)) = N + xn by rw [HT.out, hN, if_pos (by simp [atK])])
                      go_wp2
                      go_roundg (gk - 1)
                      case measure => omega
                      case rel => exact ⟨j + 1, by omega, by rw [HS.out], by go_num, HUH.out⟩
                    · have ht : (xy == yk) = false := by simpa using kt
                      have HS := Lib.hid (show wsum (atK yk) 1 (l.take (j + 1)) = N by rw [HT.out, hN, if_neg (by simp [atK, kt])])
                      go_wp2
                      go_roundg (gk - 1)
                      case measure => omega
                      case rel => exact ⟨j + 1, by omega, by rw [HS.out], by go_num, HUH.out⟩
                  · have ht : (xk == 1) = false := by simpa using k2
                    have HS := Lib.hid (show wsum (atK yk) 1 (l.take (j + 1)) = N by rw [HT.out, hN, if_neg (by simp [atK, k2])])
                    go_wp2
                    go_roundg (gk - 1)
                    case measure => omega
                    case rel => exact ⟨j + 1, by omega, by rw [HS.out], by go_num, HUH.out⟩
                · obtain rfl : j = l.length := by omega
                  have hfin : wsum (atK yk) 1 (l.take l.length) = (yt.length : Int) := by rw [List.take_length]; exact HSM.out
                  rw [hfin]
                  clear hfin
                  go_wp2
                  go_roundg (GK3 - 1)
                  case measure => omega
                  case rel => exact ⟨k + 1, by omega, by go_num, HUX.out.trans hu2⟩
            · obtain rfl : k = ords.length := by omega
              go_wp2
              go_ret
              exact ⟨rfl, (U0.out.trans V3.out).trans hu⟩
end Go.Proofs.Ytaicemjckagcaaa
