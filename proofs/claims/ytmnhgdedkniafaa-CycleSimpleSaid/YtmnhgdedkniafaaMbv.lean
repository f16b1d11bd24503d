/- Closed walks: the law that the walk that is told is simple. -/
import Derived.Test.YtmnhgdedkniafaaMbu
namespace Go.Proofs.Ytmnhgdedkniafaa
set_option linter.unusedVariables false
open Go.RowKit
theorem cut_h0 {P : Program} {t e : TypeId} {size bytes : Nat} (W : World) (hT : SlT P t e size bytes) (ad : Addr) (len cap h : Nat) (h1 : h ≤ cap) :
    (Instr.slice t (.slice (some ad) len cap) none (some (.int .i64 h)) none).run P W = .ok (.slice (some ad) h cap) W := by
  have h2 := run_cut_h (P := P) (W := W) hT (some ad) len cap h h1
  have h3 : cutA (some ad) cap 0 size = some ad := by
    have ha : ad.add 0 = ad := by unfold Addr.add; simp
    unfold cutA
    split
    · rfl
    · simp [ha]
  rwa [h3] at h2
theorem kind_pow {k : Int} (h : k = 1 ∨ k = 2 ∨ k = 3) : (2 : Int) ^ min (IntKind.u64.wrap k).toNat 64 = 2 ^ k.toNat := by
  rcases h with rfl | rfl | rfl <;> rfl
/-- whether one of the first so many is of the mask, or none need be -/
def hasL (d : List Edge) (must : Int) (k : Nat) : Bool := !needR must || (d.take k).any fun e => bitM must e.k
theorem hasL_succ {d : List Edge} {must : Int} {k : Nat} {x : Edge} (hk : k < d.length) (hx : d[k] = x) : hasL d must (k + 1) = (hasL d must k || bitM must x.k) := by
  unfold hasL
  rw [List.take_succ_eq_append_getElem hk, List.any_append, hx]
  simp [Bool.or_assoc]
theorem simple_len {l d : List Edge} {mask must : Int} (h : SimpleD l d mask must) : d.length ≤ l.length := by
  have := nodup_len (l := d.map Edge.f) (m := l.map Edge.f) (List.pairwise_iff_getElem.2 fun i j hi hj hij => by
    rw [List.length_map] at hi hj
    rw [List.getElem_map, List.getElem_map]
    exact h.dist i j hij hj) (fun x hx => by
    obtain ⟨e, he, rfl⟩ := List.mem_map.1 hx
    exact List.mem_map.2 ⟨e, (h.kind e he).2, rfl⟩)
  rwa [List.length_map, List.length_map] at this
theorem sim_no {F : Nat → Prop} {w : World} {A : Option Addr} {c : Nat} {l : List Edge} {mask must : Int} (hW : Walk F w A l) (hl : l.length ≤ 80) (hd : docS l mask must = [])
    (L : Hid (∀ w, Calls Try.prog 68 #[] w fun e w' => e = .returned (.bool true) ∧ Upd No w w')) :
    Calls Try.prog 12 #[.slice A l.length c, .int .i64 mask, .int .i64 must] w fun e w' => e = .returned (.bool true) ∧ Upd No w w' := by
  have hb : decide (80 < (l.length : Int)) = false := decide_eq_false (by omega)
  have HS := Lib.hid (fun (W : World) (u : Upd No w W) => shNo (c := c) (hW.upd u (fun _ _ => id)) (by omega) rfl hd)
  clear hW hd
  go_enter Try.func12, Try.ntmps12
  go_wp2_with fail
  refine (L.out _).mono ?_
  rintro e w1 ⟨rfl, hu1⟩
  go_wp2_with fail
  refine (HS.out w1 hu1).mono ?_
  rintro e w2 ⟨X, cx, rfl, hu2⟩
  go_wp2
  go_ret
  exact ⟨rfl, hu1.trans hu2⟩
theorem sim_big {w : World} {A : Option Addr} {c n : Nat} {mask must : Int} (hl : 80 < n)
    (L : Hid (∀ w, Calls Try.prog 68 #[] w fun e w' => e = .returned (.bool true) ∧ Upd No w w')) :
    Calls Try.prog 12 #[.slice A n c, .int .i64 mask, .int .i64 must] w fun e w' => e = .returned (.bool true) ∧ Upd No w w' := by
  have hb : decide (80 < (n : Int)) = true := decide_eq_true (by omega)
  go_enter Try.func12, Try.ntmps12
  go_wp2_with fail
  refine (L.out _).mono ?_
  rintro e w1 ⟨rfl, hu1⟩
  go_wp2
  go_ret
  exact ⟨rfl, hu1⟩
set_option maxRecDepth 100000 in
set_option maxHeartbeats 8000000 in
theorem sim_yes {F : Nat → Prop} {w : World} {A : Option Addr} {c : Nat} {l d : List Edge} {mask must : Int} (hW : Walk F w A l) (hl : l.length ≤ 80) (hd : docS l mask must = d) (h0 : 0 < d.length) (HD : SimpleD l d mask must)
    (L : Hid (∀ w, Calls Try.prog 68 #[] w fun e w' => e = .returned (.bool true) ∧ Upd No w w')) :
    Calls Try.prog 12 #[.slice A l.length c, .int .i64 mask, .int .i64 must] w fun e w' => e = .returned (.bool true) ∧ Upd No w w' := by
  have hb : decide (80 < (l.length : Int)) = false := decide_eq_false (by omega)
  have hdl := simple_len HD
  have hmu : (bits .and .i64 must 14 == 0) = hasL d must 0 := by
    have h1 := need14 must
    unfold hasL
    rw [← h1, bne, Bool.not_not, List.take_zero]
    simp
  have HS := Lib.hid (fun (W : World) (u : Upd No w W) => shYesC (c := c) (hW.upd u (fun _ _ => id)) (by omega) rfl hd rfl h0)
  have HI := Lib.hid (fun (W : World) (u : Upd No w W) (e : Edge) (he : e ∈ d) => (show decide (e ∈ l) = true from decide_eq_true (HD.kind e he).2) ▸ cinEdges F W A c l e (hW.upd u (fun _ _ => id)) (by omega))
  have HDD := Lib.hid HD
  clear hW hd HD
  go_enter Try.func12, Try.ntmps12
  go_wp2_with fail
  refine (L.out _).mono ?_
  rintro e w1 ⟨rfl, hu1⟩
  go_wp2_with fail
  refine (HS.out w1 hu1).mono ?_
  rintro e w2 ⟨X, cx, rfl, hcx, hx, hu2⟩
  have HU2 := Lib.hid (hu1.trans hu2)
  have HX := Lib.hid (fun (W : World) (u : Upd No w2 W) => Walk.upd hx u (fun _ _ => id))
  obtain ⟨ad, had, z0, _, _, _⟩ := hx.at_ h0
  subst had
  obtain ⟨zf, hzf⟩ : ∃ zf, d[0].f = zf := ⟨_, rfl⟩
  rw [hzf] at z0
  have ha0 : ad.add 0 = ad := by unfold Addr.add; simp
  have za : ∀ W, Upd No w2 W → W.cell? (ad.add (0 * 4)) = some (.int .i64 zf) := fun W u => u.keepNo z0
  have zb : ∀ W, Upd No w2 W → W.cell? (ad.add 0) = some (.int .i64 zf) := fun W u => u.keepNo (by simpa using z0)
  have zc : ∀ W, Upd No w2 W → W.cell? ad = some (.int .i64 zf) := fun W u => u.keepNo (by rw [← ha0]; simpa using z0)
  have HZF := Lib.hid hzf
  clear hx hzf hu2 hu1 z0 HS
  go_wp2
  go_loopg [9, 41] d.length (fun gk hs i wr => ∃ k : Nat, k + gk = d.length ∧ i = .int .i64 k ∧ hs = .bool (hasL d must k) ∧ Upd No w2 wr)
  case atStart => exact ⟨0, by omega, rfl, rfl, Upd.refl _ _⟩
  case round =>
    obtain ⟨k, hgk, rfl, rfl, hu⟩ := hrel
    obtain ⟨wo, hwo⟩ : ∃ wo, wo = wr := ⟨_, rfl⟩
    subst hwo
    obtain ⟨g0, hg0⟩ : ∃ g0, g0 = gk := ⟨_, rfl⟩
    subst hg0
    by_cases hlt : k < d.length
    · have hml : (k + 1) % d.length < d.length := Nat.mod_lt _ (by omega)
      obtain ⟨ad1, e1, q0, q1, q2, q3⟩ := (HX.out wo hu).at_ hlt
      cases e1
      obtain ⟨ad2, e2, r0, r1, r2, r3⟩ := (HX.out wo hu).at_ hml
      cases e2
      obtain ⟨x, hxk⟩ : ∃ x, d[k] = x := ⟨_, rfl⟩
      obtain ⟨y, hyk⟩ : ∃ y, d[(k + 1) % d.length] = y := ⟨_, rfl⟩
      have hnx : x.t = y.f := by rw [← hxk, ← hyk]; exact HDD.out.next k hlt
      have hmem : x ∈ d := by rw [← hxk]; exact List.getElem_mem hlt
      have hkd := (HDD.out.kind x hmem).1
      have hle : zf ≤ x.f := by rw [← HZF.out, ← hxk]; exact HDD.out.least k hlt
      have hfn : ¬ k = 0 → ¬ x.f = zf := fun e => by rw [← HZF.out, ← hxk]; exact fun e2 => HDD.out.dist 0 k (by omega) hlt e2.symm
      have hds : ∀ (j : Nat) (hj : j < k), ¬ (d[j]'(by omega)).f = x.f := fun j hj => by rw [← hxk]; exact HDD.out.dist j k hj hlt
      rw [hxk] at q0 q1 q2 q3
      rw [hyk] at r0 r1 r2 r3
      have hcast : ((k : Int) + 1) % (d.length : Int) = (((k + 1) % d.length : Nat) : Int) := by rw [Int.natCast_emod]; rfl
      have hcast2 : ((k : Int) + 1).tmod (d.length : Int) = (((k + 1) % d.length : Nat) : Int) := by rw [Int.tmod_eq_emod_of_nonneg (by omega)]; exact hcast
      have HXK := Lib.hid hxk
      obtain ⟨wy, hwy⟩ : ∃ wy, (wo.alloc (.cells #[.int .i64 x.f, .int .i64 x.t, .int .i64 x.k, .int .i64 x.key] 96)).alloc (.cells #[.int .i64 y.f, .int .i64 y.t, .int .i64 y.k, .int .i64 y.key] 96) = wy := ⟨_, rfl⟩
      have uy : Upd No wo wy := by rw [← hwy]; exact ((Upd.refl No wo).alloc _).alloc _
      have bX : Blk wy wo.heap.size 96 [.int .i64 x.f, .int .i64 x.t, .int .i64 x.k, .int .i64 x.key] := by rw [← hwy]; exact (Blk.new wo _ _).alloc _
      have bY : Blk wy (wo.heap.size + 1) 96 [.int .i64 y.f, .int .i64 y.t, .int .i64 y.k, .int .i64 y.key] := by
        rw [← hwy]; have := Blk.new (wo.alloc (.cells #[.int .i64 x.f, .int .i64 x.t, .int .i64 x.k, .int .i64 x.key] 96)) 96 [.int .i64 y.f, .int .i64 y.t, .int .i64 y.k, .int .i64 y.key]; simpa only [World.size_alloc] using this
      have D0 := ((Upd.refl No wo).alloc (.cells #[.int .i64 x.f, .int .i64 x.t, .int .i64 x.k, .int .i64 x.key] 96)).keepNo r0
      have D1 := ((Upd.refl No wo).alloc (.cells #[.int .i64 x.f, .int .i64 x.t, .int .i64 x.k, .int .i64 x.key] 96)).keepNo r1
      have D2 := ((Upd.refl No wo).alloc (.cells #[.int .i64 x.f, .int .i64 x.t, .int .i64 x.k, .int .i64 x.key] 96)).keepNo r2
      have D3 := ((Upd.refl No wo).alloc (.cells #[.int .i64 x.f, .int .i64 x.t, .int .i64 x.k, .int .i64 x.key] 96)).keepNo r3
      have HSC := Lib.hid (hasL_succ (must := must) hlt hxk)
      have HIN := Lib.hid (fun (W : World) (u : Upd No wy W) => HI.out W (HU2.out.trans ((hu.trans uy).trans u)) x hmem)
      have hzw : ∀ W, Upd No wy W → Upd No w2 W := fun W u => (hu.trans uy).trans u
      obtain ⟨m, hm⟩ : ∃ m, (k + 1) % d.length = m := ⟨_, rfl⟩
      rw [hm] at hml hcast hcast2 r0 r1 r2 r3 D0 D1 D2 D3
      have b1 : (0 : Int) ≤ (k : Int) := Int.natCast_nonneg _
      have b2 : (k : Int) < (d.length : Int) := by omega
      have b3 : (m : Int) < (d.length : Int) := by omega
      have b4 : (0 : Int) ≤ (m : Int) := Int.natCast_nonneg _
      have b5 : IntKind.i64.wrap ((k : Int) + 1) = (k : Int) + 1 := IntWalk.i64_in _ (by omega)
      have b6 : (0 : Int) ≤ (k : Int) + 1 := by omega
      have hnl : ¬ d = [] := fun e => by rw [e] at hlt; simp at hlt
      have hnz : ¬ (d.length : Int) = 0 := by omega
      have b7 : IntKind.i64.wrap ((m : Int)) = (m : Int) := IntWalk.i64_in _ (by omega)
      have HUY := Lib.hid (hu.trans uy)
      have HFN := Lib.hid hfn
      have HDS := Lib.hid hds
      obtain ⟨xf, xt, xk, xy⟩ := x
      obtain ⟨yf, yt, yk, yy⟩ := y
      simp only at hnx hle hkd q0 q1 q2 q3 D0 D1 D2 D3 bX bY hwy HFN HDS r0 r1 r2 r3
      subst hnx
      have e0 : ∀ W, Upd No wy W → W.cell? ⟨wo.heap.size, 0, none⟩ = some (.int .i64 xf) := fun W u => by have := (bX.upd u id).cell 0; simpa using this
      have e1 : ∀ W, Upd No wy W → W.cell? ⟨wo.heap.size, 1, none⟩ = some (.int .i64 xt) := fun W u => by have := (bX.upd u id).cell 1; simpa using this
      have e2 : ∀ W, Upd No wy W → W.cell? ⟨wo.heap.size, 2, none⟩ = some (.int .i64 xk) := fun W u => by have := (bX.upd u id).cell 2; simpa using this
      have e3 : ∀ W, Upd No wy W → W.cell? ⟨wo.heap.size, 3, none⟩ = some (.int .i64 xy) := fun W u => by have := (bX.upd u id).cell 3; simpa using this
      have n0 : ∀ W, Upd No wy W → W.cell? ⟨wo.heap.size + 1, 0, none⟩ = some (.int .i64 xt) := fun W u => by have := (bY.upd u id).cell 0; simpa using this
      have zd : ∀ W, Upd No wy W → W.cell? (ad.add (0 * 4)) = some (.int .i64 zf) := fun W u => za W (hzw W u)
      have ze : ∀ W, Upd No wy W → W.cell? (ad.add 0) = some (.int .i64 zf) := fun W u => zb W (hzw W u)
      have zg : ∀ W, Upd No wy W → W.cell? ad = some (.int .i64 zf) := fun W u => zc W (hzw W u)
      have p2 : decide (xf < zf) = false := decide_eq_false (by omega)
      have p3 : (xt != xt) = false := by simp
      have hyy : Upd No wy wy := Upd.refl _ _
      unfold Edge.cells at HIN
      have HKB := Lib.hid hkd.2.2
      have hk3 : xk = 1 ∨ xk = 2 ∨ xk = 3 := by omega
      clear hxk hyk hfn hds hmem uy bX bY hzw hle hkd hm
      go_wp2_with fail
      clear hwy
      clear hcast hcast2 b5 b7 r0 r1 r2 r3 D0 D1 D2 D3 q0 q1 q2 q3 b3 b4
      have HK3 := Lib.hid hk3
      have b1m : (bits .and .i64 (mask / 2 ^ min (IntKind.u64.wrap xk).toNat 64) 1 == 0) = false := by
        have := HKB.out
        unfold bitM at this
        rw [kind_pow HK3.out, and_one0, this]
        rfl
      have b1u : (bits .and .i64 (must / 2 ^ min (IntKind.u64.wrap xk).toNat 64) 1 == 1) = bitM must xk := by
        rw [kind_pow HK3.out, and_one1]
        rfl
      have p4 : decide (xk < 1) = false := decide_eq_false (by omega)
      have p5 : decide (3 < xk) = false := decide_eq_false (by omega)
      clear hk3
      by_cases hk0 : k = 0
      · have p0 : decide ((0 : Int) < (k : Int)) = false := decide_eq_false (by omega)
        have p9 : decide (0 < k) = false := decide_eq_false (by omega)
        clear hk0
        refine wp_region_noPanic ?_
        refine wp_region_held_drew (S := (fun W' => Upd No wy W')) (by kernel_rfl) ?_ (fun hHeld => ?_)
        · (first | exact (Upd.refl No _).drew | exact hHeld.trans hu4)
        refine wpT 0 ⟨some 54, .fieldAddr 96 (.tmp 11) 1, 0, "law.go:49", #[], none⟩ ?_ (.inl ⟨by rfl, ?_⟩) ?_
        rotate_left
        · (intro W hSw; (try dsimp only at hSw); go_simp; try (with_reducible rfl))
        try simp only [Act.put]
        try simp only [List.setIfInBounds_toArray]
        try simp only [List.set_cons_succ]
        try simp only [List.set_cons_zero]
        refine wpT 1 ⟨some 55, .load 3 (.tmp 54), 3, "law.go:49", #[⟨0, .data⟩], none⟩ ?_ (.inl ⟨by rfl, ?_⟩) ?_
        rotate_left
        · (intro W hSw; (try dsimp only at hSw); go_simp; try (with_reducible rfl))
        try simp only [Act.put]
        try simp only [List.setIfInBounds_toArray]
        try simp only [List.set_cons_succ]
        try simp only [List.set_cons_zero]
        refine wpT 2 ⟨some 56, .fieldAddr 96 (.tmp 12) 0, 0, "law.go:49", #[], none⟩ ?_ (.inl ⟨by rfl, ?_⟩) ?_
        rotate_left
        · (intro W hSw; (try dsimp only at hSw); go_simp; try (with_reducible rfl))
        try simp only [Act.put]
        try simp only [List.setIfInBounds_toArray]
        try simp only [List.set_cons_succ]
        try simp only [List.set_cons_zero]
        refine wpT 3 ⟨some 57, .load 3 (.tmp 56), 3, "law.go:49", #[⟨2, .data⟩], none⟩ ?_ (.inl ⟨by rfl, ?_⟩) ?_
        rotate_left
        · (intro W hSw; (try dsimp only at hSw); go_simp; try (with_reducible rfl))
        try simp only [Act.put]
        try simp only [List.setIfInBounds_toArray]
        try simp only [List.set_cons_succ]
        try simp only [List.set_cons_zero]
        refine wpT 4 ⟨some 58, .binOp .neq 3 (.tmp 55) (.tmp 57) 3, 4, "law.go:49", #[⟨1, .data⟩, ⟨3, .data⟩], none⟩ ?_ (.inl ⟨by rfl, ?_⟩) ?_
        rotate_left
        · (intro W hSw; (try dsimp only at hSw); go_simp; try (with_reducible rfl))
        try simp only [Act.put]
        try simp only [List.setIfInBounds_toArray]
        try simp only [List.set_cons_succ]
        try simp only [List.set_cons_zero]
        refine wpT 5 ⟨some 59, .move (.tmp 58), 4, "law.go:49", #[⟨4, .data⟩], none⟩ ?_ (.inl ⟨by rfl, ?_⟩) ?_
        rotate_left
        · (intro W hSw; (try dsimp only at hSw); go_simp; try (with_reducible rfl))
        try simp only [Act.put]
        try simp only [List.setIfInBounds_toArray]
        try simp only [List.set_cons_succ]
        try simp only [List.set_cons_zero]
        refine wpT 6 ⟨some 60, .fieldAddr 96 (.tmp 11) 2, 0, "law.go:49", #[⟨5, .guard⟩], some (5, false)⟩ ?_ (.inl ⟨by rfl, ?_⟩) ?_
        rotate_left
        · (intro W hSw; (try dsimp only at hSw); go_simp; try (with_reducible rfl))
        try simp only [Act.put]
        try simp only [List.setIfInBounds_toArray]
        try simp only [List.set_cons_succ]
        try simp only [List.set_cons_zero]
        refine wpT 7 ⟨some 61, .load 3 (.tmp 60), 3, "law.go:49", #[⟨6, .data⟩, ⟨5, .guard⟩], some (5, false)⟩ ?_ (.inl ⟨by rfl, ?_⟩) ?_
        rotate_left
        · (intro W hSw; (try dsimp only at hSw); go_simp; try (with_reducible rfl))
        try simp only [Act.put]
        try simp only [List.setIfInBounds_toArray]
        try simp only [List.set_cons_succ]
        try simp only [List.set_cons_zero]
        refine wpT 8 ⟨some 62, .binOp .lss 3 (.tmp 61) (.const (.int .i64 1)) 3, 4, "law.go:49", #[⟨7, .data⟩, ⟨5, .guard⟩], some (5, false)⟩ ?_ (.inl ⟨by rfl, ?_⟩) ?_
        rotate_left
        · (intro W hSw; (try dsimp only at hSw); go_simp; try (with_reducible rfl))
        try simp only [Act.put]
        try simp only [List.setIfInBounds_toArray]
        try simp only [List.set_cons_succ]
        try simp only [List.set_cons_zero]
        refine wpT 9 ⟨some 63, .pick (.tmp 59) (.const (.bool true)) (.tmp 62), 4, "law.go:49", #[⟨5, .data⟩, ⟨8, .data⟩], none⟩ ?_ (.inl ⟨by rfl, ?_⟩) ?_
        rotate_left
        · (intro W hSw; (try dsimp only at hSw); go_simp; try (with_reducible rfl))
        try simp only [Act.put]
        try simp only [List.setIfInBounds_toArray]
        try simp only [List.set_cons_succ]
        try simp only [List.set_cons_zero]
        refine wpT 10 ⟨some 64, .move (.tmp 63), 4, "law.go:49", #[⟨9, .data⟩, ⟨5, .chain⟩], none⟩ ?_ (.inl ⟨by rfl, ?_⟩) ?_
        rotate_left
        · (intro W hSw; (try dsimp only at hSw); go_simp; try (with_reducible rfl))
        try simp only [Act.put]
        try simp only [List.setIfInBounds_toArray]
        try simp only [List.set_cons_succ]
        try simp only [List.set_cons_zero]
        refine wpT 11 ⟨some 65, .fieldAddr 96 (.tmp 11) 2, 0, "law.go:49", #[⟨10, .guard⟩], some (10, false)⟩ ?_ (.inl ⟨by rfl, ?_⟩) ?_
        rotate_left
        · (intro W hSw; (try dsimp only at hSw); go_simp; try (with_reducible rfl))
        try simp only [Act.put]
        try simp only [List.setIfInBounds_toArray]
        try simp only [List.set_cons_succ]
        try simp only [List.set_cons_zero]
        refine wpT 12 ⟨some 66, .load 3 (.tmp 65), 3, "law.go:49", #[⟨11, .data⟩, ⟨10, .guard⟩], some (10, false)⟩ ?_ (.inl ⟨by rfl, ?_⟩) ?_
        rotate_left
        · (intro W hSw; (try dsimp only at hSw); go_simp; try (with_reducible rfl))
        try simp only [Act.put]
        try simp only [List.setIfInBounds_toArray]
        try simp only [List.set_cons_succ]
        try simp only [List.set_cons_zero]
        refine wpT 13 ⟨some 67, .binOp .gtr 3 (.tmp 66) (.const (.int .i64 3)) 3, 4, "law.go:49", #[⟨12, .data⟩, ⟨10, .guard⟩], some (10, false)⟩ ?_ (.inl ⟨by rfl, ?_⟩) ?_
        rotate_left
        · (intro W hSw; (try dsimp only at hSw); go_simp; try (with_reducible rfl))
        try simp only [Act.put]
        try simp only [List.setIfInBounds_toArray]
        try simp only [List.set_cons_succ]
        try simp only [List.set_cons_zero]
        refine wpT 14 ⟨some 68, .pick (.tmp 64) (.const (.bool true)) (.tmp 67), 4, "law.go:49", #[⟨10, .data⟩, ⟨13, .data⟩], none⟩ ?_ (.inl ⟨by rfl, ?_⟩) ?_
        rotate_left
        · (intro W hSw; (try dsimp only at hSw); go_simp; try (with_reducible rfl))
        try simp only [Act.put]
        try simp only [List.setIfInBounds_toArray]
        try simp only [List.set_cons_succ]
        try simp only [List.set_cons_zero]
        refine wpT 15 ⟨some 69, .move (.tmp 68), 4, "law.go:49", #[⟨14, .data⟩, ⟨10, .chain⟩], none⟩ ?_ (.inl ⟨by rfl, ?_⟩) ?_
        rotate_left
        · (intro W hSw; (try dsimp only at hSw); go_simp; try (with_reducible rfl))
        try simp only [Act.put]
        try simp only [List.setIfInBounds_toArray]
        try simp only [List.set_cons_succ]
        try simp only [List.set_cons_zero]
        refine wpT 16 ⟨some 70, .move (.tmp 1), 3, "law.go:49", #[⟨15, .guard⟩], some (15, false)⟩ ?_ (.inl ⟨by rfl, ?_⟩) ?_
        rotate_left
        · (intro W hSw; (try dsimp only at hSw); go_simp; try (with_reducible rfl))
        try simp only [Act.put]
        try simp only [List.setIfInBounds_toArray]
        try simp only [List.set_cons_succ]
        try simp only [List.set_cons_zero]
        refine wpT 17 ⟨some 71, .fieldAddr 96 (.tmp 11) 2, 0, "law.go:49", #[⟨15, .guard⟩], some (15, false)⟩ ?_ (.inl ⟨by rfl, ?_⟩) ?_
        rotate_left
        · (intro W hSw; (try dsimp only at hSw); go_simp; try (with_reducible rfl))
        try simp only [Act.put]
        try simp only [List.setIfInBounds_toArray]
        try simp only [List.set_cons_succ]
        try simp only [List.set_cons_zero]
        refine wpT 18 ⟨some 72, .load 3 (.tmp 71), 3, "law.go:49", #[⟨17, .data⟩, ⟨15, .guard⟩], some (15, false)⟩ ?_ (.inl ⟨by rfl, ?_⟩) ?_
        rotate_left
        · (intro W hSw; (try dsimp only at hSw); go_simp; try (with_reducible rfl))
        try simp only [Act.put]
        try simp only [List.setIfInBounds_toArray]
        try simp only [List.set_cons_succ]
        try simp only [List.set_cons_zero]
        refine wpT 19 ⟨some 73, .convert 3 97 (.tmp 72), 97, "law.go:49", #[⟨18, .data⟩, ⟨15, .guard⟩], some (15, false)⟩ ?_ (.inl ⟨by rfl, ?_⟩) ?_
        rotate_left
        · (intro W hSw; (try dsimp only at hSw); go_simp; try (with_reducible rfl))
        try simp only [Act.put]
        try simp only [List.setIfInBounds_toArray]
        try simp only [List.set_cons_succ]
        try simp only [List.set_cons_zero]
        refine wpT 20 ⟨some 74, .binOp .shr 3 (.tmp 70) (.tmp 73) 97, 3, "law.go:49", #[⟨16, .data⟩, ⟨19, .data⟩, ⟨15, .guard⟩], some (15, false)⟩ ?_ (.inl ⟨by rfl, ?_⟩) ?_
        rotate_left
        · (intro W hSw; (try dsimp only at hSw); go_simp; try (with_reducible rfl))
        try simp only [Act.put]
        try simp only [List.setIfInBounds_toArray]
        try simp only [List.set_cons_succ]
        try simp only [List.set_cons_zero]
        refine wpT 21 ⟨some 75, .binOp .and 3 (.tmp 74) (.const (.int .i64 1)) 3, 3, "law.go:49", #[⟨20, .data⟩, ⟨15, .guard⟩], some (15, false)⟩ ?_ (.inl ⟨by rfl, ?_⟩) ?_
        rotate_left
        · (intro W hSw; (try dsimp only at hSw); go_simp; try (with_reducible rfl))
        try simp only [Act.put]
        try simp only [List.setIfInBounds_toArray]
        try simp only [List.set_cons_succ]
        try simp only [List.set_cons_zero]
        refine wpT 22 ⟨some 76, .binOp .eql 3 (.tmp 75) (.const (.int .i64 0)) 3, 4, "law.go:49", #[⟨21, .data⟩, ⟨15, .guard⟩], some (15, false)⟩ ?_ (.inl ⟨by rfl, ?_⟩) ?_
        rotate_left
        · (intro W hSw; (try dsimp only at hSw); go_simp; try (with_reducible rfl))
        try simp only [Act.put]
        try simp only [List.setIfInBounds_toArray]
        try simp only [List.set_cons_succ]
        try simp only [List.set_cons_zero]
        refine wpT 23 ⟨some 77, .pick (.tmp 69) (.const (.bool true)) (.tmp 76), 4, "law.go:49", #[⟨15, .data⟩, ⟨22, .data⟩], none⟩ ?_ (.inl ⟨by rfl, ?_⟩) ?_
        rotate_left
        · (intro W hSw; (try dsimp only at hSw); go_simp; try (with_reducible rfl))
        try simp only [Act.put]
        try simp only [List.setIfInBounds_toArray]
        try simp only [List.set_cons_succ]
        try simp only [List.set_cons_zero]
        refine wpT 24 ⟨some 78, .move (.tmp 77), 4, "law.go:49", #[⟨23, .data⟩, ⟨15, .chain⟩], none⟩ ?_ (.inl ⟨by rfl, ?_⟩) ?_
        rotate_left
        · (intro W hSw; (try dsimp only at hSw); go_simp; try (with_reducible rfl))
        try simp only [Act.put]
        try simp only [List.setIfInBounds_toArray]
        try simp only [List.set_cons_succ]
        try simp only [List.set_cons_zero]
        refine wpT 25 ⟨some 79, .move (.tmp 0), 26, "law.go:49", #[⟨24, .guard⟩], some (24, false)⟩ ?_ (.inl ⟨by rfl, ?_⟩) ?_
        rotate_left
        · (intro W hSw; (try dsimp only at hSw); go_simp; try (with_reducible rfl))
        try simp only [Act.put]
        try simp only [List.setIfInBounds_toArray]
        try simp only [List.set_cons_succ]
        try simp only [List.set_cons_zero]
        refine wpT 26 ⟨some 80, .load 96 (.tmp 11), 96, "law.go:49", #[⟨24, .guard⟩], some (24, false)⟩ ?_ (.inl ⟨by rfl, ?_⟩) ?_
        rotate_left
        · (intro W hSw; (try dsimp only at hSw); go_simp; try (with_reducible rfl))
        try simp only [Act.put]
        try simp only [List.setIfInBounds_toArray]
        try simp only [List.set_cons_succ]
        try simp only [List.set_cons_zero]
        refine wpAnyH_ready (rs := [27]) (by kernel_rfl) (by simp) ?_
        refine AllReadyH.cons (o := ⟨some 81, .call { callee := .value (.func 72), args := #[.tmp 79, .tmp 80], argTypes := #[26, 96] }, 4, "law.go:49", #[⟨25, .data⟩, ⟨26, .data⟩, ⟨24, .chain⟩, ⟨24, .guard⟩], some (24, false)⟩) rfl (fun K hK => ?_) AllReadyH.nil
        go_simp
        (first
    | (go_at_call 72; refine (HIN.out _ hHeld).mono ?_; rintro e w4 ⟨rfl, hu4⟩))
        try (go_wp2_with fail)
        refine hK.out _ _ ?_ (fun hHeld => ?_)
        · (first | exact (Upd.refl No _).drew | exact hHeld.trans hu4)
        clear hK K
        try simp only [Act.put]
        try simp only [List.setIfInBounds_toArray]
        try simp only [List.set_cons_succ]
        try simp only [List.set_cons_zero]
        refine wpT 28 ⟨some 82, .unOp .not 4 (.tmp 81), 4, "law.go:49", #[⟨27, .data⟩, ⟨24, .guard⟩], some (24, false)⟩ ?_ (.inl ⟨by rfl, ?_⟩) ?_
        rotate_left
        · (intro W hSw; (try dsimp only at hSw); go_simp; try (with_reducible rfl))
        try simp only [Act.put]
        try simp only [List.setIfInBounds_toArray]
        try simp only [List.set_cons_succ]
        try simp only [List.set_cons_zero]
        refine wpT 29 ⟨some 83, .pick (.tmp 78) (.const (.bool true)) (.tmp 82), 4, "law.go:49", #[⟨24, .data⟩, ⟨28, .data⟩], none⟩ ?_ (.inl ⟨by rfl, ?_⟩) ?_
        rotate_left
        · (intro W hSw; (try dsimp only at hSw); go_simp; try (with_reducible rfl))
        try simp only [Act.put]
        try simp only [List.setIfInBounds_toArray]
        try simp only [List.set_cons_succ]
        try simp only [List.set_cons_zero]
        refine wpT 30 ⟨some 84, .move (.tmp 83), 4, "law.go:49", #[⟨29, .data⟩, ⟨27, .chain⟩], none⟩ ?_ (.inl ⟨by rfl, ?_⟩) ?_
        rotate_left
        · (intro W hSw; (try dsimp only at hSw); go_simp; try (with_reducible rfl))
        try simp only [Act.put]
        try simp only [List.setIfInBounds_toArray]
        try simp only [List.set_cons_succ]
        try simp only [List.set_cons_zero]
        refine wpT 31 ⟨some 85, .fieldAddr 96 (.tmp 11) 0, 0, "law.go:49", #[⟨30, .guard⟩], some (30, false)⟩ ?_ (.inl ⟨by rfl, ?_⟩) ?_
        rotate_left
        · (intro W hSw; (try dsimp only at hSw); go_simp; try (with_reducible rfl))
        try simp only [Act.put]
        try simp only [List.setIfInBounds_toArray]
        try simp only [List.set_cons_succ]
        try simp only [List.set_cons_zero]
        refine wpT 32 ⟨some 86, .load 3 (.tmp 85), 3, "law.go:49", #[⟨31, .data⟩, ⟨30, .guard⟩], some (30, false)⟩ ?_ (.inl ⟨by rfl, ?_⟩) ?_
        rotate_left
        · (intro W hSw; (try dsimp only at hSw); go_simp; try (with_reducible rfl))
        try simp only [Act.put]
        try simp only [List.setIfInBounds_toArray]
        try simp only [List.set_cons_succ]
        try simp only [List.set_cons_zero]
        refine wpT 33 ⟨some 87, .move (.tmp 7), 26, "law.go:49", #[⟨30, .guard⟩], some (30, false)⟩ ?_ (.inl ⟨by rfl, ?_⟩) ?_
        rotate_left
        · (intro W hSw; (try dsimp only at hSw); go_simp; try (with_reducible rfl))
        try simp only [Act.put]
        try simp only [List.setIfInBounds_toArray]
        try simp only [List.set_cons_succ]
        try simp only [List.set_cons_zero]
        refine wpT 34 ⟨some 88, .indexAddr 26 (.tmp 87) (.const (.int .i64 0)), 0, "law.go:49", #[⟨33, .data⟩, ⟨30, .guard⟩], some (30, false)⟩ ?_ (.inl ⟨by rfl, ?_⟩) ?_
        rotate_left
        · (intro W hSw; (try dsimp only at hSw); go_simp; try (with_reducible rfl))
        try simp only [Act.put]
        try simp only [List.setIfInBounds_toArray]
        try simp only [List.set_cons_succ]
        try simp only [List.set_cons_zero]
        refine wpT 35 ⟨some 89, .fieldAddr 96 (.tmp 88) 0, 0, "law.go:49", #[⟨34, .data⟩, ⟨30, .guard⟩], some (30, false)⟩ ?_ (.inl ⟨by rfl, ?_⟩) ?_
        rotate_left
        · (intro W hSw; (try dsimp only at hSw); go_simp; try (with_reducible rfl))
        try simp only [Act.put]
        try simp only [List.setIfInBounds_toArray]
        try simp only [List.set_cons_succ]
        try simp only [List.set_cons_zero]
        refine wpT 36 ⟨some 90, .load 3 (.tmp 89), 3, "law.go:49", #[⟨35, .data⟩, ⟨30, .guard⟩], some (30, false)⟩ ?_ (.inl ⟨by rfl, ?_⟩) ?_
        rotate_left
        · (intro W hSw; (try dsimp only at hSw); go_simp; try (with_reducible rfl))
        try simp only [Act.put]
        try simp only [List.setIfInBounds_toArray]
        try simp only [List.set_cons_succ]
        try simp only [List.set_cons_zero]
        refine wpT 37 ⟨some 91, .binOp .lss 3 (.tmp 86) (.tmp 90) 3, 4, "law.go:49", #[⟨32, .data⟩, ⟨36, .data⟩, ⟨30, .guard⟩], some (30, false)⟩ ?_ (.inl ⟨by rfl, ?_⟩) ?_
        rotate_left
        · (intro W hSw; (try dsimp only at hSw); go_simp; try (with_reducible rfl))
        try simp only [Act.put]
        try simp only [List.setIfInBounds_toArray]
        try simp only [List.set_cons_succ]
        try simp only [List.set_cons_zero]
        refine wpT 38 ⟨some 92, .pick (.tmp 84) (.const (.bool true)) (.tmp 91), 4, "law.go:49", #[⟨30, .data⟩, ⟨37, .data⟩], none⟩ ?_ (.inl ⟨by rfl, ?_⟩) ?_
        rotate_left
        · (intro W hSw; (try dsimp only at hSw); go_simp; try (with_reducible rfl))
        try simp only [Act.put]
        try simp only [List.setIfInBounds_toArray]
        try simp only [List.set_cons_succ]
        try simp only [List.set_cons_zero]
        refine wpT 39 ⟨some 93, .move (.tmp 92), 4, "law.go:49", #[⟨38, .data⟩, ⟨30, .chain⟩], none⟩ ?_ (.inl ⟨by rfl, ?_⟩) ?_
        rotate_left
        · (intro W hSw; (try dsimp only at hSw); go_simp; try (with_reducible rfl))
        try simp only [Act.put]
        try simp only [List.setIfInBounds_toArray]
        try simp only [List.set_cons_succ]
        try simp only [List.set_cons_zero]
        refine wpT 40 ⟨some 94, .move (.tmp 10), 3, "law.go:49", #[⟨39, .guard⟩], some (39, false)⟩ ?_ (.inl ⟨by rfl, ?_⟩) ?_
        rotate_left
        · (intro W hSw; (try dsimp only at hSw); go_simp; try (with_reducible rfl))
        try simp only [Act.put]
        try simp only [List.setIfInBounds_toArray]
        try simp only [List.set_cons_succ]
        try simp only [List.set_cons_zero]
        refine wpT 41 ⟨some 95, .binOp .gtr 3 (.tmp 94) (.const (.int .i64 0)) 3, 4, "law.go:49", #[⟨40, .data⟩, ⟨39, .guard⟩], some (39, false)⟩ ?_ (.inl ⟨by rfl, ?_⟩) ?_
        rotate_left
        · (intro W hSw; (try dsimp only at hSw); go_simp; try (with_reducible rfl))
        try simp only [Act.put]
        try simp only [List.setIfInBounds_toArray]
        try simp only [List.set_cons_succ]
        try simp only [List.set_cons_zero]
        refine wpT 42 ⟨some 96, .move (.tmp 95), 4, "law.go:49", #[⟨41, .data⟩, ⟨39, .chain⟩, ⟨39, .guard⟩], some (39, false)⟩ ?_ (.inl ⟨by rfl, ?_⟩) ?_
        rotate_left
        · (intro W hSw; (try dsimp only at hSw); go_simp; try (with_reducible rfl))
        try simp only [Act.put]
        try simp only [List.setIfInBounds_toArray]
        try simp only [List.set_cons_succ]
        try simp only [List.set_cons_zero]
        refine wpT 43 ⟨some 97, .fieldAddr 96 (.tmp 11) 0, 0, "law.go:49", #[⟨42, .guard⟩], some (42, true)⟩ undef (.inr ⟨by rfl, rfl⟩) ?_
        try simp only [Act.put]
        try simp only [List.setIfInBounds_toArray]
        try simp only [List.set_cons_succ]
        try simp only [List.set_cons_zero]
        refine wpT 44 ⟨some 98, .load 3 (.tmp 97), 3, "law.go:49", #[⟨43, .data⟩, ⟨42, .guard⟩], some (42, true)⟩ undef (.inr ⟨by rfl, rfl⟩) ?_
        try simp only [Act.put]
        try simp only [List.setIfInBounds_toArray]
        try simp only [List.set_cons_succ]
        try simp only [List.set_cons_zero]
        refine wpT 45 ⟨some 99, .move (.tmp 7), 26, "law.go:49", #[⟨42, .guard⟩], some (42, true)⟩ undef (.inr ⟨by rfl, rfl⟩) ?_
        try simp only [Act.put]
        try simp only [List.setIfInBounds_toArray]
        try simp only [List.set_cons_succ]
        try simp only [List.set_cons_zero]
        refine wpT 46 ⟨some 100, .indexAddr 26 (.tmp 99) (.const (.int .i64 0)), 0, "law.go:49", #[⟨45, .data⟩, ⟨42, .guard⟩], some (42, true)⟩ undef (.inr ⟨by rfl, rfl⟩) ?_
        try simp only [Act.put]
        try simp only [List.setIfInBounds_toArray]
        try simp only [List.set_cons_succ]
        try simp only [List.set_cons_zero]
        refine wpT 47 ⟨some 101, .fieldAddr 96 (.tmp 100) 0, 0, "law.go:49", #[⟨46, .data⟩, ⟨42, .guard⟩], some (42, true)⟩ undef (.inr ⟨by rfl, rfl⟩) ?_
        try simp only [Act.put]
        try simp only [List.setIfInBounds_toArray]
        try simp only [List.set_cons_succ]
        try simp only [List.set_cons_zero]
        refine wpT 48 ⟨some 102, .load 3 (.tmp 101), 3, "law.go:49", #[⟨47, .data⟩, ⟨42, .guard⟩], some (42, true)⟩ undef (.inr ⟨by rfl, rfl⟩) ?_
        try simp only [Act.put]
        try simp only [List.setIfInBounds_toArray]
        try simp only [List.set_cons_succ]
        try simp only [List.set_cons_zero]
        refine wpT 49 ⟨some 103, .binOp .eql 3 (.tmp 98) (.tmp 102) 3, 4, "law.go:49", #[⟨44, .data⟩, ⟨48, .data⟩, ⟨42, .guard⟩], some (42, true)⟩ undef (.inr ⟨by rfl, rfl⟩) ?_
        try simp only [Act.put]
        try simp only [List.setIfInBounds_toArray]
        try simp only [List.set_cons_succ]
        try simp only [List.set_cons_zero]
        refine wpT 50 ⟨some 104, .pick (.tmp 96) (.tmp 103) (.const (.bool false)), 4, "law.go:49", #[⟨42, .data⟩, ⟨49, .data⟩, ⟨39, .guard⟩], some (39, false)⟩ ?_ (.inl ⟨by rfl, ?_⟩) ?_
        rotate_left
        · (intro W hSw; (try dsimp only at hSw); go_simp; try (with_reducible rfl))
        try simp only [Act.put]
        try simp only [List.setIfInBounds_toArray]
        try simp only [List.set_cons_succ]
        try simp only [List.set_cons_zero]
        refine wpT 51 ⟨some 105, .pick (.tmp 93) (.const (.bool true)) (.tmp 104), 4, "law.go:49", #[⟨39, .data⟩, ⟨50, .data⟩], none⟩ ?_ (.inl ⟨by rfl, ?_⟩) ?_
        rotate_left
        · (intro W hSw; (try dsimp only at hSw); go_simp; try (with_reducible rfl))
        try simp only [Act.put]
        try simp only [List.setIfInBounds_toArray]
        try simp only [List.set_cons_succ]
        try simp only [List.set_cons_zero]
        refine wpAnyH_done (by kernel_rfl) (NoPanic.normal ?_) _
        have hW4 : Upd No w2 w4 := HUY.out.trans hHeld
        have HU4 := Lib.hid hW4
        have E0 : ∀ W, Upd No w4 W → W.cell? ⟨wo.heap.size, 0, none⟩ = some (.int .i64 xf) := fun W u => e0 W (hHeld.trans u)
        have E2 : w4.cell? ⟨wo.heap.size, 2, none⟩ = some (.int .i64 xk) := e2 w4 hHeld
        have k2 := fun W => cut_h0 (P := Try.prog) W slt_edges ad d.length cx k (by omega)
        obtain ⟨hv, hhv⟩ : ∃ hv, hasL d must k = hv := ⟨_, rfl⟩
        rw [hhv]
        have HSV := Lib.hid (show hasL d must (k + 1) = (hv || bitM must xk) by rw [← hhv]; exact HSC.out)
        clear hhv hW4 hHeld e0 e1 e2 e3 n0 zd ze zg za zb zc p0 p2 p3 p4 p5 p9 hyy b1m hu4
        cases hv
        · go_wp2
          go_loopg [120] k (fun gj i wr => ∃ j : Nat, j + gj = k ∧ i = .int .i64 j ∧ Upd No w4 wr)
          case atStart => exact ⟨0, by omega, rfl, Upd.refl _ _⟩
          case round =>
            obtain ⟨j, hgj, rfl, huj⟩ := hrel
            by_cases hj : j < k
            · have hjd : j < d.length := by omega
              obtain ⟨ad3, e3', y0, y1, y2, y3⟩ := (HX.out wr (HU4.out.trans huj)).at_ hjd
              cases e3'
              obtain ⟨f, hf⟩ : ∃ f, d[j] = f := ⟨_, rfl⟩
              have hne : (f.f == xf) = false := beq_eq_false_iff_ne.2 (by rw [← hf]; exact HDS.out j hj)
              rw [hf] at y0 y1 y2 y3
              have EJ := E0 (wr.alloc (.cells #[.int .i64 f.f, .int .i64 f.t, .int .i64 f.k, .int .i64 f.key] 96)) (huj.alloc _)
              have j1 : (0 : Int) ≤ (j : Int) := Int.natCast_nonneg _
              have j2 : (j : Int) < (k : Int) := by omega
              clear hf
              go_wp2
              go_roundg (gk - 1)
              case measure => omega
              case rel => exact ⟨j + 1, by omega, by go_num, huj.alloc _⟩
            · have hjk : k = j := by omega
              subst hjk
              go_wp2
              go_roundg (g0 - 1)
              case measure => omega
              case rel => exact ⟨k + 1, by omega, by go_num, by rw [HSV.out]; first | rfl | simp, HU4.out.trans huj⟩
        · go_wp2
          go_loopg [120] k (fun gj i wr => ∃ j : Nat, j + gj = k ∧ i = .int .i64 j ∧ Upd No w4 wr)
          case atStart => exact ⟨0, by omega, rfl, Upd.refl _ _⟩
          case round =>
            obtain ⟨j, hgj, rfl, huj⟩ := hrel
            by_cases hj : j < k
            · have hjd : j < d.length := by omega
              obtain ⟨ad3, e3', y0, y1, y2, y3⟩ := (HX.out wr (HU4.out.trans huj)).at_ hjd
              cases e3'
              obtain ⟨f, hf⟩ : ∃ f, d[j] = f := ⟨_, rfl⟩
              have hne : (f.f == xf) = false := beq_eq_false_iff_ne.2 (by rw [← hf]; exact HDS.out j hj)
              rw [hf] at y0 y1 y2 y3
              have EJ := E0 (wr.alloc (.cells #[.int .i64 f.f, .int .i64 f.t, .int .i64 f.k, .int .i64 f.key] 96)) (huj.alloc _)
              have j1 : (0 : Int) ≤ (j : Int) := Int.natCast_nonneg _
              have j2 : (j : Int) < (k : Int) := by omega
              clear hf
              go_wp2
              go_roundg (gk - 1)
              case measure => omega
              case rel => exact ⟨j + 1, by omega, by go_num, huj.alloc _⟩
            · have hjk : k = j := by omega
              subst hjk
              go_wp2
              go_roundg (g0 - 1)
              case measure => omega
              case rel => exact ⟨k + 1, by omega, by go_num, by rw [HSV.out]; first | rfl | simp, HU4.out.trans huj⟩
      · have p0 : decide ((0 : Int) < (k : Int)) = true := decide_eq_true (by omega)
        have p9 : decide (0 < k) = true := decide_eq_true (by omega)
        have p1 : (xf == zf) = false := beq_eq_false_iff_ne.2 (HFN.out hk0)
        clear hk0
        refine wp_region_noPanic ?_
        refine wp_region_held_drew (S := (fun W' => Upd No wy W')) (by kernel_rfl) ?_ (fun hHeld => ?_)
        · (first | exact (Upd.refl No _).drew | exact hHeld.trans hu4)
        refine wpT 0 ⟨some 54, .fieldAddr 96 (.tmp 11) 1, 0, "law.go:49", #[], none⟩ ?_ (.inl ⟨by rfl, ?_⟩) ?_
        rotate_left
        · (intro W hSw; (try dsimp only at hSw); go_simp; try (with_reducible rfl))
        try simp only [Act.put]
        try simp only [List.setIfInBounds_toArray]
        try simp only [List.set_cons_succ]
        try simp only [List.set_cons_zero]
        refine wpT 1 ⟨some 55, .load 3 (.tmp 54), 3, "law.go:49", #[⟨0, .data⟩], none⟩ ?_ (.inl ⟨by rfl, ?_⟩) ?_
        rotate_left
        · (intro W hSw; (try dsimp only at hSw); go_simp; try (with_reducible rfl))
        try simp only [Act.put]
        try simp only [List.setIfInBounds_toArray]
        try simp only [List.set_cons_succ]
        try simp only [List.set_cons_zero]
        refine wpT 2 ⟨some 56, .fieldAddr 96 (.tmp 12) 0, 0, "law.go:49", #[], none⟩ ?_ (.inl ⟨by rfl, ?_⟩) ?_
        rotate_left
        · (intro W hSw; (try dsimp only at hSw); go_simp; try (with_reducible rfl))
        try simp only [Act.put]
        try simp only [List.setIfInBounds_toArray]
        try simp only [List.set_cons_succ]
        try simp only [List.set_cons_zero]
        refine wpT 3 ⟨some 57, .load 3 (.tmp 56), 3, "law.go:49", #[⟨2, .data⟩], none⟩ ?_ (.inl ⟨by rfl, ?_⟩) ?_
        rotate_left
        · (intro W hSw; (try dsimp only at hSw); go_simp; try (with_reducible rfl))
        try simp only [Act.put]
        try simp only [List.setIfInBounds_toArray]
        try simp only [List.set_cons_succ]
        try simp only [List.set_cons_zero]
        refine wpT 4 ⟨some 58, .binOp .neq 3 (.tmp 55) (.tmp 57) 3, 4, "law.go:49", #[⟨1, .data⟩, ⟨3, .data⟩], none⟩ ?_ (.inl ⟨by rfl, ?_⟩) ?_
        rotate_left
        · (intro W hSw; (try dsimp only at hSw); go_simp; try (with_reducible rfl))
        try simp only [Act.put]
        try simp only [List.setIfInBounds_toArray]
        try simp only [List.set_cons_succ]
        try simp only [List.set_cons_zero]
        refine wpT 5 ⟨some 59, .move (.tmp 58), 4, "law.go:49", #[⟨4, .data⟩], none⟩ ?_ (.inl ⟨by rfl, ?_⟩) ?_
        rotate_left
        · (intro W hSw; (try dsimp only at hSw); go_simp; try (with_reducible rfl))
        try simp only [Act.put]
        try simp only [List.setIfInBounds_toArray]
        try simp only [List.set_cons_succ]
        try simp only [List.set_cons_zero]
        refine wpT 6 ⟨some 60, .fieldAddr 96 (.tmp 11) 2, 0, "law.go:49", #[⟨5, .guard⟩], some (5, false)⟩ ?_ (.inl ⟨by rfl, ?_⟩) ?_
        rotate_left
        · (intro W hSw; (try dsimp only at hSw); go_simp; try (with_reducible rfl))
        try simp only [Act.put]
        try simp only [List.setIfInBounds_toArray]
        try simp only [List.set_cons_succ]
        try simp only [List.set_cons_zero]
        refine wpT 7 ⟨some 61, .load 3 (.tmp 60), 3, "law.go:49", #[⟨6, .data⟩, ⟨5, .guard⟩], some (5, false)⟩ ?_ (.inl ⟨by rfl, ?_⟩) ?_
        rotate_left
        · (intro W hSw; (try dsimp only at hSw); go_simp; try (with_reducible rfl))
        try simp only [Act.put]
        try simp only [List.setIfInBounds_toArray]
        try simp only [List.set_cons_succ]
        try simp only [List.set_cons_zero]
        refine wpT 8 ⟨some 62, .binOp .lss 3 (.tmp 61) (.const (.int .i64 1)) 3, 4, "law.go:49", #[⟨7, .data⟩, ⟨5, .guard⟩], some (5, false)⟩ ?_ (.inl ⟨by rfl, ?_⟩) ?_
        rotate_left
        · (intro W hSw; (try dsimp only at hSw); go_simp; try (with_reducible rfl))
        try simp only [Act.put]
        try simp only [List.setIfInBounds_toArray]
        try simp only [List.set_cons_succ]
        try simp only [List.set_cons_zero]
        refine wpT 9 ⟨some 63, .pick (.tmp 59) (.const (.bool true)) (.tmp 62), 4, "law.go:49", #[⟨5, .data⟩, ⟨8, .data⟩], none⟩ ?_ (.inl ⟨by rfl, ?_⟩) ?_
        rotate_left
        · (intro W hSw; (try dsimp only at hSw); go_simp; try (with_reducible rfl))
        try simp only [Act.put]
        try simp only [List.setIfInBounds_toArray]
        try simp only [List.set_cons_succ]
        try simp only [List.set_cons_zero]
        refine wpT 10 ⟨some 64, .move (.tmp 63), 4, "law.go:49", #[⟨9, .data⟩, ⟨5, .chain⟩], none⟩ ?_ (.inl ⟨by rfl, ?_⟩) ?_
        rotate_left
        · (intro W hSw; (try dsimp only at hSw); go_simp; try (with_reducible rfl))
        try simp only [Act.put]
        try simp only [List.setIfInBounds_toArray]
        try simp only [List.set_cons_succ]
        try simp only [List.set_cons_zero]
        refine wpT 11 ⟨some 65, .fieldAddr 96 (.tmp 11) 2, 0, "law.go:49", #[⟨10, .guard⟩], some (10, false)⟩ ?_ (.inl ⟨by rfl, ?_⟩) ?_
        rotate_left
        · (intro W hSw; (try dsimp only at hSw); go_simp; try (with_reducible rfl))
        try simp only [Act.put]
        try simp only [List.setIfInBounds_toArray]
        try simp only [List.set_cons_succ]
        try simp only [List.set_cons_zero]
        refine wpT 12 ⟨some 66, .load 3 (.tmp 65), 3, "law.go:49", #[⟨11, .data⟩, ⟨10, .guard⟩], some (10, false)⟩ ?_ (.inl ⟨by rfl, ?_⟩) ?_
        rotate_left
        · (intro W hSw; (try dsimp only at hSw); go_simp; try (with_reducible rfl))
        try simp only [Act.put]
        try simp only [List.setIfInBounds_toArray]
        try simp only [List.set_cons_succ]
        try simp only [List.set_cons_zero]
        refine wpT 13 ⟨some 67, .binOp .gtr 3 (.tmp 66) (.const (.int .i64 3)) 3, 4, "law.go:49", #[⟨12, .data⟩, ⟨10, .guard⟩], some (10, false)⟩ ?_ (.inl ⟨by rfl, ?_⟩) ?_
        rotate_left
        · (intro W hSw; (try dsimp only at hSw); go_simp; try (with_reducible rfl))
        try simp only [Act.put]
        try simp only [List.setIfInBounds_toArray]
        try simp only [List.set_cons_succ]
        try simp only [List.set_cons_zero]
        refine wpT 14 ⟨some 68, .pick (.tmp 64) (.const (.bool true)) (.tmp 67), 4, "law.go:49", #[⟨10, .data⟩, ⟨13, .data⟩], none⟩ ?_ (.inl ⟨by rfl, ?_⟩) ?_
        rotate_left
        · (intro W hSw; (try dsimp only at hSw); go_simp; try (with_reducible rfl))
        try simp only [Act.put]
        try simp only [List.setIfInBounds_toArray]
        try simp only [List.set_cons_succ]
        try simp only [List.set_cons_zero]
        refine wpT 15 ⟨some 69, .move (.tmp 68), 4, "law.go:49", #[⟨14, .data⟩, ⟨10, .chain⟩], none⟩ ?_ (.inl ⟨by rfl, ?_⟩) ?_
        rotate_left
        · (intro W hSw; (try dsimp only at hSw); go_simp; try (with_reducible rfl))
        try simp only [Act.put]
        try simp only [List.setIfInBounds_toArray]
        try simp only [List.set_cons_succ]
        try simp only [List.set_cons_zero]
        refine wpT 16 ⟨some 70, .move (.tmp 1), 3, "law.go:49", #[⟨15, .guard⟩], some (15, false)⟩ ?_ (.inl ⟨by rfl, ?_⟩) ?_
        rotate_left
        · (intro W hSw; (try dsimp only at hSw); go_simp; try (with_reducible rfl))
        try simp only [Act.put]
        try simp only [List.setIfInBounds_toArray]
        try simp only [List.set_cons_succ]
        try simp only [List.set_cons_zero]
        refine wpT 17 ⟨some 71, .fieldAddr 96 (.tmp 11) 2, 0, "law.go:49", #[⟨15, .guard⟩], some (15, false)⟩ ?_ (.inl ⟨by rfl, ?_⟩) ?_
        rotate_left
        · (intro W hSw; (try dsimp only at hSw); go_simp; try (with_reducible rfl))
        try simp only [Act.put]
        try simp only [List.setIfInBounds_toArray]
        try simp only [List.set_cons_succ]
        try simp only [List.set_cons_zero]
        refine wpT 18 ⟨some 72, .load 3 (.tmp 71), 3, "law.go:49", #[⟨17, .data⟩, ⟨15, .guard⟩], some (15, false)⟩ ?_ (.inl ⟨by rfl, ?_⟩) ?_
        rotate_left
        · (intro W hSw; (try dsimp only at hSw); go_simp; try (with_reducible rfl))
        try simp only [Act.put]
        try simp only [List.setIfInBounds_toArray]
        try simp only [List.set_cons_succ]
        try simp only [List.set_cons_zero]
        refine wpT 19 ⟨some 73, .convert 3 97 (.tmp 72), 97, "law.go:49", #[⟨18, .data⟩, ⟨15, .guard⟩], some (15, false)⟩ ?_ (.inl ⟨by rfl, ?_⟩) ?_
        rotate_left
        · (intro W hSw; (try dsimp only at hSw); go_simp; try (with_reducible rfl))
        try simp only [Act.put]
        try simp only [List.setIfInBounds_toArray]
        try simp only [List.set_cons_succ]
        try simp only [List.set_cons_zero]
        refine wpT 20 ⟨some 74, .binOp .shr 3 (.tmp 70) (.tmp 73) 97, 3, "law.go:49", #[⟨16, .data⟩, ⟨19, .data⟩, ⟨15, .guard⟩], some (15, false)⟩ ?_ (.inl ⟨by rfl, ?_⟩) ?_
        rotate_left
        · (intro W hSw; (try dsimp only at hSw); go_simp; try (with_reducible rfl))
        try simp only [Act.put]
        try simp only [List.setIfInBounds_toArray]
        try simp only [List.set_cons_succ]
        try simp only [List.set_cons_zero]
        refine wpT 21 ⟨some 75, .binOp .and 3 (.tmp 74) (.const (.int .i64 1)) 3, 3, "law.go:49", #[⟨20, .data⟩, ⟨15, .guard⟩], some (15, false)⟩ ?_ (.inl ⟨by rfl, ?_⟩) ?_
        rotate_left
        · (intro W hSw; (try dsimp only at hSw); go_simp; try (with_reducible rfl))
        try simp only [Act.put]
        try simp only [List.setIfInBounds_toArray]
        try simp only [List.set_cons_succ]
        try simp only [List.set_cons_zero]
        refine wpT 22 ⟨some 76, .binOp .eql 3 (.tmp 75) (.const (.int .i64 0)) 3, 4, "law.go:49", #[⟨21, .data⟩, ⟨15, .guard⟩], some (15, false)⟩ ?_ (.inl ⟨by rfl, ?_⟩) ?_
        rotate_left
        · (intro W hSw; (try dsimp only at hSw); go_simp; try (with_reducible rfl))
        try simp only [Act.put]
        try simp only [List.setIfInBounds_toArray]
        try simp only [List.set_cons_succ]
        try simp only [List.set_cons_zero]
        refine wpT 23 ⟨some 77, .pick (.tmp 69) (.const (.bool true)) (.tmp 76), 4, "law.go:49", #[⟨15, .data⟩, ⟨22, .data⟩], none⟩ ?_ (.inl ⟨by rfl, ?_⟩) ?_
        rotate_left
        · (intro W hSw; (try dsimp only at hSw); go_simp; try (with_reducible rfl))
        try simp only [Act.put]
        try simp only [List.setIfInBounds_toArray]
        try simp only [List.set_cons_succ]
        try simp only [List.set_cons_zero]
        refine wpT 24 ⟨some 78, .move (.tmp 77), 4, "law.go:49", #[⟨23, .data⟩, ⟨15, .chain⟩], none⟩ ?_ (.inl ⟨by rfl, ?_⟩) ?_
        rotate_left
        · (intro W hSw; (try dsimp only at hSw); go_simp; try (with_reducible rfl))
        try simp only [Act.put]
        try simp only [List.setIfInBounds_toArray]
        try simp only [List.set_cons_succ]
        try simp only [List.set_cons_zero]
        refine wpT 25 ⟨some 79, .move (.tmp 0), 26, "law.go:49", #[⟨24, .guard⟩], some (24, false)⟩ ?_ (.inl ⟨by rfl, ?_⟩) ?_
        rotate_left
        · (intro W hSw; (try dsimp only at hSw); go_simp; try (with_reducible rfl))
        try simp only [Act.put]
        try simp only [List.setIfInBounds_toArray]
        try simp only [List.set_cons_succ]
        try simp only [List.set_cons_zero]
        refine wpT 26 ⟨some 80, .load 96 (.tmp 11), 96, "law.go:49", #[⟨24, .guard⟩], some (24, false)⟩ ?_ (.inl ⟨by rfl, ?_⟩) ?_
        rotate_left
        · (intro W hSw; (try dsimp only at hSw); go_simp; try (with_reducible rfl))
        try simp only [Act.put]
        try simp only [List.setIfInBounds_toArray]
        try simp only [List.set_cons_succ]
        try simp only [List.set_cons_zero]
        refine wpAnyH_ready (rs := [27]) (by kernel_rfl) (by simp) ?_
        refine AllReadyH.cons (o := ⟨some 81, .call { callee := .value (.func 72), args := #[.tmp 79, .tmp 80], argTypes := #[26, 96] }, 4, "law.go:49", #[⟨25, .data⟩, ⟨26, .data⟩, ⟨24, .chain⟩, ⟨24, .guard⟩], some (24, false)⟩) rfl (fun K hK => ?_) AllReadyH.nil
        go_simp
        (first
    | (go_at_call 72; refine (HIN.out _ hHeld).mono ?_; rintro e w4 ⟨rfl, hu4⟩))
        try (go_wp2_with fail)
        refine hK.out _ _ ?_ (fun hHeld => ?_)
        · (first | exact (Upd.refl No _).drew | exact hHeld.trans hu4)
        clear hK K
        try simp only [Act.put]
        try simp only [List.setIfInBounds_toArray]
        try simp only [List.set_cons_succ]
        try simp only [List.set_cons_zero]
        refine wpT 28 ⟨some 82, .unOp .not 4 (.tmp 81), 4, "law.go:49", #[⟨27, .data⟩, ⟨24, .guard⟩], some (24, false)⟩ ?_ (.inl ⟨by rfl, ?_⟩) ?_
        rotate_left
        · (intro W hSw; (try dsimp only at hSw); go_simp; try (with_reducible rfl))
        try simp only [Act.put]
        try simp only [List.setIfInBounds_toArray]
        try simp only [List.set_cons_succ]
        try simp only [List.set_cons_zero]
        refine wpT 29 ⟨some 83, .pick (.tmp 78) (.const (.bool true)) (.tmp 82), 4, "law.go:49", #[⟨24, .data⟩, ⟨28, .data⟩], none⟩ ?_ (.inl ⟨by rfl, ?_⟩) ?_
        rotate_left
        · (intro W hSw; (try dsimp only at hSw); go_simp; try (with_reducible rfl))
        try simp only [Act.put]
        try simp only [List.setIfInBounds_toArray]
        try simp only [List.set_cons_succ]
        try simp only [List.set_cons_zero]
        refine wpT 30 ⟨some 84, .move (.tmp 83), 4, "law.go:49", #[⟨29, .data⟩, ⟨27, .chain⟩], none⟩ ?_ (.inl ⟨by rfl, ?_⟩) ?_
        rotate_left
        · (intro W hSw; (try dsimp only at hSw); go_simp; try (with_reducible rfl))
        try simp only [Act.put]
        try simp only [List.setIfInBounds_toArray]
        try simp only [List.set_cons_succ]
        try simp only [List.set_cons_zero]
        refine wpT 31 ⟨some 85, .fieldAddr 96 (.tmp 11) 0, 0, "law.go:49", #[⟨30, .guard⟩], some (30, false)⟩ ?_ (.inl ⟨by rfl, ?_⟩) ?_
        rotate_left
        · (intro W hSw; (try dsimp only at hSw); go_simp; try (with_reducible rfl))
        try simp only [Act.put]
        try simp only [List.setIfInBounds_toArray]
        try simp only [List.set_cons_succ]
        try simp only [List.set_cons_zero]
        refine wpT 32 ⟨some 86, .load 3 (.tmp 85), 3, "law.go:49", #[⟨31, .data⟩, ⟨30, .guard⟩], some (30, false)⟩ ?_ (.inl ⟨by rfl, ?_⟩) ?_
        rotate_left
        · (intro W hSw; (try dsimp only at hSw); go_simp; try (with_reducible rfl))
        try simp only [Act.put]
        try simp only [List.setIfInBounds_toArray]
        try simp only [List.set_cons_succ]
        try simp only [List.set_cons_zero]
        refine wpT 33 ⟨some 87, .move (.tmp 7), 26, "law.go:49", #[⟨30, .guard⟩], some (30, false)⟩ ?_ (.inl ⟨by rfl, ?_⟩) ?_
        rotate_left
        · (intro W hSw; (try dsimp only at hSw); go_simp; try (with_reducible rfl))
        try simp only [Act.put]
        try simp only [List.setIfInBounds_toArray]
        try simp only [List.set_cons_succ]
        try simp only [List.set_cons_zero]
        refine wpT 34 ⟨some 88, .indexAddr 26 (.tmp 87) (.const (.int .i64 0)), 0, "law.go:49", #[⟨33, .data⟩, ⟨30, .guard⟩], some (30, false)⟩ ?_ (.inl ⟨by rfl, ?_⟩) ?_
        rotate_left
        · (intro W hSw; (try dsimp only at hSw); go_simp; try (with_reducible rfl))
        try simp only [Act.put]
        try simp only [List.setIfInBounds_toArray]
        try simp only [List.set_cons_succ]
        try simp only [List.set_cons_zero]
        refine wpT 35 ⟨some 89, .fieldAddr 96 (.tmp 88) 0, 0, "law.go:49", #[⟨34, .data⟩, ⟨30, .guard⟩], some (30, false)⟩ ?_ (.inl ⟨by rfl, ?_⟩) ?_
        rotate_left
        · (intro W hSw; (try dsimp only at hSw); go_simp; try (with_reducible rfl))
        try simp only [Act.put]
        try simp only [List.setIfInBounds_toArray]
        try simp only [List.set_cons_succ]
        try simp only [List.set_cons_zero]
        refine wpT 36 ⟨some 90, .load 3 (.tmp 89), 3, "law.go:49", #[⟨35, .data⟩, ⟨30, .guard⟩], some (30, false)⟩ ?_ (.inl ⟨by rfl, ?_⟩) ?_
        rotate_left
        · (intro W hSw; (try dsimp only at hSw); go_simp; try (with_reducible rfl))
        try simp only [Act.put]
        try simp only [List.setIfInBounds_toArray]
        try simp only [List.set_cons_succ]
        try simp only [List.set_cons_zero]
        refine wpT 37 ⟨some 91, .binOp .lss 3 (.tmp 86) (.tmp 90) 3, 4, "law.go:49", #[⟨32, .data⟩, ⟨36, .data⟩, ⟨30, .guard⟩], some (30, false)⟩ ?_ (.inl ⟨by rfl, ?_⟩) ?_
        rotate_left
        · (intro W hSw; (try dsimp only at hSw); go_simp; try (with_reducible rfl))
        try simp only [Act.put]
        try simp only [List.setIfInBounds_toArray]
        try simp only [List.set_cons_succ]
        try simp only [List.set_cons_zero]
        refine wpT 38 ⟨some 92, .pick (.tmp 84) (.const (.bool true)) (.tmp 91), 4, "law.go:49", #[⟨30, .data⟩, ⟨37, .data⟩], none⟩ ?_ (.inl ⟨by rfl, ?_⟩) ?_
        rotate_left
        · (intro W hSw; (try dsimp only at hSw); go_simp; try (with_reducible rfl))
        try simp only [Act.put]
        try simp only [List.setIfInBounds_toArray]
        try simp only [List.set_cons_succ]
        try simp only [List.set_cons_zero]
        refine wpT 39 ⟨some 93, .move (.tmp 92), 4, "law.go:49", #[⟨38, .data⟩, ⟨30, .chain⟩], none⟩ ?_ (.inl ⟨by rfl, ?_⟩) ?_
        rotate_left
        · (intro W hSw; (try dsimp only at hSw); go_simp; try (with_reducible rfl))
        try simp only [Act.put]
        try simp only [List.setIfInBounds_toArray]
        try simp only [List.set_cons_succ]
        try simp only [List.set_cons_zero]
        refine wpT 40 ⟨some 94, .move (.tmp 10), 3, "law.go:49", #[⟨39, .guard⟩], some (39, false)⟩ ?_ (.inl ⟨by rfl, ?_⟩) ?_
        rotate_left
        · (intro W hSw; (try dsimp only at hSw); go_simp; try (with_reducible rfl))
        try simp only [Act.put]
        try simp only [List.setIfInBounds_toArray]
        try simp only [List.set_cons_succ]
        try simp only [List.set_cons_zero]
        refine wpT 41 ⟨some 95, .binOp .gtr 3 (.tmp 94) (.const (.int .i64 0)) 3, 4, "law.go:49", #[⟨40, .data⟩, ⟨39, .guard⟩], some (39, false)⟩ ?_ (.inl ⟨by rfl, ?_⟩) ?_
        rotate_left
        · (intro W hSw; (try dsimp only at hSw); go_simp; try (with_reducible rfl))
        try simp only [Act.put]
        try simp only [List.setIfInBounds_toArray]
        try simp only [List.set_cons_succ]
        try simp only [List.set_cons_zero]
        refine wpT 42 ⟨some 96, .move (.tmp 95), 4, "law.go:49", #[⟨41, .data⟩, ⟨39, .chain⟩, ⟨39, .guard⟩], some (39, false)⟩ ?_ (.inl ⟨by rfl, ?_⟩) ?_
        rotate_left
        · (intro W hSw; (try dsimp only at hSw); go_simp; try (with_reducible rfl))
        try simp only [Act.put]
        try simp only [List.setIfInBounds_toArray]
        try simp only [List.set_cons_succ]
        try simp only [List.set_cons_zero]
        refine wpT 43 ⟨some 97, .fieldAddr 96 (.tmp 11) 0, 0, "law.go:49", #[⟨42, .guard⟩], some (42, true)⟩ ?_ (.inl ⟨by rfl, ?_⟩) ?_
        rotate_left
        · (intro W hSw; (try dsimp only at hSw); go_simp; try (with_reducible rfl))
        try simp only [Act.put]
        try simp only [List.setIfInBounds_toArray]
        try simp only [List.set_cons_succ]
        try simp only [List.set_cons_zero]
        refine wpT 44 ⟨some 98, .load 3 (.tmp 97), 3, "law.go:49", #[⟨43, .data⟩, ⟨42, .guard⟩], some (42, true)⟩ ?_ (.inl ⟨by rfl, ?_⟩) ?_
        rotate_left
        · (intro W hSw; (try dsimp only at hSw); go_simp; try (with_reducible rfl))
        try simp only [Act.put]
        try simp only [List.setIfInBounds_toArray]
        try simp only [List.set_cons_succ]
        try simp only [List.set_cons_zero]
        refine wpT 45 ⟨some 99, .move (.tmp 7), 26, "law.go:49", #[⟨42, .guard⟩], some (42, true)⟩ ?_ (.inl ⟨by rfl, ?_⟩) ?_
        rotate_left
        · (intro W hSw; (try dsimp only at hSw); go_simp; try (with_reducible rfl))
        try simp only [Act.put]
        try simp only [List.setIfInBounds_toArray]
        try simp only [List.set_cons_succ]
        try simp only [List.set_cons_zero]
        refine wpT 46 ⟨some 100, .indexAddr 26 (.tmp 99) (.const (.int .i64 0)), 0, "law.go:49", #[⟨45, .data⟩, ⟨42, .guard⟩], some (42, true)⟩ ?_ (.inl ⟨by rfl, ?_⟩) ?_
        rotate_left
        · (intro W hSw; (try dsimp only at hSw); go_simp; try (with_reducible rfl))
        try simp only [Act.put]
        try simp only [List.setIfInBounds_toArray]
        try simp only [List.set_cons_succ]
        try simp only [List.set_cons_zero]
        refine wpT 47 ⟨some 101, .fieldAddr 96 (.tmp 100) 0, 0, "law.go:49", #[⟨46, .data⟩, ⟨42, .guard⟩], some (42, true)⟩ ?_ (.inl ⟨by rfl, ?_⟩) ?_
        rotate_left
        · (intro W hSw; (try dsimp only at hSw); go_simp; try (with_reducible rfl))
        try simp only [Act.put]
        try simp only [List.setIfInBounds_toArray]
        try simp only [List.set_cons_succ]
        try simp only [List.set_cons_zero]
        refine wpT 48 ⟨some 102, .load 3 (.tmp 101), 3, "law.go:49", #[⟨47, .data⟩, ⟨42, .guard⟩], some (42, true)⟩ ?_ (.inl ⟨by rfl, ?_⟩) ?_
        rotate_left
        · (intro W hSw; (try dsimp only at hSw); go_simp; try (with_reducible rfl))
        try simp only [Act.put]
        try simp only [List.setIfInBounds_toArray]
        try simp only [List.set_cons_succ]
        try simp only [List.set_cons_zero]
        refine wpT 49 ⟨some 103, .binOp .eql 3 (.tmp 98) (.tmp 102) 3, 4, "law.go:49", #[⟨44, .data⟩, ⟨48, .data⟩, ⟨42, .guard⟩], some (42, true)⟩ ?_ (.inl ⟨by rfl, ?_⟩) ?_
        rotate_left
        · (intro W hSw; (try dsimp only at hSw); go_simp; try (with_reducible rfl))
        try simp only [Act.put]
        try simp only [List.setIfInBounds_toArray]
        try simp only [List.set_cons_succ]
        try simp only [List.set_cons_zero]
        refine wpT 50 ⟨some 104, .pick (.tmp 96) (.tmp 103) (.const (.bool false)), 4, "law.go:49", #[⟨42, .data⟩, ⟨49, .data⟩, ⟨39, .guard⟩], some (39, false)⟩ ?_ (.inl ⟨by rfl, ?_⟩) ?_
        rotate_left
        · (intro W hSw; (try dsimp only at hSw); go_simp; try (with_reducible rfl))
        try simp only [Act.put]
        try simp only [List.setIfInBounds_toArray]
        try simp only [List.set_cons_succ]
        try simp only [List.set_cons_zero]
        refine wpT 51 ⟨some 105, .pick (.tmp 93) (.const (.bool true)) (.tmp 104), 4, "law.go:49", #[⟨39, .data⟩, ⟨50, .data⟩], none⟩ ?_ (.inl ⟨by rfl, ?_⟩) ?_
        rotate_left
        · (intro W hSw; (try dsimp only at hSw); go_simp; try (with_reducible rfl))
        try simp only [Act.put]
        try simp only [List.setIfInBounds_toArray]
        try simp only [List.set_cons_succ]
        try simp only [List.set_cons_zero]
        refine wpAnyH_done (by kernel_rfl) (NoPanic.normal ?_) _
        have hW4 : Upd No w2 w4 := HUY.out.trans hHeld
        have HU4 := Lib.hid hW4
        have E0 : ∀ W, Upd No w4 W → W.cell? ⟨wo.heap.size, 0, none⟩ = some (.int .i64 xf) := fun W u => e0 W (hHeld.trans u)
        have E2 : w4.cell? ⟨wo.heap.size, 2, none⟩ = some (.int .i64 xk) := e2 w4 hHeld
        have k2 := fun W => cut_h0 (P := Try.prog) W slt_edges ad d.length cx k (by omega)
        obtain ⟨hv, hhv⟩ : ∃ hv, hasL d must k = hv := ⟨_, rfl⟩
        rw [hhv]
        have HSV := Lib.hid (show hasL d must (k + 1) = (hv || bitM must xk) by rw [← hhv]; exact HSC.out)
        clear hhv hW4 hHeld e0 e1 e2 e3 n0 zd ze zg za zb zc p0 p2 p3 p4 p5 p9 hyy b1m hu4
        cases hv
        · go_wp2
          go_loopg [120] k (fun gj i wr => ∃ j : Nat, j + gj = k ∧ i = .int .i64 j ∧ Upd No w4 wr)
          case atStart => exact ⟨0, by omega, rfl, Upd.refl _ _⟩
          case round =>
            obtain ⟨j, hgj, rfl, huj⟩ := hrel
            by_cases hj : j < k
            · have hjd : j < d.length := by omega
              obtain ⟨ad3, e3', y0, y1, y2, y3⟩ := (HX.out wr (HU4.out.trans huj)).at_ hjd
              cases e3'
              obtain ⟨f, hf⟩ : ∃ f, d[j] = f := ⟨_, rfl⟩
              have hne : (f.f == xf) = false := beq_eq_false_iff_ne.2 (by rw [← hf]; exact HDS.out j hj)
              rw [hf] at y0 y1 y2 y3
              have EJ := E0 (wr.alloc (.cells #[.int .i64 f.f, .int .i64 f.t, .int .i64 f.k, .int .i64 f.key] 96)) (huj.alloc _)
              have j1 : (0 : Int) ≤ (j : Int) := Int.natCast_nonneg _
              have j2 : (j : Int) < (k : Int) := by omega
              clear hf
              go_wp2
              go_roundg (gk - 1)
              case measure => omega
              case rel => exact ⟨j + 1, by omega, by go_num, huj.alloc _⟩
            · have hjk : k = j := by omega
              subst hjk
              go_wp2
              go_roundg (g0 - 1)
              case measure => omega
              case rel => exact ⟨k + 1, by omega, by go_num, by rw [HSV.out]; first | rfl | simp, HU4.out.trans huj⟩
        · go_wp2
          go_loopg [120] k (fun gj i wr => ∃ j : Nat, j + gj = k ∧ i = .int .i64 j ∧ Upd No w4 wr)
          case atStart => exact ⟨0, by omega, rfl, Upd.refl _ _⟩
          case round =>
            obtain ⟨j, hgj, rfl, huj⟩ := hrel
            by_cases hj : j < k
            · have hjd : j < d.length := by omega
              obtain ⟨ad3, e3', y0, y1, y2, y3⟩ := (HX.out wr (HU4.out.trans huj)).at_ hjd
              cases e3'
              obtain ⟨f, hf⟩ : ∃ f, d[j] = f := ⟨_, rfl⟩
              have hne : (f.f == xf) = false := beq_eq_false_iff_ne.2 (by rw [← hf]; exact HDS.out j hj)
              rw [hf] at y0 y1 y2 y3
              have EJ := E0 (wr.alloc (.cells #[.int .i64 f.f, .int .i64 f.t, .int .i64 f.k, .int .i64 f.key] 96)) (huj.alloc _)
              have j1 : (0 : Int) ≤ (j : Int) := Int.natCast_nonneg _
              have j2 : (j : Int) < (k : Int) := by omega
              clear hf
              go_wp2
              go_roundg (gk - 1)
              case measure => omega
              case rel => exact ⟨j + 1, by omega, by go_num, huj.alloc _⟩
            · have hjk : k = j := by omega
              subst hjk
              go_wp2
              go_roundg (g0 - 1)
              case measure => omega
              case rel => exact ⟨k + 1, by omega, by go_num, by rw [HSV.out]; first | rfl | simp, HU4.out.trans huj⟩
    · obtain rfl : k = d.length := by omega
      have hT : hasL d must d.length = true := by
        unfold hasL
        rw [List.take_length]
        cases hn : needR must with
        | false => rfl
        | true => rw [HDD.out.has hn]; rfl
      have HT := Lib.hid hT
      rw [hT]
      clear hT
      have h1 : decide ((0 : Int) < (d.length : Int)) = true := decide_eq_true (by omega)
      have h2 : decide (0 < d.length) = true := decide_eq_true h0
      go_wp2
      go_ret
      exact ⟨rfl, HU2.out.trans hu⟩
end Go.Proofs.Ytmnhgdedkniafaa
