/- Edges of a history: the law that what is told is what the document says. -/
import Derived.Test.YtaicemjckagcaaaGreatMbt
namespace Go.Proofs.YtaicemjckagcaaaGreat
set_option linter.unusedVariables false
open Go.RowKit
theorem light_d {F : Nat → Prop} {w : World} {txs : List HTx} {ords : List HOrd} {A : Option Addr} {c : Nat} {B : Option Addr} {d : Nat} {v : Bool} (H : Hist.lies F w ⟨txs, ords, A, c, B, d⟩) (hv : lightB ⟨txs, ords, A, c, B, d⟩ = v) :
    Calls Tryz.prog 7 #[.agg #[.slice A txs.length c, .slice B ords.length d]] w fun e w' => e = .returned (.bool v) ∧ Upd No w w' := by subst hv; exact rlight F w ⟨txs, ords, A, c, B, d⟩ H
theorem light_few {h : Hist} (hl : lightB h = true) : h.txs.length ≤ 12 ∧ ∀ t ∈ h.txs, t.ops.length ≤ 24 := by
  unfold lightB at hl
  simp only [Bool.and_eq_true, decide_eq_true_eq, List.all_eq_true] at hl
  exact ⟨hl.1.1.1, fun t ht => hl.1.2 t ht⟩
section
variable {F : Nat → Prop} {w : World} {txs : List HTx} {ords : List HOrd} {A : Option Addr} {c : Nat} {B : Option Addr} {d : Nat} {n m : Nat}
theorem vREdges (H : Hist.lies F w ⟨txs, ords, A, c, B, d⟩) (n1 : txs.length ≤ 12) (n2 : ∀ t ∈ txs, t.ops.length ≤ 24) {l : List Hvy} (he : edgesR ⟨txs, ords, A, c, B, d⟩ = l) :
    Calls Tryz.prog 9 #[.agg #[.slice A txs.length c, .slice B ords.length d]] w fun e w' => ∃ A' c', e = .returned (.slice A' l.length c') ∧ HvX w' A' l ∧ Upd No w w' := by
  subst he
  refine (rEdges16 F w txs ords A c B d H n1 n2).mono ?_
  rintro e w' ⟨A', c', rfl, ho, hu⟩
  exact ⟨A', c', rfl, HvX.own ho, hu⟩
theorem vROf {key : Int} {l : List Hvy} (hx : HvX w A l) (hl : l.length ≤ 1000000) :
    Calls Tryz.prog 13 #[.slice A l.length c, .int .i64 key] w fun e w' => ∃ A' c', e = .returned (.slice A' (ofKey key l).length c') ∧ HvX w' A' (ofKey key l) ∧ Upd No w w' := by
  obtain ⟨F, hx⟩ := hx
  refine (rOf16 F w A c l key hx hl).mono ?_
  rintro e w' ⟨A', c', rfl, ho, hu⟩
  exact ⟨A', c', rfl, HvX.own ho, hu⟩
theorem vRPlain {l : List Hvy} (hx : HvX w A l) (hl : l.length ≤ 1000000) :
    Calls Tryz.prog 18 #[.slice A l.length c] w fun e w' => ∃ A' c', e = .returned (.slice A' (plainL l).length c') ∧ EdX w' A' (plainL l) ∧ Upd No w w' := by
  obtain ⟨F, hx⟩ := hx
  refine (rPlain16 F w A c l hx hl).mono ?_
  rintro e w' ⟨A', c', rfl, ho, hu⟩
  exact ⟨A', c', rfl, ⟨_, Recs.of_own edges_len (by omega) ho⟩, hu⟩
theorem vRCount {ef et ek ey : Int} (H : Hist.lies F w ⟨txs, ords, A, c, B, d⟩) {k : Nat} (he : countR ⟨txs, ords, A, c, B, d⟩ ⟨ef, et, ek, ey⟩ = k) :
    Calls Tryz.prog 15 #[.agg #[.slice A txs.length c, .slice B ords.length d], .agg #[.int .i64 ef, .int .i64 et, .int .i64 ek, .int .i64 ey]] w fun r w' => r = .returned (.int .i64 (k : Int)) ∧ Upd No w w' := by
  subst he
  exact rCount16 F w txs ords A c B d ⟨ef, et, ek, ey⟩ H
end
theorem ofKey_len (key : Int) (l : List Hvy) : (ofKey key l).length ≤ l.length := List.length_filter_le _ _
theorem plainL_len (l : List Hvy) : (plainL l).length = l.length := by unfold plainL; simp
set_option maxRecDepth 100000 in
set_option maxHeartbeats 8000000 in
theorem tells16 (F : Nat → Prop) (w : World) (txs : List HTx) (ords : List HOrd) (A : Option Addr) (c : Nat) (B : Option Addr) (d : Nat) (key ef et ek ey : Int) (H : Hist.lies F w ⟨txs, ords, A, c, B, d⟩)
    (L : Hid (∀ w, Calls Tryz.prog 8 #[] w fun e w' => e = .returned (.bool true) ∧ Upd No w w')) :
    Calls Tryz.prog 3 #[.agg #[.slice A txs.length c, .slice B ords.length d], .int .i64 key, .agg #[.int .i64 ef, .int .i64 et, .int .i64 ek, .int .i64 ey]] w fun e w' => e = .returned (.bool true) ∧ Upd No w w' := by
  obtain ⟨z, hz⟩ : ∃ z, w.heap.size = z := ⟨_, rfl⟩
  obtain ⟨wb, hwb⟩ : ∃ wb, (w.alloc (.cells #[.slice A txs.length c, .slice B ords.length d] 25)).alloc (.cells #[.int .i64 ef, .int .i64 et, .int .i64 ek, .int .i64 ey] 27) = wb := ⟨_, rfl⟩
  have u0 : Upd No w wb := by rw [← hwb]; exact ((Upd.refl No w).alloc _).alloc _
  have bH : Blk wb z 25 [.slice A txs.length c, .slice B ords.length d] := by rw [← hwb, ← hz]; exact (Blk.new w _ _).alloc _
  have bE : Blk wb (z + 1) 27 [.int .i64 ef, .int .i64 et, .int .i64 ek, .int .i64 ey] := by
    rw [← hwb, ← hz]
    have := Blk.new (w.alloc (.cells #[.slice A txs.length c, .slice B ords.length d] 25)) 27 [.int .i64 ef, .int .i64 et, .int .i64 ek, .int .i64 ey]
    simpa using this
  have BH := Lib.hid bH
  have BE := Lib.hid bE
  have HB := Lib.hid (H.upd u0 (fun _ _ => id))
  have U0 := Lib.hid u0
  have d0 := bH.cell 0
  have d1 := bH.cell 1
  simp only [List.getElem?_cons_zero, List.getElem?_cons_succ] at d0 d1
  clear bH bE u0 H
  obtain ⟨v, hv⟩ : ∃ v, lightB ⟨txs, ords, A, c, B, d⟩ = v := ⟨_, rfl⟩
  have HV := Lib.hid hv
  have C1 := Lib.hid (light_d HB.out hv)
  clear hv
  go_enter Tryz.func3, Tryz.ntmps3
  cases v
  · go_wp2_with fail
    refine (C1.out).mono ?_
    rintro e w2 ⟨rfl, hu2⟩
    go_wp2_with fail
    refine (L.out _).mono ?_
    rintro e w3 ⟨rfl, hu3⟩
    go_wp2
    go_ret
    exact ⟨rfl, (U0.out.trans hu2).trans hu3⟩
  · have HN := Lib.hid (light_few HV.out)
    go_wp2_with fail
    refine (C1.out).mono ?_
    rintro e w2 ⟨rfl, hu2⟩
    clear d0 d1
    have e0 := (BH.out.upd hu2 id).cell 0
    have e1 := (BH.out.upd hu2 id).cell 1
    simp only [List.getElem?_cons_zero, List.getElem?_cons_succ] at e0 e1
    obtain ⟨l, hl⟩ : ∃ l, edgesR ⟨txs, ords, A, c, B, d⟩ = l := ⟨_, rfl⟩
    have C2 := Lib.hid (vREdges (HB.out.upd hu2 (fun _ _ => id)) HN.out.1 HN.out.2 hl)
    have hll : l.length ≤ 200000 := by rw [← hl]; exact edgesR_len HN.out.1 HN.out.2
    have HE := Lib.hid hl
    have HU2 := Lib.hid hu2
    clear hl hu2
    go_wp2_with fail
    refine (C2.out).mono ?_
    rintro e w3 ⟨A3, c3, rfl, hx3, hu3⟩
    have HLX := Lib.hid hx3
    have V3 := Lib.hid (HU2.out.trans hu3)
    have HBX := Lib.hid (HB.out.upd V3.out (fun _ _ => id))
    have hll2 : (ofKey key l).length ≤ 200000 := Nat.le_trans (ofKey_len key l) hll
    have hll3 : (plainL l).length ≤ 200000 := by rw [plainL_len]; exact hll
    obtain ⟨lk, hlk⟩ : ∃ lk, ofKey key l = lk := ⟨_, rfl⟩
    obtain ⟨lp, hlp⟩ : ∃ lp, plainL l = lp := ⟨_, rfl⟩
    have CR := Lib.hid (fun (W : World) (u : Upd No w3 W) => vROf (key := key) (c := c3) (HLX.out.upd u) (by omega))
    have CP := Lib.hid (fun (W : World) (u : Upd No w3 W) => vRPlain (c := c3) (HLX.out.upd u) (by omega))
    rw [hlk] at CR hll2
    rw [hlp] at CP hll3
    have HLK := Lib.hid hlk
    have HLP := Lib.hid hlp
    obtain ⟨kk, hkk⟩ : ∃ kk, countR ⟨txs, ords, A, c, B, d⟩ ⟨ef, et, ek, ey⟩ = kk := ⟨_, rfl⟩
    have HK := Lib.hid hkk
    have HH0 := Lib.hid (fun (W : World) (u : Upd No w3 W) => (BH.out.upd (V3.out.trans u) id).cell 0)
    have HH1 := Lib.hid (fun (W : World) (u : Upd No w3 W) => (BH.out.upd (V3.out.trans u) id).cell 1)
    have HE0 := Lib.hid (fun (W : World) (u : Upd No w3 W) => (BE.out.upd (V3.out.trans u) id).cell 0)
    have HE1 := Lib.hid (fun (W : World) (u : Upd No w3 W) => (BE.out.upd (V3.out.trans u) id).cell 1)
    have HE2 := Lib.hid (fun (W : World) (u : Upd No w3 W) => (BE.out.upd (V3.out.trans u) id).cell 2)
    have HE3 := Lib.hid (fun (W : World) (u : Upd No w3 W) => (BE.out.upd (V3.out.trans u) id).cell 3)
    clear hx3 hu3 hlk hlp hkk e0 e1
    go_wp2_with fail
    have ALL := Lib.hid (show ∀ W, Upd No w3 W → Upd No w3 W ∧ W.cell? ⟨z, 0, none⟩ = some (.slice A txs.length c) ∧ W.cell? ⟨z, 1, none⟩ = some (.slice B ords.length d) ∧ W.cell? ⟨z + 1, 0, none⟩ = some (.int .i64 ef) ∧ W.cell? ⟨z + 1, 1, none⟩ = some (.int .i64 et) ∧ W.cell? ⟨z + 1, 2, none⟩ = some (.int .i64 ek) ∧ W.cell? ⟨z + 1, 3, none⟩ = some (.int .i64 ey) from fun W hu => ⟨hu, HH0.out W hu, HH1.out W hu, HE0.out W hu, HE1.out W hu, HE2.out W hu, HE3.out W hu⟩)
    have hHeld := ALL.out _ ((Upd.refl No w3).drew)
    refine wp_region_noPanic ?_
    refine peel_start (by kernel_rfl) ?_
    generalize w3.drew = w5 at hHeld ⊢
    refine peelQ 5 (by kernel_rfl) (by kernel_rfl) 28 rfl (fun _ _ _ _ _ h => h) (fun QQ hq hdone => ?_)
    simp only [List.append, partOps_lit, partL, shiftO_mk, shiftA, shiftG]
    refine wpAny_of_held (S := (fun W => Upd No w3 W ∧ W.cell? ⟨z, 0, none⟩ = some (.slice A txs.length c) ∧ W.cell? ⟨z, 1, none⟩ = some (.slice B ords.length d) ∧ W.cell? ⟨z + 1, 0, none⟩ = some (.int .i64 ef) ∧ W.cell? ⟨z + 1, 1, none⟩ = some (.int .i64 et) ∧ W.cell? ⟨z + 1, 2, none⟩ = some (.int .i64 ek) ∧ W.cell? ⟨z + 1, 3, none⟩ = some (.int .i64 ey))) _ _ _ _ ?_
    refine wpAnyH_take (i := 0) (v := ?_) rfl (by kernel_rfl) (by kernel_rfl) (by kernel_rfl) (fun c a w h => hq c a _ _ w h) (Or.inl ⟨by rfl, ?_⟩) (by assumption) ?_
    rotate_left
    · (intro W hSw; (try dsimp only at hSw); go_simp; try (with_reducible rfl))
    try simp only [Act.put]
    try simp only [List.setIfInBounds_toArray]
    try simp only [List.set_cons_succ]
    try simp only [List.set_cons_zero]
    refine wpAnyH_take (i := 2) (v := ?_) rfl (by kernel_rfl) (by kernel_rfl) (by kernel_rfl) (fun c a w h => hq c a _ _ w h) (Or.inl ⟨by rfl, ?_⟩) (by assumption) ?_
    rotate_left
    · (intro W hSw; (try dsimp only at hSw); go_simp; try (with_reducible rfl))
    try simp only [Act.put]
    try simp only [List.setIfInBounds_toArray]
    try simp only [List.set_cons_succ]
    try simp only [List.set_cons_zero]
    refine wpAnyH_ready (rs := [1]) (by kernel_rfl) (by simp) ?_
    refine AllReadyH.cons rfl (fun K hK => ?_) AllReadyH.nil
    go_simp
    (first
        | (go_at_call 11; refine (vEdges (HBX.out.upd hHeld.1 (fun _ _ => id)) HN.out.1 HN.out.2 rfl rfl HE.out rfl).mono ?_; rintro e w2 ⟨A2, c2, rfl, hx2, hu2⟩))
    try (go_wp2_with fail)
    refine hK.out _ _ ?_ (fun hHeld => ?_)
    · (first | exact ALL.out _ (hHeld.1.trans hu4) | exact ALL.out _ (hHeld.1.trans hu2))
    clear hK K
    try simp only [Act.put]
    try simp only [List.setIfInBounds_toArray]
    try simp only [List.set_cons_succ]
    try simp only [List.set_cons_zero]
    refine wpAnyH_ready (rs := [3]) (by kernel_rfl) (by simp) ?_
    refine AllReadyH.cons rfl (fun K hK => ?_) AllReadyH.nil
    go_simp
    (first
        | (go_at_call 10; refine (vSame hx2 (HLX.out.upd hHeld.1) (by omega) (by omega) rfl rfl (v := true) (by simp)).mono ?_; rintro e w2 ⟨rfl, hu2⟩))
    try (go_wp2_with fail)
    refine hK.out _ _ ?_ (fun hHeld => ?_)
    · (first | exact ALL.out _ (hHeld.1.trans hu4) | exact ALL.out _ (hHeld.1.trans hu2))
    clear hK K
    try simp only [Act.put]
    try simp only [List.setIfInBounds_toArray]
    try simp only [List.set_cons_succ]
    try simp only [List.set_cons_zero]
    refine wpAnyH_take (i := 4) (v := ?_) rfl (by kernel_rfl) (by kernel_rfl) (by kernel_rfl) (fun c a w h => hq c a _ _ w h) (Or.inl ⟨by rfl, ?_⟩) (by assumption) ?_
    rotate_left
    · (intro W hSw; (try dsimp only at hSw); go_simp; try (with_reducible rfl))
    try simp only [Act.put]
    try simp only [List.setIfInBounds_toArray]
    try simp only [List.set_cons_succ]
    try simp only [List.set_cons_zero]
    refine wpAnyH_done (by kernel_rfl) (hdone.out _ _ ?_) _
    clear hdone hq QQ
    refine peelQ 9 (by kernel_rfl) (by kernel_rfl) 19 rfl (fun _ _ _ _ _ h => h) (fun QQ hq hdone => ?_)
    simp only [List.append, partOps_lit, partL, shiftO_mk, shiftA, shiftG]
    refine wpAny_of_held (S := (fun W => Upd No w3 W ∧ W.cell? ⟨z, 0, none⟩ = some (.slice A txs.length c) ∧ W.cell? ⟨z, 1, none⟩ = some (.slice B ords.length d) ∧ W.cell? ⟨z + 1, 0, none⟩ = some (.int .i64 ef) ∧ W.cell? ⟨z + 1, 1, none⟩ = some (.int .i64 et) ∧ W.cell? ⟨z + 1, 2, none⟩ = some (.int .i64 ek) ∧ W.cell? ⟨z + 1, 3, none⟩ = some (.int .i64 ey))) _ _ _ _ ?_
    refine wpAnyH_take (i := 0) (v := ?_) rfl (by kernel_rfl) (by kernel_rfl) (by kernel_rfl) (fun c a w h => hq c a _ _ w h) (Or.inl ⟨by rfl, ?_⟩) (by assumption) ?_
    rotate_left
    · (intro W hSw; (try dsimp only at hSw); go_simp; try (with_reducible rfl))
    try simp only [Act.put]
    try simp only [List.setIfInBounds_toArray]
    try simp only [List.set_cons_succ]
    try simp only [List.set_cons_zero]
    refine wpAnyH_take (i := 1) (v := ?_) rfl (by kernel_rfl) (by kernel_rfl) (by kernel_rfl) (fun c a w h => hq c a _ _ w h) (Or.inl ⟨by rfl, ?_⟩) (by assumption) ?_
    rotate_left
    · (intro W hSw; (try dsimp only at hSw); go_simp; try (with_reducible rfl))
    try simp only [Act.put]
    try simp only [List.setIfInBounds_toArray]
    try simp only [List.set_cons_succ]
    try simp only [List.set_cons_zero]
    refine wpAnyH_take (i := 3) (v := ?_) rfl (by kernel_rfl) (by kernel_rfl) (by kernel_rfl) (fun c a w h => hq c a _ _ w h) (Or.inl ⟨by rfl, ?_⟩) (by assumption) ?_
    rotate_left
    · (intro W hSw; (try dsimp only at hSw); go_simp; try (with_reducible rfl))
    try simp only [Act.put]
    try simp only [List.setIfInBounds_toArray]
    try simp only [List.set_cons_succ]
    try simp only [List.set_cons_zero]
    refine wpAnyH_take (i := 4) (v := ?_) rfl (by kernel_rfl) (by kernel_rfl) (by kernel_rfl) (fun c a w h => hq c a _ _ w h) (Or.inl ⟨by rfl, ?_⟩) (by assumption) ?_
    rotate_left
    · (intro W hSw; (try dsimp only at hSw); go_simp; try (with_reducible rfl))
    try simp only [Act.put]
    try simp only [List.setIfInBounds_toArray]
    try simp only [List.set_cons_succ]
    try simp only [List.set_cons_zero]
    refine wpAnyH_ready (rs := [2]) (by kernel_rfl) (by simp) ?_
    refine AllReadyH.cons rfl (fun K hK => ?_) AllReadyH.nil
    go_simp
    (first
        | (go_at_call 12; refine (vOf (l := lk) (HBX.out.upd hHeld.1 (fun _ _ => id)) HN.out.1 HN.out.2 rfl rfl (by rw [HE.out]; exact HLK.out) rfl).mono ?_; rintro e w2 ⟨A2, c2, rfl, hx2, hu2⟩))
    try (go_wp2_with fail)
    refine hK.out _ _ ?_ (fun hHeld => ?_)
    · (first | exact ALL.out _ (hHeld.1.trans hu4) | exact ALL.out _ (hHeld.1.trans hu2))
    clear hK K
    try simp only [Act.put]
    try simp only [List.setIfInBounds_toArray]
    try simp only [List.set_cons_succ]
    try simp only [List.set_cons_zero]
    refine wpAnyH_ready (rs := [5]) (by kernel_rfl) (by simp) ?_
    refine AllReadyH.cons rfl (fun K hK => ?_) AllReadyH.nil
    go_simp
    (first
        | (go_at_call 13; refine (CR.out _ hHeld.1).mono ?_; rintro e w4 ⟨A4, c4, rfl, hx4, hu4⟩))
    try (go_wp2_with fail)
    refine hK.out _ _ ?_ (fun hHeld => ?_)
    · (first | exact ALL.out _ (hHeld.1.trans hu4) | exact ALL.out _ (hHeld.1.trans hu2))
    clear hK K
    try simp only [Act.put]
    try simp only [List.setIfInBounds_toArray]
    try simp only [List.set_cons_succ]
    try simp only [List.set_cons_zero]
    refine wpAnyH_ready (rs := [6]) (by kernel_rfl) (by simp) ?_
    refine AllReadyH.cons rfl (fun K hK => ?_) AllReadyH.nil
    go_simp
    (first
        | (go_at_call 10; refine (vSame (hx2.upd hu4) hx4 (by omega) (by omega) rfl rfl (v := true) (by simp)).mono ?_; rintro e w2 ⟨rfl, hu2⟩))
    try (go_wp2_with fail)
    refine hK.out _ _ ?_ (fun hHeld => ?_)
    · (first | exact ALL.out _ (hHeld.1.trans hu4) | exact ALL.out _ (hHeld.1.trans hu2))
    clear hK K
    try simp only [Act.put]
    try simp only [List.setIfInBounds_toArray]
    try simp only [List.set_cons_succ]
    try simp only [List.set_cons_zero]
    refine wpAnyH_take (i := 7) (v := ?_) rfl (by kernel_rfl) (by kernel_rfl) (by kernel_rfl) (fun c a w h => hq c a _ _ w h) (Or.inl ⟨by rfl, ?_⟩) (by assumption) ?_
    rotate_left
    · (intro W hSw; (try dsimp only at hSw); go_simp; try (with_reducible rfl))
    try simp only [Act.put]
    try simp only [List.setIfInBounds_toArray]
    try simp only [List.set_cons_succ]
    try simp only [List.set_cons_zero]
    refine wpAnyH_take (i := 8) (v := ?_) rfl (by kernel_rfl) (by kernel_rfl) (by kernel_rfl) (fun c a w h => hq c a _ _ w h) (Or.inl ⟨by rfl, ?_⟩) (by assumption) ?_
    rotate_left
    · (intro W hSw; (try dsimp only at hSw); go_simp; try (with_reducible rfl))
    try simp only [Act.put]
    try simp only [List.setIfInBounds_toArray]
    try simp only [List.set_cons_succ]
    try simp only [List.set_cons_zero]
    refine wpAnyH_done (by kernel_rfl) (hdone.out _ _ ?_) _
    clear hdone hq QQ
    refine peelQ 9 (by kernel_rfl) (by kernel_rfl) 10 rfl (fun _ _ _ _ _ h => h) (fun QQ hq hdone => ?_)
    simp only [List.append, partOps_lit, partL, shiftO_mk, shiftA, shiftG]
    refine wpAny_of_held (S := (fun W => Upd No w3 W ∧ W.cell? ⟨z, 0, none⟩ = some (.slice A txs.length c) ∧ W.cell? ⟨z, 1, none⟩ = some (.slice B ords.length d) ∧ W.cell? ⟨z + 1, 0, none⟩ = some (.int .i64 ef) ∧ W.cell? ⟨z + 1, 1, none⟩ = some (.int .i64 et) ∧ W.cell? ⟨z + 1, 2, none⟩ = some (.int .i64 ek) ∧ W.cell? ⟨z + 1, 3, none⟩ = some (.int .i64 ey))) _ _ _ _ ?_
    refine wpAnyH_take (i := 0) (v := ?_) rfl (by kernel_rfl) (by kernel_rfl) (by kernel_rfl) (fun c a w h => hq c a _ _ w h) (Or.inl ⟨by rfl, ?_⟩) (by assumption) ?_
    rotate_left
    · (intro W hSw; (try dsimp only at hSw); go_simp; try (with_reducible rfl))
    try simp only [Act.put]
    try simp only [List.setIfInBounds_toArray]
    try simp only [List.set_cons_succ]
    try simp only [List.set_cons_zero]
    refine wpAnyH_take (i := 1) (v := ?_) rfl (by kernel_rfl) (by kernel_rfl) (by kernel_rfl) (fun c a w h => hq c a _ _ w h) (Or.inl ⟨by rfl, ?_⟩) (by assumption) ?_
    rotate_left
    · (intro W hSw; (try dsimp only at hSw); go_simp; try (with_reducible rfl))
    try simp only [Act.put]
    try simp only [List.setIfInBounds_toArray]
    try simp only [List.set_cons_succ]
    try simp only [List.set_cons_zero]
    refine wpAnyH_take (i := 3) (v := ?_) rfl (by kernel_rfl) (by kernel_rfl) (by kernel_rfl) (fun c a w h => hq c a _ _ w h) (Or.inl ⟨by rfl, ?_⟩) (by assumption) ?_
    rotate_left
    · (intro W hSw; (try dsimp only at hSw); go_simp; try (with_reducible rfl))
    try simp only [Act.put]
    try simp only [List.setIfInBounds_toArray]
    try simp only [List.set_cons_succ]
    try simp only [List.set_cons_zero]
    refine wpAnyH_take (i := 4) (v := ?_) rfl (by kernel_rfl) (by kernel_rfl) (by kernel_rfl) (fun c a w h => hq c a _ _ w h) (Or.inl ⟨by rfl, ?_⟩) (by assumption) ?_
    rotate_left
    · (intro W hSw; (try dsimp only at hSw); go_simp; try (with_reducible rfl))
    try simp only [Act.put]
    try simp only [List.setIfInBounds_toArray]
    try simp only [List.set_cons_succ]
    try simp only [List.set_cons_zero]
    refine wpAnyH_ready (rs := [2]) (by kernel_rfl) (by simp) ?_
    refine AllReadyH.cons rfl (fun K hK => ?_) AllReadyH.nil
    go_simp
    (first
        | (go_at_call 14; refine (vCount (HBX.out.upd hHeld.1 (fun _ _ => id)) rfl rfl HK.out rfl).mono ?_; rintro e w2 ⟨rfl, hu2⟩))
    try (go_wp2_with fail)
    refine hK.out _ _ ?_ (fun hHeld => ?_)
    · (first | exact ALL.out _ (hHeld.1.trans hu4) | exact ALL.out _ (hHeld.1.trans hu2))
    clear hK K
    try simp only [Act.put]
    try simp only [List.setIfInBounds_toArray]
    try simp only [List.set_cons_succ]
    try simp only [List.set_cons_zero]
    refine wpAnyH_ready (rs := [5]) (by kernel_rfl) (by simp) ?_
    refine AllReadyH.cons rfl (fun K hK => ?_) AllReadyH.nil
    go_simp
    (first
        | (go_at_call 15; refine (vRCount (HBX.out.upd hHeld.1 (fun _ _ => id)) HK.out).mono ?_; rintro e w2 ⟨rfl, hu2⟩))
    try (go_wp2_with fail)
    refine hK.out _ _ ?_ (fun hHeld => ?_)
    · (first | exact ALL.out _ (hHeld.1.trans hu4) | exact ALL.out _ (hHeld.1.trans hu2))
    clear hK K
    try simp only [Act.put]
    try simp only [List.setIfInBounds_toArray]
    try simp only [List.set_cons_succ]
    try simp only [List.set_cons_zero]
    refine wpAnyH_take (i := 6) (v := ?_) rfl (by kernel_rfl) (by kernel_rfl) (by kernel_rfl) (fun c a w h => hq c a _ _ w h) (Or.inl ⟨by rfl, ?_⟩) (by assumption) ?_
    rotate_left
    · (intro W hSw; (try dsimp only at hSw); go_simp; try (with_reducible rfl))
    try simp only [Act.put]
    try simp only [List.setIfInBounds_toArray]
    try simp only [List.set_cons_succ]
    try simp only [List.set_cons_zero]
    refine wpAnyH_take (i := 7) (v := ?_) rfl (by kernel_rfl) (by kernel_rfl) (by kernel_rfl) (fun c a w h => hq c a _ _ w h) (Or.inl ⟨by rfl, ?_⟩) (by assumption) ?_
    rotate_left
    · (intro W hSw; (try dsimp only at hSw); go_simp; try (with_reducible rfl))
    try simp only [Act.put]
    try simp only [List.setIfInBounds_toArray]
    try simp only [List.set_cons_succ]
    try simp only [List.set_cons_zero]
    refine wpAnyH_take (i := 8) (v := ?_) rfl (by kernel_rfl) (by kernel_rfl) (by kernel_rfl) (fun c a w h => hq c a _ _ w h) (Or.inl ⟨by rfl, ?_⟩) (by assumption) ?_
    rotate_left
    · (intro W hSw; (try dsimp only at hSw); go_simp; try (with_reducible rfl))
    try simp only [Act.put]
    try simp only [List.setIfInBounds_toArray]
    try simp only [List.set_cons_succ]
    try simp only [List.set_cons_zero]
    refine wpAnyH_done (by kernel_rfl) (hdone.out _ _ ?_) _
    clear hdone hq QQ
    refine peelQ 7 (by kernel_rfl) (by kernel_rfl) 3 rfl (fun _ _ _ _ _ h => h) (fun QQ hq hdone => ?_)
    simp only [List.append, partOps_lit, partL, shiftO_mk, shiftA, shiftG]
    refine wpAny_of_held (S := (fun W => Upd No w3 W ∧ W.cell? ⟨z, 0, none⟩ = some (.slice A txs.length c) ∧ W.cell? ⟨z, 1, none⟩ = some (.slice B ords.length d) ∧ W.cell? ⟨z + 1, 0, none⟩ = some (.int .i64 ef) ∧ W.cell? ⟨z + 1, 1, none⟩ = some (.int .i64 et) ∧ W.cell? ⟨z + 1, 2, none⟩ = some (.int .i64 ek) ∧ W.cell? ⟨z + 1, 3, none⟩ = some (.int .i64 ey))) _ _ _ _ ?_
    refine wpAnyH_take (i := 0) (v := ?_) rfl (by kernel_rfl) (by kernel_rfl) (by kernel_rfl) (fun c a w h => hq c a _ _ w h) (Or.inl ⟨by rfl, ?_⟩) (by assumption) ?_
    rotate_left
    · (intro W hSw; (try dsimp only at hSw); go_simp; try (with_reducible rfl))
    try simp only [Act.put]
    try simp only [List.setIfInBounds_toArray]
    try simp only [List.set_cons_succ]
    try simp only [List.set_cons_zero]
    refine wpAnyH_take (i := 2) (v := ?_) rfl (by kernel_rfl) (by kernel_rfl) (by kernel_rfl) (fun c a w h => hq c a _ _ w h) (Or.inl ⟨by rfl, ?_⟩) (by assumption) ?_
    rotate_left
    · (intro W hSw; (try dsimp only at hSw); go_simp; try (with_reducible rfl))
    try simp only [Act.put]
    try simp only [List.setIfInBounds_toArray]
    try simp only [List.set_cons_succ]
    try simp only [List.set_cons_zero]
    refine wpAnyH_ready (rs := [1]) (by kernel_rfl) (by simp) ?_
    refine AllReadyH.cons rfl (fun K hK => ?_) AllReadyH.nil
    go_simp
    (first
        | (go_at_call 17; refine (vPlain (HLX.out.upd hHeld.1) (by omega) rfl HLP.out rfl).mono ?_; rintro e w2 ⟨A2, c2, rfl, hx2, hu2⟩))
    try (go_wp2_with fail)
    refine hK.out _ _ ?_ (fun hHeld => ?_)
    · (first | exact ALL.out _ (hHeld.1.trans hu4) | exact ALL.out _ (hHeld.1.trans hu2))
    clear hK K
    try simp only [Act.put]
    try simp only [List.setIfInBounds_toArray]
    try simp only [List.set_cons_succ]
    try simp only [List.set_cons_zero]
    refine wpAnyH_ready (rs := [3]) (by kernel_rfl) (by simp) ?_
    refine AllReadyH.cons rfl (fun K hK => ?_) AllReadyH.nil
    go_simp
    (first
        | (go_at_call 18; refine (CP.out _ hHeld.1).mono ?_; rintro e w4 ⟨A4, c4, rfl, hx4, hu4⟩))
    try (go_wp2_with fail)
    refine hK.out _ _ ?_ (fun hHeld => ?_)
    · (first | exact ALL.out _ (hHeld.1.trans hu4) | exact ALL.out _ (hHeld.1.trans hu2))
    clear hK K
    try simp only [Act.put]
    try simp only [List.setIfInBounds_toArray]
    try simp only [List.set_cons_succ]
    try simp only [List.set_cons_zero]
    refine wpAnyH_ready (rs := [4]) (by kernel_rfl) (by simp) ?_
    refine AllReadyH.cons rfl (fun K hK => ?_) AllReadyH.nil
    go_simp
    (first
        | (go_at_call 16; refine (vSameE (hx2.upd hu4) hx4 (by omega) (by omega) rfl rfl (v := true) (by simp)).mono ?_; rintro e w2 ⟨rfl, hu2⟩))
    try (go_wp2_with fail)
    refine hK.out _ _ ?_ (fun hHeld => ?_)
    · (first | exact ALL.out _ (hHeld.1.trans hu4) | exact ALL.out _ (hHeld.1.trans hu2))
    clear hK K
    try simp only [Act.put]
    try simp only [List.setIfInBounds_toArray]
    try simp only [List.set_cons_succ]
    try simp only [List.set_cons_zero]
    refine wpAnyH_take (i := 5) (v := ?_) rfl (by kernel_rfl) (by kernel_rfl) (by kernel_rfl) (fun c a w h => hq c a _ _ w h) (Or.inl ⟨by rfl, ?_⟩) (by assumption) ?_
    rotate_left
    · (intro W hSw; (try dsimp only at hSw); go_simp; try (with_reducible rfl))
    try simp only [Act.put]
    try simp only [List.setIfInBounds_toArray]
    try simp only [List.set_cons_succ]
    try simp only [List.set_cons_zero]
    refine wpAnyH_take (i := 6) (v := ?_) rfl (by kernel_rfl) (by kernel_rfl) (by kernel_rfl) (fun c a w h => hq c a _ _ w h) (Or.inl ⟨by rfl, ?_⟩) (by assumption) ?_
    rotate_left
    · (intro W hSw; (try dsimp only at hSw); go_simp; try (with_reducible rfl))
    try simp only [Act.put]
    try simp only [List.setIfInBounds_toArray]
    try simp only [List.set_cons_succ]
    try simp only [List.set_cons_zero]
    refine wpAnyH_done (by kernel_rfl) (hdone.out _ _ ?_) _
    clear hdone hq QQ
    refine peelQ 3 (by kernel_rfl) (by kernel_rfl) 0 rfl (fun _ _ _ _ _ h => h) (fun QQ hq hdone => ?_)
    simp only [List.append, partOps_lit, partL, shiftO_mk, shiftA, shiftG]
    refine wpAny_of_held (S := (fun W => Upd No w3 W ∧ W.cell? ⟨z, 0, none⟩ = some (.slice A txs.length c) ∧ W.cell? ⟨z, 1, none⟩ = some (.slice B ords.length d) ∧ W.cell? ⟨z + 1, 0, none⟩ = some (.int .i64 ef) ∧ W.cell? ⟨z + 1, 1, none⟩ = some (.int .i64 et) ∧ W.cell? ⟨z + 1, 2, none⟩ = some (.int .i64 ek) ∧ W.cell? ⟨z + 1, 3, none⟩ = some (.int .i64 ey))) _ _ _ _ ?_
    refine wpAnyH_ready (rs := [0]) (by kernel_rfl) (by simp) ?_
    refine AllReadyH.cons rfl (fun K hK => ?_) AllReadyH.nil
    go_simp
    (first
        | (go_at_call 8; refine (L.out _).mono ?_; rintro e w2 ⟨rfl, hu2⟩))
    try (go_wp2_with fail)
    refine hK.out _ _ ?_ (fun hHeld => ?_)
    · (first | exact ALL.out _ (hHeld.1.trans hu4) | exact ALL.out _ (hHeld.1.trans hu2))
    clear hK K
    try simp only [Act.put]
    try simp only [List.setIfInBounds_toArray]
    try simp only [List.set_cons_succ]
    try simp only [List.set_cons_zero]
    refine wpAnyH_take (i := 1) (v := ?_) rfl (by kernel_rfl) (by kernel_rfl) (by kernel_rfl) (fun c a w h => hq c a _ _ w h) (Or.inl ⟨by rfl, ?_⟩) (by assumption) ?_
    rotate_left
    · (intro W hSw; (try dsimp only at hSw); go_simp; try (with_reducible rfl))
    try simp only [Act.put]
    try simp only [List.setIfInBounds_toArray]
    try simp only [List.set_cons_succ]
    try simp only [List.set_cons_zero]
    refine wpAnyH_take (i := 2) (v := ?_) rfl (by kernel_rfl) (by kernel_rfl) (by kernel_rfl) (fun c a w h => hq c a _ _ w h) (Or.inl ⟨by rfl, ?_⟩) (by assumption) ?_
    rotate_left
    · (intro W hSw; (try dsimp only at hSw); go_simp; try (with_reducible rfl))
    try simp only [Act.put]
    try simp only [List.setIfInBounds_toArray]
    try simp only [List.set_cons_succ]
    try simp only [List.set_cons_zero]
    refine wpAnyH_done (by kernel_rfl) (hdone.out _ _ ?_) _
    clear hdone hq QQ
    refine peel_end (NoPanic.normal ?_)
    go_wp2
    go_ret
    exact ⟨rfl, (U0.out.trans V3.out).trans hHeld.1⟩
end Go.Proofs.YtaicemjckagcaaaGreat
