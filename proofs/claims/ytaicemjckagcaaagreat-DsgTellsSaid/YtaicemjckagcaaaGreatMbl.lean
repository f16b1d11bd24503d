/- The document: how often there is a reason for an edge. -/
import Derived.Test.YtaicemjckagcaaaGreatMbk
namespace Go.Proofs.YtaicemjckagcaaaGreat
set_option linter.unusedVariables false
open Go.RowKit
def uid (txs : List HTx) (i : Int) : Int := match findT txs i with | some u => u.id | none => 0
theorem rfindX (F : Nat → Prop) (w : World) (txs : List HTx) (ords : List HOrd) (A : Option Addr) (c : Nat) (B : Option Addr) (d : Nat) (i : Int) (H : Hist.lies F w ⟨txs, ords, A, c, B, d⟩) :
    Calls Tryz.prog 66 #[.agg #[.slice A txs.length c, .slice B ords.length d], .int .i64 i] w fun e w' =>
    ∃ (A' : Option Addr) (c' : Nat), e = .returned (.tuple #[.agg #[.int .i64 (uid txs i), .bool (udone txs i), .slice A' (uops txs i).length c'], .bool (findT txs i).isSome]) ∧ fewOps (uops txs i).length ∧ HOps F w' A' (uops txs i) ∧ Upd No w w' := by
  unfold udone uops uid
  cases hf : findT txs i with
  | none =>
    refine (rfind_none H hf).mono ?_
    rintro e w' ⟨rfl, hu⟩
    exact ⟨none, 0, rfl, by unfold fewOps; simp, fun h => absurd rfl h, hu⟩
  | some t =>
    refine (rfind_some H hf).mono ?_
    rintro e w' ⟨A', c', rfl, h1, h2, h3⟩
    exact ⟨A', c', rfl, (H.tx t (find_mem hf)).2.2.1, h2, h3⟩
theorem rNextX {F : Nat → Prop} {w : World} {A : Option Addr} {c : Nat} {l : List Int} {tx : Int} {o : Option Int} (h : Ints F w A l) (hl : l.length ≤ 17592186044415) (ho : nextI l tx = o) :
    Calls Tryz.prog 104 #[.slice A l.length c, .int .i64 tx] w fun e w' => e = .returned (.tuple #[.int .i64 (o.getD 0), .bool o.isSome]) ∧ Upd No w w' := by
  subst ho
  refine (rNext F w A c l tx h hl).mono ?_
  intro e w' hq
  unfold Nexted at hq
  cases hn : nextI l tx with
  | none => rw [hn] at hq; exact hq
  | some x => rw [hn] at hq; exact hq
theorem nextB_eq {l : List Int} {x y : Int} {o : Option Int} (ho : nextI l x = o) : (nextI l x == some y) = (o.isSome && o.getD 0 == y) := by
  rw [ho]
  cases o with
  | none => rfl
  | some z =>
    rw [Bool.eq_iff_iff]
    simp
theorem cntR_no {h : Hist} {e : Edge} (hn : ((findT h.txs e.f).isSome && (findT h.txs e.t).isSome && udone h.txs e.f && udone h.txs e.t && !(e.f == e.t)) = false) : cntR h e = 0 := by
  unfold cntR doneT
  unfold udone at hn
  cases h1 : findT h.txs e.f with
  | none => rfl
  | some a =>
    cases h2 : findT h.txs e.t with
    | none => cases ha : a.done <;> simp [ha]
    | some b =>
      rw [h1, h2] at hn
      simp only [Option.isSome_some, Bool.true_and] at hn ⊢
      cases ha : a.done
      · simp
      · cases hb : b.done
        · simp
        · rw [ha, hb] at hn
          simp only [Bool.true_and, Bool.not_eq_false', beq_iff_eq] at hn
          simp [hn]
theorem cntR_yes {h : Hist} {e : Edge} (h1 : (findT h.txs e.f).isSome = true) (h2 : (findT h.txs e.t).isSome = true) (h3 : udone h.txs e.f = true) (h4 : udone h.txs e.t = true) (h5 : ¬ e.f = e.t) :
    cntR h e = if e.k = 1 then (if nextB h.ords e.key e.f e.t then 1 else 0) else if e.k = 2 then (uops h.txs e.t).countP (p2 e.f e.key (writesN (uops h.txs e.f) e.key))
      else if e.k = 3 then (uops h.txs e.f).countP (p3 h (uid h.txs e.f) e.key e.t) else 0 := by
  obtain ⟨a, ha⟩ := Option.isSome_iff_exists.1 h1
  obtain ⟨b, hb⟩ := Option.isSome_iff_exists.1 h2
  unfold udone at h3 h4
  rw [ha] at h3
  rw [hb] at h4
  simp only at h3 h4
  unfold cntR doneT uops uid
  rw [ha, hb]
  simp only [h3, h4, if_true, if_neg h5]
theorem countP_cons2 {α : Type} (p : α → Bool) (x : α) (l : List α) : (x :: l).countP p = (if p x then 1 else 0) + l.countP p := by
  rw [List.countP_cons]; omega
set_option maxRecDepth 100000 in
set_option maxHeartbeats 4000000 in
theorem rcount16 (F : Nat → Prop) (w : World) (txs : List HTx) (ords : List HOrd) (A : Option Addr) (c : Nat) (B : Option Addr) (d : Nat) (e : Edge) (H : Hist.lies F w ⟨txs, ords, A, c, B, d⟩) :
    Calls Tryz.prog 40 #[.agg #[.slice A txs.length c, .slice B ords.length d], .agg e.cells.toArray] w fun r w' => r = .returned (.int .i64 ((cntR ⟨txs, ords, A, c, B, d⟩ e : Nat) : Int)) ∧ Upd No w w' := by
  obtain ⟨ef, et, ek, ey⟩ := e
  unfold Edge.cells
  have u0 := ((Upd.refl No w).alloc (.cells #[.slice A txs.length c, .slice B ords.length d] 25)).alloc (.cells #[.int .i64 ef, .int .i64 et, .int .i64 ek, .int .i64 ey] 27)
  have bH := Lib.hid ((Blk.new w 25 [.slice A txs.length c, .slice B ords.length d]).alloc (.cells #[.int .i64 ef, .int .i64 et, .int .i64 ek, .int .i64 ey] 27))
  have b1 := Blk.new (w.alloc (.cells #[.slice A txs.length c, .slice B ords.length d] 25)) 27 [.int .i64 ef, .int .i64 et, .int .i64 ek, .int .i64 ey]
  simp only [World.size_alloc] at b1
  have bX := Lib.hid b1
  have U0 := Lib.hid u0
  clear b1 u0
  obtain ⟨i1, hi1⟩ : ∃ b, (findT txs ef).isSome = b := ⟨_, rfl⟩
  obtain ⟨i2, hi2⟩ : ∃ b, (findT txs et).isSome = b := ⟨_, rfl⟩
  obtain ⟨d1, hd1⟩ : ∃ b, udone txs ef = b := ⟨_, rfl⟩
  obtain ⟨d2, hd2⟩ : ∃ b, udone txs et = b := ⟨_, rfl⟩
  obtain ⟨x1, hx1⟩ : ∃ b, uid txs ef = b := ⟨_, rfl⟩
  obtain ⟨x2, hx2⟩ : ∃ b, uid txs et = b := ⟨_, rfl⟩
  obtain ⟨l1, hl1⟩ : ∃ b, uops txs ef = b := ⟨_, rfl⟩
  obtain ⟨l2, hl2⟩ : ∃ b, uops txs et = b := ⟨_, rfl⟩
  have hF1 := fun W (hW : Upd No w W) => rfindX F W txs ords A c B d ef (H.upd hW (fun _ _ => id))
  have hF2 := fun W (hW : Upd No w W) => rfindX F W txs ords A c B d et (H.upd hW (fun _ _ => id))
  rw [hi1, hd1, hx1, hl1] at hF1
  rw [hi2, hd2, hx2, hl2] at hF2
  have HF1 := Lib.hid (hF1 _ U0.out)
  have HF2 := Lib.hid hF2
  have I1 := Lib.hid hi1
  have I2 := Lib.hid hi2
  have D1 := Lib.hid hd1
  have D2 := Lib.hid hd2
  have X1 := Lib.hid hx1
  have L1 := Lib.hid hl1
  have L2 := Lib.hid hl2
  obtain ⟨ft, hft⟩ : ∃ b, (ef == et) = b := ⟨_, rfl⟩
  have HFT := Lib.hid hft
  clear hF1 hF2 hi1 hi2 hd1 hd2 hx1 hx2 hl1 hl2
  go_enter Tryz.func40, Tryz.ntmps40
  go_wp2_with fail
  refine (HF1.out).mono ?_
  rintro e w1 ⟨A1, c1, rfl, hfew1, hh1, hu1⟩
  have U1 := Lib.hid ((U0.out.trans hu1).alloc (.cells #[.int .i64 x1, .bool d1, .slice A1 l1.length c1] 47))
  have bT1 := Lib.hid (Blk.new w1 47 [.int .i64 x1, .bool d1, .slice A1 l1.length c1])
  have uq1 := hu1.alloc (.cells #[.int .i64 x1, .bool d1, .slice A1 l1.length c1] 47)
  have bH1 := Lib.hid (bH.out.upd uq1 id)
  have bX1 := Lib.hid (bX.out.upd uq1 id)
  have hh1a := Lib.hid (HOps.upd hh1 ((Upd.refl No w1).alloc (.cells #[.int .i64 x1, .bool d1, .slice A1 l1.length c1] 47)) (fun _ _ => id))
  have y0 := bX1.out.cell 0
  have y1 := bX1.out.cell 1
  have r0 := bH1.out.cell 0
  have r1 := bH1.out.cell 1
  simp only [List.getElem?_cons_zero, List.getElem?_cons_succ] at y0 y1 r0 r1
  clear hh1 hu1 uq1
  go_wp2_with fail
  refine (HF2.out _ U1.out).mono ?_
  rintro e w2 ⟨A2, c2, rfl, hfew2, hh2, hu2⟩
  clear y0 y1 r0 r1
  have uq2 := hu2.alloc (.cells #[.int .i64 x2, .bool d2, .slice A2 l2.length c2] 47)
  have U4 := Lib.hid (U1.out.trans uq2)
  have bT2 := Lib.hid (Blk.new w2 47 [.int .i64 x2, .bool d2, .slice A2 l2.length c2])
  have bT14 := Lib.hid (bT1.out.upd uq2 id)
  have bH4 := Lib.hid (bH1.out.upd uq2 id)
  have bX4 := Lib.hid (bX1.out.upd uq2 id)
  have hh14 := Lib.hid (HOps.upd hh1a.out uq2 (fun _ _ => id))
  have hh24 := Lib.hid (HOps.upd hh2 ((Upd.refl No w2).alloc (.cells #[.int .i64 x2, .bool d2, .slice A2 l2.length c2] 47)) (fun _ _ => id))
  have e0 : ∀ W, Upd No (w2.alloc (.cells #[.int .i64 x2, .bool d2, .slice A2 l2.length c2] 47)) W → W.cell? ⟨w.heap.size + 1, 0, none⟩ = some (.int .i64 ef) := fun W hW => (bX4.out.upd hW id).cell 0
  have e1 : ∀ W, Upd No (w2.alloc (.cells #[.int .i64 x2, .bool d2, .slice A2 l2.length c2] 47)) W → W.cell? ⟨w.heap.size + 1, 1, none⟩ = some (.int .i64 et) := fun W hW => (bX4.out.upd hW id).cell 1
  have e2 : ∀ W, Upd No (w2.alloc (.cells #[.int .i64 x2, .bool d2, .slice A2 l2.length c2] 47)) W → W.cell? ⟨w.heap.size + 1, 2, none⟩ = some (.int .i64 ek) := fun W hW => (bX4.out.upd hW id).cell 2
  have e3 : ∀ W, Upd No (w2.alloc (.cells #[.int .i64 x2, .bool d2, .slice A2 l2.length c2] 47)) W → W.cell? ⟨w.heap.size + 1, 3, none⟩ = some (.int .i64 ey) := fun W hW => (bX4.out.upd hW id).cell 3
  have g0 : ∀ W, Upd No (w2.alloc (.cells #[.int .i64 x2, .bool d2, .slice A2 l2.length c2] 47)) W → W.cell? ⟨w.heap.size, 0, none⟩ = some (.slice A txs.length c) := fun W hW => (bH4.out.upd hW id).cell 0
  have g1 : ∀ W, Upd No (w2.alloc (.cells #[.int .i64 x2, .bool d2, .slice A2 l2.length c2] 47)) W → W.cell? ⟨w.heap.size, 1, none⟩ = some (.slice B ords.length d) := fun W hW => (bH4.out.upd hW id).cell 1
  have a0 : ∀ W, Upd No (w2.alloc (.cells #[.int .i64 x2, .bool d2, .slice A2 l2.length c2] 47)) W → W.cell? ⟨w1.heap.size, 0, none⟩ = some (.int .i64 x1) := fun W hW => (bT14.out.upd hW id).cell 0
  have a1 : ∀ W, Upd No (w2.alloc (.cells #[.int .i64 x2, .bool d2, .slice A2 l2.length c2] 47)) W → W.cell? ⟨w1.heap.size, 1, none⟩ = some (.bool d1) := fun W hW => (bT14.out.upd hW id).cell 1
  have a2 : ∀ W, Upd No (w2.alloc (.cells #[.int .i64 x2, .bool d2, .slice A2 l2.length c2] 47)) W → W.cell? ⟨w1.heap.size, 2, none⟩ = some (.slice A1 l1.length c1) := fun W hW => (bT14.out.upd hW id).cell 2
  have b0 : ∀ W, Upd No (w2.alloc (.cells #[.int .i64 x2, .bool d2, .slice A2 l2.length c2] 47)) W → W.cell? ⟨w2.heap.size, 1, none⟩ = some (.bool d2) := fun W hW => (bT2.out.upd hW id).cell 1
  have b2 : ∀ W, Upd No (w2.alloc (.cells #[.int .i64 x2, .bool d2, .slice A2 l2.length c2] 47)) W → W.cell? ⟨w2.heap.size, 2, none⟩ = some (.slice A2 l2.length c2) := fun W hW => (bT2.out.upd hW id).cell 2
  have hr4 : Upd No (w2.alloc (.cells #[.int .i64 x2, .bool d2, .slice A2 l2.length c2] 47)) (w2.alloc (.cells #[.int .i64 x2, .bool d2, .slice A2 l2.length c2] 47)) := Upd.refl _ _
  clear hh2 hu2 uq2
  cases i1
  · have HV := Lib.hid (show cntR ⟨txs, ords, A, c, B, d⟩ ⟨ef, et, ek, ey⟩ = 0 from cntR_no (by simp only [I1.out, I2.out, D1.out, D2.out, HFT.out]; rfl))
    go_wp2
    go_ret
    exact ⟨by rw [HV.out]; rfl, U4.out⟩
  · cases i2
    · have HV := Lib.hid (show cntR ⟨txs, ords, A, c, B, d⟩ ⟨ef, et, ek, ey⟩ = 0 from cntR_no (by simp only [I1.out, I2.out, D1.out, D2.out, HFT.out]; rfl))
      go_wp2
      go_ret
      exact ⟨by rw [HV.out]; rfl, U4.out⟩
    · cases d1
      · have HV := Lib.hid (show cntR ⟨txs, ords, A, c, B, d⟩ ⟨ef, et, ek, ey⟩ = 0 from cntR_no (by simp only [I1.out, I2.out, D1.out, D2.out, HFT.out]; rfl))
        go_wp2
        go_ret
        exact ⟨by rw [HV.out]; rfl, U4.out⟩
      · cases d2
        · have HV := Lib.hid (show cntR ⟨txs, ords, A, c, B, d⟩ ⟨ef, et, ek, ey⟩ = 0 from cntR_no (by simp only [I1.out, I2.out, D1.out, D2.out, HFT.out]; rfl))
          go_wp2
          go_ret
          exact ⟨by rw [HV.out]; rfl, U4.out⟩
        · cases ft
          · have hv := cntR_yes (h := ⟨txs, ords, A, c, B, d⟩) (e := ⟨ef, et, ek, ey⟩) I1.out I2.out D1.out D2.out (by simpa using HFT.out)
            simp only [L1.out, L2.out, X1.out] at hv
            have HO := Lib.hid fun W (hW : Upd No (w2.alloc (.cells #[.int .i64 x2, .bool true, .slice A2 l2.length c2] 47)) W) => rOrder F W txs ords A c B d ey (H.upd (U4.out.trans hW) (fun _ _ => id))
            obtain ⟨ol, hol⟩ : ∃ ol, ordS ey ords = ol := ⟨_, rfl⟩
            rw [hol] at HO
            have hnb : ∀ x y, nextB ords ey x y = (nextI ol x == some y) := fun x y => by unfold nextB; rw [← ordS_eq, hol]
            have HNB := Lib.hid hnb
            have HV := Lib.hid hv
            clear hv hol hnb
            go_wp2_with fail
            refine (HO.out _ hr4).mono ?_
            rintro e w5 ⟨A9, c9, rfl, hI9, hl9, hu5⟩
            obtain ⟨ov, hov⟩ : ∃ ov, (nextI ol ef).getD 0 = ov := ⟨_, rfl⟩
            obtain ⟨os, hos⟩ : ∃ os, (nextI ol ef).isSome = os := ⟨_, rfl⟩
            have hnx := rNextX (tx := ef) (c := c9) hI9 hl9 rfl
            rw [hov, hos] at hnx
            have HNX := Lib.hid hnx
            have HI9 := Lib.hid hI9
            have HN1 := Lib.hid (show nextB ords ey ef et = (os && ov == et) by rw [HNB.out, nextB_eq rfl, hov, hos])
            clear hnx hov hos hI9
            go_wp2_with fail
            refine (HNX.out).mono ?_
            rintro e w6 ⟨rfl, hu6⟩
            have hr6 : Upd No (w2.alloc (.cells #[.int .i64 x2, .bool true, .slice A2 l2.length c2] 47)) w6 := hu5.trans hu6
            have HI6 := Lib.hid (HI9.out.upd hu6 (fun _ _ => id))
            have U6 := Lib.hid (U4.out.trans hr6)
            clear hu5 hu6 hr4
            by_cases hk1 : ek = 1
            · have hkb : (ek == 1) = true := by simpa using hk1
              have hk2 : (ek == 2) = false := by rw [hk1]; rfl
              have hk3 : (ek == 3) = false := by rw [hk1]; rfl
              have HV1 := Lib.hid (show cntR ⟨txs, ords, A, c, B, d⟩ ⟨ef, et, ek, ey⟩ = if (os && ov == et) = true then 1 else 0 by rw [HV.out, if_pos hk1, HN1.out])
              clear hk1
              cases os
              · go_wp2
                go_ret
                exact ⟨by rw [HV1.out]; rfl, U6.out⟩
              · cases hq : ov == et
                · have HV2 := Lib.hid (show cntR ⟨txs, ords, A, c, B, d⟩ ⟨ef, et, ek, ey⟩ = 0 by rw [HV1.out, hq]; rfl)
                  go_wp2
                  go_ret
                  exact ⟨by rw [HV2.out]; rfl, U6.out⟩
                · have HV2 := Lib.hid (show cntR ⟨txs, ords, A, c, B, d⟩ ⟨ef, et, ek, ey⟩ = 1 by rw [HV1.out, hq]; rfl)
                  go_wp2
                  go_ret
                  exact ⟨by rw [HV2.out]; rfl, U6.out⟩
            · have hkb : (ek == 1) = false := by simpa using hk1
              have hv2 := HV.out
              rw [if_neg hk1] at hv2
              clear hk1
              by_cases hk2 : ek = 2
              · have hkb2 : (ek == 2) = true := by simpa using hk2
                have hk3 : (ek == 3) = false := by rw [hk2]; rfl
                rw [if_pos hk2] at hv2
                have HV2 := Lib.hid hv2
                clear hk2 hv2
                unfold fewOps at hfew1 hfew2
                go_wp2
                go_loopg [12, 85] l2.length (fun gk s i wr => ∃ k n : Nat, k + gk = l2.length ∧ i = .int .i64 k ∧ s = .int .i64 n ∧ n ≤ k ∧ Hid (n + (l2.drop k).countP (p2 ef ey (writesN l1 ey)) = l2.countP (p2 ef ey (writesN l1 ey))) ∧ Upd No (w2.alloc (.cells #[.int .i64 x2, .bool true, .slice A2 l2.length c2] 47)) wr)
                case atStart => exact ⟨0, 0, by omega, rfl, rfl, by omega, Lib.hid (by simp), hr6⟩
                case round =>
                  obtain ⟨k, n, hgk, rfl, rfl, hn, hs, hu⟩ := hrel
                  clear hr6
                  by_cases hlt : k < l2.length
                  · obtain ⟨ad, hAd, q0, q1, q2, q3⟩ := (hh24.out.upd hu (fun _ _ => id)).at_ hlt
                    obtain ⟨x, hx⟩ : ∃ x, l2[k] = x := ⟨_, rfl⟩
                    rw [hx] at q0 q1 q2 q3
                    obtain ⟨rd, ky, tx, nt⟩ := x
                    simp only at q0 q1 q2 q3
                    subst hAd
                    have X := Lib.hid (show l2.drop k = ⟨rd, ky, tx, nt⟩ :: l2.drop (k + 1) by rw [← hx]; exact List.drop_eq_getElem_cons hlt)
                    have b1 : (0 : Int) ≤ (k : Int) := Int.natCast_nonneg _
                    have b2 : (k : Int) < (l2.length : Int) := by omega
                    have hub := hu.alloc (.cells #[.bool rd, .int .i64 ky, .int .i64 tx, .int .i64 nt] 96)
                    have bO := Lib.hid (Blk.new wr 96 [.bool rd, .int .i64 ky, .int .i64 tx, .int .i64 nt])
                    have o0 : ∀ W, Upd No (wr.alloc (.cells #[.bool rd, .int .i64 ky, .int .i64 tx, .int .i64 nt] 96)) W → W.cell? ⟨wr.heap.size, 0, none⟩ = some (.bool rd) := fun W hW => (bO.out.upd hW id).cell 0
                    have o1 : ∀ W, Upd No (wr.alloc (.cells #[.bool rd, .int .i64 ky, .int .i64 tx, .int .i64 nt] 96)) W → W.cell? ⟨wr.heap.size, 1, none⟩ = some (.int .i64 ky) := fun W hW => (bO.out.upd hW id).cell 1
                    have o2 : ∀ W, Upd No (wr.alloc (.cells #[.bool rd, .int .i64 ky, .int .i64 tx, .int .i64 nt] 96)) W → W.cell? ⟨wr.heap.size, 2, none⟩ = some (.int .i64 tx) := fun W hW => (bO.out.upd hW id).cell 2
                    have o3 : ∀ W, Upd No (wr.alloc (.cells #[.bool rd, .int .i64 ky, .int .i64 tx, .int .i64 nt] 96)) W → W.cell? ⟨wr.heap.size, 3, none⟩ = some (.int .i64 nt) := fun W hW => (bO.out.upd hW id).cell 3
                    have f0 := fun W (hW : Upd No (wr.alloc (.cells #[.bool rd, .int .i64 ky, .int .i64 tx, .int .i64 nt] 96)) W) => e0 W (hub.trans hW)
                    have f1 := fun W (hW : Upd No (wr.alloc (.cells #[.bool rd, .int .i64 ky, .int .i64 tx, .int .i64 nt] 96)) W) => e1 W (hub.trans hW)
                    have f3 := fun W (hW : Upd No (wr.alloc (.cells #[.bool rd, .int .i64 ky, .int .i64 tx, .int .i64 nt] 96)) W) => e3 W (hub.trans hW)
                    have j0 := fun W (hW : Upd No (wr.alloc (.cells #[.bool rd, .int .i64 ky, .int .i64 tx, .int .i64 nt] 96)) W) => g0 W (hub.trans hW)
                    have j1 := fun W (hW : Upd No (wr.alloc (.cells #[.bool rd, .int .i64 ky, .int .i64 tx, .int .i64 nt] 96)) W) => g1 W (hub.trans hW)
                    have m0 := fun W (hW : Upd No (wr.alloc (.cells #[.bool rd, .int .i64 ky, .int .i64 tx, .int .i64 nt] 96)) W) => a0 W (hub.trans hW)
                    have m2 := fun W (hW : Upd No (wr.alloc (.cells #[.bool rd, .int .i64 ky, .int .i64 tx, .int .i64 nt] 96)) W) => a2 W (hub.trans hW)
                    have HW := Lib.hid fun W (hW : Upd No (wr.alloc (.cells #[.bool rd, .int .i64 ky, .int .i64 tx, .int .i64 nt] 96)) W) => rwrites F W A1 c1 l1 ey (HOps.upd hh14.out (hub.trans hW) (fun _ _ => id)) (by unfold fewOps; exact hfew1)
                    obtain ⟨wn, hwn⟩ : ∃ wn, writesN l1 ey = wn := ⟨_, rfl⟩
                    rw [hwn] at HW
                    have hp : p2 ef ey (writesN l1 ey) ⟨rd, ky, tx, nt⟩ = (rd && (ky == ey && (tx == ef && nt == (wn : Int)))) := by unfold p2; rw [hwn]; simp only [Bool.and_assoc]
                    have hst := hs.out
                    rw [X.out, countP_cons2, hp] at hst
                    have HST := Lib.hid hst
                    clear hst hp hwn hx
                    cases rd
                    · have HS := Lib.hid (show n + (l2.drop (k + 1)).countP (p2 ef ey (writesN l1 ey)) = l2.countP (p2 ef ey (writesN l1 ey)) by rw [← HST.out]; simp [*])
                      go_wp2
                      refine wp_region_noPanic ?_
                      refine wp_region_held_drew (S := (fun w' => Upd No (wr.alloc (.cells #[.bool false, .int .i64 ky, .int .i64 tx, .int .i64 nt] 96)) w')) (by kernel_rfl) ?_ (fun hHeld => ?_)
                      · (first | exact (Upd.refl No _).drew | exact hHeld.trans hu3)
                      refine wpT 0 ⟨some 89, .fieldAddr 96 (.tmp 14) 0, 0, "ref.go:26", #[], none⟩ ?_ (.inl ⟨by rfl, ?_⟩) ?_
                      rotate_left
                      · (intro W hSw; (try dsimp only at hSw); go_simp; try (with_reducible rfl))
                      try simp only [Act.put]
                      try simp only [List.setIfInBounds_toArray]
                      try simp only [List.set_cons_succ]
                      try simp only [List.set_cons_zero]
                      refine wpT 1 ⟨some 90, .load 4 (.tmp 89), 4, "ref.go:26", #[⟨0, .data⟩], none⟩ ?_ (.inl ⟨by rfl, ?_⟩) ?_
                      rotate_left
                      · (intro W hSw; (try dsimp only at hSw); go_simp; try (with_reducible rfl))
                      try simp only [Act.put]
                      try simp only [List.setIfInBounds_toArray]
                      try simp only [List.set_cons_succ]
                      try simp only [List.set_cons_zero]
                      refine wpT 2 ⟨some 91, .move (.tmp 90), 4, "ref.go:26", #[⟨1, .data⟩], none⟩ ?_ (.inl ⟨by rfl, ?_⟩) ?_
                      rotate_left
                      · (intro W hSw; (try dsimp only at hSw); go_simp; try (with_reducible rfl))
                      try simp only [Act.put]
                      try simp only [List.setIfInBounds_toArray]
                      try simp only [List.set_cons_succ]
                      try simp only [List.set_cons_zero]
                      refine wpT 3 ⟨some 92, .fieldAddr 96 (.tmp 14) 1, 0, "ref.go:26", #[⟨2, .guard⟩], some (2, true)⟩ undef (.inr ⟨by rfl, rfl⟩) ?_
                      try simp only [Act.put]
                      try simp only [List.setIfInBounds_toArray]
                      try simp only [List.set_cons_succ]
                      try simp only [List.set_cons_zero]
                      refine wpT 4 ⟨some 93, .load 3 (.tmp 92), 3, "ref.go:26", #[⟨3, .data⟩, ⟨2, .guard⟩], some (2, true)⟩ undef (.inr ⟨by rfl, rfl⟩) ?_
                      try simp only [Act.put]
                      try simp only [List.setIfInBounds_toArray]
                      try simp only [List.set_cons_succ]
                      try simp only [List.set_cons_zero]
                      refine wpT 5 ⟨some 94, .fieldAddr 27 (.tmp 3) 3, 0, "ref.go:26", #[⟨2, .guard⟩], some (2, true)⟩ undef (.inr ⟨by rfl, rfl⟩) ?_
                      try simp only [Act.put]
                      try simp only [List.setIfInBounds_toArray]
                      try simp only [List.set_cons_succ]
                      try simp only [List.set_cons_zero]
                      refine wpT 6 ⟨some 95, .load 3 (.tmp 94), 3, "ref.go:26", #[⟨5, .data⟩, ⟨2, .guard⟩], some (2, true)⟩ undef (.inr ⟨by rfl, rfl⟩) ?_
                      try simp only [Act.put]
                      try simp only [List.setIfInBounds_toArray]
                      try simp only [List.set_cons_succ]
                      try simp only [List.set_cons_zero]
                      refine wpT 7 ⟨some 96, .binOp .eql 3 (.tmp 93) (.tmp 95) 3, 4, "ref.go:26", #[⟨4, .data⟩, ⟨6, .data⟩, ⟨2, .guard⟩], some (2, true)⟩ undef (.inr ⟨by rfl, rfl⟩) ?_
                      try simp only [Act.put]
                      try simp only [List.setIfInBounds_toArray]
                      try simp only [List.set_cons_succ]
                      try simp only [List.set_cons_zero]
                      refine wpT 8 ⟨some 97, .pick (.tmp 91) (.tmp 96) (.const (.bool false)), 4, "ref.go:26", #[⟨2, .data⟩, ⟨7, .data⟩], none⟩ ?_ (.inl ⟨by rfl, ?_⟩) ?_
                      rotate_left
                      · (intro W hSw; (try dsimp only at hSw); go_simp; try (with_reducible rfl))
                      try simp only [Act.put]
                      try simp only [List.setIfInBounds_toArray]
                      try simp only [List.set_cons_succ]
                      try simp only [List.set_cons_zero]
                      refine wpT 9 ⟨some 98, .move (.tmp 97), 4, "ref.go:26", #[⟨8, .data⟩, ⟨2, .chain⟩], none⟩ ?_ (.inl ⟨by rfl, ?_⟩) ?_
                      rotate_left
                      · (intro W hSw; (try dsimp only at hSw); go_simp; try (with_reducible rfl))
                      try simp only [Act.put]
                      try simp only [List.setIfInBounds_toArray]
                      try simp only [List.set_cons_succ]
                      try simp only [List.set_cons_zero]
                      refine wpT 10 ⟨some 99, .fieldAddr 96 (.tmp 14) 2, 0, "ref.go:26", #[⟨9, .guard⟩], some (9, true)⟩ undef (.inr ⟨by rfl, rfl⟩) ?_
                      try simp only [Act.put]
                      try simp only [List.setIfInBounds_toArray]
                      try simp only [List.set_cons_succ]
                      try simp only [List.set_cons_zero]
                      refine wpT 11 ⟨some 100, .load 3 (.tmp 99), 3, "ref.go:26", #[⟨10, .data⟩, ⟨9, .guard⟩], some (9, true)⟩ undef (.inr ⟨by rfl, rfl⟩) ?_
                      try simp only [Act.put]
                      try simp only [List.setIfInBounds_toArray]
                      try simp only [List.set_cons_succ]
                      try simp only [List.set_cons_zero]
                      refine wpT 12 ⟨some 101, .fieldAddr 27 (.tmp 3) 0, 0, "ref.go:26", #[⟨9, .guard⟩], some (9, true)⟩ undef (.inr ⟨by rfl, rfl⟩) ?_
                      try simp only [Act.put]
                      try simp only [List.setIfInBounds_toArray]
                      try simp only [List.set_cons_succ]
                      try simp only [List.set_cons_zero]
                      refine wpT 13 ⟨some 102, .load 3 (.tmp 101), 3, "ref.go:26", #[⟨12, .data⟩, ⟨9, .guard⟩], some (9, true)⟩ undef (.inr ⟨by rfl, rfl⟩) ?_
                      try simp only [Act.put]
                      try simp only [List.setIfInBounds_toArray]
                      try simp only [List.set_cons_succ]
                      try simp only [List.set_cons_zero]
                      refine wpT 14 ⟨some 103, .binOp .eql 3 (.tmp 100) (.tmp 102) 3, 4, "ref.go:26", #[⟨11, .data⟩, ⟨13, .data⟩, ⟨9, .guard⟩], some (9, true)⟩ undef (.inr ⟨by rfl, rfl⟩) ?_
                      try simp only [Act.put]
                      try simp only [List.setIfInBounds_toArray]
                      try simp only [List.set_cons_succ]
                      try simp only [List.set_cons_zero]
                      refine wpT 15 ⟨some 104, .pick (.tmp 98) (.tmp 103) (.const (.bool false)), 4, "ref.go:26", #[⟨9, .data⟩, ⟨14, .data⟩], none⟩ ?_ (.inl ⟨by rfl, ?_⟩) ?_
                      rotate_left
                      · (intro W hSw; (try dsimp only at hSw); go_simp; try (with_reducible rfl))
                      try simp only [Act.put]
                      try simp only [List.setIfInBounds_toArray]
                      try simp only [List.set_cons_succ]
                      try simp only [List.set_cons_zero]
                      refine wpT 16 ⟨some 105, .move (.tmp 104), 4, "ref.go:26", #[⟨15, .data⟩, ⟨9, .chain⟩], none⟩ ?_ (.inl ⟨by rfl, ?_⟩) ?_
                      rotate_left
                      · (intro W hSw; (try dsimp only at hSw); go_simp; try (with_reducible rfl))
                      try simp only [Act.put]
                      try simp only [List.setIfInBounds_toArray]
                      try simp only [List.set_cons_succ]
                      try simp only [List.set_cons_zero]
                      refine wpT 17 ⟨some 106, .fieldAddr 96 (.tmp 14) 3, 0, "ref.go:26", #[⟨16, .guard⟩], some (16, true)⟩ undef (.inr ⟨by rfl, rfl⟩) ?_
                      try simp only [Act.put]
                      try simp only [List.setIfInBounds_toArray]
                      try simp only [List.set_cons_succ]
                      try simp only [List.set_cons_zero]
                      refine wpT 18 ⟨some 107, .load 3 (.tmp 106), 3, "ref.go:26", #[⟨17, .data⟩, ⟨16, .guard⟩], some (16, true)⟩ undef (.inr ⟨by rfl, rfl⟩) ?_
                      try simp only [Act.put]
                      try simp only [List.setIfInBounds_toArray]
                      try simp only [List.set_cons_succ]
                      try simp only [List.set_cons_zero]
                      refine wpT 19 ⟨some 108, .fieldAddr 47 (.tmp 5) 2, 0, "ref.go:26", #[⟨16, .guard⟩], some (16, true)⟩ undef (.inr ⟨by rfl, rfl⟩) ?_
                      try simp only [Act.put]
                      try simp only [List.setIfInBounds_toArray]
                      try simp only [List.set_cons_succ]
                      try simp only [List.set_cons_zero]
                      refine wpT 20 ⟨some 109, .load 45 (.tmp 108), 45, "ref.go:26", #[⟨19, .data⟩, ⟨16, .guard⟩], some (16, true)⟩ undef (.inr ⟨by rfl, rfl⟩) ?_
                      try simp only [Act.put]
                      try simp only [List.setIfInBounds_toArray]
                      try simp only [List.set_cons_succ]
                      try simp only [List.set_cons_zero]
                      refine wpT 21 ⟨some 110, .fieldAddr 27 (.tmp 3) 3, 0, "ref.go:26", #[⟨16, .guard⟩], some (16, true)⟩ undef (.inr ⟨by rfl, rfl⟩) ?_
                      try simp only [Act.put]
                      try simp only [List.setIfInBounds_toArray]
                      try simp only [List.set_cons_succ]
                      try simp only [List.set_cons_zero]
                      refine wpT 22 ⟨some 111, .load 3 (.tmp 110), 3, "ref.go:26", #[⟨21, .data⟩, ⟨16, .guard⟩], some (16, true)⟩ undef (.inr ⟨by rfl, rfl⟩) ?_
                      try simp only [Act.put]
                      try simp only [List.setIfInBounds_toArray]
                      try simp only [List.set_cons_succ]
                      try simp only [List.set_cons_zero]
                      refine wpAnyH_ready (rs := [23]) (by kernel_rfl) (by simp) ?_
                      refine AllReadyH.cons (o := ⟨some 112, .call { callee := .value (.func 57), args := #[.tmp 109, .tmp 111], argTypes := #[45, 3] }, 3, "ref.go:26", #[⟨20, .data⟩, ⟨22, .data⟩, ⟨16, .chain⟩, ⟨16, .guard⟩], some (16, true)⟩) rfl (fun K hK => ?_) AllReadyH.nil
                      go_simp
                      refine hK.out _ _ ?_ (fun hHeld => ?_)
                      · exact hHeld
                      clear hK K
                      try simp only [Act.put]
                      try simp only [List.setIfInBounds_toArray]
                      try simp only [List.set_cons_succ]
                      try simp only [List.set_cons_zero]
                      refine wpT 24 ⟨some 113, .binOp .eql 3 (.tmp 107) (.tmp 112) 3, 4, "ref.go:26", #[⟨18, .data⟩, ⟨23, .data⟩, ⟨16, .guard⟩], some (16, true)⟩ undef (.inr ⟨by rfl, rfl⟩) ?_
                      try simp only [Act.put]
                      try simp only [List.setIfInBounds_toArray]
                      try simp only [List.set_cons_succ]
                      try simp only [List.set_cons_zero]
                      refine wpT 25 ⟨some 114, .pick (.tmp 105) (.tmp 113) (.const (.bool false)), 4, "ref.go:26", #[⟨16, .data⟩, ⟨24, .data⟩], none⟩ ?_ (.inl ⟨by rfl, ?_⟩) ?_
                      rotate_left
                      · (intro W hSw; (try dsimp only at hSw); go_simp; try (with_reducible rfl))
                      try simp only [Act.put]
                      try simp only [List.setIfInBounds_toArray]
                      try simp only [List.set_cons_succ]
                      try simp only [List.set_cons_zero]
                      refine wpAnyH_done (by kernel_rfl) (NoPanic.normal ?_) _
                      have HUB := Lib.hid (hub.trans hHeld)
                      clear hHeld o0 o1 o2 o3 f0 f1 f3 j0 j1 m0 m2
                      go_wp2
                      go_roundg (gk - 1)
                      case measure => omega
                      case rel => exact ⟨k + 1, n, by omega, by go_num, rfl, by omega, HS, HUB.out⟩
                    · cases hky : ky == ey
                      · have HS := Lib.hid (show n + (l2.drop (k + 1)).countP (p2 ef ey (writesN l1 ey)) = l2.countP (p2 ef ey (writesN l1 ey)) by rw [← HST.out]; simp [*])
                        go_wp2
                        refine wp_region_noPanic ?_
                        refine wp_region_held_drew (S := (fun w' => Upd No (wr.alloc (.cells #[.bool true, .int .i64 ky, .int .i64 tx, .int .i64 nt] 96)) w')) (by kernel_rfl) ?_ (fun hHeld => ?_)
                        · (first | exact (Upd.refl No _).drew | exact hHeld.trans hu3)
                        refine wpT 0 ⟨some 89, .fieldAddr 96 (.tmp 14) 0, 0, "ref.go:26", #[], none⟩ ?_ (.inl ⟨by rfl, ?_⟩) ?_
                        rotate_left
                        · (intro W hSw; (try dsimp only at hSw); go_simp; try (with_reducible rfl))
                        try simp only [Act.put]
                        try simp only [List.setIfInBounds_toArray]
                        try simp only [List.set_cons_succ]
                        try simp only [List.set_cons_zero]
                        refine wpT 1 ⟨some 90, .load 4 (.tmp 89), 4, "ref.go:26", #[⟨0, .data⟩], none⟩ ?_ (.inl ⟨by rfl, ?_⟩) ?_
                        rotate_left
                        · (intro W hSw; (try dsimp only at hSw); go_simp; try (with_reducible rfl))
                        try simp only [Act.put]
                        try simp only [List.setIfInBounds_toArray]
                        try simp only [List.set_cons_succ]
                        try simp only [List.set_cons_zero]
                        refine wpT 2 ⟨some 91, .move (.tmp 90), 4, "ref.go:26", #[⟨1, .data⟩], none⟩ ?_ (.inl ⟨by rfl, ?_⟩) ?_
                        rotate_left
                        · (intro W hSw; (try dsimp only at hSw); go_simp; try (with_reducible rfl))
                        try simp only [Act.put]
                        try simp only [List.setIfInBounds_toArray]
                        try simp only [List.set_cons_succ]
                        try simp only [List.set_cons_zero]
                        refine wpT 3 ⟨some 92, .fieldAddr 96 (.tmp 14) 1, 0, "ref.go:26", #[⟨2, .guard⟩], some (2, true)⟩ ?_ (.inl ⟨by rfl, ?_⟩) ?_
                        rotate_left
                        · (intro W hSw; (try dsimp only at hSw); go_simp; try (with_reducible rfl))
                        try simp only [Act.put]
                        try simp only [List.setIfInBounds_toArray]
                        try simp only [List.set_cons_succ]
                        try simp only [List.set_cons_zero]
                        refine wpT 4 ⟨some 93, .load 3 (.tmp 92), 3, "ref.go:26", #[⟨3, .data⟩, ⟨2, .guard⟩], some (2, true)⟩ ?_ (.inl ⟨by rfl, ?_⟩) ?_
                        rotate_left
                        · (intro W hSw; (try dsimp only at hSw); go_simp; try (with_reducible rfl))
                        try simp only [Act.put]
                        try simp only [List.setIfInBounds_toArray]
                        try simp only [List.set_cons_succ]
                        try simp only [List.set_cons_zero]
                        refine wpT 5 ⟨some 94, .fieldAddr 27 (.tmp 3) 3, 0, "ref.go:26", #[⟨2, .guard⟩], some (2, true)⟩ ?_ (.inl ⟨by rfl, ?_⟩) ?_
                        rotate_left
                        · (intro W hSw; (try dsimp only at hSw); go_simp; try (with_reducible rfl))
                        try simp only [Act.put]
                        try simp only [List.setIfInBounds_toArray]
                        try simp only [List.set_cons_succ]
                        try simp only [List.set_cons_zero]
                        refine wpT 6 ⟨some 95, .load 3 (.tmp 94), 3, "ref.go:26", #[⟨5, .data⟩, ⟨2, .guard⟩], some (2, true)⟩ ?_ (.inl ⟨by rfl, ?_⟩) ?_
                        rotate_left
                        · (intro W hSw; (try dsimp only at hSw); go_simp; try (with_reducible rfl))
                        try simp only [Act.put]
                        try simp only [List.setIfInBounds_toArray]
                        try simp only [List.set_cons_succ]
                        try simp only [List.set_cons_zero]
                        refine wpT 7 ⟨some 96, .binOp .eql 3 (.tmp 93) (.tmp 95) 3, 4, "ref.go:26", #[⟨4, .data⟩, ⟨6, .data⟩, ⟨2, .guard⟩], some (2, true)⟩ ?_ (.inl ⟨by rfl, ?_⟩) ?_
                        rotate_left
                        · (intro W hSw; (try dsimp only at hSw); go_simp; try (with_reducible rfl))
                        try simp only [Act.put]
                        try simp only [List.setIfInBounds_toArray]
                        try simp only [List.set_cons_succ]
                        try simp only [List.set_cons_zero]
                        refine wpT 8 ⟨some 97, .pick (.tmp 91) (.tmp 96) (.const (.bool false)), 4, "ref.go:26", #[⟨2, .data⟩, ⟨7, .data⟩], none⟩ ?_ (.inl ⟨by rfl, ?_⟩) ?_
                        rotate_left
                        · (intro W hSw; (try dsimp only at hSw); go_simp; try (with_reducible rfl))
                        try simp only [Act.put]
                        try simp only [List.setIfInBounds_toArray]
                        try simp only [List.set_cons_succ]
                        try simp only [List.set_cons_zero]
                        refine wpT 9 ⟨some 98, .move (.tmp 97), 4, "ref.go:26", #[⟨8, .data⟩, ⟨2, .chain⟩], none⟩ ?_ (.inl ⟨by rfl, ?_⟩) ?_
                        rotate_left
                        · (intro W hSw; (try dsimp only at hSw); go_simp; try (with_reducible rfl))
                        try simp only [Act.put]
                        try simp only [List.setIfInBounds_toArray]
                        try simp only [List.set_cons_succ]
                        try simp only [List.set_cons_zero]
                        refine wpT 10 ⟨some 99, .fieldAddr 96 (.tmp 14) 2, 0, "ref.go:26", #[⟨9, .guard⟩], some (9, true)⟩ undef (.inr ⟨by rfl, rfl⟩) ?_
                        try simp only [Act.put]
                        try simp only [List.setIfInBounds_toArray]
                        try simp only [List.set_cons_succ]
                        try simp only [List.set_cons_zero]
                        refine wpT 11 ⟨some 100, .load 3 (.tmp 99), 3, "ref.go:26", #[⟨10, .data⟩, ⟨9, .guard⟩], some (9, true)⟩ undef (.inr ⟨by rfl, rfl⟩) ?_
                        try simp only [Act.put]
                        try simp only [List.setIfInBounds_toArray]
                        try simp only [List.set_cons_succ]
                        try simp only [List.set_cons_zero]
                        refine wpT 12 ⟨some 101, .fieldAddr 27 (.tmp 3) 0, 0, "ref.go:26", #[⟨9, .guard⟩], some (9, true)⟩ undef (.inr ⟨by rfl, rfl⟩) ?_
                        try simp only [Act.put]
                        try simp only [List.setIfInBounds_toArray]
                        try simp only [List.set_cons_succ]
                        try simp only [List.set_cons_zero]
                        refine wpT 13 ⟨some 102, .load 3 (.tmp 101), 3, "ref.go:26", #[⟨12, .data⟩, ⟨9, .guard⟩], some (9, true)⟩ undef (.inr ⟨by rfl, rfl⟩) ?_
                        try simp only [Act.put]
                        try simp only [List.setIfInBounds_toArray]
                        try simp only [List.set_cons_succ]
                        try simp only [List.set_cons_zero]
                        refine wpT 14 ⟨some 103, .binOp .eql 3 (.tmp 100) (.tmp 102) 3, 4, "ref.go:26", #[⟨11, .data⟩, ⟨13, .data⟩, ⟨9, .guard⟩], some (9, true)⟩ undef (.inr ⟨by rfl, rfl⟩) ?_
                        try simp only [Act.put]
                        try simp only [List.setIfInBounds_toArray]
                        try simp only [List.set_cons_succ]
                        try simp only [List.set_cons_zero]
                        refine wpT 15 ⟨some 104, .pick (.tmp 98) (.tmp 103) (.const (.bool false)), 4, "ref.go:26", #[⟨9, .data⟩, ⟨14, .data⟩], none⟩ ?_ (.inl ⟨by rfl, ?_⟩) ?_
                        rotate_left
                        · (intro W hSw; (try dsimp only at hSw); go_simp; try (with_reducible rfl))
                        try simp only [Act.put]
                        try simp only [List.setIfInBounds_toArray]
                        try simp only [List.set_cons_succ]
                        try simp only [List.set_cons_zero]
                        refine wpT 16 ⟨some 105, .move (.tmp 104), 4, "ref.go:26", #[⟨15, .data⟩, ⟨9, .chain⟩], none⟩ ?_ (.inl ⟨by rfl, ?_⟩) ?_
                        rotate_left
                        · (intro W hSw; (try dsimp only at hSw); go_simp; try (with_reducible rfl))
                        try simp only [Act.put]
                        try simp only [List.setIfInBounds_toArray]
                        try simp only [List.set_cons_succ]
                        try simp only [List.set_cons_zero]
                        refine wpT 17 ⟨some 106, .fieldAddr 96 (.tmp 14) 3, 0, "ref.go:26", #[⟨16, .guard⟩], some (16, true)⟩ undef (.inr ⟨by rfl, rfl⟩) ?_
                        try simp only [Act.put]
                        try simp only [List.setIfInBounds_toArray]
                        try simp only [List.set_cons_succ]
                        try simp only [List.set_cons_zero]
                        refine wpT 18 ⟨some 107, .load 3 (.tmp 106), 3, "ref.go:26", #[⟨17, .data⟩, ⟨16, .guard⟩], some (16, true)⟩ undef (.inr ⟨by rfl, rfl⟩) ?_
                        try simp only [Act.put]
                        try simp only [List.setIfInBounds_toArray]
                        try simp only [List.set_cons_succ]
                        try simp only [List.set_cons_zero]
                        refine wpT 19 ⟨some 108, .fieldAddr 47 (.tmp 5) 2, 0, "ref.go:26", #[⟨16, .guard⟩], some (16, true)⟩ undef (.inr ⟨by rfl, rfl⟩) ?_
                        try simp only [Act.put]
                        try simp only [List.setIfInBounds_toArray]
                        try simp only [List.set_cons_succ]
                        try simp only [List.set_cons_zero]
                        refine wpT 20 ⟨some 109, .load 45 (.tmp 108), 45, "ref.go:26", #[⟨19, .data⟩, ⟨16, .guard⟩], some (16, true)⟩ undef (.inr ⟨by rfl, rfl⟩) ?_
                        try simp only [Act.put]
                        try simp only [List.setIfInBounds_toArray]
                        try simp only [List.set_cons_succ]
                        try simp only [List.set_cons_zero]
                        refine wpT 21 ⟨some 110, .fieldAddr 27 (.tmp 3) 3, 0, "ref.go:26", #[⟨16, .guard⟩], some (16, true)⟩ undef (.inr ⟨by rfl, rfl⟩) ?_
                        try simp only [Act.put]
                        try simp only [List.setIfInBounds_toArray]
                        try simp only [List.set_cons_succ]
                        try simp only [List.set_cons_zero]
                        refine wpT 22 ⟨some 111, .load 3 (.tmp 110), 3, "ref.go:26", #[⟨21, .data⟩, ⟨16, .guard⟩], some (16, true)⟩ undef (.inr ⟨by rfl, rfl⟩) ?_
                        try simp only [Act.put]
                        try simp only [List.setIfInBounds_toArray]
                        try simp only [List.set_cons_succ]
                        try simp only [List.set_cons_zero]
                        refine wpAnyH_ready (rs := [23]) (by kernel_rfl) (by simp) ?_
                        refine AllReadyH.cons (o := ⟨some 112, .call { callee := .value (.func 57), args := #[.tmp 109, .tmp 111], argTypes := #[45, 3] }, 3, "ref.go:26", #[⟨20, .data⟩, ⟨22, .data⟩, ⟨16, .chain⟩, ⟨16, .guard⟩], some (16, true)⟩) rfl (fun K hK => ?_) AllReadyH.nil
                        go_simp
                        refine hK.out _ _ ?_ (fun hHeld => ?_)
                        · exact hHeld
                        clear hK K
                        try simp only [Act.put]
                        try simp only [List.setIfInBounds_toArray]
                        try simp only [List.set_cons_succ]
                        try simp only [List.set_cons_zero]
                        refine wpT 24 ⟨some 113, .binOp .eql 3 (.tmp 107) (.tmp 112) 3, 4, "ref.go:26", #[⟨18, .data⟩, ⟨23, .data⟩, ⟨16, .guard⟩], some (16, true)⟩ undef (.inr ⟨by rfl, rfl⟩) ?_
                        try simp only [Act.put]
                        try simp only [List.setIfInBounds_toArray]
                        try simp only [List.set_cons_succ]
                        try simp only [List.set_cons_zero]
                        refine wpT 25 ⟨some 114, .pick (.tmp 105) (.tmp 113) (.const (.bool false)), 4, "ref.go:26", #[⟨16, .data⟩, ⟨24, .data⟩], none⟩ ?_ (.inl ⟨by rfl, ?_⟩) ?_
                        rotate_left
                        · (intro W hSw; (try dsimp only at hSw); go_simp; try (with_reducible rfl))
                        try simp only [Act.put]
                        try simp only [List.setIfInBounds_toArray]
                        try simp only [List.set_cons_succ]
                        try simp only [List.set_cons_zero]
                        refine wpAnyH_done (by kernel_rfl) (NoPanic.normal ?_) _
                        have HUB := Lib.hid (hub.trans hHeld)
                        clear hHeld o0 o1 o2 o3 f0 f1 f3 j0 j1 m0 m2
                        go_wp2
                        go_roundg (gk - 1)
                        case measure => omega
                        case rel => exact ⟨k + 1, n, by omega, by go_num, rfl, by omega, HS, HUB.out⟩
                      · cases htx : tx == ef
                        · have HS := Lib.hid (show n + (l2.drop (k + 1)).countP (p2 ef ey (writesN l1 ey)) = l2.countP (p2 ef ey (writesN l1 ey)) by rw [← HST.out]; simp [*])
                          go_wp2
                          refine wp_region_noPanic ?_
                          refine wp_region_held_drew (S := (fun w' => Upd No (wr.alloc (.cells #[.bool true, .int .i64 ky, .int .i64 tx, .int .i64 nt] 96)) w')) (by kernel_rfl) ?_ (fun hHeld => ?_)
                          · (first | exact (Upd.refl No _).drew | exact hHeld.trans hu3)
                          refine wpT 0 ⟨some 89, .fieldAddr 96 (.tmp 14) 0, 0, "ref.go:26", #[], none⟩ ?_ (.inl ⟨by rfl, ?_⟩) ?_
                          rotate_left
                          · (intro W hSw; (try dsimp only at hSw); go_simp; try (with_reducible rfl))
                          try simp only [Act.put]
                          try simp only [List.setIfInBounds_toArray]
                          try simp only [List.set_cons_succ]
                          try simp only [List.set_cons_zero]
                          refine wpT 1 ⟨some 90, .load 4 (.tmp 89), 4, "ref.go:26", #[⟨0, .data⟩], none⟩ ?_ (.inl ⟨by rfl, ?_⟩) ?_
                          rotate_left
                          · (intro W hSw; (try dsimp only at hSw); go_simp; try (with_reducible rfl))
                          try simp only [Act.put]
                          try simp only [List.setIfInBounds_toArray]
                          try simp only [List.set_cons_succ]
                          try simp only [List.set_cons_zero]
                          refine wpT 2 ⟨some 91, .move (.tmp 90), 4, "ref.go:26", #[⟨1, .data⟩], none⟩ ?_ (.inl ⟨by rfl, ?_⟩) ?_
                          rotate_left
                          · (intro W hSw; (try dsimp only at hSw); go_simp; try (with_reducible rfl))
                          try simp only [Act.put]
                          try simp only [List.setIfInBounds_toArray]
                          try simp only [List.set_cons_succ]
                          try simp only [List.set_cons_zero]
                          refine wpT 3 ⟨some 92, .fieldAddr 96 (.tmp 14) 1, 0, "ref.go:26", #[⟨2, .guard⟩], some (2, true)⟩ ?_ (.inl ⟨by rfl, ?_⟩) ?_
                          rotate_left
                          · (intro W hSw; (try dsimp only at hSw); go_simp; try (with_reducible rfl))
                          try simp only [Act.put]
                          try simp only [List.setIfInBounds_toArray]
                          try simp only [List.set_cons_succ]
                          try simp only [List.set_cons_zero]
                          refine wpT 4 ⟨some 93, .load 3 (.tmp 92), 3, "ref.go:26", #[⟨3, .data⟩, ⟨2, .guard⟩], some (2, true)⟩ ?_ (.inl ⟨by rfl, ?_⟩) ?_
                          rotate_left
                          · (intro W hSw; (try dsimp only at hSw); go_simp; try (with_reducible rfl))
                          try simp only [Act.put]
                          try simp only [List.setIfInBounds_toArray]
                          try simp only [List.set_cons_succ]
                          try simp only [List.set_cons_zero]
                          refine wpT 5 ⟨some 94, .fieldAddr 27 (.tmp 3) 3, 0, "ref.go:26", #[⟨2, .guard⟩], some (2, true)⟩ ?_ (.inl ⟨by rfl, ?_⟩) ?_
                          rotate_left
                          · (intro W hSw; (try dsimp only at hSw); go_simp; try (with_reducible rfl))
                          try simp only [Act.put]
                          try simp only [List.setIfInBounds_toArray]
                          try simp only [List.set_cons_succ]
                          try simp only [List.set_cons_zero]
                          refine wpT 6 ⟨some 95, .load 3 (.tmp 94), 3, "ref.go:26", #[⟨5, .data⟩, ⟨2, .guard⟩], some (2, true)⟩ ?_ (.inl ⟨by rfl, ?_⟩) ?_
                          rotate_left
                          · (intro W hSw; (try dsimp only at hSw); go_simp; try (with_reducible rfl))
                          try simp only [Act.put]
                          try simp only [List.setIfInBounds_toArray]
                          try simp only [List.set_cons_succ]
                          try simp only [List.set_cons_zero]
                          refine wpT 7 ⟨some 96, .binOp .eql 3 (.tmp 93) (.tmp 95) 3, 4, "ref.go:26", #[⟨4, .data⟩, ⟨6, .data⟩, ⟨2, .guard⟩], some (2, true)⟩ ?_ (.inl ⟨by rfl, ?_⟩) ?_
                          rotate_left
                          · (intro W hSw; (try dsimp only at hSw); go_simp; try (with_reducible rfl))
                          try simp only [Act.put]
                          try simp only [List.setIfInBounds_toArray]
                          try simp only [List.set_cons_succ]
                          try simp only [List.set_cons_zero]
                          refine wpT 8 ⟨some 97, .pick (.tmp 91) (.tmp 96) (.const (.bool false)), 4, "ref.go:26", #[⟨2, .data⟩, ⟨7, .data⟩], none⟩ ?_ (.inl ⟨by rfl, ?_⟩) ?_
                          rotate_left
                          · (intro W hSw; (try dsimp only at hSw); go_simp; try (with_reducible rfl))
                          try simp only [Act.put]
                          try simp only [List.setIfInBounds_toArray]
                          try simp only [List.set_cons_succ]
                          try simp only [List.set_cons_zero]
                          refine wpT 9 ⟨some 98, .move (.tmp 97), 4, "ref.go:26", #[⟨8, .data⟩, ⟨2, .chain⟩], none⟩ ?_ (.inl ⟨by rfl, ?_⟩) ?_
                          rotate_left
                          · (intro W hSw; (try dsimp only at hSw); go_simp; try (with_reducible rfl))
                          try simp only [Act.put]
                          try simp only [List.setIfInBounds_toArray]
                          try simp only [List.set_cons_succ]
                          try simp only [List.set_cons_zero]
                          refine wpT 10 ⟨some 99, .fieldAddr 96 (.tmp 14) 2, 0, "ref.go:26", #[⟨9, .guard⟩], some (9, true)⟩ ?_ (.inl ⟨by rfl, ?_⟩) ?_
                          rotate_left
                          · (intro W hSw; (try dsimp only at hSw); go_simp; try (with_reducible rfl))
                          try simp only [Act.put]
                          try simp only [List.setIfInBounds_toArray]
                          try simp only [List.set_cons_succ]
                          try simp only [List.set_cons_zero]
                          refine wpT 11 ⟨some 100, .load 3 (.tmp 99), 3, "ref.go:26", #[⟨10, .data⟩, ⟨9, .guard⟩], some (9, true)⟩ ?_ (.inl ⟨by rfl, ?_⟩) ?_
                          rotate_left
                          · (intro W hSw; (try dsimp only at hSw); go_simp; try (with_reducible rfl))
                          try simp only [Act.put]
                          try simp only [List.setIfInBounds_toArray]
                          try simp only [List.set_cons_succ]
                          try simp only [List.set_cons_zero]
                          refine wpT 12 ⟨some 101, .fieldAddr 27 (.tmp 3) 0, 0, "ref.go:26", #[⟨9, .guard⟩], some (9, true)⟩ ?_ (.inl ⟨by rfl, ?_⟩) ?_
                          rotate_left
                          · (intro W hSw; (try dsimp only at hSw); go_simp; try (with_reducible rfl))
                          try simp only [Act.put]
                          try simp only [List.setIfInBounds_toArray]
                          try simp only [List.set_cons_succ]
                          try simp only [List.set_cons_zero]
                          refine wpT 13 ⟨some 102, .load 3 (.tmp 101), 3, "ref.go:26", #[⟨12, .data⟩, ⟨9, .guard⟩], some (9, true)⟩ ?_ (.inl ⟨by rfl, ?_⟩) ?_
                          rotate_left
                          · (intro W hSw; (try dsimp only at hSw); go_simp; try (with_reducible rfl))
                          try simp only [Act.put]
                          try simp only [List.setIfInBounds_toArray]
                          try simp only [List.set_cons_succ]
                          try simp only [List.set_cons_zero]
                          refine wpT 14 ⟨some 103, .binOp .eql 3 (.tmp 100) (.tmp 102) 3, 4, "ref.go:26", #[⟨11, .data⟩, ⟨13, .data⟩, ⟨9, .guard⟩], some (9, true)⟩ ?_ (.inl ⟨by rfl, ?_⟩) ?_
                          rotate_left
                          · (intro W hSw; (try dsimp only at hSw); go_simp; try (with_reducible rfl))
                          try simp only [Act.put]
                          try simp only [List.setIfInBounds_toArray]
                          try simp only [List.set_cons_succ]
                          try simp only [List.set_cons_zero]
                          refine wpT 15 ⟨some 104, .pick (.tmp 98) (.tmp 103) (.const (.bool false)), 4, "ref.go:26", #[⟨9, .data⟩, ⟨14, .data⟩], none⟩ ?_ (.inl ⟨by rfl, ?_⟩) ?_
                          rotate_left
                          · (intro W hSw; (try dsimp only at hSw); go_simp; try (with_reducible rfl))
                          try simp only [Act.put]
                          try simp only [List.setIfInBounds_toArray]
                          try simp only [List.set_cons_succ]
                          try simp only [List.set_cons_zero]
                          refine wpT 16 ⟨some 105, .move (.tmp 104), 4, "ref.go:26", #[⟨15, .data⟩, ⟨9, .chain⟩], none⟩ ?_ (.inl ⟨by rfl, ?_⟩) ?_
                          rotate_left
                          · (intro W hSw; (try dsimp only at hSw); go_simp; try (with_reducible rfl))
                          try simp only [Act.put]
                          try simp only [List.setIfInBounds_toArray]
                          try simp only [List.set_cons_succ]
                          try simp only [List.set_cons_zero]
                          refine wpT 17 ⟨some 106, .fieldAddr 96 (.tmp 14) 3, 0, "ref.go:26", #[⟨16, .guard⟩], some (16, true)⟩ undef (.inr ⟨by rfl, rfl⟩) ?_
                          try simp only [Act.put]
                          try simp only [List.setIfInBounds_toArray]
                          try simp only [List.set_cons_succ]
                          try simp only [List.set_cons_zero]
                          refine wpT 18 ⟨some 107, .load 3 (.tmp 106), 3, "ref.go:26", #[⟨17, .data⟩, ⟨16, .guard⟩], some (16, true)⟩ undef (.inr ⟨by rfl, rfl⟩) ?_
                          try simp only [Act.put]
                          try simp only [List.setIfInBounds_toArray]
                          try simp only [List.set_cons_succ]
                          try simp only [List.set_cons_zero]
                          refine wpT 19 ⟨some 108, .fieldAddr 47 (.tmp 5) 2, 0, "ref.go:26", #[⟨16, .guard⟩], some (16, true)⟩ undef (.inr ⟨by rfl, rfl⟩) ?_
                          try simp only [Act.put]
                          try simp only [List.setIfInBounds_toArray]
                          try simp only [List.set_cons_succ]
                          try simp only [List.set_cons_zero]
                          refine wpT 20 ⟨some 109, .load 45 (.tmp 108), 45, "ref.go:26", #[⟨19, .data⟩, ⟨16, .guard⟩], some (16, true)⟩ undef (.inr ⟨by rfl, rfl⟩) ?_
                          try simp only [Act.put]
                          try simp only [List.setIfInBounds_toArray]
                          try simp only [List.set_cons_succ]
                          try simp only [List.set_cons_zero]
                          refine wpT 21 ⟨some 110, .fieldAddr 27 (.tmp 3) 3, 0, "ref.go:26", #[⟨16, .guard⟩], some (16, true)⟩ undef (.inr ⟨by rfl, rfl⟩) ?_
                          try simp only [Act.put]
                          try simp only [List.setIfInBounds_toArray]
                          try simp only [List.set_cons_succ]
                          try simp only [List.set_cons_zero]
                          refine wpT 22 ⟨some 111, .load 3 (.tmp 110), 3, "ref.go:26", #[⟨21, .data⟩, ⟨16, .guard⟩], some (16, true)⟩ undef (.inr ⟨by rfl, rfl⟩) ?_
                          try simp only [Act.put]
                          try simp only [List.setIfInBounds_toArray]
                          try simp only [List.set_cons_succ]
                          try simp only [List.set_cons_zero]
                          refine wpAnyH_ready (rs := [23]) (by kernel_rfl) (by simp) ?_
                          refine AllReadyH.cons (o := ⟨some 112, .call { callee := .value (.func 57), args := #[.tmp 109, .tmp 111], argTypes := #[45, 3] }, 3, "ref.go:26", #[⟨20, .data⟩, ⟨22, .data⟩, ⟨16, .chain⟩, ⟨16, .guard⟩], some (16, true)⟩) rfl (fun K hK => ?_) AllReadyH.nil
                          go_simp
                          refine hK.out _ _ ?_ (fun hHeld => ?_)
                          · exact hHeld
                          clear hK K
                          try simp only [Act.put]
                          try simp only [List.setIfInBounds_toArray]
                          try simp only [List.set_cons_succ]
                          try simp only [List.set_cons_zero]
                          refine wpT 24 ⟨some 113, .binOp .eql 3 (.tmp 107) (.tmp 112) 3, 4, "ref.go:26", #[⟨18, .data⟩, ⟨23, .data⟩, ⟨16, .guard⟩], some (16, true)⟩ undef (.inr ⟨by rfl, rfl⟩) ?_
                          try simp only [Act.put]
                          try simp only [List.setIfInBounds_toArray]
                          try simp only [List.set_cons_succ]
                          try simp only [List.set_cons_zero]
                          refine wpT 25 ⟨some 114, .pick (.tmp 105) (.tmp 113) (.const (.bool false)), 4, "ref.go:26", #[⟨16, .data⟩, ⟨24, .data⟩], none⟩ ?_ (.inl ⟨by rfl, ?_⟩) ?_
                          rotate_left
                          · (intro W hSw; (try dsimp only at hSw); go_simp; try (with_reducible rfl))
                          try simp only [Act.put]
                          try simp only [List.setIfInBounds_toArray]
                          try simp only [List.set_cons_succ]
                          try simp only [List.set_cons_zero]
                          refine wpAnyH_done (by kernel_rfl) (NoPanic.normal ?_) _
                          have HUB := Lib.hid (hub.trans hHeld)
                          clear hHeld o0 o1 o2 o3 f0 f1 f3 j0 j1 m0 m2
                          go_wp2
                          go_roundg (gk - 1)
                          case measure => omega
                          case rel => exact ⟨k + 1, n, by omega, by go_num, rfl, by omega, HS, HUB.out⟩
                        · cases hnt : nt == (wn : Int)
                          · have HS := Lib.hid (show n + (l2.drop (k + 1)).countP (p2 ef ey (writesN l1 ey)) = l2.countP (p2 ef ey (writesN l1 ey)) by rw [← HST.out]; simp [*])
                            go_wp2
                            refine wp_region_noPanic ?_
                            refine wp_region_held_drew (S := (fun w' => Upd No (wr.alloc (.cells #[.bool true, .int .i64 ky, .int .i64 tx, .int .i64 nt] 96)) w')) (by kernel_rfl) ?_ (fun hHeld => ?_)
                            · (first | exact (Upd.refl No _).drew | exact hHeld.trans hu3)
                            refine wpT 0 ⟨some 89, .fieldAddr 96 (.tmp 14) 0, 0, "ref.go:26", #[], none⟩ ?_ (.inl ⟨by rfl, ?_⟩) ?_
                            rotate_left
                            · (intro W hSw; (try dsimp only at hSw); go_simp; try (with_reducible rfl))
                            try simp only [Act.put]
                            try simp only [List.setIfInBounds_toArray]
                            try simp only [List.set_cons_succ]
                            try simp only [List.set_cons_zero]
                            refine wpT 1 ⟨some 90, .load 4 (.tmp 89), 4, "ref.go:26", #[⟨0, .data⟩], none⟩ ?_ (.inl ⟨by rfl, ?_⟩) ?_
                            rotate_left
                            · (intro W hSw; (try dsimp only at hSw); go_simp; try (with_reducible rfl))
                            try simp only [Act.put]
                            try simp only [List.setIfInBounds_toArray]
                            try simp only [List.set_cons_succ]
                            try simp only [List.set_cons_zero]
                            refine wpT 2 ⟨some 91, .move (.tmp 90), 4, "ref.go:26", #[⟨1, .data⟩], none⟩ ?_ (.inl ⟨by rfl, ?_⟩) ?_
                            rotate_left
                            · (intro W hSw; (try dsimp only at hSw); go_simp; try (with_reducible rfl))
                            try simp only [Act.put]
                            try simp only [List.setIfInBounds_toArray]
                            try simp only [List.set_cons_succ]
                            try simp only [List.set_cons_zero]
                            refine wpT 3 ⟨some 92, .fieldAddr 96 (.tmp 14) 1, 0, "ref.go:26", #[⟨2, .guard⟩], some (2, true)⟩ ?_ (.inl ⟨by rfl, ?_⟩) ?_
                            rotate_left
                            · (intro W hSw; (try dsimp only at hSw); go_simp; try (with_reducible rfl))
                            try simp only [Act.put]
                            try simp only [List.setIfInBounds_toArray]
                            try simp only [List.set_cons_succ]
                            try simp only [List.set_cons_zero]
                            refine wpT 4 ⟨some 93, .load 3 (.tmp 92), 3, "ref.go:26", #[⟨3, .data⟩, ⟨2, .guard⟩], some (2, true)⟩ ?_ (.inl ⟨by rfl, ?_⟩) ?_
                            rotate_left
                            · (intro W hSw; (try dsimp only at hSw); go_simp; try (with_reducible rfl))
                            try simp only [Act.put]
                            try simp only [List.setIfInBounds_toArray]
                            try simp only [List.set_cons_succ]
                            try simp only [List.set_cons_zero]
                            refine wpT 5 ⟨some 94, .fieldAddr 27 (.tmp 3) 3, 0, "ref.go:26", #[⟨2, .guard⟩], some (2, true)⟩ ?_ (.inl ⟨by rfl, ?_⟩) ?_
                            rotate_left
                            · (intro W hSw; (try dsimp only at hSw); go_simp; try (with_reducible rfl))
                            try simp only [Act.put]
                            try simp only [List.setIfInBounds_toArray]
                            try simp only [List.set_cons_succ]
                            try simp only [List.set_cons_zero]
                            refine wpT 6 ⟨some 95, .load 3 (.tmp 94), 3, "ref.go:26", #[⟨5, .data⟩, ⟨2, .guard⟩], some (2, true)⟩ ?_ (.inl ⟨by rfl, ?_⟩) ?_
                            rotate_left
                            · (intro W hSw; (try dsimp only at hSw); go_simp; try (with_reducible rfl))
                            try simp only [Act.put]
                            try simp only [List.setIfInBounds_toArray]
                            try simp only [List.set_cons_succ]
                            try simp only [List.set_cons_zero]
                            refine wpT 7 ⟨some 96, .binOp .eql 3 (.tmp 93) (.tmp 95) 3, 4, "ref.go:26", #[⟨4, .data⟩, ⟨6, .data⟩, ⟨2, .guard⟩], some (2, true)⟩ ?_ (.inl ⟨by rfl, ?_⟩) ?_
                            rotate_left
                            · (intro W hSw; (try dsimp only at hSw); go_simp; try (with_reducible rfl))
                            try simp only [Act.put]
                            try simp only [List.setIfInBounds_toArray]
                            try simp only [List.set_cons_succ]
                            try simp only [List.set_cons_zero]
                            refine wpT 8 ⟨some 97, .pick (.tmp 91) (.tmp 96) (.const (.bool false)), 4, "ref.go:26", #[⟨2, .data⟩, ⟨7, .data⟩], none⟩ ?_ (.inl ⟨by rfl, ?_⟩) ?_
                            rotate_left
                            · (intro W hSw; (try dsimp only at hSw); go_simp; try (with_reducible rfl))
                            try simp only [Act.put]
                            try simp only [List.setIfInBounds_toArray]
                            try simp only [List.set_cons_succ]
                            try simp only [List.set_cons_zero]
                            refine wpT 9 ⟨some 98, .move (.tmp 97), 4, "ref.go:26", #[⟨8, .data⟩, ⟨2, .chain⟩], none⟩ ?_ (.inl ⟨by rfl, ?_⟩) ?_
                            rotate_left
                            · (intro W hSw; (try dsimp only at hSw); go_simp; try (with_reducible rfl))
                            try simp only [Act.put]
                            try simp only [List.setIfInBounds_toArray]
                            try simp only [List.set_cons_succ]
                            try simp only [List.set_cons_zero]
                            refine wpT 10 ⟨some 99, .fieldAddr 96 (.tmp 14) 2, 0, "ref.go:26", #[⟨9, .guard⟩], some (9, true)⟩ ?_ (.inl ⟨by rfl, ?_⟩) ?_
                            rotate_left
                            · (intro W hSw; (try dsimp only at hSw); go_simp; try (with_reducible rfl))
                            try simp only [Act.put]
                            try simp only [List.setIfInBounds_toArray]
                            try simp only [List.set_cons_succ]
                            try simp only [List.set_cons_zero]
                            refine wpT 11 ⟨some 100, .load 3 (.tmp 99), 3, "ref.go:26", #[⟨10, .data⟩, ⟨9, .guard⟩], some (9, true)⟩ ?_ (.inl ⟨by rfl, ?_⟩) ?_
                            rotate_left
                            · (intro W hSw; (try dsimp only at hSw); go_simp; try (with_reducible rfl))
                            try simp only [Act.put]
                            try simp only [List.setIfInBounds_toArray]
                            try simp only [List.set_cons_succ]
                            try simp only [List.set_cons_zero]
                            refine wpT 12 ⟨some 101, .fieldAddr 27 (.tmp 3) 0, 0, "ref.go:26", #[⟨9, .guard⟩], some (9, true)⟩ ?_ (.inl ⟨by rfl, ?_⟩) ?_
                            rotate_left
                            · (intro W hSw; (try dsimp only at hSw); go_simp; try (with_reducible rfl))
                            try simp only [Act.put]
                            try simp only [List.setIfInBounds_toArray]
                            try simp only [List.set_cons_succ]
                            try simp only [List.set_cons_zero]
                            refine wpT 13 ⟨some 102, .load 3 (.tmp 101), 3, "ref.go:26", #[⟨12, .data⟩, ⟨9, .guard⟩], some (9, true)⟩ ?_ (.inl ⟨by rfl, ?_⟩) ?_
                            rotate_left
                            · (intro W hSw; (try dsimp only at hSw); go_simp; try (with_reducible rfl))
                            try simp only [Act.put]
                            try simp only [List.setIfInBounds_toArray]
                            try simp only [List.set_cons_succ]
                            try simp only [List.set_cons_zero]
                            refine wpT 14 ⟨some 103, .binOp .eql 3 (.tmp 100) (.tmp 102) 3, 4, "ref.go:26", #[⟨11, .data⟩, ⟨13, .data⟩, ⟨9, .guard⟩], some (9, true)⟩ ?_ (.inl ⟨by rfl, ?_⟩) ?_
                            rotate_left
                            · (intro W hSw; (try dsimp only at hSw); go_simp; try (with_reducible rfl))
                            try simp only [Act.put]
                            try simp only [List.setIfInBounds_toArray]
                            try simp only [List.set_cons_succ]
                            try simp only [List.set_cons_zero]
                            refine wpT 15 ⟨some 104, .pick (.tmp 98) (.tmp 103) (.const (.bool false)), 4, "ref.go:26", #[⟨9, .data⟩, ⟨14, .data⟩], none⟩ ?_ (.inl ⟨by rfl, ?_⟩) ?_
                            rotate_left
                            · (intro W hSw; (try dsimp only at hSw); go_simp; try (with_reducible rfl))
                            try simp only [Act.put]
                            try simp only [List.setIfInBounds_toArray]
                            try simp only [List.set_cons_succ]
                            try simp only [List.set_cons_zero]
                            refine wpT 16 ⟨some 105, .move (.tmp 104), 4, "ref.go:26", #[⟨15, .data⟩, ⟨9, .chain⟩], none⟩ ?_ (.inl ⟨by rfl, ?_⟩) ?_
                            rotate_left
                            · (intro W hSw; (try dsimp only at hSw); go_simp; try (with_reducible rfl))
                            try simp only [Act.put]
                            try simp only [List.setIfInBounds_toArray]
                            try simp only [List.set_cons_succ]
                            try simp only [List.set_cons_zero]
                            refine wpT 17 ⟨some 106, .fieldAddr 96 (.tmp 14) 3, 0, "ref.go:26", #[⟨16, .guard⟩], some (16, true)⟩ ?_ (.inl ⟨by rfl, ?_⟩) ?_
                            rotate_left
                            · (intro W hSw; (try dsimp only at hSw); go_simp; try (with_reducible rfl))
                            try simp only [Act.put]
                            try simp only [List.setIfInBounds_toArray]
                            try simp only [List.set_cons_succ]
                            try simp only [List.set_cons_zero]
                            refine wpT 18 ⟨some 107, .load 3 (.tmp 106), 3, "ref.go:26", #[⟨17, .data⟩, ⟨16, .guard⟩], some (16, true)⟩ ?_ (.inl ⟨by rfl, ?_⟩) ?_
                            rotate_left
                            · (intro W hSw; (try dsimp only at hSw); go_simp; try (with_reducible rfl))
                            try simp only [Act.put]
                            try simp only [List.setIfInBounds_toArray]
                            try simp only [List.set_cons_succ]
                            try simp only [List.set_cons_zero]
                            refine wpT 19 ⟨some 108, .fieldAddr 47 (.tmp 5) 2, 0, "ref.go:26", #[⟨16, .guard⟩], some (16, true)⟩ ?_ (.inl ⟨by rfl, ?_⟩) ?_
                            rotate_left
                            · (intro W hSw; (try dsimp only at hSw); go_simp; try (with_reducible rfl))
                            try simp only [Act.put]
                            try simp only [List.setIfInBounds_toArray]
                            try simp only [List.set_cons_succ]
                            try simp only [List.set_cons_zero]
                            refine wpT 20 ⟨some 109, .load 45 (.tmp 108), 45, "ref.go:26", #[⟨19, .data⟩, ⟨16, .guard⟩], some (16, true)⟩ ?_ (.inl ⟨by rfl, ?_⟩) ?_
                            rotate_left
                            · (intro W hSw; (try dsimp only at hSw); go_simp; try (with_reducible rfl))
                            try simp only [Act.put]
                            try simp only [List.setIfInBounds_toArray]
                            try simp only [List.set_cons_succ]
                            try simp only [List.set_cons_zero]
                            refine wpT 21 ⟨some 110, .fieldAddr 27 (.tmp 3) 3, 0, "ref.go:26", #[⟨16, .guard⟩], some (16, true)⟩ ?_ (.inl ⟨by rfl, ?_⟩) ?_
                            rotate_left
                            · (intro W hSw; (try dsimp only at hSw); go_simp; try (with_reducible rfl))
                            try simp only [Act.put]
                            try simp only [List.setIfInBounds_toArray]
                            try simp only [List.set_cons_succ]
                            try simp only [List.set_cons_zero]
                            refine wpT 22 ⟨some 111, .load 3 (.tmp 110), 3, "ref.go:26", #[⟨21, .data⟩, ⟨16, .guard⟩], some (16, true)⟩ ?_ (.inl ⟨by rfl, ?_⟩) ?_
                            rotate_left
                            · (intro W hSw; (try dsimp only at hSw); go_simp; try (with_reducible rfl))
                            try simp only [Act.put]
                            try simp only [List.setIfInBounds_toArray]
                            try simp only [List.set_cons_succ]
                            try simp only [List.set_cons_zero]
                            refine wpAnyH_ready (rs := [23]) (by kernel_rfl) (by simp) ?_
                            refine AllReadyH.cons (o := ⟨some 112, .call { callee := .value (.func 57), args := #[.tmp 109, .tmp 111], argTypes := #[45, 3] }, 3, "ref.go:26", #[⟨20, .data⟩, ⟨22, .data⟩, ⟨16, .chain⟩, ⟨16, .guard⟩], some (16, true)⟩) rfl (fun K hK => ?_) AllReadyH.nil
                            go_simp
                            (first
    | (go_at_call 57; refine (HW.out _ hHeld).mono ?_; rintro e w3 ⟨rfl, hu3⟩))
                            try (go_wp2_with fail)
                            refine hK.out _ _ ?_ (fun hHeld => ?_)
                            · (first | exact (Upd.refl No _).drew | exact hHeld.trans hu3)
                            clear hK K
                            try simp only [Act.put]
                            try simp only [List.setIfInBounds_toArray]
                            try simp only [List.set_cons_succ]
                            try simp only [List.set_cons_zero]
                            refine wpT 24 ⟨some 113, .binOp .eql 3 (.tmp 107) (.tmp 112) 3, 4, "ref.go:26", #[⟨18, .data⟩, ⟨23, .data⟩, ⟨16, .guard⟩], some (16, true)⟩ ?_ (.inl ⟨by rfl, ?_⟩) ?_
                            rotate_left
                            · (intro W hSw; (try dsimp only at hSw); go_simp; try (with_reducible rfl))
                            try simp only [Act.put]
                            try simp only [List.setIfInBounds_toArray]
                            try simp only [List.set_cons_succ]
                            try simp only [List.set_cons_zero]
                            refine wpT 25 ⟨some 114, .pick (.tmp 105) (.tmp 113) (.const (.bool false)), 4, "ref.go:26", #[⟨16, .data⟩, ⟨24, .data⟩], none⟩ ?_ (.inl ⟨by rfl, ?_⟩) ?_
                            rotate_left
                            · (intro W hSw; (try dsimp only at hSw); go_simp; try (with_reducible rfl))
                            try simp only [Act.put]
                            try simp only [List.setIfInBounds_toArray]
                            try simp only [List.set_cons_succ]
                            try simp only [List.set_cons_zero]
                            refine wpAnyH_done (by kernel_rfl) (NoPanic.normal ?_) _
                            have HUB := Lib.hid (hub.trans hHeld)
                            clear hHeld o0 o1 o2 o3 f0 f1 f3 j0 j1 m0 m2
                            go_wp2
                            go_roundg (gk - 1)
                            case measure => omega
                            case rel => exact ⟨k + 1, n, by omega, by go_num, rfl, by omega, HS, HUB.out⟩
                          · have HS := Lib.hid (show (n + 1) + (l2.drop (k + 1)).countP (p2 ef ey (writesN l1 ey)) = l2.countP (p2 ef ey (writesN l1 ey)) by rw [← HST.out, hky, htx, hnt]; simp only [Bool.and_self, if_true]; omega)
                            go_wp2
                            refine wp_region_noPanic ?_
                            refine wp_region_held_drew (S := (fun w' => Upd No (wr.alloc (.cells #[.bool true, .int .i64 ky, .int .i64 tx, .int .i64 nt] 96)) w')) (by kernel_rfl) ?_ (fun hHeld => ?_)
                            · (first | exact (Upd.refl No _).drew | exact hHeld.trans hu3)
                            refine wpT 0 ⟨some 89, .fieldAddr 96 (.tmp 14) 0, 0, "ref.go:26", #[], none⟩ ?_ (.inl ⟨by rfl, ?_⟩) ?_
                            rotate_left
                            · (intro W hSw; (try dsimp only at hSw); go_simp; try (with_reducible rfl))
                            try simp only [Act.put]
                            try simp only [List.setIfInBounds_toArray]
                            try simp only [List.set_cons_succ]
                            try simp only [List.set_cons_zero]
                            refine wpT 1 ⟨some 90, .load 4 (.tmp 89), 4, "ref.go:26", #[⟨0, .data⟩], none⟩ ?_ (.inl ⟨by rfl, ?_⟩) ?_
                            rotate_left
                            · (intro W hSw; (try dsimp only at hSw); go_simp; try (with_reducible rfl))
                            try simp only [Act.put]
                            try simp only [List.setIfInBounds_toArray]
                            try simp only [List.set_cons_succ]
                            try simp only [List.set_cons_zero]
                            refine wpT 2 ⟨some 91, .move (.tmp 90), 4, "ref.go:26", #[⟨1, .data⟩], none⟩ ?_ (.inl ⟨by rfl, ?_⟩) ?_
                            rotate_left
                            · (intro W hSw; (try dsimp only at hSw); go_simp; try (with_reducible rfl))
                            try simp only [Act.put]
                            try simp only [List.setIfInBounds_toArray]
                            try simp only [List.set_cons_succ]
                            try simp only [List.set_cons_zero]
                            refine wpT 3 ⟨some 92, .fieldAddr 96 (.tmp 14) 1, 0, "ref.go:26", #[⟨2, .guard⟩], some (2, true)⟩ ?_ (.inl ⟨by rfl, ?_⟩) ?_
                            rotate_left
                            · (intro W hSw; (try dsimp only at hSw); go_simp; try (with_reducible rfl))
                            try simp only [Act.put]
                            try simp only [List.setIfInBounds_toArray]
                            try simp only [List.set_cons_succ]
                            try simp only [List.set_cons_zero]
                            refine wpT 4 ⟨some 93, .load 3 (.tmp 92), 3, "ref.go:26", #[⟨3, .data⟩, ⟨2, .guard⟩], some (2, true)⟩ ?_ (.inl ⟨by rfl, ?_⟩) ?_
                            rotate_left
                            · (intro W hSw; (try dsimp only at hSw); go_simp; try (with_reducible rfl))
                            try simp only [Act.put]
                            try simp only [List.setIfInBounds_toArray]
                            try simp only [List.set_cons_succ]
                            try simp only [List.set_cons_zero]
                            refine wpT 5 ⟨some 94, .fieldAddr 27 (.tmp 3) 3, 0, "ref.go:26", #[⟨2, .guard⟩], some (2, true)⟩ ?_ (.inl ⟨by rfl, ?_⟩) ?_
                            rotate_left
                            · (intro W hSw; (try dsimp only at hSw); go_simp; try (with_reducible rfl))
                            try simp only [Act.put]
                            try simp only [List.setIfInBounds_toArray]
                            try simp only [List.set_cons_succ]
                            try simp only [List.set_cons_zero]
                            refine wpT 6 ⟨some 95, .load 3 (.tmp 94), 3, "ref.go:26", #[⟨5, .data⟩, ⟨2, .guard⟩], some (2, true)⟩ ?_ (.inl ⟨by rfl, ?_⟩) ?_
                            rotate_left
                            · (intro W hSw; (try dsimp only at hSw); go_simp; try (with_reducible rfl))
                            try simp only [Act.put]
                            try simp only [List.setIfInBounds_toArray]
                            try simp only [List.set_cons_succ]
                            try simp only [List.set_cons_zero]
                            refine wpT 7 ⟨some 96, .binOp .eql 3 (.tmp 93) (.tmp 95) 3, 4, "ref.go:26", #[⟨4, .data⟩, ⟨6, .data⟩, ⟨2, .guard⟩], some (2, true)⟩ ?_ (.inl ⟨by rfl, ?_⟩) ?_
                            rotate_left
                            · (intro W hSw; (try dsimp only at hSw); go_simp; try (with_reducible rfl))
                            try simp only [Act.put]
                            try simp only [List.setIfInBounds_toArray]
                            try simp only [List.set_cons_succ]
                            try simp only [List.set_cons_zero]
                            refine wpT 8 ⟨some 97, .pick (.tmp 91) (.tmp 96) (.const (.bool false)), 4, "ref.go:26", #[⟨2, .data⟩, ⟨7, .data⟩], none⟩ ?_ (.inl ⟨by rfl, ?_⟩) ?_
                            rotate_left
                            · (intro W hSw; (try dsimp only at hSw); go_simp; try (with_reducible rfl))
                            try simp only [Act.put]
                            try simp only [List.setIfInBounds_toArray]
                            try simp only [List.set_cons_succ]
                            try simp only [List.set_cons_zero]
                            refine wpT 9 ⟨some 98, .move (.tmp 97), 4, "ref.go:26", #[⟨8, .data⟩, ⟨2, .chain⟩], none⟩ ?_ (.inl ⟨by rfl, ?_⟩) ?_
                            rotate_left
                            · (intro W hSw; (try dsimp only at hSw); go_simp; try (with_reducible rfl))
                            try simp only [Act.put]
                            try simp only [List.setIfInBounds_toArray]
                            try simp only [List.set_cons_succ]
                            try simp only [List.set_cons_zero]
                            refine wpT 10 ⟨some 99, .fieldAddr 96 (.tmp 14) 2, 0, "ref.go:26", #[⟨9, .guard⟩], some (9, true)⟩ ?_ (.inl ⟨by rfl, ?_⟩) ?_
                            rotate_left
                            · (intro W hSw; (try dsimp only at hSw); go_simp; try (with_reducible rfl))
                            try simp only [Act.put]
                            try simp only [List.setIfInBounds_toArray]
                            try simp only [List.set_cons_succ]
                            try simp only [List.set_cons_zero]
                            refine wpT 11 ⟨some 100, .load 3 (.tmp 99), 3, "ref.go:26", #[⟨10, .data⟩, ⟨9, .guard⟩], some (9, true)⟩ ?_ (.inl ⟨by rfl, ?_⟩) ?_
                            rotate_left
                            · (intro W hSw; (try dsimp only at hSw); go_simp; try (with_reducible rfl))
                            try simp only [Act.put]
                            try simp only [List.setIfInBounds_toArray]
                            try simp only [List.set_cons_succ]
                            try simp only [List.set_cons_zero]
                            refine wpT 12 ⟨some 101, .fieldAddr 27 (.tmp 3) 0, 0, "ref.go:26", #[⟨9, .guard⟩], some (9, true)⟩ ?_ (.inl ⟨by rfl, ?_⟩) ?_
                            rotate_left
                            · (intro W hSw; (try dsimp only at hSw); go_simp; try (with_reducible rfl))
                            try simp only [Act.put]
                            try simp only [List.setIfInBounds_toArray]
                            try simp only [List.set_cons_succ]
                            try simp only [List.set_cons_zero]
                            refine wpT 13 ⟨some 102, .load 3 (.tmp 101), 3, "ref.go:26", #[⟨12, .data⟩, ⟨9, .guard⟩], some (9, true)⟩ ?_ (.inl ⟨by rfl, ?_⟩) ?_
                            rotate_left
                            · (intro W hSw; (try dsimp only at hSw); go_simp; try (with_reducible rfl))
                            try simp only [Act.put]
                            try simp only [List.setIfInBounds_toArray]
                            try simp only [List.set_cons_succ]
                            try simp only [List.set_cons_zero]
                            refine wpT 14 ⟨some 103, .binOp .eql 3 (.tmp 100) (.tmp 102) 3, 4, "ref.go:26", #[⟨11, .data⟩, ⟨13, .data⟩, ⟨9, .guard⟩], some (9, true)⟩ ?_ (.inl ⟨by rfl, ?_⟩) ?_
                            rotate_left
                            · (intro W hSw; (try dsimp only at hSw); go_simp; try (with_reducible rfl))
                            try simp only [Act.put]
                            try simp only [List.setIfInBounds_toArray]
                            try simp only [List.set_cons_succ]
                            try simp only [List.set_cons_zero]
                            refine wpT 15 ⟨some 104, .pick (.tmp 98) (.tmp 103) (.const (.bool false)), 4, "ref.go:26", #[⟨9, .data⟩, ⟨14, .data⟩], none⟩ ?_ (.inl ⟨by rfl, ?_⟩) ?_
                            rotate_left
                            · (intro W hSw; (try dsimp only at hSw); go_simp; try (with_reducible rfl))
                            try simp only [Act.put]
                            try simp only [List.setIfInBounds_toArray]
                            try simp only [List.set_cons_succ]
                            try simp only [List.set_cons_zero]
                            refine wpT 16 ⟨some 105, .move (.tmp 104), 4, "ref.go:26", #[⟨15, .data⟩, ⟨9, .chain⟩], none⟩ ?_ (.inl ⟨by rfl, ?_⟩) ?_
                            rotate_left
                            · (intro W hSw; (try dsimp only at hSw); go_simp; try (with_reducible rfl))
                            try simp only [Act.put]
                            try simp only [List.setIfInBounds_toArray]
                            try simp only [List.set_cons_succ]
                            try simp only [List.set_cons_zero]
                            refine wpT 17 ⟨some 106, .fieldAddr 96 (.tmp 14) 3, 0, "ref.go:26", #[⟨16, .guard⟩], some (16, true)⟩ ?_ (.inl ⟨by rfl, ?_⟩) ?_
                            rotate_left
                            · (intro W hSw; (try dsimp only at hSw); go_simp; try (with_reducible rfl))
                            try simp only [Act.put]
                            try simp only [List.setIfInBounds_toArray]
                            try simp only [List.set_cons_succ]
                            try simp only [List.set_cons_zero]
                            refine wpT 18 ⟨some 107, .load 3 (.tmp 106), 3, "ref.go:26", #[⟨17, .data⟩, ⟨16, .guard⟩], some (16, true)⟩ ?_ (.inl ⟨by rfl, ?_⟩) ?_
                            rotate_left
                            · (intro W hSw; (try dsimp only at hSw); go_simp; try (with_reducible rfl))
                            try simp only [Act.put]
                            try simp only [List.setIfInBounds_toArray]
                            try simp only [List.set_cons_succ]
                            try simp only [List.set_cons_zero]
                            refine wpT 19 ⟨some 108, .fieldAddr 47 (.tmp 5) 2, 0, "ref.go:26", #[⟨16, .guard⟩], some (16, true)⟩ ?_ (.inl ⟨by rfl, ?_⟩) ?_
                            rotate_left
                            · (intro W hSw; (try dsimp only at hSw); go_simp; try (with_reducible rfl))
                            try simp only [Act.put]
                            try simp only [List.setIfInBounds_toArray]
                            try simp only [List.set_cons_succ]
                            try simp only [List.set_cons_zero]
                            refine wpT 20 ⟨some 109, .load 45 (.tmp 108), 45, "ref.go:26", #[⟨19, .data⟩, ⟨16, .guard⟩], some (16, true)⟩ ?_ (.inl ⟨by rfl, ?_⟩) ?_
                            rotate_left
                            · (intro W hSw; (try dsimp only at hSw); go_simp; try (with_reducible rfl))
                            try simp only [Act.put]
                            try simp only [List.setIfInBounds_toArray]
                            try simp only [List.set_cons_succ]
                            try simp only [List.set_cons_zero]
                            refine wpT 21 ⟨some 110, .fieldAddr 27 (.tmp 3) 3, 0, "ref.go:26", #[⟨16, .guard⟩], some (16, true)⟩ ?_ (.inl ⟨by rfl, ?_⟩) ?_
                            rotate_left
                            · (intro W hSw; (try dsimp only at hSw); go_simp; try (with_reducible rfl))
                            try simp only [Act.put]
                            try simp only [List.setIfInBounds_toArray]
                            try simp only [List.set_cons_succ]
                            try simp only [List.set_cons_zero]
                            refine wpT 22 ⟨some 111, .load 3 (.tmp 110), 3, "ref.go:26", #[⟨21, .data⟩, ⟨16, .guard⟩], some (16, true)⟩ ?_ (.inl ⟨by rfl, ?_⟩) ?_
                            rotate_left
                            · (intro W hSw; (try dsimp only at hSw); go_simp; try (with_reducible rfl))
                            try simp only [Act.put]
                            try simp only [List.setIfInBounds_toArray]
                            try simp only [List.set_cons_succ]
                            try simp only [List.set_cons_zero]
                            refine wpAnyH_ready (rs := [23]) (by kernel_rfl) (by simp) ?_
                            refine AllReadyH.cons (o := ⟨some 112, .call { callee := .value (.func 57), args := #[.tmp 109, .tmp 111], argTypes := #[45, 3] }, 3, "ref.go:26", #[⟨20, .data⟩, ⟨22, .data⟩, ⟨16, .chain⟩, ⟨16, .guard⟩], some (16, true)⟩) rfl (fun K hK => ?_) AllReadyH.nil
                            go_simp
                            (first
    | (go_at_call 57; refine (HW.out _ hHeld).mono ?_; rintro e w3 ⟨rfl, hu3⟩))
                            try (go_wp2_with fail)
                            refine hK.out _ _ ?_ (fun hHeld => ?_)
                            · (first | exact (Upd.refl No _).drew | exact hHeld.trans hu3)
                            clear hK K
                            try simp only [Act.put]
                            try simp only [List.setIfInBounds_toArray]
                            try simp only [List.set_cons_succ]
                            try simp only [List.set_cons_zero]
                            refine wpT 24 ⟨some 113, .binOp .eql 3 (.tmp 107) (.tmp 112) 3, 4, "ref.go:26", #[⟨18, .data⟩, ⟨23, .data⟩, ⟨16, .guard⟩], some (16, true)⟩ ?_ (.inl ⟨by rfl, ?_⟩) ?_
                            rotate_left
                            · (intro W hSw; (try dsimp only at hSw); go_simp; try (with_reducible rfl))
                            try simp only [Act.put]
                            try simp only [List.setIfInBounds_toArray]
                            try simp only [List.set_cons_succ]
                            try simp only [List.set_cons_zero]
                            refine wpT 25 ⟨some 114, .pick (.tmp 105) (.tmp 113) (.const (.bool false)), 4, "ref.go:26", #[⟨16, .data⟩, ⟨24, .data⟩], none⟩ ?_ (.inl ⟨by rfl, ?_⟩) ?_
                            rotate_left
                            · (intro W hSw; (try dsimp only at hSw); go_simp; try (with_reducible rfl))
                            try simp only [Act.put]
                            try simp only [List.setIfInBounds_toArray]
                            try simp only [List.set_cons_succ]
                            try simp only [List.set_cons_zero]
                            refine wpAnyH_done (by kernel_rfl) (NoPanic.normal ?_) _
                            have HUB := Lib.hid (hub.trans hHeld)
                            clear hHeld o0 o1 o2 o3 f0 f1 f3 j0 j1 m0 m2
                            go_wp2
                            go_roundg (gk - 1)
                            case measure => omega
                            case rel => exact ⟨k + 1, n + 1, by omega, by go_num, by go_num, by omega, HS, HUB.out⟩
                  · obtain rfl : k = l2.length := by omega
                    have HS := Lib.hid (show n = cntR ⟨txs, ords, A, c, B, d⟩ ⟨ef, et, ek, ey⟩ by have := hs.out; rw [List.drop_length] at this; rw [HV2.out, ← this]; simp)
                    go_wp2
                    go_ret
                    exact ⟨by rw [← HS.out]; rfl, U4.out.trans hu⟩
              · have hkb2 : (ek == 2) = false := by simpa using hk2
                rw [if_neg hk2] at hv2
                clear hk2
                by_cases hk3 : ek = 3
                · have hkb3 : (ek == 3) = true := by simpa using hk3
                  rw [if_pos hk3] at hv2
                  have HV2 := Lib.hid hv2
                  clear hk3 hv2
                  unfold fewOps at hfew1 hfew2
                  have HR6 := Lib.hid hr6
                  go_wp2
                  go_loopg [12, 124] l1.length (fun gk s i wr => ∃ k n : Nat, k + gk = l1.length ∧ i = .int .i64 k ∧ s = .int .i64 n ∧ n ≤ k ∧ Hid (n + (l1.drop k).countP (p3 ⟨txs, ords, A, c, B, d⟩ x1 ey et) = l1.countP (p3 ⟨txs, ords, A, c, B, d⟩ x1 ey et)) ∧ Upd No w6 wr)
                  case atStart => exact ⟨0, 0, by omega, rfl, rfl, by omega, Lib.hid (by simp), Upd.refl _ _⟩
                  case round =>
                    obtain ⟨k, n, hgk, rfl, rfl, hn, hs, hv6⟩ := hrel
                    clear hr6
                    have hu := HR6.out.trans hv6
                    by_cases hlt : k < l1.length
                    · obtain ⟨ad, hAd, q0, q1, q2, q3⟩ := (hh14.out.upd hu (fun _ _ => id)).at_ hlt
                      obtain ⟨x, hx⟩ : ∃ x, l1[k] = x := ⟨_, rfl⟩
                      rw [hx] at q0 q1 q2 q3
                      obtain ⟨rd, ky, tx, nt⟩ := x
                      simp only at q0 q1 q2 q3
                      subst hAd
                      have X := Lib.hid (show l1.drop k = ⟨rd, ky, tx, nt⟩ :: l1.drop (k + 1) by rw [← hx]; exact List.drop_eq_getElem_cons hlt)
                      have b1 : (0 : Int) ≤ (k : Int) := Int.natCast_nonneg _
                      have b2 : (k : Int) < (l1.length : Int) := by omega
                      have hub := hu.alloc (.cells #[.bool rd, .int .i64 ky, .int .i64 tx, .int .i64 nt] 96)
                      have bO := Lib.hid (Blk.new wr 96 [.bool rd, .int .i64 ky, .int .i64 tx, .int .i64 nt])
                      have o0 : ∀ W, Upd No (wr.alloc (.cells #[.bool rd, .int .i64 ky, .int .i64 tx, .int .i64 nt] 96)) W → W.cell? ⟨wr.heap.size, 0, none⟩ = some (.bool rd) := fun W hW => (bO.out.upd hW id).cell 0
                      have o1 : ∀ W, Upd No (wr.alloc (.cells #[.bool rd, .int .i64 ky, .int .i64 tx, .int .i64 nt] 96)) W → W.cell? ⟨wr.heap.size, 1, none⟩ = some (.int .i64 ky) := fun W hW => (bO.out.upd hW id).cell 1
                      have o2 : ∀ W, Upd No (wr.alloc (.cells #[.bool rd, .int .i64 ky, .int .i64 tx, .int .i64 nt] 96)) W → W.cell? ⟨wr.heap.size, 2, none⟩ = some (.int .i64 tx) := fun W hW => (bO.out.upd hW id).cell 2
                      have o3 : ∀ W, Upd No (wr.alloc (.cells #[.bool rd, .int .i64 ky, .int .i64 tx, .int .i64 nt] 96)) W → W.cell? ⟨wr.heap.size, 3, none⟩ = some (.int .i64 nt) := fun W hW => (bO.out.upd hW id).cell 3
                      have f0 := fun W (hW : Upd No (wr.alloc (.cells #[.bool rd, .int .i64 ky, .int .i64 tx, .int .i64 nt] 96)) W) => e0 W (hub.trans hW)
                      have f1 := fun W (hW : Upd No (wr.alloc (.cells #[.bool rd, .int .i64 ky, .int .i64 tx, .int .i64 nt] 96)) W) => e1 W (hub.trans hW)
                      have f3 := fun W (hW : Upd No (wr.alloc (.cells #[.bool rd, .int .i64 ky, .int .i64 tx, .int .i64 nt] 96)) W) => e3 W (hub.trans hW)
                      have j0 := fun W (hW : Upd No (wr.alloc (.cells #[.bool rd, .int .i64 ky, .int .i64 tx, .int .i64 nt] 96)) W) => g0 W (hub.trans hW)
                      have j1 := fun W (hW : Upd No (wr.alloc (.cells #[.bool rd, .int .i64 ky, .int .i64 tx, .int .i64 nt] 96)) W) => g1 W (hub.trans hW)
                      have m0 := fun W (hW : Upd No (wr.alloc (.cells #[.bool rd, .int .i64 ky, .int .i64 tx, .int .i64 nt] 96)) W) => a0 W (hub.trans hW)
                      have m2 := fun W (hW : Upd No (wr.alloc (.cells #[.bool rd, .int .i64 ky, .int .i64 tx, .int .i64 nt] 96)) W) => a2 W (hub.trans hW)
                      have HLs := Lib.hid fun W (hW : Upd No (wr.alloc (.cells #[.bool rd, .int .i64 ky, .int .i64 tx, .int .i64 nt] 96)) W) => rLast F W txs ords A c B d ⟨rd, ky, tx, nt⟩ (H.upd (U4.out.trans (hub.trans hW)) (fun _ _ => id))
                      obtain ⟨lb, hlb⟩ : ∃ lb, lastB txs ⟨tx, ky, nt⟩ = lb := ⟨_, rfl⟩
                      simp only [hlb] at HLs
                      have HIx := Lib.hid fun W (hW : Upd No (wr.alloc (.cells #[.bool rd, .int .i64 ky, .int .i64 tx, .int .i64 nt] 96)) W) => HI6.out.upd ((hv6.alloc _).trans hW) (fun _ _ => id)
                      obtain ⟨ov2, hov⟩ : ∃ ov, (nextI ol tx).getD 0 = ov := ⟨_, rfl⟩
                      obtain ⟨os2, hos⟩ : ∃ os, (nextI ol tx).isSome = os := ⟨_, rfl⟩
                      have HNx := Lib.hid fun W (hW : Upd No (wr.alloc (.cells #[.bool rd, .int .i64 ky, .int .i64 tx, .int .i64 nt] 96)) W) => rNextX (tx := tx) (c := c9) (HIx.out W hW) hl9 rfl
                      rw [hov, hos] at HNx
                      have hp : p3 ⟨txs, ords, A, c, B, d⟩ x1 ey et ⟨rd, ky, tx, nt⟩ = (rd && (ky == ey && (!(tx == x1) && (lb && (os2 && ov2 == et))))) := by
                        unfold p3
                        simp only [Bool.and_assoc]
                        by_cases hke : ky = ey
                        · rw [HNB.out, nextB_eq rfl, hov, hos, show lastB txs ⟨tx, ky, nt⟩ = lb from hlb]
                        · rw [show (ky == ey) = false by simpa using hke]; simp
                      have hst := hs.out
                      rw [X.out, countP_cons2, hp] at hst
                      have HST := Lib.hid hst
                      have hrb : Upd No (wr.alloc (.cells #[.bool rd, .int .i64 ky, .int .i64 tx, .int .i64 nt] 96)) (wr.alloc (.cells #[.bool rd, .int .i64 ky, .int .i64 tx, .int .i64 nt] 96)) := Upd.refl _ _
                      clear hst hp hx hlb hov hos
                      cases rd
                      · have HS := Lib.hid (show n + (l1.drop (k + 1)).countP (p3 ⟨txs, ords, A, c, B, d⟩ x1 ey et) = l1.countP (p3 ⟨txs, ords, A, c, B, d⟩ x1 ey et) by rw [← HST.out]; simp [*])
                        go_wp2
                        go_roundg (gk - 1)
                        case measure => omega
                        case rel => exact ⟨k + 1, n, by omega, by go_num, rfl, by omega, HS, (by first | exact HUB.out | exact hv6.alloc _)⟩
                      · cases hky : ky == ey
                        · have HS := Lib.hid (show n + (l1.drop (k + 1)).countP (p3 ⟨txs, ords, A, c, B, d⟩ x1 ey et) = l1.countP (p3 ⟨txs, ords, A, c, B, d⟩ x1 ey et) by rw [← HST.out]; simp [*])
                          go_wp2
                          go_roundg (gk - 1)
                          case measure => omega
                          case rel => exact ⟨k + 1, n, by omega, by go_num, rfl, by omega, HS, (by first | exact HUB.out | exact hv6.alloc _)⟩
                        · cases htx : tx == x1
                          · have htn : (tx != x1) = true := by unfold bne; rw [htx]; rfl
                            cases lb
                            · have HS := Lib.hid (show n + (l1.drop (k + 1)).countP (p3 ⟨txs, ords, A, c, B, d⟩ x1 ey et) = l1.countP (p3 ⟨txs, ords, A, c, B, d⟩ x1 ey et) by rw [← HST.out]; simp [*])
                              go_wp2_with fail
                              refine (HLs.out _ hrb).mono ?_
                              rintro e w7 ⟨rfl, hu7⟩
                              have HUB := Lib.hid ((hv6.alloc _).trans hu7)
                              go_wp2
                              go_roundg (gk - 1)
                              case measure => omega
                              case rel => exact ⟨k + 1, n, by omega, by go_num, rfl, by omega, HS, HUB.out⟩
                            · go_wp2_with fail
                              refine (HLs.out _ hrb).mono ?_
                              rintro e w7 ⟨rfl, hu7⟩
                              go_wp2_with fail
                              refine (HNx.out _ hu7).mono ?_
                              rintro e w8 ⟨rfl, hu8⟩
                              have hu78 := hu7.trans hu8
                              have HUB := Lib.hid ((hv6.alloc _).trans hu78)
                              cases os2
                              · have HS := Lib.hid (show n + (l1.drop (k + 1)).countP (p3 ⟨txs, ords, A, c, B, d⟩ x1 ey et) = l1.countP (p3 ⟨txs, ords, A, c, B, d⟩ x1 ey et) by rw [← HST.out]; simp [*])
                                go_wp2
                                go_roundg (gk - 1)
                                case measure => omega
                                case rel => exact ⟨k + 1, n, by omega, by go_num, rfl, by omega, HS, (by first | exact HUB.out | exact hv6.alloc _)⟩
                              · cases hq : ov2 == et
                                · have HS := Lib.hid (show n + (l1.drop (k + 1)).countP (p3 ⟨txs, ords, A, c, B, d⟩ x1 ey et) = l1.countP (p3 ⟨txs, ords, A, c, B, d⟩ x1 ey et) by rw [← HST.out]; simp [*])
                                  go_wp2
                                  go_roundg (gk - 1)
                                  case measure => omega
                                  case rel => exact ⟨k + 1, n, by omega, by go_num, rfl, by omega, HS, (by first | exact HUB.out | exact hv6.alloc _)⟩
                                · have HS := Lib.hid (show (n + 1) + (l1.drop (k + 1)).countP (p3 ⟨txs, ords, A, c, B, d⟩ x1 ey et) = l1.countP (p3 ⟨txs, ords, A, c, B, d⟩ x1 ey et) by rw [← HST.out, hky, htx, hq]; simp only [Bool.and_self, Bool.not_false, if_true]; omega)
                                  go_wp2
                                  go_roundg (gk - 1)
                                  case measure => omega
                                  case rel => exact ⟨k + 1, n + 1, by omega, by go_num, by go_num, by omega, HS, HUB.out⟩
                          · have htn : (tx != x1) = false := by unfold bne; rw [htx]; rfl
                            have HS := Lib.hid (show n + (l1.drop (k + 1)).countP (p3 ⟨txs, ords, A, c, B, d⟩ x1 ey et) = l1.countP (p3 ⟨txs, ords, A, c, B, d⟩ x1 ey et) by rw [← HST.out]; simp [*])
                            go_wp2
                            go_roundg (gk - 1)
                            case measure => omega
                            case rel => exact ⟨k + 1, n, by omega, by go_num, rfl, by omega, HS, (by first | exact HUB.out | exact hv6.alloc _)⟩
                    · obtain rfl : k = l1.length := by omega
                      have HS := Lib.hid (show n = cntR ⟨txs, ords, A, c, B, d⟩ ⟨ef, et, ek, ey⟩ by have := hs.out; rw [List.drop_length] at this; rw [HV2.out, ← this]; simp)
                      go_wp2
                      go_ret
                      exact ⟨by rw [← HS.out]; rfl, U4.out.trans hu⟩
                · have hkb3 : (ek == 3) = false := by simpa using hk3
                  rw [if_neg hk3] at hv2
                  have HV2 := Lib.hid hv2
                  clear hk3 hv2
                  go_wp2
                  go_ret
                  exact ⟨by rw [HV2.out]; rfl, U6.out⟩
          · have HV := Lib.hid (show cntR ⟨txs, ords, A, c, B, d⟩ ⟨ef, et, ek, ey⟩ = 0 from cntR_no (by simp only [I1.out, I2.out, D1.out, D2.out, HFT.out]; rfl))
            go_wp2
            go_ret
            exact ⟨by rw [HV.out]; rfl, U4.out⟩
end Go.Proofs.YtaicemjckagcaaaGreat
