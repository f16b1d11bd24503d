/- Looking at a history: witnesses. -/
import Derived.OrdersHeld
import Derived.Deep.RegionHeld3
import Derived.Test.YtgakhpdclhlmpaaGreatMah
namespace Go.Proofs.YtgakhpdclhlmpaaGreat
set_option linter.unusedVariables false
open Go.RowKit
def badV (b : HBad) : Value := .agg #[.int .i64 b.tx, .int .i64 b.place, .int .i64 b.of.tx, .int .i64 b.of.key, .int .i64 b.of.nth]
theorem ver_equalD (w : World) (n : Nat) (a b c a' b' c' : Int) : (Op.equalIn (n + 1 + 1) 29 (.agg #[.int .i64 a, .int .i64 b, .int .i64 c]) (.agg #[.int .i64 a', .int .i64 b', .int .i64 c'])).run Tryz.prog w = .ok (decide ((⟨a, b, c⟩ : Ver) = ⟨a', b', c'⟩)) w := by
  rw [run_equalIn_struct w _ _ _ _ (by kernel_rfl) (by kernel_rfl)]
  have hI : ∀ (w : World) (d : Nat) (x y : Int), (Op.equalIn (d + 1) 3 (.int .i64 x) (.int .i64 y)).run Tryz.prog w = .ok (x == y) w := fun w d x y => run_equalIn_int w d _ _ _ x y Tryz.underlying3
  by_cases h1 : a = a' <;> by_cases h2 : b = b' <;> by_cases h3 : c = c' <;>
    simp [Program.fieldsOf, Tryz.underlying29, Op.eqFields, part, hI, h1, h2, h3, Result.andThen]
theorem bad_equal (w : World) (x y : HBad) : (Op.equalIn 10000 31 (badV x) (badV y)).run Tryz.prog w = .ok (decide (x = y)) w := by
  obtain ⟨a, b, ⟨c, d, e⟩⟩ := x
  obtain ⟨a', b', ⟨c', d', e'⟩⟩ := y
  unfold badV
  show (Op.equalIn (9997 + 1 + 1 + 1) _ _ _).run _ w = _
  rw [run_equalIn_struct w _ _ _ _ (by kernel_rfl) (by kernel_rfl)]
  generalize 9997 = n
  have hI : ∀ (w : World) (d : Nat) (x y : Int), (Op.equalIn (d + 1) 3 (.int .i64 x) (.int .i64 y)).run Tryz.prog w = .ok (x == y) w := fun w d x y => run_equalIn_int w d _ _ _ x y Tryz.underlying3
  have hV := fun w => ver_equalD w n c d e c' d' e'
  have hp : ∀ (w : World) (q r c d e : Value), (part 29 #[q, r, c, d, e] 2).run Tryz.prog w = .ok (.agg #[c, d, e]) w := fun w q r c d e => by
    obtain ⟨i, hi, _, hs, _⟩ := info_parts (P := Tryz.prog) (e := 29) (z := .agg #[.int .i64 0, .int .i64 0, .int .i64 0]) (size := 3) (bytes := 24) (by kernel_rfl)
    simp [part, isAgg, run_underlying Tryz.underlying29, sizeOf, typeInfo, hi, hs, Result.andThen]
  have hp0 : ∀ (w : World) (q r c d e : Value), (part 3 #[q, r, c, d, e] 0).run Tryz.prog w = .ok q w := fun w q r c d e => by simp [part, isAgg, run_underlying Tryz.underlying3]
  have hp1 : ∀ (w : World) (q r c d e : Value), (part 3 #[q, r, c, d, e] 1).run Tryz.prog w = .ok r w := fun w q r c d e => by simp [part, isAgg, run_underlying Tryz.underlying3]
  by_cases h1 : a = a' <;> by_cases h2 : b = b' <;> by_cases h3 : (⟨c, d, e⟩ : Ver) = ⟨c', d', e'⟩ <;>
    simp [Program.fieldsOf, Tryz.underlying31, Op.eqFields, hp, hp0, hp1, hI, hV, h1, h2, h3, Result.andThen]
theorem bad_neq (w : World) (x y : HBad) : (binOp .neq 31 (.agg #[.int .i64 x.tx, .int .i64 x.place, .int .i64 x.of.tx, .int .i64 x.of.key, .int .i64 x.of.nth]) (.agg #[.int .i64 y.tx, .int .i64 y.place, .int .i64 y.of.tx, .int .i64 y.of.key, .int .i64 y.of.nth])).run Tryz.prog w = .ok (.bool (x != y)) w := by
  have := bad_equal w x y
  unfold badV at this
  rw [run_neq_struct, this]
  simp only [Result.andThen]
  by_cases h : x = y <;> simp [h]
section
variable {h : Hist} {p : Int} {l : List Edge} {b : HBad}
theorem acc_not (hr : rightB h = false) : acceptB h p l b = false := by unfold acceptB; rw [hr]; rfl
theorem acc_bad (hr : rightB h = true) (hp : p = 2 ∨ p = 3) : acceptB h p l b = (decide (l.length = 0) && badB h.txs p b) := by unfold acceptB; rw [hr, if_pos hp]; rfl
theorem acc_walk (hr : rightB h = true) (hp : ¬ (p = 2 ∨ p = 3)) : acceptB h p l b = (!(maskP p == 0) && b == noBad && closedB l && kindsOk (maskOf l) p && l.all (edgeB h)) := by unfold acceptB; rw [hr, if_neg hp]; rfl
end
theorem hrightV {F : Nat → Prop} {w : World} {txs : List HTx} {ords : List HOrd} {A : Option Addr} {c : Nat} {B : Option Addr} {d : Nat} {r : Bool} (H : Hist.lies F w ⟨txs, ords, A, c, B, d⟩) (hr : rightB ⟨txs, ords, A, c, B, d⟩ = r) :
    Calls Tryz.prog 14 #[.agg #[.slice A txs.length c, .slice B ords.length d]] w fun e w' => e = .returned (.bool r) ∧ Upd No w w' := by subst hr; exact hright F w ⟨txs, ords, A, c, B, d⟩ H
theorem cbadV {F : Nat → Prop} {w : World} {txs : List HTx} {ords : List HOrd} {A : Option Addr} {c : Nat} {B : Option Addr} {d : Nat} {p x pl vt vk vn : Int} {r : Bool} (H : Hist.lies F w ⟨txs, ords, A, c, B, d⟩) (hr : badB txs p ⟨x, pl, ⟨vt, vk, vn⟩⟩ = r) :
    Calls Tryz.prog 18 #[.agg #[.slice A txs.length c, .slice B ords.length d], .int .i64 p, .agg #[.int .i64 x, .int .i64 pl, .int .i64 vt, .int .i64 vk, .int .i64 vn]] w fun e w' => e = .returned (.bool r) ∧ Upd No w w' := by subst hr; exact cbad F w txs ords A c B d p ⟨x, pl, ⟨vt, vk, vn⟩⟩ H
theorem cedgeV {F : Nat → Prop} {w : World} {txs : List HTx} {ords : List HOrd} {A : Option Addr} {c : Nat} {B : Option Addr} {d : Nat} {e : Edge} {r : Bool} (H : Hist.lies F w ⟨txs, ords, A, c, B, d⟩) (hr : edgeB ⟨txs, ords, A, c, B, d⟩ e = r) :
    Calls Tryz.prog 15 #[.agg #[.slice A txs.length c, .slice B ords.length d], .agg #[.int .i64 e.f, .int .i64 e.t, .int .i64 e.k, .int .i64 e.key]] w fun q w' => q = .returned (.bool r) ∧ Upd No w w' := by subst hr; exact cedge F w txs ords A c B d e H
theorem all_edges_no {h : Hist} {l : List Edge} {k : Nat} (hk : k < l.length) (he : edgeB h l[k] = false) : l.all (edgeB h) = false := by
  rw [List.all_eq_false]
  exact ⟨l[k], List.getElem_mem hk, by rw [he]; decide⟩
theorem all_edges_yes {h : Hist} {l : List Edge} (he : ∀ (j : Nat) (hj : j < l.length), edgeB h l[j] = true) : l.all (edgeB h) = true := by
  rw [List.all_eq_true]
  intro x hx
  obtain ⟨k, hk, rfl⟩ := List.mem_iff_getElem.1 hx
  exact he k hk
set_option maxRecDepth 100000 in
set_option maxHeartbeats 8000000 in
theorem caccept (F G : Nat → Prop) (w : World) (h : Hist) (p : Int) (X : Option Addr) (xc : Nat) (l : List Edge) (b : HBad) (H : h.lies F w) (W : Walk G w X l) (hl : l.length ≤ 1000000) :
    Calls Tryz.prog 11 #[h.val, .agg #[.int .i64 p, .slice X l.length xc, .int .i64 b.tx, .int .i64 b.place, .int .i64 b.of.tx, .int .i64 b.of.key, .int .i64 b.of.nth]] w fun e w' => e = .returned (.bool (acceptB h p l b)) ∧ Upd No w w' := by
  obtain ⟨txs, ords, A, c, B, d⟩ := h
  obtain ⟨bx, bp, ⟨vt, vk, vn⟩⟩ := b
  unfold Hist.val
  have u0 := ((Upd.refl No w).alloc (.cells #[.slice A txs.length c, .slice B ords.length d] 25)).alloc (.cells #[.int .i64 p, .slice X l.length xc, .int .i64 bx, .int .i64 bp, .int .i64 vt, .int .i64 vk, .int .i64 vn] 34)
  have bH := Lib.hid ((Blk.new w 25 [.slice A txs.length c, .slice B ords.length d]).alloc (.cells #[.int .i64 p, .slice X l.length xc, .int .i64 bx, .int .i64 bp, .int .i64 vt, .int .i64 vk, .int .i64 vn] 34))
  have b1 := Blk.new (w.alloc (.cells #[.slice A txs.length c, .slice B ords.length d] 25)) 34 [.int .i64 p, .slice X l.length xc, .int .i64 bx, .int .i64 bp, .int .i64 vt, .int .i64 vk, .int .i64 vn]
  simp only [World.size_alloc] at b1
  have bW := Lib.hid b1
  have qN := bad_neq
  have HQ := Lib.hid qN
  have H0 := Lib.hid (H.upd u0 (fun _ _ => id))
  clear b1 qN
  cases hr : rightB ⟨txs, ords, A, c, B, d⟩
  · have hv := Lib.hid (acc_not (p := p) (l := l) (b := ⟨bx, bp, ⟨vt, vk, vn⟩⟩) hr)
    have Hr := Lib.hid hr
    clear hr
    go_enter Tryz.func11, Tryz.ntmps11
    go_wp2_with fail
    refine (hrightV H0.out Hr.out).mono ?_
    rintro e w1 ⟨rfl, hu1⟩
    go_wp2
    go_ret
    exact ⟨by rw [hv.out]; rfl, u0.trans hu1⟩
  · have Hr := Lib.hid hr
    clear hr
    go_enter Tryz.func11, Tryz.ntmps11
    go_wp2_with fail
    refine (hrightV H0.out Hr.out).mono ?_
    rintro e w1 ⟨rfl, hu1⟩
    have uR := hu1.alloc (.cells #[.slice A txs.length c, .slice B ords.length d] 55)
    have bR := Lib.hid (Blk.new w1 55 [.slice A txs.length c, .slice B ords.length d])
    have bW1 := Lib.hid (bW.out.upd uR id)
    have bH1 := bH.out.upd hu1 id
    have U1 := Lib.hid (u0.trans uR)
    have h0 := bH1.cell 0
    have h1 := bH1.cell 1
    have y0 := bW1.out.cell 0
    have y1 := bW1.out.cell 1
    have y2 := bW1.out.cell 2
    have y3 := bW1.out.cell 3
    have y4 := bW1.out.cell 4
    have y5 := bW1.out.cell 5
    have y6 := bW1.out.cell 6
    simp only [List.getElem?_cons_zero, List.getElem?_cons_succ] at h0 h1 y0 y1 y2 y3 y4 y5 y6
    have HB := Lib.hid (fun W' (hW : Upd No (w1.alloc (.cells #[.slice A txs.length c, .slice B ords.length d] 55)) W') => H.upd (U1.out.trans hW) (fun _ _ => id))
    have WB := Lib.hid (fun W' (hW : Upd No (w1.alloc (.cells #[.slice A txs.length c, .slice B ords.length d] 55)) W') => W.upd (U1.out.trans hW) (fun _ _ => id))
    clear u0 hu1 uR bH1
    by_cases hp : p = 2 ∨ p = 3
    · have hv0 := acc_bad (h := ⟨txs, ords, A, c, B, d⟩) (l := l) (b := ⟨bx, bp, ⟨vt, vk, vn⟩⟩) Hr.out hp
      by_cases hl0 : l.length = 0
      · have hlb : ((l.length : Int) == 0) = true := by rw [beq_iff_eq]; omega
        obtain ⟨r, hbr⟩ : ∃ r, badB txs p ⟨bx, bp, ⟨vt, vk, vn⟩⟩ = r := ⟨_, rfl⟩
        have Hb := Lib.hid hbr
        have hv := Lib.hid (show acceptB ⟨txs, ords, A, c, B, d⟩ p l ⟨bx, bp, ⟨vt, vk, vn⟩⟩ = r by rw [hv0, decide_eq_true hl0]; exact hbr)
        clear hl0 hv0 hbr
        rcases hp with hp | hp
        · subst hp
          go_wp2_with fail
          refine (cbadV (HB.out _ (Upd.refl No _)) Hb.out).mono ?_
          rintro e w2 ⟨rfl, hu2⟩
          go_wp2
          go_ret
          exact ⟨by rw [hv.out]; rfl, U1.out.trans hu2⟩
        · subst hp
          go_wp2_with fail
          refine (cbadV (HB.out _ (Upd.refl No _)) Hb.out).mono ?_
          rintro e w2 ⟨rfl, hu2⟩
          go_wp2
          go_ret
          exact ⟨by rw [hv.out]; rfl, U1.out.trans hu2⟩
      · have hlb : ((l.length : Int) == 0) = false := by rw [beq_eq_false_iff_ne]; omega
        have hv := Lib.hid (show acceptB ⟨txs, ords, A, c, B, d⟩ p l ⟨bx, bp, ⟨vt, vk, vn⟩⟩ = false by rw [hv0, decide_eq_false hl0]; rfl)
        clear hl0 hv0
        rcases hp with hp | hp
        · subst hp
          go_wp2
          go_ret
          exact ⟨by rw [hv.out]; rfl, U1.out⟩
        · subst hp
          go_wp2
          go_ret
          exact ⟨by rw [hv.out]; rfl, U1.out⟩
    · have hv0 := acc_walk (h := ⟨txs, ords, A, c, B, d⟩) (l := l) (b := ⟨bx, bp, ⟨vt, vk, vn⟩⟩) Hr.out hp
      have hpb2 : (p == 2) = false := by rw [beq_eq_false_iff_ne]; exact fun e => hp (.inl e)
      have hpb3 : (p == 3) = false := by rw [beq_eq_false_iff_ne]; exact fun e => hp (.inr e)
      clear hp
      obtain ⟨M, hM⟩ : ∃ M, maskP p = M := ⟨_, rfl⟩
      obtain ⟨T, hT⟩ : ∃ T, mustP p = T := ⟨_, rfl⟩
      obtain ⟨K, hK⟩ : ∃ K, maskOf l = K := ⟨_, rfl⟩
      rw [hM, hK] at hv0
      unfold kindsOk at hv0
      rw [hM, hT] at hv0
      have hpm := pmasks (w1.alloc (.cells #[.slice A txs.length c, .slice B ords.length d] 55)) p
      rw [hM, hT] at hpm
      have HPM := Lib.hid hpm
      have HV0 := Lib.hid hv0
      have HK := Lib.hid hK
      clear hpm hv0 hM hT hK
      go_wp2_with fail
      refine (HPM.out).mono ?_
      rintro e w2 ⟨rfl, rfl⟩
      have hmk := wmask _ (w1.alloc (.cells #[.slice A txs.length c, .slice B ords.length d] 55)) X xc l (WB.out _ (Upd.refl No _)) hl
      rw [HK.out] at hmk
      have HMK := Lib.hid hmk
      clear hmk
      go_wp2_with fail
      refine (HMK.out).mono ?_
      rintro e w2 ⟨rfl, hu2⟩
      have bW2 := bW1.out.upd hu2 id
      have bR2 := Lib.hid (bR.out.upd hu2 id)
      have U2 := Lib.hid hu2
      clear y0 y1 y2 y3 y4 y5 y6 h0 h1 hu2
      have y1 := bW2.cell 1
      have y2 := bW2.cell 2
      have y3 := bW2.cell 3
      have y4 := bW2.cell 4
      have y5 := bW2.cell 5
      have y6 := bW2.cell 6
      simp only [List.getElem?_cons_zero, List.getElem?_cons_succ] at y1 y2 y3 y4 y5 y6
      have BW2 := Lib.hid bW2
      clear bW2
      cases hM0 : M == 0
      · have qn := fun w => HQ.out w ⟨bx, bp, ⟨vt, vk, vn⟩⟩ noBad
        simp only [noBad] at qn
        cases hb0 : ((⟨bx, bp, ⟨vt, vk, vn⟩⟩ : HBad) == noBad)
        · have hv := Lib.hid (show acceptB ⟨txs, ords, A, c, B, d⟩ p l ⟨bx, bp, ⟨vt, vk, vn⟩⟩ = false by rw [HV0.out, hb0]; simp)
          have qn2 := fun w => (qn w).trans (by rw [show ((⟨bx, bp, ⟨vt, vk, vn⟩⟩ : HBad) != ⟨0, 0, ⟨0, 0, 0⟩⟩) = true from by unfold bne; rw [show ((⟨bx, bp, ⟨vt, vk, vn⟩⟩ : HBad) == ⟨0, 0, ⟨0, 0, 0⟩⟩) = false from hb0]; rfl])
          clear qn hb0
          go_wp2
          go_ret
          exact ⟨by rw [hv.out]; rfl, U1.out.trans U2.out⟩
        · have qn2 := fun w => (qn w).trans (by rw [show ((⟨bx, bp, ⟨vt, vk, vn⟩⟩ : HBad) != ⟨0, 0, ⟨0, 0, 0⟩⟩) = false from by unfold bne; rw [show ((⟨bx, bp, ⟨vt, vk, vn⟩⟩ : HBad) == ⟨0, 0, ⟨0, 0, 0⟩⟩) = true from hb0]; rfl])
          have hcl := wclosed _ w2 X xc l (WB.out _ U2.out) hl
          cases hc : closedB l
          · rw [hc] at hcl
            have HCL := Lib.hid hcl
            have hv := Lib.hid (show acceptB ⟨txs, ords, A, c, B, d⟩ p l ⟨bx, bp, ⟨vt, vk, vn⟩⟩ = false by rw [HV0.out, hc]; simp)
            clear qn hb0 hc hcl
            go_wp2_with fail
            refine (HCL.out).mono ?_
            rintro e w3 ⟨rfl, hu3⟩
            go_wp2
            go_ret
            exact ⟨by rw [hv.out]; rfl, (U1.out.trans U2.out).trans hu3⟩
          · rw [hc] at hcl
            have HCL := Lib.hid hcl
            have hv1 : acceptB ⟨txs, ords, A, c, B, d⟩ p l ⟨bx, bp, ⟨vt, vk, vn⟩⟩ = (((bits .andNot .i64 K M == 0) && (T == 0 || !(bits .and .i64 K T == 0))) && l.all (edgeB ⟨txs, ords, A, c, B, d⟩)) := by rw [HV0.out, hM0, hb0, hc]; rfl
            obtain ⟨K1, hK1⟩ : ∃ K1, bits .andNot .i64 K M = K1 := ⟨_, rfl⟩
            obtain ⟨K2, hK2⟩ : ∃ K2, bits .and .i64 K T = K2 := ⟨_, rfl⟩
            rw [hK1, hK2] at hv1
            have HVV := Lib.hid hv1
            clear qn hb0 hc hcl hv1
            go_wp2_with fail
            refine (HCL.out).mono ?_
            rintro e w3 ⟨rfl, hu3⟩
            have bW3 := BW2.out.upd hu3 id
            have bR3 := Lib.hid (bR2.out.upd hu3 id)
            have U3 := Lib.hid (U2.out.trans hu3)
            have r0 := bR3.out.cell 0
            have r1 := bR3.out.cell 1
            have h0 := bW3.cell 1
            have h1 := h0
            simp only [List.getElem?_cons_zero, List.getElem?_cons_succ] at r0 r1 h0 h1
            clear bW3 hu3
            cases hk1 : K1 == 0
            · have hk1n : (K1 != 0) = true := by unfold bne; rw [hk1]; rfl
              have hv := Lib.hid (show acceptB ⟨txs, ords, A, c, B, d⟩ p l ⟨bx, bp, ⟨vt, vk, vn⟩⟩ = false by rw [HVV.out, hk1]; rfl)
              go_wp2
              go_ret
              exact ⟨by rw [hv.out]; rfl, U1.out.trans U3.out⟩
            · have hk1n : (K1 != 0) = false := by unfold bne; rw [hk1]; rfl
              cases hT0 : T == 0
              · have hTn : (T != 0) = true := by unfold bne; rw [hT0]; rfl
                cases hk2 : K2 == 0
                · have HV1 := Lib.hid (show acceptB ⟨txs, ords, A, c, B, d⟩ p l ⟨bx, bp, ⟨vt, vk, vn⟩⟩ = l.all (edgeB ⟨txs, ords, A, c, B, d⟩) by rw [HVV.out, hk1, hT0, hk2]; rfl)
                  go_wp2
                  clear y1 y2 y3 y4 y5 y6 r0 r1 h0 h1
                  go_loopg [75] l.length (fun gk i wr => ∃ (k : Nat), k + gk = l.length ∧ i = .int .i64 k ∧ Hid (∀ (j : Nat) (hj : j < l.length), j < k → edgeB ⟨txs, ords, A, c, B, d⟩ l[j] = true) ∧ Upd No w3 wr)
                  case atStart => exact ⟨0, by omega, rfl, Lib.hid (fun j _ hj => by omega), Upd.refl No _⟩
                  case round =>
                    obtain ⟨k, hgk, rfl, hall, hu⟩ := hrel
                    by_cases hlt : k < l.length
                    · obtain ⟨ad, hX, e0, e1, e2, e3⟩ := (WB.out _ (U3.out.trans hu)).at_ hlt
                      obtain ⟨x, hx⟩ : ∃ x, l[k] = x := ⟨_, rfl⟩
                      rw [hx] at e0 e1 e2 e3
                      subst hX
                      have XX := Lib.hid hx
                      have b1 : (0 : Int) ≤ (k : Int) := Int.natCast_nonneg _
                      have b2 : (k : Int) < (l.length : Int) := by omega
                      have uA := (Upd.refl No wr).alloc (.cells #[.int .i64 x.f, .int .i64 x.t, .int .i64 x.k, .int .i64 x.key] 27)
                      have bRk := bR3.out.upd (hu.trans uA) id
                      have rr0 := bRk.cell 0
                      have rr1 := bRk.cell 1
                      simp only [List.getElem?_cons_zero, List.getElem?_cons_succ] at rr0 rr1
                      have Hk := Lib.hid (HB.out _ (U3.out.trans (hu.trans uA)))
                      clear hx bRk
                      cases he : edgeB ⟨txs, ords, A, c, B, d⟩ x
                      · have He := Lib.hid he
                        have hv := Lib.hid (show acceptB ⟨txs, ords, A, c, B, d⟩ p l ⟨bx, bp, ⟨vt, vk, vn⟩⟩ = false by rw [HV1.out]; exact all_edges_no hlt (by rw [XX.out]; exact he))
                        clear he
                        go_wp2_with fail
                        refine (cedgeV Hk.out He.out).mono ?_
                        rintro e w5 ⟨rfl, hu5⟩
                        go_wp2
                        go_ret
                        exact ⟨by rw [hv.out]; rfl, (U1.out.trans U3.out).trans ((hu.trans uA).trans hu5)⟩
                      · have He := Lib.hid he
                        clear he
                        go_wp2_with fail
                        refine (cedgeV Hk.out He.out).mono ?_
                        rintro e w5 ⟨rfl, hu5⟩
                        go_wp2
                        go_roundg (gk - 1)
                        case measure => omega
                        case rel => exact ⟨k + 1, by omega, by go_num, Lib.hid (fun j hj hjk => by
                            by_cases e : j = k
                            · subst e; rw [XX.out]; exact He.out
                            · exact hall.out j hj (by omega)), (hu.trans uA).trans hu5⟩
                    · obtain rfl : k = l.length := by omega
                      have hv := Lib.hid (show acceptB ⟨txs, ords, A, c, B, d⟩ p l ⟨bx, bp, ⟨vt, vk, vn⟩⟩ = true by rw [HV1.out]; exact all_edges_yes fun j hj => hall.out j hj hj)
                      go_wp2
                      go_ret
                      exact ⟨by rw [hv.out]; rfl, (U1.out.trans U3.out).trans hu⟩
                · have hv := Lib.hid (show acceptB ⟨txs, ords, A, c, B, d⟩ p l ⟨bx, bp, ⟨vt, vk, vn⟩⟩ = false by rw [HVV.out, hk1, hT0, hk2]; rfl)
                  go_wp2
                  go_ret
                  exact ⟨by rw [hv.out]; rfl, U1.out.trans U3.out⟩
              · have hTn : (T != 0) = false := by unfold bne; rw [hT0]; rfl
                have HV1 := Lib.hid (show acceptB ⟨txs, ords, A, c, B, d⟩ p l ⟨bx, bp, ⟨vt, vk, vn⟩⟩ = l.all (edgeB ⟨txs, ords, A, c, B, d⟩) by rw [HVV.out, hk1, hT0]; simp)
                go_wp2
                clear y1 y2 y3 y4 y5 y6 r0 r1 h0 h1
                go_loopg [75] l.length (fun gk i wr => ∃ (k : Nat), k + gk = l.length ∧ i = .int .i64 k ∧ Hid (∀ (j : Nat) (hj : j < l.length), j < k → edgeB ⟨txs, ords, A, c, B, d⟩ l[j] = true) ∧ Upd No w3 wr)
                case atStart => exact ⟨0, by omega, rfl, Lib.hid (fun j _ hj => by omega), Upd.refl No _⟩
                case round =>
                  obtain ⟨k, hgk, rfl, hall, hu⟩ := hrel
                  by_cases hlt : k < l.length
                  · obtain ⟨ad, hX, e0, e1, e2, e3⟩ := (WB.out _ (U3.out.trans hu)).at_ hlt
                    obtain ⟨x, hx⟩ : ∃ x, l[k] = x := ⟨_, rfl⟩
                    rw [hx] at e0 e1 e2 e3
                    subst hX
                    have XX := Lib.hid hx
                    have b1 : (0 : Int) ≤ (k : Int) := Int.natCast_nonneg _
                    have b2 : (k : Int) < (l.length : Int) := by omega
                    have uA := (Upd.refl No wr).alloc (.cells #[.int .i64 x.f, .int .i64 x.t, .int .i64 x.k, .int .i64 x.key] 27)
                    have bRk := bR3.out.upd (hu.trans uA) id
                    have rr0 := bRk.cell 0
                    have rr1 := bRk.cell 1
                    simp only [List.getElem?_cons_zero, List.getElem?_cons_succ] at rr0 rr1
                    have Hk := Lib.hid (HB.out _ (U3.out.trans (hu.trans uA)))
                    clear hx bRk
                    cases he : edgeB ⟨txs, ords, A, c, B, d⟩ x
                    · have He := Lib.hid he
                      have hv := Lib.hid (show acceptB ⟨txs, ords, A, c, B, d⟩ p l ⟨bx, bp, ⟨vt, vk, vn⟩⟩ = false by rw [HV1.out]; exact all_edges_no hlt (by rw [XX.out]; exact he))
                      clear he
                      go_wp2_with fail
                      refine (cedgeV Hk.out He.out).mono ?_
                      rintro e w5 ⟨rfl, hu5⟩
                      go_wp2
                      go_ret
                      exact ⟨by rw [hv.out]; rfl, (U1.out.trans U3.out).trans ((hu.trans uA).trans hu5)⟩
                    · have He := Lib.hid he
                      clear he
                      go_wp2_with fail
                      refine (cedgeV Hk.out He.out).mono ?_
                      rintro e w5 ⟨rfl, hu5⟩
                      go_wp2
                      go_roundg (gk - 1)
                      case measure => omega
                      case rel => exact ⟨k + 1, by omega, by go_num, Lib.hid (fun j hj hjk => by
                          by_cases e : j = k
                          · subst e; rw [XX.out]; exact He.out
                          · exact hall.out j hj (by omega)), (hu.trans uA).trans hu5⟩
                  · obtain rfl : k = l.length := by omega
                    have hv := Lib.hid (show acceptB ⟨txs, ords, A, c, B, d⟩ p l ⟨bx, bp, ⟨vt, vk, vn⟩⟩ = true by rw [HV1.out]; exact all_edges_yes fun j hj => hall.out j hj hj)
                    go_wp2
                    go_ret
                    exact ⟨by rw [hv.out]; rfl, (U1.out.trans U3.out).trans hu⟩
      · have hv := Lib.hid (show acceptB ⟨txs, ords, A, c, B, d⟩ p l ⟨bx, bp, ⟨vt, vk, vn⟩⟩ = false by rw [HV0.out, hM0]; rfl)
        go_wp2
        go_ret
        exact ⟨by rw [hv.out]; rfl, U1.out.trans U2.out⟩
end Go.Proofs.YtgakhpdclhlmpaaGreat

/- Looking at a history: the exported functions, with their values named. -/
namespace Go.Proofs.YtgakhpdclhlmpaaGreat
set_option linter.unusedVariables false
open Go.RowKit
section
variable {F G : Nat → Prop} {w : World} {txs : List HTx} {ords : List HOrd} {A B : Option Addr} {c d n1 n2 : Nat}
set_option maxRecDepth 100000 in
theorem cEdgeV {e : Edge} {v : Bool} (H : Hist.lies F w ⟨txs, ords, A, c, B, d⟩) (e1 : txs.length = n1) (e2 : ords.length = n2) (hv : (rightB ⟨txs, ords, A, c, B, d⟩ && edgeB ⟨txs, ords, A, c, B, d⟩ e) = v) :
    Calls Tryz.prog 6 #[.agg #[.slice A n1 c, .slice B n2 d], .agg #[.int .i64 e.f, .int .i64 e.t, .int .i64 e.k, .int .i64 e.key]] w fun r w' => r = .returned (.bool v) ∧ Upd No w w' := by
  subst e1 e2
  have u0 := ((Upd.refl No w).alloc (.cells #[.slice A txs.length c, .slice B ords.length d] 25)).alloc (.cells #[.int .i64 e.f, .int .i64 e.t, .int .i64 e.k, .int .i64 e.key] 27)
  have bH := Lib.hid ((Blk.new w 25 [.slice A txs.length c, .slice B ords.length d]).alloc (.cells #[.int .i64 e.f, .int .i64 e.t, .int .i64 e.k, .int .i64 e.key] 27))
  have b1 := Blk.new (w.alloc (.cells #[.slice A txs.length c, .slice B ords.length d] 25)) 27 [.int .i64 e.f, .int .i64 e.t, .int .i64 e.k, .int .i64 e.key]
  simp only [World.size_alloc] at b1
  have bE := Lib.hid b1
  have H0 := Lib.hid (H.upd u0 (fun _ _ => id))
  clear b1
  cases hr : rightB ⟨txs, ords, A, c, B, d⟩
  · rw [hr] at hv
    have HV := Lib.hid hv
    have Hr := Lib.hid hr
    clear hr hv
    go_enter Tryz.func6, Tryz.ntmps6
    go_wp2_with fail
    refine (hrightV H0.out Hr.out).mono ?_
    rintro e w1 ⟨rfl, hu1⟩
    go_wp2
    go_ret
    exact ⟨by rw [← HV.out]; rfl, u0.trans hu1⟩
  · rw [hr, Bool.true_and] at hv
    have HV := Lib.hid hv
    have Hr := Lib.hid hr
    clear hr hv
    go_enter Tryz.func6, Tryz.ntmps6
    go_wp2_with fail
    refine (hrightV H0.out Hr.out).mono ?_
    rintro e w1 ⟨rfl, hu1⟩
    have h0 := (bH.out.upd hu1 id).cell 0
    have h1 := (bH.out.upd hu1 id).cell 1
    have y0 := (bE.out.upd hu1 id).cell 0
    have y1 := (bE.out.upd hu1 id).cell 1
    have y2 := (bE.out.upd hu1 id).cell 2
    have y3 := (bE.out.upd hu1 id).cell 3
    simp only [List.getElem?_cons_zero, List.getElem?_cons_succ] at h0 h1 y0 y1 y2 y3
    have H1 := Lib.hid (H.upd (u0.trans hu1) (fun _ _ => id))
    go_wp2_with fail
    refine (cedgeV H1.out HV.out).mono ?_
    rintro e w2 ⟨rfl, hu2⟩
    go_wp2
    go_ret
    exact ⟨rfl, (u0.trans hu1).trans hu2⟩
set_option maxRecDepth 100000 in
theorem cReadV {p x pl vt vk vn : Int} {v : Bool} (H : Hist.lies F w ⟨txs, ords, A, c, B, d⟩) (e1 : txs.length = n1) (e2 : ords.length = n2) (hv : (rightB ⟨txs, ords, A, c, B, d⟩ && badB txs p ⟨x, pl, ⟨vt, vk, vn⟩⟩) = v) :
    Calls Tryz.prog 8 #[.agg #[.slice A n1 c, .slice B n2 d], .int .i64 p, .agg #[.int .i64 x, .int .i64 pl, .int .i64 vt, .int .i64 vk, .int .i64 vn]] w fun r w' => r = .returned (.bool v) ∧ Upd No w w' := by
  subst e1 e2
  have u0 := ((Upd.refl No w).alloc (.cells #[.slice A txs.length c, .slice B ords.length d] 25)).alloc (.cells #[.int .i64 x, .int .i64 pl, .int .i64 vt, .int .i64 vk, .int .i64 vn] 31)
  have bH := Lib.hid ((Blk.new w 25 [.slice A txs.length c, .slice B ords.length d]).alloc (.cells #[.int .i64 x, .int .i64 pl, .int .i64 vt, .int .i64 vk, .int .i64 vn] 31))
  have b1 := Blk.new (w.alloc (.cells #[.slice A txs.length c, .slice B ords.length d] 25)) 31 [.int .i64 x, .int .i64 pl, .int .i64 vt, .int .i64 vk, .int .i64 vn]
  simp only [World.size_alloc] at b1
  have bE := Lib.hid b1
  have H0 := Lib.hid (H.upd u0 (fun _ _ => id))
  clear b1
  cases hr : rightB ⟨txs, ords, A, c, B, d⟩
  · rw [hr] at hv
    have HV := Lib.hid hv
    have Hr := Lib.hid hr
    clear hr hv
    go_enter Tryz.func8, Tryz.ntmps8
    go_wp2_with fail
    refine (hrightV H0.out Hr.out).mono ?_
    rintro e w1 ⟨rfl, hu1⟩
    go_wp2
    go_ret
    exact ⟨by rw [← HV.out]; rfl, u0.trans hu1⟩
  · rw [hr, Bool.true_and] at hv
    have HV := Lib.hid hv
    have Hr := Lib.hid hr
    clear hr hv
    go_enter Tryz.func8, Tryz.ntmps8
    go_wp2_with fail
    refine (hrightV H0.out Hr.out).mono ?_
    rintro e w1 ⟨rfl, hu1⟩
    have h0 := (bH.out.upd hu1 id).cell 0
    have h1 := (bH.out.upd hu1 id).cell 1
    have y0 := (bE.out.upd hu1 id).cell 0
    have y1 := (bE.out.upd hu1 id).cell 1
    have y2 := (bE.out.upd hu1 id).cell 2
    have y3 := (bE.out.upd hu1 id).cell 3
    have y4 := (bE.out.upd hu1 id).cell 4
    simp only [List.getElem?_cons_zero, List.getElem?_cons_succ] at h0 h1 y0 y1 y2 y3 y4
    have H1 := Lib.hid (H.upd (u0.trans hu1) (fun _ _ => id))
    go_wp2_with fail
    refine (cbadV H1.out HV.out).mono ?_
    rintro e w2 ⟨rfl, hu2⟩
    go_wp2
    go_ret
    exact ⟨rfl, (u0.trans hu1).trans hu2⟩
theorem caccV {X : Option Addr} {xc n : Nat} {l : List Edge} {p x pl vt vk vn : Int} {v : Bool} (H : Hist.lies F w ⟨txs, ords, A, c, B, d⟩) (W : ∃ G, Walk G w X l) (hl : l.length ≤ 1000000) (e1 : txs.length = n1) (e2 : ords.length = n2) (e3 : l.length = n)
    (hv : acceptB ⟨txs, ords, A, c, B, d⟩ p l ⟨x, pl, ⟨vt, vk, vn⟩⟩ = v) :
    Calls Tryz.prog 11 #[.agg #[.slice A n1 c, .slice B n2 d], .agg #[.int .i64 p, .slice X n xc, .int .i64 x, .int .i64 pl, .int .i64 vt, .int .i64 vk, .int .i64 vn]] w fun r w' => r = .returned (.bool v) ∧ Upd No w w' := by
  subst e1 e2 e3 hv
  obtain ⟨G, W⟩ := W
  exact caccept F G w ⟨txs, ords, A, c, B, d⟩ p X xc l ⟨x, pl, ⟨vt, vk, vn⟩⟩ H W hl
end
theorem recs_blk {w : World} {g size : Nat} {t : TypeId} {rows : List (List Value)} (hr : ∀ r ∈ rows, r.length = size) (h : Blk w g t rows.flatten) : Recs (fun i => i = g) w (some ⟨g, 0, none⟩) size rows := fun _ => by
  refine ⟨_, rfl, rfl, h.lt, fun i row hi j v hj => ?_⟩
  have e1 : (⟨g, 0, none⟩ : Addr).add (i * size + j) = ⟨g, i * size + j, none⟩ := by unfold Addr.add; split <;> simp_all
  rw [e1, h.cell]
  exact flat_get hr hi hj
theorem ints_blk {w : World} {g : Nat} {t : TypeId} {xs : List Int} (h : Blk w g t (xs.map (Value.int .i64))) : Ints (fun i => i = g) w (some ⟨g, 0, none⟩) xs :=
  Ints.of_row h rfl fun j v hj => by rw [List.getElem?_toArray, List.getElem?_map, hj]; rfl
/-- the history of the chapter's example, at such places -/
def skewH (n : Nat) : Hist :=
  ⟨[⟨1, true, [⟨true, 1, 0, 0⟩, ⟨false, 2, 0, 0⟩], some ⟨n + 1, 0, none⟩, 2⟩, ⟨2, true, [⟨true, 2, 0, 0⟩, ⟨false, 1, 0, 0⟩], some ⟨n + 1 + 1, 0, none⟩, 2⟩],
   [⟨1, [2], some ⟨n + 1 + 1 + 1 + 1, 0, none⟩, 1⟩, ⟨2, [1], some ⟨n + 1 + 1 + 1 + 1 + 1, 0, none⟩, 1⟩], some ⟨n + 1 + 1 + 1, 0, none⟩, 2, some ⟨n + 1 + 1 + 1 + 1 + 1 + 1, 0, none⟩, 2⟩
theorem skew_lies {W : World} {n : Nat} {t1 t2 t3 t4 : TypeId}
    (b1 : Blk W (n + 1) t1 [.bool true, .int .i64 1, .int .i64 0, .int .i64 0, .bool false, .int .i64 2, .int .i64 0, .int .i64 0])
    (b2 : Blk W (n + 1 + 1) t1 [.bool true, .int .i64 2, .int .i64 0, .int .i64 0, .bool false, .int .i64 1, .int .i64 0, .int .i64 0])
    (b3 : Blk W (n + 1 + 1 + 1) t2 [.int .i64 1, .bool true, .slice (some ⟨n + 1, 0, none⟩) 2 2, .int .i64 2, .bool true, .slice (some ⟨n + 1 + 1, 0, none⟩) 2 2])
    (b4 : Blk W (n + 1 + 1 + 1 + 1) t3 [.int .i64 2]) (b5 : Blk W (n + 1 + 1 + 1 + 1 + 1) t3 [.int .i64 1])
    (b6 : Blk W (n + 1 + 1 + 1 + 1 + 1 + 1) t4 [.int .i64 1, .slice (some ⟨n + 1 + 1 + 1 + 1, 0, none⟩) 1 1, .int .i64 2, .slice (some ⟨n + 1 + 1 + 1 + 1 + 1, 0, none⟩) 1 1]) :
    (skewH n).lies (fun _ => True) W := by
  have h3 : ∀ (l : List HTx), ∀ r ∈ l.map HTx.cells, r.length = 3 := fun l r hr => by
    obtain ⟨e, _, rfl⟩ := List.mem_map.1 hr
    rfl
  have h2 : ∀ (l : List HOrd), ∀ r ∈ l.map HOrd.cells, r.length = 2 := fun l r hr => by
    obtain ⟨e, _, rfl⟩ := List.mem_map.1 hr
    rfl
  refine ⟨(recs_blk (h3 _) b3).weak fun _ _ _ => trivial, (recs_blk (h2 _) b6).weak fun _ _ _ => trivial, ?_, ?_, by simp [skewH], by simp [skewH], by simp [skewH], by simp [skewH]⟩
  · intro t ht
    simp only [skewH, List.mem_cons, List.not_mem_nil, or_false] at ht
    rcases ht with rfl | rfl
    · refine ⟨Recs.weak (recs_blk hops_len b1) fun _ _ _ => trivial, by simp, by unfold fewOps; simp, by unfold i64; simp, ?_⟩
      intro o ho
      simp only [List.mem_cons, List.not_mem_nil, or_false] at ho
      rcases ho with rfl | rfl <;> (unfold HOp.ok i64; decide)
    · refine ⟨Recs.weak (recs_blk hops_len b2) fun _ _ _ => trivial, by simp, by unfold fewOps; simp, by unfold i64; simp, ?_⟩
      intro o ho
      simp only [List.mem_cons, List.not_mem_nil, or_false] at ho
      rcases ho with rfl | rfl <;> (unfold HOp.ok i64; decide)
  · intro o ho
    simp only [skewH, List.mem_cons, List.not_mem_nil, or_false] at ho
    rcases ho with rfl | rfl
    · refine ⟨(ints_blk (xs := [2]) b4).weak fun _ _ _ => trivial, by simp, by simp, by unfold i64; simp, ?_⟩
      intro n hn
      simp only [List.mem_cons, List.not_mem_nil, or_false] at hn
      subst hn
      unfold i64; decide
    · refine ⟨(ints_blk (xs := [1]) b5).weak fun _ _ _ => trivial, by simp, by simp, by unfold i64; simp, ?_⟩
      intro n hn
      simp only [List.mem_cons, List.not_mem_nil, or_false] at hn
      subst hn
      unfold i64; decide
set_option maxRecDepth 100000 in
theorem sskew (w : World) : Calls Tryz.prog 13 #[] w fun e w' => e = .returned (.agg #[.slice (some ⟨w.heap.size + 1 + 1 + 1, 0, none⟩) 2 2, .slice (some ⟨w.heap.size + 1 + 1 + 1 + 1 + 1 + 1, 0, none⟩) 2 2]) ∧ (skewH w.heap.size).lies (fun _ => True) w' ∧ Upd No w w' := by
  go_enter Tryz.func13, Tryz.ntmps13
  go_wp2
  refine bodyPost_ret (v := .agg #[.slice (some ⟨w.heap.size + 1 + 1 + 1, 0, none⟩) 2 2, .slice (some ⟨w.heap.size + 1 + 1 + 1 + 1 + 1 + 1, 0, none⟩) 2 2]) (by simp [results, Tryz.results13, go_sem]) rfl ⟨rfl, ?_, ((((((((Upd.refl No w).alloc _).alloc _).alloc _).alloc _).alloc _).alloc _).alloc _)⟩
  exact skew_lies (((((((Blk.new_at (by simp only [World.size_alloc])).alloc _).alloc _).alloc _).alloc _).alloc _)) ((((((Blk.new_at (by simp only [World.size_alloc])).alloc _).alloc _).alloc _).alloc _)) (((((Blk.new_at (by simp only [World.size_alloc])).alloc _).alloc _).alloc _)) ((((Blk.new_at (by simp only [World.size_alloc])).alloc _).alloc _)) (((Blk.new_at (by simp only [World.size_alloc])).alloc _)) (Blk.new_at (by simp only [World.size_alloc]))
/-- the history of a bad read, at such places -/
def badH (n : Nat) : Hist :=
  ⟨[⟨1, false, [⟨false, 5, 0, 0⟩], some ⟨n, 0, none⟩, 1⟩, ⟨2, true, [⟨true, 5, 1, 1⟩], some ⟨n + 1, 0, none⟩, 1⟩], [], some ⟨n + 1 + 1, 0, none⟩, 2, none, 0⟩
theorem bad_lies {W : World} {n : Nat} {t1 t2 : TypeId}
    (b1 : Blk W n t1 [.bool false, .int .i64 5, .int .i64 0, .int .i64 0]) (b2 : Blk W (n + 1) t1 [.bool true, .int .i64 5, .int .i64 1, .int .i64 1])
    (b3 : Blk W (n + 1 + 1) t2 [.int .i64 1, .bool false, .slice (some ⟨n, 0, none⟩) 1 1, .int .i64 2, .bool true, .slice (some ⟨n + 1, 0, none⟩) 1 1]) :
    (badH n).lies (fun _ => True) W := by
  have h3 : ∀ (l : List HTx), ∀ r ∈ l.map HTx.cells, r.length = 3 := fun l r hr => by
    obtain ⟨e, _, rfl⟩ := List.mem_map.1 hr
    rfl
  refine ⟨(recs_blk (h3 _) b3).weak fun _ _ _ => trivial, fun h => absurd rfl h, ?_, fun o ho => by simp [badH] at ho, by simp [badH], by simp [badH], by simp [badH], by simp [badH]⟩
  intro t ht
  simp only [badH, List.mem_cons, List.not_mem_nil, or_false] at ht
  rcases ht with rfl | rfl
  · refine ⟨Recs.weak (recs_blk hops_len b1) fun _ _ _ => trivial, by simp, by unfold fewOps; simp, by unfold i64; simp, ?_⟩
    intro o ho
    simp only [List.mem_cons, List.not_mem_nil, or_false] at ho
    subst ho
    unfold HOp.ok i64; decide
  · refine ⟨Recs.weak (recs_blk hops_len b2) fun _ _ _ => trivial, by simp, by unfold fewOps; simp, by unfold i64; simp, ?_⟩
    intro o ho
    simp only [List.mem_cons, List.not_mem_nil, or_false] at ho
    subst ho
    unfold HOp.ok i64; decide
def e1 : Edge := ⟨1, 2, 3, 1⟩
def e2 : Edge := ⟨2, 1, 3, 2⟩
section
variable (n : Nat)
theorem a1 : acceptB (skewH n) 5 [e1, e2] noBad = true := by kernel_rfl
theorem a2 : acceptB (skewH n) 5 [e1, e2, e1, e2] noBad = true := by kernel_rfl
theorem a3 : acceptB (skewH n) 4 [e1, e2] noBad = false := by kernel_rfl
theorem a4 : acceptB (skewH n) 5 [e1] noBad = false := by kernel_rfl
theorem a5 : acceptB (skewH n) 5 [e1, e2] ⟨2, 0, ⟨1, 5, 1⟩⟩ = false := by kernel_rfl
theorem a6 (B : Option Addr) : acceptB ⟨(skewH n).txs, [], (skewH n).A, 2, B, 0⟩ 5 [e1, e2] noBad = false := by kernel_rfl
theorem a7 : acceptB (skewH n) 5 [] noBad = false := by kernel_rfl
theorem a8 : (rightB (skewH n) && edgeB (skewH n) e1) = true := by kernel_rfl
theorem a9 : (rightB (skewH n) && edgeB (skewH n) ⟨1, 2, 3, 2⟩) = false := by kernel_rfl
theorem a10 : (rightB (skewH n) && edgeB (skewH n) ⟨1, 2, 9, 1⟩) = false := by kernel_rfl
theorem a11 : (rightB (badH n) && badB (badH n).txs 2 ⟨2, 0, ⟨1, 5, 1⟩⟩) = true := by kernel_rfl
theorem a12 : (rightB (badH n) && badB (badH n).txs 3 ⟨2, 0, ⟨1, 5, 1⟩⟩) = false := by kernel_rfl
theorem a13 : (rightB (badH n) && badB (badH n).txs 1 ⟨2, 0, ⟨1, 5, 1⟩⟩) = false := by kernel_rfl
theorem a14 : acceptB (badH n) 2 [] ⟨2, 0, ⟨1, 5, 1⟩⟩ = true := by kernel_rfl
theorem a15 : acceptB (badH n) 2 [e1, e2] ⟨2, 0, ⟨1, 5, 1⟩⟩ = false := by kernel_rfl
end
end Go.Proofs.YtgakhpdclhlmpaaGreat

/- A region that draws its order, taken part by part: where all that stands behind a part waits for the part's last operation. -/
namespace Go.Proofs.YtgakhpdclhlmpaaGreat
set_option linter.unusedVariables false
open Go.RowKit

def shiftA (m : Nat) : List Go.Edge → List Go.Edge
  | [] => []
  | e :: l => if m ≤ e.on then { e with on := e.on - m } :: shiftA m l else shiftA m l
def shiftG (m : Nat) : Option (Nat × Bool) → Option (Nat × Bool)
  | none => none
  | some (j, b) => if j < m then none else some (j - m, b)
def shiftO (m : Nat) (o : Oper) : Oper := { o with after := (shiftA m o.after.toList).toArray, guard := shiftG m o.guard }
theorem shiftO_mk (m : Nat) (dst : Option Tmp) (op : Op) (ty : TypeId) (pos : String) (l : List Go.Edge) (g : Option (Nat × Bool)) : shiftO m ⟨dst, op, ty, pos, l.toArray, g⟩ = ⟨dst, op, ty, pos, (shiftA m l).toArray, shiftG m g⟩ := rfl
def partL (m : Nat) : Nat → Nat → List Oper → List Oper
  | _, _, [] => []
  | 0, 0, _ :: _ => []
  | 0, k + 1, o :: l => shiftO m o :: partL m 0 k l
  | d + 1, k, _ :: l => partL m d k l
/-- k operations from the m-th on, as a region of their own -/
def partOps (m k : Nat) (ops : Array Oper) : Array Oper := (partL m m k ops.toList).toArray
theorem partOps_lit (m k : Nat) (l : List Oper) : partOps m k l.toArray = (partL m m k l).toArray := rfl
theorem partL_eq (m : Nat) : ∀ (d k : Nat) (l : List Oper), partL m d k l = ((l.drop d).take k).map (shiftO m)
  | d, k, [] => by unfold partL; cases d <;> simp
  | 0, 0, _ :: _ => by simp [partL]
  | 0, k + 1, o :: l => by unfold partL; rw [partL_eq m 0 k l]; simp
  | d + 1, k, _ :: l => by
    unfold partL
    rw [partL_eq m d k l]; simp
def mark (m n : Nat) : Array Bool := Array.ofFn (n := n) fun i => decide (i.1 < m)
theorem mark_zero (n : Nat) : mark 0 n = Array.replicate n false := by
  unfold mark
  apply Array.ext
  · simp
  · intro i h1 h2; simp
theorem mark_getD (m n i : Nat) (d : Bool) : (mark m n).getD i d = if i < n then decide (i < m) else d := by
  unfold mark
  by_cases h : i < n <;> simp [h]
theorem partOps_at {m k i : Nat} {ops : Array Oper} (hi : i < k) : (partOps m k ops)[i]? = (ops[m + i]?).map (shiftO m) := by
  unfold partOps
  rw [partL_eq]
  simp [hi]
theorem partOps_none {m k i : Nat} {ops : Array Oper} (hi : k ≤ i) : (partOps m k ops)[i]? = none := by
  unfold partOps
  rw [partL_eq, List.getElem?_toArray]
  refine List.getElem?_eq_none ?_
  rw [List.length_map, List.length_take]
  omega

section
variable {P : Program} {ops C : Array Oper} {Q Q' : Exit → Act → World → Prop} {md : Region.Mode}
theorem wpAny_more : ∀ (f : Nat) (listed : Array Bool) (a : Act) (w : World), wpAny P md ops Q f listed a w → wpAny P md ops Q (f + 1) listed a w
  | 0, listed, a, w, h => ⟨fun _ => h.2, fun i hi => by rw [h.1] at hi; cases hi⟩
  | f + 1, listed, a, w, h => ⟨h.1, fun i hi => wpOp_mono (fun a w => wpAny_more f _ a w) (h.2 i hi)⟩
theorem wpAny_add (x : Nat) {f : Nat} {listed : Array Bool} {a : Act} {w : World} (h : wpAny P md ops Q f listed a w) : wpAny P md ops Q (x + f) listed a w := by
  induction x with
  | zero => rwa [Nat.zero_add]
  | succ x ih => rw [Nat.add_right_comm]; exact wpAny_more _ _ _ _ ih
theorem wpOp_keep {i : Nat} {o : Oper} (ho : ops[i]? = some o) {K : Act → World → Prop} {G : Act → Prop} {a : Act} {w : World} (hG : G a) (hput : ∀ a v, G a → G (a.put o.dst v)) (hdef : ∀ a d, G a → G { a with defers := d :: a.defers })
    (h : wpOp P ops Q i K a w) : wpOp P ops Q i (fun a' w' => G a' ∧ K a' w') a w := by
  unfold wpOp at *
  simp only [ho] at *
  split
  · rename_i hw
    simp only [hw, if_true] at h
    rcases h with h | h
    case inr => exact .inr h
    refine .inl ?_
    unfold Oper.wp at *
    generalize (execOp a.eval o).run P w = r at *
    cases r with
    | ok n w' =>
      cases n <;> simp only [Oper.upon] at h ⊢
      case value u => exact ⟨hput _ _ hG, h⟩
      case skip => exact ⟨hput _ _ hG, h⟩
      case defer d => exact ⟨hput _ _ (hdef _ _ hG), h⟩
      case enter f args =>
        refine Calls.mono h fun e w'' he => ?_
        cases e with
        | returned u => exact ⟨hput _ _ hG, he⟩
        | panicked c => exact he
        | outgrown => exact he
      case row row args => exact Rows.mono h fun u w'' he => ⟨hput _ _ hG, he⟩
    | halt x w' => cases x <;> simp only [Oper.upon] at h ⊢ <;> exact h
  · rename_i hw
    simp only [hw] at h
    exact ⟨hput _ _ hG, h⟩
theorem wpOp_part {m i j : Nat} {o : Oper} (ho : ops[j]? = some o) (hc : C[i]? = some (shiftO m o)) {a : Act} {w : World} (hw : Region.wanted o (yielded ops a.tmps) = Region.wanted (shiftO m o) (yielded C a.tmps))
    (hQp : ∀ c a w, Q' (.panic c) a w → Q (.panic c) a w) (hQo : LetsOut Q' → LetsOut Q) {K : Act → World → Prop} (h : wpOp P C Q' i K a w) : wpOp P ops Q j K a w := by
  unfold wpOp at *
  simp only [ho, hc] at *
  rw [hw]
  split
  · rename_i hw
    simp only [hw, if_true] at h
    rcases h with h | ⟨h1, h2⟩
    case inr => exact .inr ⟨h1, hQo h2⟩
    refine .inl ?_
    unfold Oper.wp at *
    rw [show execOp a.eval (shiftO m o) = execOp a.eval o from rfl] at h
    generalize (execOp a.eval o).run P w = r at *
    cases r with
    | ok n w' =>
      cases n <;> simp only [Oper.upon] at h ⊢
      case value u => exact h
      case skip => exact h
      case defer d => exact h
      case enter f args =>
        refine Calls.mono h fun e w'' he => ?_
        cases e with
        | returned u => exact he
        | panicked c => exact hQp _ _ _ he
        | outgrown => exact hQo he
      case row row args => exact h
    | halt x w' => cases x <;> simp only [Oper.upon] at h ⊢; exact hQp _ _ _ h
  · rename_i hw
    simp only [hw] at h
    exact h
end

def okPart (md : Region.Mode) (m k : Nat) (ops : Array Oper) : Bool :=
  decide (m + k ≤ ops.size) && decide (0 < k) &&
  ((List.range ops.size).all fun j => decide (j < m + k) || (match ops[j]? with | some o => o.after.any (fun e => Region.binds md e && (e.on == m + k - 1 || decide (m + k ≤ e.on))) | none => true)) &&
  ((List.range (k - 1)).all fun i => (List.range k).any fun j => decide (i < j) && (match ops[m + j]? with | some o => o.after.any (fun e => Region.binds md e && e.on == m + i) | none => false)) &&
  ((List.range k).all fun i => match ops[m + i]? with
    | some o => o.after.all (fun e => !Region.binds md e || decide (e.on < m + i)) && (match o.guard with
        | some (g, _) => if g < m then (List.range k).all (fun i2 => match ops[m + i2]? with | some o2 => o2.dst != (ops[g]?).bind (·.dst) || o2.dst.isNone | none => true) else decide (g < m + k)
        | none => true)
    | none => true)
def grdOk (m k : Nat) (ops : Array Oper) (tmps : Array Value) : Bool :=
  (List.range k).all fun i => match ops[m + i]? with | some o => (match o.guard with | some (g, b) => decide (m ≤ g) || yielded ops tmps g == some b | none => true) | none => true

section
variable {P : Program} {ops : Array Oper} {Q : Exit → Act → World → Prop} {md : Region.Mode} {m k : Nat}
/-- behind the part: what is left -/
def behind (P : Program) (md : Region.Mode) (ops : Array Oper) (Q : Exit → Act → World → Prop) (m f : Nat) : Exit → Act → World → Prop
  | .normal, a, w => wpAny P md ops Q f (mark m ops.size) a w
  | e, a, w => Q e a w
structure PartOk (md : Region.Mode) (m k : Nat) (ops : Array Oper) : Prop where
  size : m + k ≤ ops.size
  pos : 0 < k
  back : ∀ j o, ops[j]? = some o → m + k ≤ j → ∃ e ∈ o.after, Region.binds md e = true ∧ (e.on = m + k - 1 ∨ m + k ≤ e.on)
  chain : ∀ i, i < k - 1 → ∃ j o, i < j ∧ j < k ∧ ops[m + j]? = some o ∧ ∃ e ∈ o.after, Region.binds md e = true ∧ e.on = m + i
  down : ∀ i o, i < k → ops[m + i]? = some o → ∀ e ∈ o.after, Region.binds md e = true → e.on < m + i
  grd : ∀ i o g b, i < k → ops[m + i]? = some o → o.guard = some (g, b) → (g < m ∧ ∀ i2 o2 d, i2 < k → ops[m + i2]? = some o2 → o2.dst = some d → (ops[g]?).bind (·.dst) ≠ some d) ∨ (m ≤ g ∧ g < m + k)
theorem okPart_spec (h : okPart md m k ops = true) : PartOk md m k ops := by
  unfold okPart at h
  simp only [Bool.and_eq_true, decide_eq_true_eq, List.all_eq_true, List.mem_range, Bool.or_eq_true, List.any_eq_true] at h
  obtain ⟨⟨⟨⟨h1, h2⟩, h3⟩, h4⟩, h5⟩ := h
  refine ⟨h1, h2, fun j o ho hj => ?_, fun i hi => ?_, fun i o hi ho e he hb => ?_, fun i o g b hi ho hg => ?_⟩
  · have hlt := (Array.getElem?_eq_some_iff.1 ho).1
    rcases h3 j hlt with h | h
    · omega
    · rw [ho] at h
      simp only [Array.any_eq_true'] at h
      obtain ⟨e, he, hb⟩ := h
      simp only [Bool.and_eq_true, Bool.or_eq_true, beq_iff_eq, decide_eq_true_eq] at hb
      exact ⟨e, he, hb.1, hb.2⟩
  · obtain ⟨j, hj, hij, hm⟩ := h4 i hi
    cases ho : ops[m + j]? with
    | none => rw [ho] at hm; cases hm
    | some o =>
      rw [ho] at hm
      simp only [Array.any_eq_true'] at hm
      obtain ⟨e, he, hb⟩ := hm
      simp only [Bool.and_eq_true, beq_iff_eq] at hb
      exact ⟨j, o, hij, hj, ho, e, he, hb.1, hb.2⟩
  · have h := h5 i hi
    rw [ho] at h
    simp only [Bool.and_eq_true] at h
    have h' := Array.all_eq_true_iff_forall_mem.1 h.1 e he
    simp only [Bool.or_eq_true, Bool.not_eq_true', decide_eq_true_eq, hb] at h'
    rcases h' with h' | h'
    · cases h'
    · exact h'
  · have h := h5 i hi
    rw [ho] at h
    simp only [Bool.and_eq_true, hg] at h
    have h := h.2
    by_cases hgm : g < m
    · rw [if_pos hgm] at h
      refine .inl ⟨hgm, fun i2 o2 d hi2 ho2 hd => ?_⟩
      simp only [List.all_eq_true, List.mem_range] at h
      have h := h i2 hi2
      rw [ho2] at h
      simp only [hd, Bool.or_eq_true, bne_iff_ne, Option.isNone_some, Bool.false_eq_true, or_false] at h
      exact fun e => h e.symm
    · rw [if_neg hgm] at h
      exact .inr ⟨by omega, by simpa using h⟩
theorem grdOk_spec {tmps : Array Value} (h : grdOk m k ops tmps = true) (i : Nat) (o : Oper) (g : Nat) (b : Bool) (hi : i < k) (ho : ops[m + i]? = some o) (hg : o.guard = some (g, b)) (hgm : g < m) : yielded ops tmps g = some b := by
  unfold grdOk at h
  simp only [List.all_eq_true, List.mem_range] at h
  have h := h i hi
  rw [ho] at h
  simp only [hg, Bool.or_eq_true, decide_eq_true_eq, beq_iff_eq] at h
  rcases h with h | h
  · omega
  · exact h

theorem getD_any {l : Array Bool} {j : Nat} (h : j < l.size) (d d' : Bool) : l.getD j d = l.getD j d' := by simp [h]
theorem getD_set {l : Array Bool} {i j : Nat} (hi : i < l.size) (d : Bool) : (l.setIfInBounds i true).getD j d = if i = j then true else l.getD j d := by
  by_cases h : i = j
  · subst h; simp [hi]
  · rw [if_neg h, getD_set_ne d h]
theorem mem_shiftA (m : Nat) (e' : Go.Edge) : ∀ (l : List Go.Edge), e' ∈ shiftA m l ↔ ∃ e ∈ l, m ≤ e.on ∧ e' = { e with on := e.on - m }
  | [] => by simp [shiftA]
  | e :: l => by
    unfold shiftA
    split
    · rename_i h
      simp only [List.mem_cons, mem_shiftA m e' l]
      constructor
      · rintro (rfl | ⟨x, hx, h1, h2⟩)
        · exact ⟨e, .inl rfl, h, rfl⟩
        · exact ⟨x, .inr hx, h1, h2⟩
      · rintro ⟨x, rfl | hx, h1, h2⟩
        · exact .inl h2
        · exact .inr ⟨x, hx, h1, h2⟩
    · rename_i h
      simp only [List.mem_cons, mem_shiftA m e' l]
      constructor
      · rintro ⟨x, hx, h1, h2⟩
        exact ⟨x, .inr hx, h1, h2⟩
      · rintro ⟨x, rfl | hx, h1, h2⟩
        · exact absurd h1 h
        · exact ⟨x, hx, h1, h2⟩
theorem shift_edge {e' : Go.Edge} {o : Oper} (h : e' ∈ (shiftO m o).after) : ∃ e ∈ o.after, m ≤ e.on ∧ e'.on = e.on - m ∧ Region.binds md e' = Region.binds md e := by
  unfold shiftO at h
  simp only [List.mem_toArray, mem_shiftA, Array.mem_toList_iff] at h
  obtain ⟨e, h1, h2, rfl⟩ := h
  exact ⟨e, h1, h2, rfl, rfl⟩
structure Inv (m k : Nat) (ops : Array Oper) (md : Region.Mode) (L listed : Array Bool) : Prop where
  s1 : listed.size = ops.size
  s2 : L.size = k
  same : ∀ i, i < k → ∀ d, L.getD i d = listed.getD (m + i) d
  lo : ∀ i, i < m → ∀ d, listed.getD i d = true
  hi : ∀ j, m + k ≤ j → j < ops.size → ∀ d, listed.getD j d = false
  cl : ∀ i o, i < k → ops[m + i]? = some o → listed.getD (m + i) false = true → ∀ e ∈ o.after, Region.binds md e = true → listed.getD e.on false = true
theorem Inv.mark_ {L listed : Array Bool} (I : Inv m k ops md L listed) (h : ∀ i, i < k → listed.getD (m + i) false = true) : listed = mark (m + k) ops.size := by
  apply Array.ext
  · rw [I.s1]; unfold mark; simp
  · intro i h1 h2
    have e1 : listed[i] = listed.getD i false := by simp [h1]
    have e2 : (mark (m + k) ops.size)[i] = (mark (m + k) ops.size).getD i false := by simp [h2]
    rw [e1, e2, mark_getD, if_pos (by rw [← I.s1]; exact h1)]
    by_cases h3 : i < m
    · rw [I.lo i h3, decide_eq_true (by omega)]
    · by_cases h4 : i < m + k
      · have := h (i - m) (by omega)
        rw [show m + (i - m) = i by omega] at this
        rw [this, decide_eq_true h4]
      · rw [I.hi i (by omega) (by rw [← I.s1]; exact h1), decide_eq_false h4]
theorem Inv.some_ready (H : PartOk md m k ops) {L listed : Array Bool} (I : Inv m k ops md L listed) : ∀ i, i < k → listed.getD (m + i) false = false → Region.ready md (partOps m k ops) L ≠ [] := by
  intro i
  induction i using Nat.strongRecOn with
  | _ i ih =>
    intro hi hf
    by_cases hall : ∀ i', i' < i → listed.getD (m + i') false = true
    · have hlt : m + i < ops.size := by have := H.size; omega
      have ho : ops[m + i]? = some ops[m + i] := Array.getElem?_eq_getElem hlt
      have hmem : i ∈ Region.ready md (partOps m k ops) L := by
        rw [mem_ready]
        refine ⟨by rw [I.same i hi, getD_any (by rw [I.s1]; exact hlt) true false]; exact hf, shiftO m ops[m + i], by rw [partOps_at hi, ho]; rfl, fun e' he' hb => ?_⟩
        obtain ⟨e, he, hm, hon, hbb⟩ := shift_edge (md := md) he'
        have hd := H.down i _ hi ho e he (by rw [← hbb]; exact hb)
        rw [hon, I.same _ (by omega)]
        exact hall _ (by omega)
      intro h0
      rw [h0] at hmem
      cases hmem
    · simp only [Classical.not_forall] at hall
      obtain ⟨i', hi', hn⟩ := hall
      exact ih i' hi' (by omega) (by simpa using hn)
theorem Inv.all_listed (H : PartOk md m k ops) {L listed : Array Bool} (I : Inv m k ops md L listed) (h : listed.getD (m + k - 1) false = true) : ∀ x i, i + x = k - 1 → listed.getD (m + i) false = true := by
  intro x
  induction x using Nat.strongRecOn with
  | _ x ih =>
    intro i hx
    have hp := H.pos
    by_cases h0 : x = 0
    · rw [show m + i = m + k - 1 by omega]; exact h
    · obtain ⟨j, o, hij, hjk, ho, e, he, hb, hon⟩ := H.chain i (by omega)
      have := I.cl j o hjk ho (ih (k - 1 - j) (by omega) j (by omega)) e he hb
      rwa [hon] at this
theorem Inv.ready_in (H : PartOk md m k ops) {L listed : Array Bool} (I : Inv m k ops md L listed) {i0 : Nat} (hi0 : i0 < k) (hf : listed.getD (m + i0) false = false) {j : Nat} (hj : j ∈ Region.ready md ops listed) :
    ∃ i o, i < k ∧ j = m + i ∧ ops[m + i]? = some o ∧ i ∈ Region.ready md (partOps m k ops) L ∧ ∀ e ∈ o.after, Region.binds md e = true → listed.getD e.on false = true := by
  obtain ⟨hun, o, ho, hall⟩ := mem_ready.1 hj
  have hlt := (Array.getElem?_eq_some_iff.1 ho).1
  have h1 : ¬ j < m := fun h => by rw [I.lo j h] at hun; cases hun
  have h2 : ¬ m + k ≤ j := fun h => by
    obtain ⟨e, he, hb, hon⟩ := H.back j o ho h
    have hl := hall e he hb
    rcases hon with hon | hon
    · rw [hon] at hl
      rw [I.all_listed H hl (k - 1 - i0) i0 (by omega)] at hf
      cases hf
    · by_cases hs : e.on < ops.size
      · rw [I.hi _ hon hs] at hl; cases hl
      · simp [I.s1, hs] at hl
  obtain ⟨i, rfl⟩ : ∃ i, j = m + i := ⟨j - m, by omega⟩
  have hi : i < k := by omega
  refine ⟨i, o, hi, rfl, ho, ?_, hall⟩
  rw [mem_ready]
  refine ⟨by rw [I.same i hi]; exact hun, shiftO m o, by rw [partOps_at hi, ho]; rfl, fun e' he' hb => ?_⟩
  obtain ⟨e, he, hm, hon, hbb⟩ := shift_edge (md := md) he'
  have hb2 : Region.binds md e = true := by rw [← hbb]; exact hb
  have hd := H.down i _ hi ho e he hb2
  rw [hon, I.same _ (by omega), show m + (e.on - m) = e.on by omega]
  exact hall e he hb2
theorem Inv.none_ready {L listed : Array Bool} (I : Inv m k ops md L listed) (h : ∀ i, i < k → listed.getD (m + i) false = true) (hs : m + k ≤ ops.size) : Region.ready md (partOps m k ops) L = [] := by
  apply List.eq_nil_iff_forall_not_mem.2
  intro i hi
  obtain ⟨hun, o, ho, _⟩ := mem_ready.1 hi
  by_cases hk : i < k
  · rw [I.same i hk, getD_any (by rw [I.s1]; omega) true false, h i hk] at hun
    cases hun
  · rw [partOps_none (by omega)] at ho
    cases ho
theorem Inv.step (H : PartOk md m k ops) {L listed : Array Bool} (I : Inv m k ops md L listed) {i : Nat} {o : Oper} (hi : i < k) (ho : ops[m + i]? = some o) (hall : ∀ e ∈ o.after, Region.binds md e = true → listed.getD e.on false = true) :
    Inv m k ops md (L.setIfInBounds i true) (listed.setIfInBounds (m + i) true) := by
  have hlt : m + i < listed.size := by rw [I.s1]; have := H.size; omega
  refine ⟨by simpa using I.s1, by simpa using I.s2, fun i' hi' d => ?_, fun i' hi' d => ?_, fun j hj hs d => ?_, fun i' o' hi' ho' hl e he hb => ?_⟩
  · rw [getD_set (by rw [I.s2]; exact hi), getD_set hlt, I.same i' hi']
    by_cases h : i = i'
    · rw [if_pos h, if_pos (by omega)]
    · rw [if_neg h, if_neg (by omega)]
  · rw [getD_set hlt, I.lo i' hi']; simp
  · rw [getD_set hlt, if_neg (by omega), I.hi j hj hs]
  · by_cases h : i' = i
    · subst h
      rw [ho] at ho'
      cases ho'
      exact getD_set_true (hall e he hb)
    · rw [getD_set hlt, if_neg (by omega)] at hl
      exact getD_set_true (I.cl i' o' hi' ho' hl e he hb)
theorem peel_go (H : PartOk md m k ops) (f2 : Nat) : ∀ (fc : Nat) (L listed : Array Bool) (a : Act) (w : World), Inv m k ops md L listed →
    (∀ i o g b, i < k → ops[m + i]? = some o → o.guard = some (g, b) → g < m → yielded ops a.tmps g = some b) →
    wpAny P md (partOps m k ops) (behind P md ops Q (m + k) f2) fc L a w → wpAny P md ops Q (fc + f2) listed a w := by
  intro fc
  induction fc with
  | zero =>
    intro L listed a w I hg h
    have hdone : ∀ i, i < k → listed.getD (m + i) false = true := fun i hi => by
      cases hf : listed.getD (m + i) false with
      | true => rfl
      | false => exact absurd h.1 (I.some_ready H i hi hf)
    rw [Nat.zero_add, I.mark_ hdone]
    exact h.2
  | succ fc ih =>
    intro L listed a w I hg h
    by_cases hdone : ∀ i, i < k → listed.getD (m + i) false = true
    · have := h.1 (I.none_ready hdone H.size)
      rw [I.mark_ hdone]
      exact wpAny_add (fc + 1) this
    · simp only [Classical.not_forall] at hdone
      obtain ⟨i0, hi0, hn⟩ := hdone
      have hf : listed.getD (m + i0) false = false := by simpa using hn
      rw [Nat.add_right_comm]
      refine ⟨fun hr => ?_, fun j hj => ?_⟩
      · exfalso
        have hne := I.some_ready H i0 hi0 hf
        cases hC : Region.ready md (partOps m k ops) L with
        | nil => exact hne hC
        | cons x xs =>
          have hx : x ∈ Region.ready md (partOps m k ops) L := by rw [hC]; exact List.mem_cons_self ..
          obtain ⟨hun, o', ho', hall'⟩ := mem_ready.1 hx
          have hxk : x < k := by
            rcases Nat.lt_or_ge x k with h | h
            · exact h
            · rw [partOps_none h] at ho'; cases ho'
          rw [partOps_at hxk] at ho'
          cases ho : ops[m + x]? with
          | none => rw [ho] at ho'; cases ho'
          | some o =>
            rw [ho] at ho'
            cases ho'
            have : m + x ∈ Region.ready md ops listed := by
              rw [mem_ready]
              refine ⟨by rw [← I.same x hxk]; exact hun, o, ho, fun e he hb => ?_⟩
              have hd := H.down x o hxk ho e he hb
              by_cases hm : e.on < m
              · exact I.lo _ hm _
              · have hmem : ({ e with on := e.on - m } : Go.Edge) ∈ (shiftO m o).after := by
                  unfold shiftO
                  simp only [List.mem_toArray, mem_shiftA, Array.mem_toList_iff]
                  exact ⟨e, he, by omega, rfl⟩
                have := hall' _ hmem hb
                simp only at this
                rw [I.same _ (by omega), show m + (e.on - m) = e.on by omega] at this
                exact this
            rw [hr] at this
            cases this
      · obtain ⟨i, o, hi, rfl, ho, hiC, hall⟩ := I.ready_in H hi0 hf hj
        have hstep := h.2 i hiC
        have hwant : Region.wanted o (yielded ops a.tmps) = Region.wanted (shiftO m o) (yielded (partOps m k ops) a.tmps) := by
          unfold Region.wanted shiftO
          cases hgd : o.guard with
          | none => rfl
          | some gb =>
            obtain ⟨g, b⟩ := gb
            rcases H.grd i o g b hi ho hgd with ⟨h1, _⟩ | ⟨h1, h2⟩
            · simp only [shiftG, if_pos h1]
              rw [hg i o g b hi ho hgd h1]
              simp
            · simp only [shiftG, if_neg (Nat.not_lt.2 h1)]
              have : yielded ops a.tmps g = yielded (partOps m k ops) a.tmps (g - m) := by
                unfold yielded
                rw [partOps_at (by omega), show m + (g - m) = g by omega]
                cases ops[g]? <;> rfl
              rw [this]
        have h1 := wpOp_part (C := partOps m k ops) (Q := Q) ho (by rw [partOps_at hi, ho]; rfl) hwant (fun c a w h => h) (fun h => h) hstep
        have h2 := wpOp_keep ho (G := fun a => ∀ i o g b, i < k → ops[m + i]? = some o → o.guard = some (g, b) → g < m → yielded ops a.tmps g = some b) hg (fun a v hG i2 o2 g b hi2 ho2 hgd hgm => by
          rw [← hG i2 o2 g b hi2 ho2 hgd hgm]
          rcases H.grd i2 o2 g b hi2 ho2 hgd with ⟨_, hd⟩ | ⟨h1, _⟩
          · cases hdst : o.dst with
            | none => rfl
            | some d =>
              have hne := hd i o d hi ho hdst
              unfold yielded
              cases hb : (ops[g]?).bind (·.dst) with
              | none => rfl
              | some t =>
                have : d ≠ t := fun e => hne (by rw [hb, e])
                simp [Act.put, Array.getElem?_setIfInBounds_ne this]
          · omega) (fun a d hG => hG) h1
        exact wpOp_mono (fun a' w' h => ih (L.setIfInBounds i true) (listed.setIfInBounds (m + i) true) a' w' (I.step H hi ho hall) h.1 h.2) h2
/-- a part of the region is taken: as a region of its own -/
theorem peel (k : Nat) (h1 : okPart md m k ops = true) {a : Act} {w : World} {f : Nat} (h2 : grdOk m k ops a.tmps = true) (f2 : Nat) (hf : k + f2 = f)
    (h : wpAny P md (partOps m k ops) (behind P md ops Q (m + k) f2) k (Array.replicate k false) a w) : wpAny P md ops Q f (mark m ops.size) a w := by
  subst hf
  have H := okPart_spec h1
  refine peel_go H f2 k _ _ a w ⟨?_, by simp, fun i hi d => ?_, fun i hi d => ?_, fun j hj hs d => ?_, fun i o hi ho hl => ?_⟩ (fun i o g b hi ho hg hgm => grdOk_spec h2 i o g b hi ho hg hgm) h
  · unfold mark; simp
  · have := H.size
    rw [mark_getD, if_pos (by omega), decide_eq_false (by omega)]
    simp [hi]
  · have := H.size
    rw [mark_getD, if_pos (by omega), decide_eq_true hi]
  · rw [mark_getD, if_pos hs, decide_eq_false (by omega)]
  · have := H.size
    rw [mark_getD, if_pos (by omega), decide_eq_false (by omega)] at hl
    cases hl
/-- the same, what stands behind the part under one name -/
theorem peelQ (k : Nat) (h1 : okPart md m k ops = true) {a : Act} {w : World} {f : Nat} (h2 : grdOk m k ops a.tmps = true) (f2 : Nat) (hf : k + f2 = f) (hQ : ∀ c a d v w, Q (.panic c) (Act.put a d v) w → Q (.panic c) a w)
    (h : ∀ QQ : Exit → Act → World → Prop, (∀ c a d v w, QQ (.panic c) (Act.put a d v) w → QQ (.panic c) a w) → Shut (∀ a w, wpAny P md ops Q f2 (mark (m + k) ops.size) a w → QQ .normal a w) → wpAny P md (partOps m k ops) QQ k (Array.replicate k false) a w) :
    wpAny P md ops Q f (mark m ops.size) a w :=
  peel k h1 h2 f2 hf (h _ (fun c a d v w h => hQ c a d v w h) (fun _ _ h => h))
theorem peel_start {id : Nat} {a : Act} {w : World} (hm : P.follows .mixedOrders = true) (h : wpAny P .any ops Q ops.size (mark 0 ops.size) a w.drew) : (Code.region id ops true).wp P Q a w :=
  wp_region_any hm (by rw [← mark_zero]; exact h)
theorem peel_end {a : Act} {w : World} {f : Nat} (h : Q .normal a w) : wpAny P md ops Q f (mark ops.size ops.size) a w := by
  refine wpAny_done ?_ h f
  apply List.eq_nil_iff_forall_not_mem.2
  intro i hi
  obtain ⟨hun, o, ho, _⟩ := mem_ready.1 hi
  have hlt := (Array.getElem?_eq_some_iff.1 ho).1
  rw [mark_getD, if_pos hlt, decide_eq_true hlt] at hun
  cases hun
end
end Go.Proofs.YtgakhpdclhlmpaaGreat
