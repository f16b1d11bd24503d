/- Looking at a history: witnesses. -/
import Derived.Test.YtgakhpdclhlmpaaChkD
namespace Go.Proofs.Ytgakhpdclhlmpaa
set_option linter.unusedVariables false
open Go.RowKit
def badV (b : HBad) : Value := .agg #[.int .i64 b.tx, .int .i64 b.place, .int .i64 b.of.tx, .int .i64 b.of.key, .int .i64 b.of.nth]
theorem ver_equalD (w : World) (n : Nat) (a b c a' b' c' : Int) : (Op.equalIn (n + 1 + 1) 34 (.agg #[.int .i64 a, .int .i64 b, .int .i64 c]) (.agg #[.int .i64 a', .int .i64 b', .int .i64 c'])).run Try.prog w = .ok (decide ((⟨a, b, c⟩ : Ver) = ⟨a', b', c'⟩)) w := by
  rw [run_equalIn_struct w _ _ _ _ (by kernel_rfl) (by kernel_rfl)]
  have hI : ∀ (w : World) (d : Nat) (x y : Int), (Op.equalIn (d + 1) 3 (.int .i64 x) (.int .i64 y)).run Try.prog w = .ok (x == y) w := fun w d x y => run_equalIn_int w d _ _ _ x y Try.underlying3
  by_cases h1 : a = a' <;> by_cases h2 : b = b' <;> by_cases h3 : c = c' <;>
    simp [Program.fieldsOf, Try.underlying34, Op.eqFields, part, hI, h1, h2, h3, Result.andThen]
theorem bad_equal (w : World) (x y : HBad) : (Op.equalIn 10000 36 (badV x) (badV y)).run Try.prog w = .ok (decide (x = y)) w := by
  obtain ⟨a, b, ⟨c, d, e⟩⟩ := x
  obtain ⟨a', b', ⟨c', d', e'⟩⟩ := y
  unfold badV
  show (Op.equalIn (9997 + 1 + 1 + 1) _ _ _).run _ w = _
  rw [run_equalIn_struct w _ _ _ _ (by kernel_rfl) (by kernel_rfl)]
  generalize 9997 = n
  have hI : ∀ (w : World) (d : Nat) (x y : Int), (Op.equalIn (d + 1) 3 (.int .i64 x) (.int .i64 y)).run Try.prog w = .ok (x == y) w := fun w d x y => run_equalIn_int w d _ _ _ x y Try.underlying3
  have hV := fun w => ver_equalD w n c d e c' d' e'
  have hp : ∀ (w : World) (q r c d e : Value), (part 34 #[q, r, c, d, e] 2).run Try.prog w = .ok (.agg #[c, d, e]) w := fun w q r c d e => by
    obtain ⟨i, hi, _, hs, _⟩ := info_parts (P := Try.prog) (e := 34) (z := .agg #[.int .i64 0, .int .i64 0, .int .i64 0]) (size := 3) (bytes := 24) (by kernel_rfl)
    simp [part, isAgg, run_underlying Try.underlying34, sizeOf, typeInfo, hi, hs, Result.andThen]
  have hp0 : ∀ (w : World) (q r c d e : Value), (part 3 #[q, r, c, d, e] 0).run Try.prog w = .ok q w := fun w q r c d e => by simp [part, isAgg, run_underlying Try.underlying3]
  have hp1 : ∀ (w : World) (q r c d e : Value), (part 3 #[q, r, c, d, e] 1).run Try.prog w = .ok r w := fun w q r c d e => by simp [part, isAgg, run_underlying Try.underlying3]
  by_cases h1 : a = a' <;> by_cases h2 : b = b' <;> by_cases h3 : (⟨c, d, e⟩ : Ver) = ⟨c', d', e'⟩ <;>
    simp [Program.fieldsOf, Try.underlying36, Op.eqFields, hp, hp0, hp1, hI, hV, h1, h2, h3, Result.andThen]
theorem bad_neq (w : World) (x y : HBad) : (binOp .neq 36 (.agg #[.int .i64 x.tx, .int .i64 x.place, .int .i64 x.of.tx, .int .i64 x.of.key, .int .i64 x.of.nth]) (.agg #[.int .i64 y.tx, .int .i64 y.place, .int .i64 y.of.tx, .int .i64 y.of.key, .int .i64 y.of.nth])).run Try.prog w = .ok (.bool (x != y)) w := by
  have := bad_equal w x y
  unfold badV at this
  rw [run_neq_struct, this]
  simp only [Result.andThen]
  by_cases h : x = y <;> simp [h]
section
variable {h : Hist} {p : Int} {l : List Edge} {b : HBad}
theorem acc_not (hr : rightB h = false) : acceptB h p l b = false := by unfold acceptB; rw [hr]; rfl
theorem acc_bad (hr : rightB h = true) (hp : p = 2 ∨ p = 3) : acceptB h p l b = (decide (l.length = 0) && badB h.txs p b) := by unfold acceptB; rw [hr, if_pos hp]; rfl
theorem acc_walk (hr : rightB h = true) (hp : ¬ (p = 2 ∨ p = 3)) : acceptB h p l b = (!(maskP p == 0) && b == noBad && closedB l && kindsOk (maskOf l) p && l.all (edgeB h)) := by unfold acceptB; rw [hr, if_neg hp]; rfl
end
theorem hrightV {F : Nat → Prop} {w : World} {txs : List HTx} {ords : List HOrd} {A : Option Addr} {c : Nat} {B : Option Addr} {d : Nat} {r : Bool} (H : Hist.lies F w ⟨txs, ords, A, c, B, d⟩) (hr : rightB ⟨txs, ords, A, c, B, d⟩ = r) :
    Calls Try.prog 134 #[.agg #[.slice A txs.length c, .slice B ords.length d]] w fun e w' => e = .returned (.bool r) ∧ Upd No w w' := by subst hr; exact hright F w ⟨txs, ords, A, c, B, d⟩ H
theorem cbadV {F : Nat → Prop} {w : World} {txs : List HTx} {ords : List HOrd} {A : Option Addr} {c : Nat} {B : Option Addr} {d : Nat} {p x pl vt vk vn : Int} {r : Bool} (H : Hist.lies F w ⟨txs, ords, A, c, B, d⟩) (hr : badB txs p ⟨x, pl, ⟨vt, vk, vn⟩⟩ = r) :
    Calls Try.prog 135 #[.agg #[.slice A txs.length c, .slice B ords.length d], .int .i64 p, .agg #[.int .i64 x, .int .i64 pl, .int .i64 vt, .int .i64 vk, .int .i64 vn]] w fun e w' => e = .returned (.bool r) ∧ Upd No w w' := by subst hr; exact cbad F w txs ords A c B d p ⟨x, pl, ⟨vt, vk, vn⟩⟩ H
theorem cedgeV {F : Nat → Prop} {w : World} {txs : List HTx} {ords : List HOrd} {A : Option Addr} {c : Nat} {B : Option Addr} {d : Nat} {e : Edge} {r : Bool} (H : Hist.lies F w ⟨txs, ords, A, c, B, d⟩) (hr : edgeB ⟨txs, ords, A, c, B, d⟩ e = r) :
    Calls Try.prog 137 #[.agg #[.slice A txs.length c, .slice B ords.length d], .agg #[.int .i64 e.f, .int .i64 e.t, .int .i64 e.k, .int .i64 e.key]] w fun q w' => q = .returned (.bool r) ∧ Upd No w w' := by subst hr; exact cedge F w txs ords A c B d e H
theorem all_edges_no {h : Hist} {l : List Edge} {k : Nat} (hk : k < l.length) (he : edgeB h l[k] = false) : l.all (edgeB h) = false := by
  rw [List.all_eq_false]
  exact ⟨l[k], List.getElem_mem hk, by rw [he]; decide⟩
theorem all_edges_yes {h : Hist} {l : List Edge} (he : ∀ (j : Nat) (hj : j < l.length), edgeB h l[j] = true) : l.all (edgeB h) = true := by
  rw [List.all_eq_true]
  intro x hx
  obtain ⟨k, hk, rfl⟩ := List.mem_iff_getElem.1 hx
  exact he k hk
set_option maxRecDepth 100000 in
set_option maxHeartbeats 8000000 in
theorem caccept (F G : Nat → Prop) (w : World) (h : Hist) (p : Int) (X : Option Addr) (xc : Nat) (l : List Edge) (b : HBad) (H : h.lies F w) (W : Walk G w X l) (hl : l.length ≤ 1000000) :
    Calls Try.prog 75 #[h.val, .agg #[.int .i64 p, .slice X l.length xc, .int .i64 b.tx, .int .i64 b.place, .int .i64 b.of.tx, .int .i64 b.of.key, .int .i64 b.of.nth]] w fun e w' => e = .returned (.bool (acceptB h p l b)) ∧ Upd No w w' := by
  obtain ⟨txs, ords, A, c, B, d⟩ := h
  obtain ⟨bx, bp, ⟨vt, vk, vn⟩⟩ := b
  unfold Hist.val
  have u0 := ((Upd.refl No w).alloc (.cells #[.slice A txs.length c, .slice B ords.length d] 45)).alloc (.cells #[.int .i64 p, .slice X l.length xc, .int .i64 bx, .int .i64 bp, .int .i64 vt, .int .i64 vk, .int .i64 vn] 38)
  have bH := Lib.hid ((Blk.new w 45 [.slice A txs.length c, .slice B ords.length d]).alloc (.cells #[.int .i64 p, .slice X l.length xc, .int .i64 bx, .int .i64 bp, .int .i64 vt, .int .i64 vk, .int .i64 vn] 38))
  have b1 := Blk.new (w.alloc (.cells #[.slice A txs.length c, .slice B ords.length d] 45)) 38 [.int .i64 p, .slice X l.length xc, .int .i64 bx, .int .i64 bp, .int .i64 vt, .int .i64 vk, .int .i64 vn]
  simp only [World.size_alloc] at b1
  have bW := Lib.hid b1
  have qN := bad_neq
  have HQ := Lib.hid qN
  have H0 := Lib.hid (H.upd u0 (fun _ _ => id))
  clear b1 qN
  cases hr : rightB ⟨txs, ords, A, c, B, d⟩
  · have hv := Lib.hid (acc_not (p := p) (l := l) (b := ⟨bx, bp, ⟨vt, vk, vn⟩⟩) hr)
    have Hr := Lib.hid hr
    clear hr
    go_enter Try.func75, Try.ntmps75
    go_wp2_with fail
    refine (hrightV H0.out Hr.out).mono ?_
    rintro e w1 ⟨rfl, hu1⟩
    go_wp2
    go_ret
    exact ⟨by rw [hv.out]; rfl, u0.trans hu1⟩
  · have Hr := Lib.hid hr
    clear hr
    go_enter Try.func75, Try.ntmps75
    go_wp2_with fail
    refine (hrightV H0.out Hr.out).mono ?_
    rintro e w1 ⟨rfl, hu1⟩
    have uR := hu1.alloc (.cells #[.slice A txs.length c, .slice B ords.length d] 159)
    have bR := Lib.hid (Blk.new w1 159 [.slice A txs.length c, .slice B ords.length d])
    have bW1 := Lib.hid (bW.out.upd uR id)
    have bH1 := bH.out.upd hu1 id
    have U1 := Lib.hid (u0.trans uR)
    have h0 := bH1.cell 0
    have h1 := bH1.cell 1
    have y0 := bW1.out.cell 0
    have y1 := bW1.out.cell 1
    have y2 := bW1.out.cell 2
    have y3 := bW1.out.cell 3
    have y4 := bW1.out.cell 4
    have y5 := bW1.out.cell 5
    have y6 := bW1.out.cell 6
    simp only [List.getElem?_cons_zero, List.getElem?_cons_succ] at h0 h1 y0 y1 y2 y3 y4 y5 y6
    have HB := Lib.hid (fun W' (hW : Upd No (w1.alloc (.cells #[.slice A txs.length c, .slice B ords.length d] 159)) W') => H.upd (U1.out.trans hW) (fun _ _ => id))
    have WB := Lib.hid (fun W' (hW : Upd No (w1.alloc (.cells #[.slice A txs.length c, .slice B ords.length d] 159)) W') => W.upd (U1.out.trans hW) (fun _ _ => id))
    clear u0 hu1 uR bH1
    by_cases hp : p = 2 ∨ p = 3
    · have hv0 := acc_bad (h := ⟨txs, ords, A, c, B, d⟩) (l := l) (b := ⟨bx, bp, ⟨vt, vk, vn⟩⟩) Hr.out hp
      by_cases hl0 : l.length = 0
      · have hlb : ((l.length : Int) == 0) = true := by rw [beq_iff_eq]; omega
        obtain ⟨r, hbr⟩ : ∃ r, badB txs p ⟨bx, bp, ⟨vt, vk, vn⟩⟩ = r := ⟨_, rfl⟩
        have Hb := Lib.hid hbr
        have hv := Lib.hid (show acceptB ⟨txs, ords, A, c, B, d⟩ p l ⟨bx, bp, ⟨vt, vk, vn⟩⟩ = r by rw [hv0, decide_eq_true hl0]; exact hbr)
        clear hl0 hv0 hbr
        rcases hp with hp | hp
        · subst hp
          go_wp2_with fail
          refine (cbadV (HB.out _ (Upd.refl No _)) Hb.out).mono ?_
          rintro e w2 ⟨rfl, hu2⟩
          go_wp2
          go_ret
          exact ⟨by rw [hv.out]; rfl, U1.out.trans hu2⟩
        · subst hp
          go_wp2_with fail
          refine (cbadV (HB.out _ (Upd.refl No _)) Hb.out).mono ?_
          rintro e w2 ⟨rfl, hu2⟩
          go_wp2
          go_ret
          exact ⟨by rw [hv.out]; rfl, U1.out.trans hu2⟩
      · have hlb : ((l.length : Int) == 0) = false := by rw [beq_eq_false_iff_ne]; omega
        have hv := Lib.hid (show acceptB ⟨txs, ords, A, c, B, d⟩ p l ⟨bx, bp, ⟨vt, vk, vn⟩⟩ = false by rw [hv0, decide_eq_false hl0]; rfl)
        clear hl0 hv0
        rcases hp with hp | hp
        · subst hp
          go_wp2
          go_ret
          exact ⟨by rw [hv.out]; rfl, U1.out⟩
        · subst hp
          go_wp2
          go_ret
          exact ⟨by rw [hv.out]; rfl, U1.out⟩
    · have hv0 := acc_walk (h := ⟨txs, ords, A, c, B, d⟩) (l := l) (b := ⟨bx, bp, ⟨vt, vk, vn⟩⟩) Hr.out hp
      have hpb2 : (p == 2) = false := by rw [beq_eq_false_iff_ne]; exact fun e => hp (.inl e)
      have hpb3 : (p == 3) = false := by rw [beq_eq_false_iff_ne]; exact fun e => hp (.inr e)
      clear hp
      obtain ⟨M, hM⟩ : ∃ M, maskP p = M := ⟨_, rfl⟩
      obtain ⟨T, hT⟩ : ∃ T, mustP p = T := ⟨_, rfl⟩
      obtain ⟨K, hK⟩ : ∃ K, maskOf l = K := ⟨_, rfl⟩
      rw [hM, hK] at hv0
      unfold kindsOk at hv0
      rw [hM, hT] at hv0
      have hpm := pmasks (w1.alloc (.cells #[.slice A txs.length c, .slice B ords.length d] 159)) p
      rw [hM, hT] at hpm
      have HPM := Lib.hid hpm
      have HV0 := Lib.hid hv0
      have HK := Lib.hid hK
      clear hpm hv0 hM hT hK
      go_wp2_with fail
      refine (HPM.out).mono ?_
      rintro e w2 ⟨rfl, rfl⟩
      have hmk := wmask _ (w1.alloc (.cells #[.slice A txs.length c, .slice B ords.length d] 159)) X xc l (WB.out _ (Upd.refl No _)) hl
      rw [HK.out] at hmk
      have HMK := Lib.hid hmk
      clear hmk
      go_wp2_with fail
      refine (HMK.out).mono ?_
      rintro e w2 ⟨rfl, hu2⟩
      have bW2 := bW1.out.upd hu2 id
      have bR2 := Lib.hid (bR.out.upd hu2 id)
      have U2 := Lib.hid hu2
      clear y0 y1 y2 y3 y4 y5 y6 h0 h1 hu2
      have y1 := bW2.cell 1
      have y2 := bW2.cell 2
      have y3 := bW2.cell 3
      have y4 := bW2.cell 4
      have y5 := bW2.cell 5
      have y6 := bW2.cell 6
      simp only [List.getElem?_cons_zero, List.getElem?_cons_succ] at y1 y2 y3 y4 y5 y6
      have BW2 := Lib.hid bW2
      clear bW2
      cases hM0 : M == 0
      · have qn := fun w => HQ.out w ⟨bx, bp, ⟨vt, vk, vn⟩⟩ noBad
        simp only [noBad] at qn
        cases hb0 : ((⟨bx, bp, ⟨vt, vk, vn⟩⟩ : HBad) == noBad)
        · have hv := Lib.hid (show acceptB ⟨txs, ords, A, c, B, d⟩ p l ⟨bx, bp, ⟨vt, vk, vn⟩⟩ = false by rw [HV0.out, hb0]; simp)
          have qn2 := fun w => (qn w).trans (by rw [show ((⟨bx, bp, ⟨vt, vk, vn⟩⟩ : HBad) != ⟨0, 0, ⟨0, 0, 0⟩⟩) = true from by unfold bne; rw [show ((⟨bx, bp, ⟨vt, vk, vn⟩⟩ : HBad) == ⟨0, 0, ⟨0, 0, 0⟩⟩) = false from hb0]; rfl])
          clear qn hb0
          go_wp2
          go_ret
          exact ⟨by rw [hv.out]; rfl, U1.out.trans U2.out⟩
        · have qn2 := fun w => (qn w).trans (by rw [show ((⟨bx, bp, ⟨vt, vk, vn⟩⟩ : HBad) != ⟨0, 0, ⟨0, 0, 0⟩⟩) = false from by unfold bne; rw [show ((⟨bx, bp, ⟨vt, vk, vn⟩⟩ : HBad) == ⟨0, 0, ⟨0, 0, 0⟩⟩) = true from hb0]; rfl])
          have hcl := wclosed _ w2 X xc l (WB.out _ U2.out) hl
          cases hc : closedB l
          · rw [hc] at hcl
            have HCL := Lib.hid hcl
            have hv := Lib.hid (show acceptB ⟨txs, ords, A, c, B, d⟩ p l ⟨bx, bp, ⟨vt, vk, vn⟩⟩ = false by rw [HV0.out, hc]; simp)
            clear qn hb0 hc hcl
            go_wp2_with fail
            refine (HCL.out).mono ?_
            rintro e w3 ⟨rfl, hu3⟩
            go_wp2
            go_ret
            exact ⟨by rw [hv.out]; rfl, (U1.out.trans U2.out).trans hu3⟩
          · rw [hc] at hcl
            have HCL := Lib.hid hcl
            have hv1 : acceptB ⟨txs, ords, A, c, B, d⟩ p l ⟨bx, bp, ⟨vt, vk, vn⟩⟩ = (((bits .andNot .i64 K M == 0) && (T == 0 || !(bits .and .i64 K T == 0))) && l.all (edgeB ⟨txs, ords, A, c, B, d⟩)) := by rw [HV0.out, hM0, hb0, hc]; rfl
            obtain ⟨K1, hK1⟩ : ∃ K1, bits .andNot .i64 K M = K1 := ⟨_, rfl⟩
            obtain ⟨K2, hK2⟩ : ∃ K2, bits .and .i64 K T = K2 := ⟨_, rfl⟩
            rw [hK1, hK2] at hv1
            have HVV := Lib.hid hv1
            clear qn hb0 hc hcl hv1
            go_wp2_with fail
            refine (HCL.out).mono ?_
            rintro e w3 ⟨rfl, hu3⟩
            have bW3 := BW2.out.upd hu3 id
            have bR3 := Lib.hid (bR2.out.upd hu3 id)
            have U3 := Lib.hid (U2.out.trans hu3)
            have r0 := bR3.out.cell 0
            have r1 := bR3.out.cell 1
            have h0 := bW3.cell 1
            have h1 := h0
            simp only [List.getElem?_cons_zero, List.getElem?_cons_succ] at r0 r1 h0 h1
            clear bW3 hu3
            cases hk1 : K1 == 0
            · have hk1n : (K1 != 0) = true := by unfold bne; rw [hk1]; rfl
              have hv := Lib.hid (show acceptB ⟨txs, ords, A, c, B, d⟩ p l ⟨bx, bp, ⟨vt, vk, vn⟩⟩ = false by rw [HVV.out, hk1]; rfl)
              go_wp2
              go_ret
              exact ⟨by rw [hv.out]; rfl, U1.out.trans U3.out⟩
            · have hk1n : (K1 != 0) = false := by unfold bne; rw [hk1]; rfl
              cases hT0 : T == 0
              · have hTn : (T != 0) = true := by unfold bne; rw [hT0]; rfl
                cases hk2 : K2 == 0
                · have HV1 := Lib.hid (show acceptB ⟨txs, ords, A, c, B, d⟩ p l ⟨bx, bp, ⟨vt, vk, vn⟩⟩ = l.all (edgeB ⟨txs, ords, A, c, B, d⟩) by rw [HVV.out, hk1, hT0, hk2]; rfl)
                  go_wp2
                  clear y1 y2 y3 y4 y5 y6 r0 r1 h0 h1
                  go_loopg [75] l.length (fun gk i wr => ∃ (k : Nat), k + gk = l.length ∧ i = .int .i64 k ∧ Hid (∀ (j : Nat) (hj : j < l.length), j < k → edgeB ⟨txs, ords, A, c, B, d⟩ l[j] = true) ∧ Upd No w3 wr)
                  case atStart => exact ⟨0, by omega, rfl, Lib.hid (fun j _ hj => by omega), Upd.refl No _⟩
                  case round =>
                    obtain ⟨k, hgk, rfl, hall, hu⟩ := hrel
                    by_cases hlt : k < l.length
                    · obtain ⟨ad, hX, e0, e1, e2, e3⟩ := (WB.out _ (U3.out.trans hu)).at_ hlt
                      obtain ⟨x, hx⟩ : ∃ x, l[k] = x := ⟨_, rfl⟩
                      rw [hx] at e0 e1 e2 e3
                      subst hX
                      have XX := Lib.hid hx
                      have b1 : (0 : Int) ≤ (k : Int) := Int.natCast_nonneg _
                      have b2 : (k : Int) < (l.length : Int) := by omega
                      have uA := (Upd.refl No wr).alloc (.cells #[.int .i64 x.f, .int .i64 x.t, .int .i64 x.k, .int .i64 x.key] 89)
                      have bRk := bR3.out.upd (hu.trans uA) id
                      have rr0 := bRk.cell 0
                      have rr1 := bRk.cell 1
                      simp only [List.getElem?_cons_zero, List.getElem?_cons_succ] at rr0 rr1
                      have Hk := Lib.hid (HB.out _ (U3.out.trans (hu.trans uA)))
                      clear hx bRk
                      cases he : edgeB ⟨txs, ords, A, c, B, d⟩ x
                      · have He := Lib.hid he
                        have hv := Lib.hid (show acceptB ⟨txs, ords, A, c, B, d⟩ p l ⟨bx, bp, ⟨vt, vk, vn⟩⟩ = false by rw [HV1.out]; exact all_edges_no hlt (by rw [XX.out]; exact he))
                        clear he
                        go_wp2_with fail
                        refine (cedgeV Hk.out He.out).mono ?_
                        rintro e w5 ⟨rfl, hu5⟩
                        go_wp2
                        go_ret
                        exact ⟨by rw [hv.out]; rfl, (U1.out.trans U3.out).trans ((hu.trans uA).trans hu5)⟩
                      · have He := Lib.hid he
                        clear he
                        go_wp2_with fail
                        refine (cedgeV Hk.out He.out).mono ?_
                        rintro e w5 ⟨rfl, hu5⟩
                        go_wp2
                        go_roundg (gk - 1)
                        case measure => omega
                        case rel => exact ⟨k + 1, by omega, by go_num, Lib.hid (fun j hj hjk => by
                            by_cases e : j = k
                            · subst e; rw [XX.out]; exact He.out
                            · exact hall.out j hj (by omega)), (hu.trans uA).trans hu5⟩
                    · obtain rfl : k = l.length := by omega
                      have hv := Lib.hid (show acceptB ⟨txs, ords, A, c, B, d⟩ p l ⟨bx, bp, ⟨vt, vk, vn⟩⟩ = true by rw [HV1.out]; exact all_edges_yes fun j hj => hall.out j hj hj)
                      go_wp2
                      go_ret
                      exact ⟨by rw [hv.out]; rfl, (U1.out.trans U3.out).trans hu⟩
                · have hv := Lib.hid (show acceptB ⟨txs, ords, A, c, B, d⟩ p l ⟨bx, bp, ⟨vt, vk, vn⟩⟩ = false by rw [HVV.out, hk1, hT0, hk2]; rfl)
                  go_wp2
                  go_ret
                  exact ⟨by rw [hv.out]; rfl, U1.out.trans U3.out⟩
              · have hTn : (T != 0) = false := by unfold bne; rw [hT0]; rfl
                have HV1 := Lib.hid (show acceptB ⟨txs, ords, A, c, B, d⟩ p l ⟨bx, bp, ⟨vt, vk, vn⟩⟩ = l.all (edgeB ⟨txs, ords, A, c, B, d⟩) by rw [HVV.out, hk1, hT0]; simp)
                go_wp2
                clear y1 y2 y3 y4 y5 y6 r0 r1 h0 h1
                go_loopg [75] l.length (fun gk i wr => ∃ (k : Nat), k + gk = l.length ∧ i = .int .i64 k ∧ Hid (∀ (j : Nat) (hj : j < l.length), j < k → edgeB ⟨txs, ords, A, c, B, d⟩ l[j] = true) ∧ Upd No w3 wr)
                case atStart => exact ⟨0, by omega, rfl, Lib.hid (fun j _ hj => by omega), Upd.refl No _⟩
                case round =>
                  obtain ⟨k, hgk, rfl, hall, hu⟩ := hrel
                  by_cases hlt : k < l.length
                  · obtain ⟨ad, hX, e0, e1, e2, e3⟩ := (WB.out _ (U3.out.trans hu)).at_ hlt
                    obtain ⟨x, hx⟩ : ∃ x, l[k] = x := ⟨_, rfl⟩
                    rw [hx] at e0 e1 e2 e3
                    subst hX
                    have XX := Lib.hid hx
                    have b1 : (0 : Int) ≤ (k : Int) := Int.natCast_nonneg _
                    have b2 : (k : Int) < (l.length : Int) := by omega
                    have uA := (Upd.refl No wr).alloc (.cells #[.int .i64 x.f, .int .i64 x.t, .int .i64 x.k, .int .i64 x.key] 89)
                    have bRk := bR3.out.upd (hu.trans uA) id
                    have rr0 := bRk.cell 0
                    have rr1 := bRk.cell 1
                    simp only [List.getElem?_cons_zero, List.getElem?_cons_succ] at rr0 rr1
                    have Hk := Lib.hid (HB.out _ (U3.out.trans (hu.trans uA)))
                    clear hx bRk
                    cases he : edgeB ⟨txs, ords, A, c, B, d⟩ x
                    · have He := Lib.hid he
                      have hv := Lib.hid (show acceptB ⟨txs, ords, A, c, B, d⟩ p l ⟨bx, bp, ⟨vt, vk, vn⟩⟩ = false by rw [HV1.out]; exact all_edges_no hlt (by rw [XX.out]; exact he))
                      clear he
                      go_wp2_with fail
                      refine (cedgeV Hk.out He.out).mono ?_
                      rintro e w5 ⟨rfl, hu5⟩
                      go_wp2
                      go_ret
                      exact ⟨by rw [hv.out]; rfl, (U1.out.trans U3.out).trans ((hu.trans uA).trans hu5)⟩
                    · have He := Lib.hid he
                      clear he
                      go_wp2_with fail
                      refine (cedgeV Hk.out He.out).mono ?_
                      rintro e w5 ⟨rfl, hu5⟩
                      go_wp2
                      go_roundg (gk - 1)
                      case measure => omega
                      case rel => exact ⟨k + 1, by omega, by go_num, Lib.hid (fun j hj hjk => by
                          by_cases e : j = k
                          · subst e; rw [XX.out]; exact He.out
                          · exact hall.out j hj (by omega)), (hu.trans uA).trans hu5⟩
                  · obtain rfl : k = l.length := by omega
                    have hv := Lib.hid (show acceptB ⟨txs, ords, A, c, B, d⟩ p l ⟨bx, bp, ⟨vt, vk, vn⟩⟩ = true by rw [HV1.out]; exact all_edges_yes fun j hj => hall.out j hj hj)
                    go_wp2
                    go_ret
                    exact ⟨by rw [hv.out]; rfl, (U1.out.trans U3.out).trans hu⟩
      · have hv := Lib.hid (show acceptB ⟨txs, ords, A, c, B, d⟩ p l ⟨bx, bp, ⟨vt, vk, vn⟩⟩ = false by rw [HV0.out, hM0]; rfl)
        go_wp2
        go_ret
        exact ⟨by rw [hv.out]; rfl, U1.out.trans U2.out⟩
end Go.Proofs.Ytgakhpdclhlmpaa
