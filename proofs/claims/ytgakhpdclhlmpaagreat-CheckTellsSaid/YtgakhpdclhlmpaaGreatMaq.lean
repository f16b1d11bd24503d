/- The document: the reads that may not be. -/
import Derived.Test.YtgakhpdclhlmpaaGreatMap
namespace Go.Proofs.YtgakhpdclhlmpaaGreat
set_option linter.unusedVariables false
open Go.RowKit
theorem Upd.noR {S : Nat → Prop} {a w w' : World} (h : Upd S a w) (k : Upd No w w') : Upd S a w' := h.trans_ k fun _ _ t => t.elim
/-- bad reads lie there -/
def Bads (F : Nat → Prop) (w : World) (A : Option Addr) (l : List HBad) : Prop := Recs F w A 5 (l.map HBad.cells)
theorem Bads.at_ {F : Nat → Prop} {w : World} {A : Option Addr} {l : List HBad} (h : Bads F w A l) {k : Nat} (hk : k < l.length) : ∃ ad, A = some ad ∧
    w.cell? (ad.add (k * 5)) = some (.int .i64 l[k].tx) ∧ w.cell? ⟨(ad.add (k * 5)).block, (ad.add (k * 5)).off + 1, none⟩ = some (.int .i64 l[k].place) ∧
    w.cell? ⟨(ad.add (k * 5)).block, (ad.add (k * 5)).off + 2, none⟩ = some (.int .i64 l[k].of.tx) ∧ w.cell? ⟨(ad.add (k * 5)).block, (ad.add (k * 5)).off + 3, none⟩ = some (.int .i64 l[k].of.key) ∧
    w.cell? ⟨(ad.add (k * 5)).block, (ad.add (k * 5)).off + 4, none⟩ = some (.int .i64 l[k].of.nth) := by
  have hk' : k < (l.map HBad.cells).length := by simpa using hk
  obtain ⟨ad, e, _, _, hc⟩ := Recs.at_ h hk'
  rw [List.getElem_map] at hc
  exact ⟨ad, e, by simpa using hc 0 _ rfl, by simpa using hc 1 _ rfl, by simpa using hc 2 _ rfl, by simpa using hc 3 _ rfl, by simpa using hc 4 _ rfl⟩
theorem Bads.upd {F S : Nat → Prop} {w w' : World} {A : Option Addr} {l : List HBad} (h : Bads F w A l) (k : Upd S w w') (hn : ∀ i, F i → ¬ S i) : Bads F w' A l := Recs.upd h k hn
theorem bads_len {l : List HBad} : ∀ r ∈ l.map HBad.cells, r.length = 5 := fun r hr => by
  obtain ⟨e, _, rfl⟩ := List.mem_map.1 hr
  rfl
theorem slt_bads : SlT Tryz.prog 41 31 5 40 := SlT.mk_ Tryz.underlying41 (z := .agg #[.int .i64 0, .int .i64 0, .int .i64 0, .int .i64 0, .int .i64 0]) (by kernel_rfl) rfl (by omega)
theorem bad_eql (w : World) (x y : HBad) : (binOp .eql 31 (.agg #[.int .i64 x.tx, .int .i64 x.place, .int .i64 x.of.tx, .int .i64 x.of.key, .int .i64 x.of.nth]) (.agg #[.int .i64 y.tx, .int .i64 y.place, .int .i64 y.of.tx, .int .i64 y.of.key, .int .i64 y.of.nth])).run Tryz.prog w = .ok (.bool (x == y)) w := by
  have := bad_equal w x y
  unfold badV at this
  rw [run_eql_struct, this]
  simp only [Result.andThen]
  by_cases h : x = y <;> simp [h]
theorem bads_new_own {w' : World} {base : Nat} {l : List HBad} {A : Option Addr} {c : Nat} (h : w'.ownsRow base 31 5 (.slice A l.length c) l.length (l.map HBad.cells).flatten) : Bads (fun i => base ≤ i) w' A l := by
  have h2 := Recs.of_own (n := l.length) (c := c) bads_len (by omega) h
  exact Recs.weak h2 fun i _ hi => (h.lt i hi).1
set_option maxRecDepth 100000 in
set_option maxHeartbeats 1000000 in
theorem rIn18 (F : Nat → Prop) (w : World) (A : Option Addr) (c : Nat) (l : List HBad) (v : HBad) (h : Bads F w A l) (hl : l.length ≤ 100000000) :
    Calls Tryz.prog 9 #[.slice A l.length c, .agg v.cells.toArray] w fun e w' => e = .returned (.bool (l.contains v)) ∧ Upd No w w' := by
  obtain ⟨vx, vp, ⟨vt, vk, vn⟩⟩ := v
  unfold HBad.cells
  simp only
  have bv := Lib.hid (Blk.new w 31 [.int .i64 vx, .int .i64 vp, .int .i64 vt, .int .i64 vk, .int .i64 vn])
  have uT := (Upd.refl No w).alloc (.cells #[.int .i64 vx, .int .i64 vp, .int .i64 vt, .int .i64 vk, .int .i64 vn] 31)
  go_enter Tryz.func9, Tryz.ntmps9
  go_wp2
  go_loopg [9] l.length (fun gk i wr => ∃ (k : Nat), k + gk = l.length ∧ i = .int .i64 k ∧ Hid ((l.drop k).contains ⟨vx, vp, ⟨vt, vk, vn⟩⟩ = l.contains ⟨vx, vp, ⟨vt, vk, vn⟩⟩) ∧ Upd No (w.alloc (.cells #[.int .i64 vx, .int .i64 vp, .int .i64 vt, .int .i64 vk, .int .i64 vn] 31)) wr)
  case atStart => exact ⟨0, by omega, rfl, Lib.hid rfl, Upd.refl _ _⟩
  case round =>
    obtain ⟨k, hgk, rfl, hs, hu⟩ := hrel
    by_cases hlt : k < l.length
    · obtain ⟨ad, hAd, q0, q1, q2, q3, q4⟩ := (h.upd (uT.trans hu) (fun _ _ => id)).at_ hlt
      obtain ⟨x, hx⟩ : ∃ x, l[k] = x := ⟨_, rfl⟩
      rw [hx] at q0 q1 q2 q3 q4
      obtain ⟨xx, xp, ⟨xt, xk, xn⟩⟩ := x
      simp only at q0 q1 q2 q3 q4
      subst hAd
      have X := Lib.hid (show l.drop k = ⟨xx, xp, ⟨xt, xk, xn⟩⟩ :: l.drop (k + 1) by rw [← hx]; exact List.drop_eq_getElem_cons hlt)
      have b1 : (0 : Int) ≤ (k : Int) := Int.natCast_nonneg _
      have b2 : (k : Int) < (l.length : Int) := by omega
      clear hx
      have uA := (Upd.refl No wr).alloc (.cells #[.int .i64 xx, .int .i64 xp, .int .i64 xt, .int .i64 xk, .int .i64 xn] 31)
      have bb := (bv.out.upd hu id).upd uA id
      have v0 := bb.cell 0
      have v1 := bb.cell 1
      have v2 := bb.cell 2
      have v3 := bb.cell 3
      have v4 := bb.cell 4
      simp only [List.getElem?_cons_zero, List.getElem?_cons_succ] at v0 v1 v2 v3 v4
      have HE := fun W => bad_eql W ⟨xx, xp, ⟨xt, xk, xn⟩⟩ ⟨vx, vp, ⟨vt, vk, vn⟩⟩
      simp only at HE
      have hst := hs.out
      rw [X.out, List.contains_cons] at hst
      clear bb
      by_cases hxv : (⟨xx, xp, ⟨xt, xk, xn⟩⟩ : HBad) = ⟨vx, vp, ⟨vt, vk, vn⟩⟩
      · have HV := Lib.hid (show l.contains (⟨vx, vp, ⟨vt, vk, vn⟩⟩ : HBad) = true by rw [← hst, hxv]; simp)
        have he : ((⟨xx, xp, ⟨xt, xk, xn⟩⟩ : HBad) == ⟨vx, vp, ⟨vt, vk, vn⟩⟩) = true := by rw [beq_iff_eq]; exact hxv
        rw [he] at HE
        clear hst hxv he
        go_wp2
        go_ret
        exact ⟨by rw [HV.out]; rfl, (uT.trans hu).trans uA⟩
      · have he : ((⟨xx, xp, ⟨xt, xk, xn⟩⟩ : HBad) == ⟨vx, vp, ⟨vt, vk, vn⟩⟩) = false := by rw [beq_eq_false_iff_ne]; exact hxv
        have he2 : ((⟨vx, vp, ⟨vt, vk, vn⟩⟩ : HBad) == ⟨xx, xp, ⟨xt, xk, xn⟩⟩) = false := by rw [beq_eq_false_iff_ne]; exact fun e => hxv e.symm
        rw [he2, Bool.false_or] at hst
        have HV := Lib.hid hst
        rw [he] at HE
        clear hst hxv he he2
        go_wp2
        go_roundg (gk - 1)
        case measure => omega
        case rel => exact ⟨k + 1, by omega, by go_num, HV, hu.trans uA⟩
    · obtain rfl : k = l.length := by omega
      have HV := Lib.hid (show l.contains (⟨vx, vp, ⟨vt, vk, vn⟩⟩ : HBad) = false by rw [← hs.out, List.drop_length]; rfl)
      go_wp2
      go_ret
      exact ⟨by rw [HV.out]; rfl, uT.trans hu⟩
/-- bad reads of the call's own -/
def NewBads (w : World) (l : List HBad) (e : Ending) (w' : World) : Prop := ∃ A c, e = .returned (.slice A l.length c) ∧ w'.ownsRow w.heap.size 31 5 (.slice A l.length c) l.length (l.map HBad.cells).flatten ∧ Upd No w w'
theorem badsT_cons (txs : List HTx) (p : Int) (t : HTx) (i : Nat) (acc : List HBad) (o : HOp) (l : List HOp) : badsT txs p t i acc (o :: l) = badsT txs p t (i + 1) (if badO txs t p o then acc ++ [⟨t.id, i, verOf o⟩] else acc) l := rfl
theorem badsL_cons (txs : List HTx) (p : Int) (acc : List HBad) (t : HTx) (l : List HTx) : badsL txs p acc (t :: l) = badsL txs p (badsT txs p t 0 acc t.ops) l := rfl
theorem rof3 (w : World) (ky tx nt : Int) : Calls Tryz.prog 20 #[.agg #[.bool true, .int .i64 ky, .int .i64 tx, .int .i64 nt]] w fun e w' => e = .returned (.agg #[.int .i64 tx, .int .i64 ky, .int .i64 nt]) ∧ Upd No w w' := rof w ⟨true, ky, tx, nt⟩
theorem badO_read {txs : List HTx} {t : HTx} {p : Int} {rd : Bool} {ky tx nt : Int} (h : badO txs t p ⟨rd, ky, tx, nt⟩ = true) : rd = true := by
  unfold badO at h
  cases rd
  · simp at h
  · rfl
set_option maxRecDepth 100000 in
set_option maxHeartbeats 4000000 in
theorem rOf18 (F : Nat → Prop) (w : World) (txs : List HTx) (ords : List HOrd) (A : Option Addr) (c : Nat) (B : Option Addr) (d : Nat) (p : Int) (H : Hist.lies F w ⟨txs, ords, A, c, B, d⟩) :
    Calls Tryz.prog 10 #[.agg #[.slice A txs.length c, .slice B ords.length d], .int .i64 p] w (NewBads w (badsR ⟨txs, ords, A, c, B, d⟩ p)) := by
  have u0 := (Upd.refl No w).alloc (.cells #[.slice A txs.length c, .slice B ords.length d] 25)
  have bH := Lib.hid (Blk.new w 25 [.slice A txs.length c, .slice B ords.length d])
  obtain ⟨b, hb⟩ : ∃ b, rightB ⟨txs, ords, A, c, B, d⟩ = b := ⟨_, rfl⟩
  have HR := Lib.hid (rRightV (H.upd u0 (fun _ _ => id)) hb)
  have U0 := Lib.hid u0
  clear u0
  cases b
  · have HV := Lib.hid (show ([] : List HBad) = badsR ⟨txs, ords, A, c, B, d⟩ p by unfold badsR; rw [if_neg (by rw [hb]; decide)])
    clear hb
    go_enter Tryz.func10, Tryz.ntmps10
    go_wp2_with fail
    refine (HR.out).mono ?_
    rintro e w1 ⟨rfl, hu1⟩
    have HU := Lib.hid (U0.out.trans hu1)
    go_wp2
    go_ret
    exact ⟨none, 0, by rw [← HV.out]; rfl, by rw [← HV.out]; exact World.ownsRow_nil _ _ _ _, HU.out⟩
  · have HV := Lib.hid (show badsL txs p [] txs = badsR ⟨txs, ords, A, c, B, d⟩ p by unfold badsR; rw [if_pos hb])
    have hmany : txs.length ≤ 4096 := by
      unfold rightB at hb
      simp only [Bool.and_eq_true, decide_eq_true_eq] at hb
      exact hb.1.1.1
    have hlen := Lib.hid (show ∀ t ∈ txs, t.ops.length ≤ 4095 from fun t ht => txErr_len (right_parts hb ht).1)
    clear hb
    go_enter Tryz.func10, Tryz.ntmps10
    go_wp2_with fail
    refine (HR.out).mono ?_
    rintro e w1 ⟨rfl, hu1⟩
    have HU := Lib.hid (U0.out.trans hu1)
    have BH := Lib.hid (bH.out.upd hu1 id)
    have g0 := BH.out.cell 0
    simp only [List.getElem?_cons_zero] at g0
    have hzw := HU.out.size
    clear hu1
    go_wp2
    clear g0
    go_loopg [5, 16] txs.length (fun gk s i wr => ∃ (k : Nat) (A3 : Option Addr) (c3 : Nat) (xs : List HBad), k + gk = txs.length ∧ i = .int .i64 k ∧ s = .slice A3 xs.length c3 ∧ Hid (badsL txs p xs (txs.drop k) = badsL txs p [] txs) ∧ xs.length ≤ 4095 * k ∧
      Hid (wr.ownsRow w1.heap.size 31 5 (.slice A3 xs.length c3) xs.length (xs.map HBad.cells).flatten) ∧ Upd No w1 wr)
    case atStart => exact ⟨0, none, 0, [], by omega, rfl, rfl, Lib.hid rfl, by simp, Lib.hid (World.ownsRow_nil _ _ _ _), Upd.refl _ _⟩
    case round =>
      obtain ⟨k, A3, c3, xs, hgk, rfl, rfl, hs, hxl, hown, hu1⟩ := hrel
      by_cases hlt : k < txs.length
      · have hu := HU.out.trans hu1
        obtain ⟨ad, hAd, q0, q1, q2⟩ := (H.upd hu (fun _ _ => id)).tx_at hlt
        have hlo := H.tx txs[k] (List.getElem_mem hlt)
        simp only at hAd q0 q1 q2
        obtain ⟨x, hx⟩ : ∃ x, txs[k] = x := ⟨_, rfl⟩
        rw [hx] at q0 q1 q2 hlo
        obtain ⟨xi, xd, xo, xA, xc⟩ := x
        simp only at q0 q1 q2
        subst hAd
        have X := Lib.hid (show txs.drop k = ⟨xi, xd, xo, xA, xc⟩ :: txs.drop (k + 1) by rw [← hx]; exact List.drop_eq_getElem_cons hlt)
        have HL := Lib.hid hlo
        have XM := Lib.hid (show (⟨xi, xd, xo, xA, xc⟩ : HTx) ∈ txs by rw [← hx]; exact List.getElem_mem hlt)
        have b1 : (0 : Int) ≤ (k : Int) := Int.natCast_nonneg _
        have b2 : (k : Int) < (txs.length : Int) := by omega
        have uA := hu.alloc (.cells #[.int .i64 xi, .bool xd, .slice xA xo.length xc] 47)
        clear hx hlo
        have hst := hs.out
        rw [X.out, badsL_cons] at hst
        have HST := Lib.hid hst
        have hol := hlen.out _ XM.out
        simp only at hol
        have UA := Lib.hid (hu1.alloc (.cells #[.int .i64 xi, .bool xd, .slice xA xo.length xc] 47))
        have BT := Lib.hid (Blk.new wr 47 [.int .i64 xi, .bool xd, .slice xA xo.length xc])
        have HO := Lib.hid (own_upd hown.out ((Upd.refl No wr).alloc (.cells #[.int .i64 xi, .bool xd, .slice xA xo.length xc] 47)) (fun _ _ => id))
        have hzr := hu1.size
        clear hst uA hu
        have HOL := Lib.hid (fun i e => hown.out.lt i e)
        have HW1 := Lib.hid fun W (hW : Upd (Own (.slice A3 xs.length c3)) (wr.alloc (.cells #[.int .i64 xi, .bool xd, .slice xA xo.length xc] 47)) W) => (show Upd No w W from (HU.out.trans UA.out).then_ hW fun i e => .inr (Nat.le_trans hzw (HOL.out i e).1))
        have HW2 := Lib.hid fun W (hW : Upd (Own (.slice A3 xs.length c3)) (wr.alloc (.cells #[.int .i64 xi, .bool xd, .slice xA xo.length xc] 47)) W) => (show Upd No w1 W from UA.out.then_ hW fun i e => .inr (HOL.out i e).1)
        have hnT : ¬ Own (.slice A3 xs.length c3) wr.heap.size := fun e => by have := (HOL.out _ e).2; omega
        have hnH : ¬ Own (.slice A3 xs.length c3) w.heap.size := fun e => by have := (HOL.out _ e).1; have := BH.out.lt; omega
        have HBd := Lib.hid fun (o : HOp) (j : Nat) (hj : j < xo.length) (ho : xo[j] = o) W (hW : Upd (Own (.slice A3 xs.length c3)) (wr.alloc (.cells #[.int .i64 xi, .bool xd, .slice xA xo.length xc] 47)) W) => rbad F W txs ords (some ad) c B d xi xd xA xc xo j p o (H.upd (HW1.out _ hW) (fun _ _ => id)) (HOps.upd HL.out.1 (HW1.out _ hW) (fun _ _ => id)) HL.out.2.2.1 hj ho
        have HOps1 := Lib.hid fun W (hW : Upd (Own (.slice A3 xs.length c3)) (wr.alloc (.cells #[.int .i64 xi, .bool xd, .slice xA xo.length xc] 47)) W) => HOps.upd HL.out.1 (HW1.out _ hW) (fun _ _ => id)
        have t0 : ∀ W, Upd (Own (.slice A3 xs.length c3)) (wr.alloc (.cells #[.int .i64 xi, .bool xd, .slice xA xo.length xc] 47)) W → W.cell? ⟨wr.heap.size, 0, none⟩ = some (.int .i64 xi) := fun W hW => (BT.out.upd hW hnT).cell 0
        have t1 : ∀ W, Upd (Own (.slice A3 xs.length c3)) (wr.alloc (.cells #[.int .i64 xi, .bool xd, .slice xA xo.length xc] 47)) W → W.cell? ⟨wr.heap.size, 1, none⟩ = some (.bool xd) := fun W hW => (BT.out.upd hW hnT).cell 1
        have t2 : ∀ W, Upd (Own (.slice A3 xs.length c3)) (wr.alloc (.cells #[.int .i64 xi, .bool xd, .slice xA xo.length xc] 47)) W → W.cell? ⟨wr.heap.size, 2, none⟩ = some (.slice xA xo.length xc) := fun W hW => (BT.out.upd hW hnT).cell 2
        have g0 : ∀ W, Upd (Own (.slice A3 xs.length c3)) (wr.alloc (.cells #[.int .i64 xi, .bool xd, .slice xA xo.length xc] 47)) W → W.cell? ⟨w.heap.size, 0, none⟩ = some (.slice (some ad) txs.length c) := fun W hW => ((BH.out.upd UA.out id).upd hW hnH).cell 0
        have g1 : ∀ W, Upd (Own (.slice A3 xs.length c3)) (wr.alloc (.cells #[.int .i64 xi, .bool xd, .slice xA xo.length xc] 47)) W → W.cell? ⟨w.heap.size, 1, none⟩ = some (.slice B ords.length d) := fun W hW => ((BH.out.upd UA.out id).upd hW hnH).cell 1
        have hrefl : Upd (Own (.slice A3 xs.length c3)) (wr.alloc (.cells #[.int .i64 xi, .bool xd, .slice xA xo.length xc] 47)) (wr.alloc (.cells #[.int .i64 xi, .bool xd, .slice xA xo.length xc] 47)) := Upd.refl _ _
        have hmul : 4095 * k ≤ 4095 * 4096 := Nat.mul_le_mul_left _ (by omega)
        obtain ⟨wo, hwo⟩ : ∃ wo, wo = wr := ⟨_, rfl⟩
        subst hwo
        generalize gk = m0 at *
        go_wp2
        go_loopg [5, 23] xo.length (fun gm s i wr => ∃ (j : Nat) (A4 : Option Addr) (c4 : Nat) (ys : List HBad), j + gm = xo.length ∧ i = .int .i64 j ∧ s = .slice A4 ys.length c4 ∧ Hid (badsT txs p ⟨xi, xd, xo, xA, xc⟩ j ys (xo.drop j) = badsT txs p ⟨xi, xd, xo, xA, xc⟩ 0 xs xo) ∧ ys.length ≤ xs.length + j ∧
          Hid (wr.ownsRow w1.heap.size 31 5 (.slice A4 ys.length c4) ys.length (ys.map HBad.cells).flatten) ∧ Hid (∀ i, Own (.slice A4 ys.length c4) i → Own (.slice A3 xs.length c3) i ∨ wo.heap.size + 1 ≤ i) ∧ Upd (Own (.slice A3 xs.length c3)) (wo.alloc (.cells #[.int .i64 xi, .bool xd, .slice xA xo.length xc] 47)) wr)
        case atStart => exact ⟨0, A3, c3, xs, by omega, rfl, rfl, Lib.hid rfl, by omega, HO, Lib.hid (fun _ => .inl), hrefl⟩
        case round =>
          obtain ⟨j, A4, c4, ys, hgm, rfl, rfl, hs2, hyl, hown2, hgr2, hu2⟩ := hrel
          clear hrefl
          by_cases hlt2 : j < xo.length
          · obtain ⟨ad2, hAd2, q0, q1, q2, q3⟩ := (HOps1.out _ hu2).at_ hlt2
            obtain ⟨x, hx⟩ : ∃ x, xo[j] = x := ⟨_, rfl⟩
            rw [hx] at q0 q1 q2 q3
            obtain ⟨rd, ky, tx, nt⟩ := x
            simp only at q0 q1 q2 q3
            subst hAd2
            have Y := Lib.hid (show xo.drop j = ⟨rd, ky, tx, nt⟩ :: xo.drop (j + 1) by rw [← hx]; exact List.drop_eq_getElem_cons hlt2)
            have c1 : (0 : Int) ≤ (j : Int) := Int.natCast_nonneg _
            have c2 : (j : Int) < (xo.length : Int) := by omega
            have hub := hu2.alloc (.cells #[.bool rd, .int .i64 ky, .int .i64 tx, .int .i64 nt] 53)
            have HC := Lib.hid (HBd.out _ j hlt2 hx _ hub)
            have BO := Lib.hid (Blk.new wr 53 [.bool rd, .int .i64 ky, .int .i64 tx, .int .i64 nt])
            have HO2 := Lib.hid (own_upd hown2.out ((Upd.refl No wr).alloc (.cells #[.bool rd, .int .i64 ky, .int .i64 tx, .int .i64 nt] 53)) (fun _ _ => id))
            have HLT := Lib.hid (fun i e => hown2.out.lt i e)
            have hz2 := hu2.size
            have hzq := (HW2.out _ hu2).size
            simp only [World.size_alloc] at hz2
            have hst := hs2.out
            rw [Y.out, badsT_cons] at hst
            obtain ⟨b, hb⟩ : ∃ b, badO txs ⟨xi, xd, xo, some ad2, xc⟩ p ⟨rd, ky, tx, nt⟩ = b := ⟨_, rfl⟩
            rw [hb] at HC hst
            clear hx
            cases b
            · have HS := Lib.hid (show badsT txs p ⟨xi, xd, xo, some ad2, xc⟩ (j + 1) ys (xo.drop (j + 1)) = badsT txs p ⟨xi, xd, xo, some ad2, xc⟩ 0 xs xo from hst)
              clear hst hb
              go_wp2_with fail
              refine (HC.out).mono ?_
              rintro e w3 ⟨rfl, hu3⟩
              have HO3 := Lib.hid (own_upd HO2.out hu3 (fun _ _ => id))
              have HU3 := Lib.hid (hub.noR hu3)
              clear hub hu3
              go_wp2
              go_roundg (gk - 1)
              case measure => omega
              case rel => exact ⟨j + 1, A4, c4, ys, by omega, by go_num, rfl, HS, by omega, HO3, hgr2, HU3.out⟩
            · have HS := Lib.hid (show badsT txs p ⟨xi, xd, xo, some ad2, xc⟩ (j + 1) (ys ++ [⟨xi, (j : Int), ⟨tx, ky, nt⟩⟩]) (xo.drop (j + 1)) = badsT txs p ⟨xi, xd, xo, some ad2, xc⟩ 0 xs xo by
                rw [← hst, if_pos rfl]
                have := badO_read hb
                subst this
                rfl)
              have hrd := badO_read hb
              subst hrd
              clear hst hb
              go_wp2_with fail
              refine (HC.out).mono ?_
              rintro e w3 ⟨rfl, hu3⟩
              have HO3 := Lib.hid (own_upd HO2.out hu3 (fun _ _ => id))
              have HU3 := Lib.hid (hub.noR hu3)
              have BO3 := Lib.hid (BO.out.upd hu3 id)
              have hz3 := hu3.size
              simp only [World.size_alloc] at hz3
              have hnO : ¬ Own (.slice A4 ys.length c4) wr.heap.size := fun e => by have := (HLT.out _ e).2; omega
              have hnT4 : ¬ Own (.slice A4 ys.length c4) wo.heap.size := fun e => by
                rcases hgr2.out _ e with e | e
                · exact hnT e
                · omega
              have o0 : ∀ W, Upd (Own (.slice A4 ys.length c4)) w3 W → W.cell? ⟨wr.heap.size, 0, none⟩ = some (.bool true) := fun W hW => (BO3.out.upd hW hnO).cell 0
              have o1 : ∀ W, Upd (Own (.slice A4 ys.length c4)) w3 W → W.cell? ⟨wr.heap.size, 1, none⟩ = some (.int .i64 ky) := fun W hW => (BO3.out.upd hW hnO).cell 1
              have o2 : ∀ W, Upd (Own (.slice A4 ys.length c4)) w3 W → W.cell? ⟨wr.heap.size, 2, none⟩ = some (.int .i64 tx) := fun W hW => (BO3.out.upd hW hnO).cell 2
              have o3 : ∀ W, Upd (Own (.slice A4 ys.length c4)) w3 W → W.cell? ⟨wr.heap.size, 3, none⟩ = some (.int .i64 nt) := fun W hW => (BO3.out.upd hW hnO).cell 3
              have s0 : ∀ W, Upd (Own (.slice A4 ys.length c4)) w3 W → W.cell? ⟨wo.heap.size, 0, none⟩ = some (.int .i64 xi) := fun W hW => by
                have h0 := t0 _ HU3.out
                exact hW.keep h0 hnT4
              have HGR := Lib.hid (fun i e => (HLT.out i e).1)
              clear hub hu3 t0 t1 t2 g0 g1
              go_wp2
              refine wp_region_noPanic ?_
              refine wp_region_held_drew (S := (fun w' => Upd (Own (.slice A4 ys.length c4)) w3 w')) (by kernel_rfl) ?_ (fun hHeld => ?_)
              · (first | exact (Upd.refl _ _).drew | exact hHeld.noR hu4 | exact hHeld.alloc _ | exact hU6)
              refine wpT 0 ⟨some 33, .move (.tmp 5), 41, "ref.go:36", #[], none⟩ ?_ (.inl ⟨by rfl, ?_⟩) ?_
              rotate_left
              · (intro W hSw; (try dsimp only at hSw); go_simp; try (with_reducible rfl))
              try simp only [Act.put, List.setIfInBounds_toArray, List.set_cons_zero, List.set_cons_succ]
              refine wpT 1 ⟨some 34, .fieldAddr 47 (.tmp 7) 0, 0, "ref.go:36", #[], none⟩ ?_ (.inl ⟨by rfl, ?_⟩) ?_
              rotate_left
              · (intro W hSw; (try dsimp only at hSw); go_simp; try (with_reducible rfl))
              try simp only [Act.put, List.setIfInBounds_toArray, List.set_cons_zero, List.set_cons_succ]
              refine wpT 2 ⟨some 35, .load 3 (.tmp 34), 3, "ref.go:36", #[⟨1, .data⟩], none⟩ ?_ (.inl ⟨by rfl, ?_⟩) ?_
              rotate_left
              · (intro W hSw; (try dsimp only at hSw); go_simp; try (with_reducible rfl))
              try simp only [Act.put, List.setIfInBounds_toArray, List.set_cons_zero, List.set_cons_succ]
              refine wpT 3 ⟨some 36, .move (.tmp 8), 3, "ref.go:36", #[], none⟩ ?_ (.inl ⟨by rfl, ?_⟩) ?_
              rotate_left
              · (intro W hSw; (try dsimp only at hSw); go_simp; try (with_reducible rfl))
              try simp only [Act.put, List.setIfInBounds_toArray, List.set_cons_zero, List.set_cons_succ]
              refine wpT 4 ⟨some 37, .load 53 (.tmp 9), 53, "ref.go:36", #[], none⟩ ?_ (.inl ⟨by rfl, ?_⟩) ?_
              rotate_left
              · (intro W hSw; (try dsimp only at hSw); go_simp; try (with_reducible rfl))
              try simp only [Act.put, List.setIfInBounds_toArray, List.set_cons_zero, List.set_cons_succ]
              refine wpAnyH_ready (rs := [5]) (by kernel_rfl) (by simp) ?_
              refine AllReadyH.cons (o := ⟨some 38, .call { callee := .value (.func 20), args := #[.tmp 37], argTypes := #[53] }, 29, "ref.go:36", #[⟨4, .data⟩], none⟩) rfl (fun K hK => ?_) AllReadyH.nil
              go_simp
              (first
    | (go_at_call 20; refine (rof3 _ ky tx nt).mono ?_; rintro e w4 ⟨rfl, hu4⟩; have ho4 := own_upd HO3.out hu4.of_drew (fun _ _ => id); have hz4 := hu4.of_drew.size))
              try (go_wp2_with fail)
              refine hK.out _ _ ?_ (fun hHeld => ?_)
              · (first | exact (Upd.refl _ _).drew | exact hHeld.noR hu4 | exact hHeld.alloc _ | exact hU6)
              clear hK K
              try simp only [Act.put, List.setIfInBounds_toArray, List.set_cons_zero, List.set_cons_succ]
              refine wpT 6 ⟨some 39, .build 31 #[(0, .tmp 35), (1, .tmp 36), (2, .tmp 38)], 31, "ref.go:36", #[⟨2, .data⟩, ⟨3, .data⟩, ⟨5, .data⟩], none⟩ ?_ (.inl ⟨by rfl, ?_⟩) ?_
              rotate_left
              · (intro W hSw; (try dsimp only at hSw); go_simp; try (with_reducible rfl))
              try simp only [Act.put, List.setIfInBounds_toArray, List.set_cons_zero, List.set_cons_succ]
              refine wpAnyH_ready (rs := [7]) (by kernel_rfl) (by simp) ?_
              refine AllReadyH.cons (o := ⟨some 40, .buildSlice 41 1 #[(0, .tmp 39)], 41, "ref.go:36", #[⟨6, .data⟩], none⟩) rfl (fun K hK => ?_) AllReadyH.nil
              go_simp
              refine hK.out _ _ ?_ (fun hHeld => ?_)
              · (first | exact (Upd.refl _ _).drew | exact hHeld.noR hu4 | exact hHeld.alloc _ | exact hU6)
              clear hK K
              try simp only [Act.put, List.setIfInBounds_toArray, List.set_cons_zero, List.set_cons_succ]
              refine wpAnyH_ready (rs := [8]) (by kernel_rfl) (by simp) ?_
              refine AllReadyH.cons (o := ⟨some 41, .call { callee := .builtin .append, args := #[.tmp 33, .tmp 40], argTypes := #[41, 41] }, 41, "ref.go:36", #[⟨0, .data⟩, ⟨7, .data⟩, ⟨5, .chain⟩], none⟩) rfl (fun K hK => ?_) AllReadyH.nil
              (first
    | (refine step_app1 (by rfl) (by rfl) slt_bads (v := .slice A4 ys.length c4) (cells := [.int .i64 xi, .int .i64 (j : Int), .int .i64 tx, .int .i64 ky, .int .i64 nt]) (by rfl) (by rfl) (by exact ho4.alloc _) rfl (by exact news_new) (by rfl) (by omega) (by omega) (by simp; omega) ?_; intro g6 c6 w6 hown6 hu6 hg6 hlt6; have hU6 : Upd (Own (.slice A4 ys.length c4)) w3 w6 := hHeld.trans hu6))
              refine hK.out _ _ ?_ (fun hHeld => ?_)
              · (first | exact (Upd.refl _ _).drew | exact hHeld.noR hu4 | exact hHeld.alloc _ | exact hU6)
              clear hK K
              try simp only [Act.put, List.setIfInBounds_toArray, List.set_cons_zero, List.set_cons_succ]
              refine wpT 9 ⟨some 5, .assign (.tmp 41), 41, "ref.go:36", #[⟨8, .data⟩, ⟨8, .chain⟩, ⟨0, .phase⟩, ⟨1, .phase⟩, ⟨2, .phase⟩, ⟨3, .phase⟩, ⟨4, .phase⟩, ⟨5, .phase⟩, ⟨6, .phase⟩, ⟨7, .phase⟩, ⟨8, .phase⟩], none⟩ ?_ (.inl ⟨by rfl, ?_⟩) ?_
              rotate_left
              · (intro W hSw; (try dsimp only at hSw); go_simp; try (with_reducible rfl))
              try simp only [Act.put, List.setIfInBounds_toArray, List.set_cons_zero, List.set_cons_succ]
              refine wpAnyH_done (by kernel_rfl) (NoPanic.normal ?_) _
              have HU6 := Lib.hid (HU3.out.then_ hHeld fun i e => by
                rcases hgr2.out i e with e | e
                · exact .inl e
                · exact .inr (by simp only [World.size_alloc]; exact e))
              have HG6 := Lib.hid (show ∀ i, Own (.slice (some ⟨g6, 0, none⟩) (ys.length + 1) c6) i → Own (.slice A3 xs.length c3) i ∨ wo.heap.size + 1 ≤ i from fun i e => by
                rcases hg6 with h | ⟨k6, hk6, hlk⟩
                · exact hgr2.out i (h.symm.trans e)
                · have e2 : (some k6 : Option Nat) = some i := hk6.symm.trans e
                  cases e2
                  simp only [World.size_alloc] at hlk
                  exact .inr (by omega))
              clear hHeld o0 o1 o2 o3 s0 hg6
              go_wp2
              go_roundg (gk - 1)
              case measure => omega
              case rel => exact ⟨j + 1, some ⟨g6, 0, none⟩, c6, ys ++ [⟨xi, (j : Int), ⟨tx, ky, nt⟩⟩], by omega, by go_num, by simp, HS, by simp; omega, Lib.hid (by simpa [HBad.cells] using hown6), Lib.hid (by simpa using HG6.out), HU6.out⟩
          · obtain rfl : j = xo.length := by omega
            have HS := Lib.hid (show badsL txs p ys (txs.drop (k + 1)) = badsL txs p [] txs by
              have := hs2.out
              rw [List.drop_length] at this
              rw [← HST.out, ← this]; rfl)
            go_wp2
            go_roundg (m0 - 1)
            case measure => omega
            case rel => exact ⟨k + 1, A4, c4, ys, by omega, by go_num, rfl, HS, by omega, hown2, HW2.out _ hu2⟩
      · obtain rfl : k = txs.length := by omega
        have HS := Lib.hid (show xs = badsR ⟨txs, ords, A, c, B, d⟩ p by rw [← HV.out, ← hs.out, List.drop_length]; rfl)
        go_wp2
        go_ret
        exact ⟨A3, c3, by rw [← HS.out]; rfl, by rw [← HS.out]; exact own_base hown.out hzw, HU.out.trans hu1⟩
end Go.Proofs.YtgakhpdclhlmpaaGreat
