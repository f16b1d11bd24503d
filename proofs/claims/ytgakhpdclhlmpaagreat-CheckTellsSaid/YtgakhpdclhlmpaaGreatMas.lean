/- The document: kinds of a mask; edges of a mask. -/
import Derived.Test.YtgakhpdclhlmpaaGreatMar
namespace Go.Proofs.YtgakhpdclhlmpaaGreat
set_option linter.unusedVariables false
open Go.RowKit
theorem rMust (w : World) (p : Int) : Calls Tryz.prog 27 #[.int .i64 p] w fun e w' => e = .returned (.int .i64 (mustP p)) ∧ Upd No w w' := by
  by_cases h5 : p = 5
  · subst h5
    go_enter Tryz.func27, Tryz.ntmps27
    go_wp2
    go_ret
    exact ⟨rfl, Upd.refl _ _⟩
  · have hb : (p == 5) = false := by simpa using h5
    have hm := Lib.hid (show mustP p = 0 by unfold mustP; rw [if_neg h5])
    clear h5
    go_enter Tryz.func27, Tryz.ntmps27
    go_wp2
    go_ret
    exact ⟨by rw [hm.out]; rfl, Upd.refl _ _⟩
theorem rMask (w : World) (p : Int) : Calls Tryz.prog 24 #[.int .i64 p] w fun e w' => e = .returned (.int .i64 (maskP p)) ∧ Upd No w w' := by
  by_cases h0 : p < 0
  · have hm := Lib.hid (show maskP p = 0 by unfold maskP; rw [if_neg (by omega), if_neg (by omega), if_neg (by omega)])
    have hb : decide (p < 0) = true := decide_eq_true h0
    clear h0
    go_enter Tryz.func24, Tryz.ntmps24
    go_wp2
    go_ret
    exact ⟨by rw [hm.out]; rfl, (Upd.refl _ _).alloc _⟩
  · by_cases h5 : 5 < p
    · have hm := Lib.hid (show maskP p = 0 by unfold maskP; rw [if_neg (by omega), if_neg (by omega), if_neg (by omega)])
      have hb : decide (p < 0) = false := decide_eq_false h0
      have hb2 : decide (5 < p) = true := decide_eq_true h5
      clear h0 h5
      go_enter Tryz.func24, Tryz.ntmps24
      go_wp2
      go_ret
      exact ⟨by rw [hm.out]; rfl, (Upd.refl _ _).alloc _⟩
    · have hq : p = 0 ∨ p = 1 ∨ p = 2 ∨ p = 3 ∨ p = 4 ∨ p = 5 := by omega
      clear h0 h5
      rcases hq with h | h | h | h | h | h
      · subst h
        go_enter Tryz.func24, Tryz.ntmps24
        go_wp2
        go_ret
        exact ⟨rfl, (Upd.refl _ _).alloc _⟩
      · subst h
        go_enter Tryz.func24, Tryz.ntmps24
        go_wp2
        go_ret
        exact ⟨rfl, (Upd.refl _ _).alloc _⟩
      · subst h
        go_enter Tryz.func24, Tryz.ntmps24
        go_wp2
        go_ret
        exact ⟨rfl, (Upd.refl _ _).alloc _⟩
      · subst h
        go_enter Tryz.func24, Tryz.ntmps24
        go_wp2
        go_ret
        exact ⟨rfl, (Upd.refl _ _).alloc _⟩
      · subst h
        go_enter Tryz.func24, Tryz.ntmps24
        go_wp2
        go_ret
        exact ⟨rfl, (Upd.refl _ _).alloc _⟩
      · subst h
        go_enter Tryz.func24, Tryz.ntmps24
        go_wp2
        go_ret
        exact ⟨rfl, (Upd.refl _ _).alloc _⟩
theorem rbit (w : World) (m k : Int) : Calls Tryz.prog 51 #[.int .i64 m, .int .i64 k] w fun e w' => e = .returned (.bool (bitB m k)) ∧ Upd No w w' := by
  by_cases h1 : k < 1
  · have hv := Lib.hid (show bitB m k = false by unfold bitB; rw [decide_eq_false (show ¬ 1 ≤ k by omega)]; rfl)
    have hb : decide (1 ≤ k) = false := decide_eq_false (by omega)
    clear h1
    go_enter Tryz.func51, Tryz.ntmps51
    go_wp2
    go_ret
    exact ⟨by rw [hv.out]; rfl, (Upd.refl _ _).alloc _⟩
  · by_cases h3 : 3 < k
    · have hv := Lib.hid (show bitB m k = false by unfold bitB; rw [decide_eq_false (show ¬ k ≤ 3 by omega)]; simp)
      have hb : decide (1 ≤ k) = true := decide_eq_true (by omega)
      have hb2 : decide (k ≤ 3) = false := decide_eq_false (by omega)
      clear h1 h3
      go_enter Tryz.func51, Tryz.ntmps51
      go_wp2
      go_ret
      exact ⟨by rw [hv.out]; rfl, (Upd.refl _ _).alloc _⟩
    · have hq : k = 1 ∨ k = 2 ∨ k = 3 := by omega
      clear h1 h3
      rcases hq with h | h | h
      · subst h
        have hv := Lib.hid (show bitB m 1 = !(bits .and .i64 m 2 == 0) from rfl)
        go_enter Tryz.func51, Tryz.ntmps51
        go_wp2
        go_ret
        exact ⟨by rw [hv.out]; rfl, (Upd.refl _ _).alloc _⟩
      · subst h
        have hv := Lib.hid (show bitB m 2 = !(bits .and .i64 m 4 == 0) from rfl)
        go_enter Tryz.func51, Tryz.ntmps51
        go_wp2
        go_ret
        exact ⟨by rw [hv.out]; rfl, (Upd.refl _ _).alloc _⟩
      · subst h
        have hv := Lib.hid (show bitB m 3 = !(bits .and .i64 m 8 == 0) from rfl)
        go_enter Tryz.func51, Tryz.ntmps51
        go_wp2
        go_ret
        exact ⟨by rw [hv.out]; rfl, (Upd.refl _ _).alloc _⟩
end Go.Proofs.YtgakhpdclhlmpaaGreat

/- The document: edges of a mask; whether a witness is right. -/
namespace Go.Proofs.YtgakhpdclhlmpaaGreat
set_option linter.unusedVariables false
open Go.RowKit
/-- edges of the call's own (the document's) -/
def NewEd (w : World) (l : List Edge) (e : Ending) (w' : World) : Prop := ∃ A c, e = .returned (.slice A l.length c) ∧ w'.ownsRow w.heap.size 27 4 (.slice A l.length c) l.length (l.map Edge.cells).flatten ∧ Upd No w w'
theorem ofM_cons (x : Edge) (l : List Edge) (m : Int) : ofM (x :: l) m = if bitB m x.k = true then x :: ofM l m else ofM l m := by
  unfold ofM; rw [List.filter_cons]
set_option maxRecDepth 100000 in
set_option maxHeartbeats 1000000 in
theorem rOf27 (F : Nat → Prop) (w : World) (A : Option Addr) (c : Nat) (l : List Edge) (m : Int) (h : Walk F w A l) (hl : l.length ≤ 1000000) :
    Calls Tryz.prog 26 #[.slice A l.length c, .int .i64 m] w (NewEd w (ofM l m)) := by
  go_enter Tryz.func26, Tryz.ntmps26
  go_wp2
  go_loopg [5, 10] l.length (fun gk s i wr => ∃ (k : Nat) (A3 : Option Addr) (c3 : Nat) (xs : List Edge), k + gk = l.length ∧ i = .int .i64 k ∧ s = .slice A3 xs.length c3 ∧ Hid (xs ++ ofM (l.drop k) m = ofM l m) ∧ xs.length ≤ k ∧
    Hid (wr.ownsRow w.heap.size 27 4 (.slice A3 xs.length c3) xs.length (xs.map Edge.cells).flatten) ∧ Upd No w wr)
  case atStart => exact ⟨0, none, 0, [], by omega, rfl, rfl, Lib.hid rfl, by simp, Lib.hid (World.ownsRow_nil _ _ _ _), Upd.refl _ _⟩
  case round =>
    obtain ⟨k, A3, c3, xs, hgk, rfl, rfl, hs, hxl, hown, hu⟩ := hrel
    by_cases hlt : k < l.length
    · obtain ⟨ad, hAd, q0, q1, q2, q3⟩ := (h.upd hu (fun _ _ => id)).at_ hlt
      obtain ⟨x, hx⟩ : ∃ x, l[k] = x := ⟨_, rfl⟩
      rw [hx] at q0 q1 q2 q3
      obtain ⟨xf, xt, xk, xy⟩ := x
      simp only at q0 q1 q2 q3
      subst hAd
      have X := Lib.hid (show l.drop k = ⟨xf, xt, xk, xy⟩ :: l.drop (k + 1) by rw [← hx]; exact List.drop_eq_getElem_cons hlt)
      have b1 : (0 : Int) ≤ (k : Int) := Int.natCast_nonneg _
      have b2 : (k : Int) < (l.length : Int) := by omega
      have uA := hu.alloc (.cells #[.int .i64 xf, .int .i64 xt, .int .i64 xk, .int .i64 xy] 27)
      have bE := Lib.hid (Blk.new wr 27 [.int .i64 xf, .int .i64 xt, .int .i64 xk, .int .i64 xy])
      have HO := Lib.hid (own_upd hown.out ((Upd.refl No wr).alloc (.cells #[.int .i64 xf, .int .i64 xt, .int .i64 xk, .int .i64 xy] 27)) (fun _ _ => id))
      have hst := hs.out
      rw [X.out, ofM_cons] at hst
      obtain ⟨b, hb⟩ : ∃ b, bitB m xk = b := ⟨_, rfl⟩
      have hc := rbit (wr.alloc (.cells #[.int .i64 xf, .int .i64 xt, .int .i64 xk, .int .i64 xy] 27)) m xk
      simp only [hb] at hst
      rw [hb] at hc
      have HC := Lib.hid hc
      have HST := Lib.hid hst
      have hz := hu.size
      clear hx hb hst hc
      cases b
      · have HS := Lib.hid (show xs ++ ofM (l.drop (k + 1)) m = ofM l m from HST.out)
        go_wp2_with fail
        refine (HC.out).mono ?_
        rintro e w1 ⟨rfl, hu1⟩
        have HO1 := Lib.hid (own_upd HO.out hu1 (fun _ _ => id))
        go_wp2
        go_roundg (gk - 1)
        case measure => omega
        case rel => exact ⟨k + 1, A3, c3, xs, by omega, by go_num, rfl, HS, by omega, HO1, uA.trans hu1⟩
      · have HS := Lib.hid (show (xs ++ [⟨xf, xt, xk, xy⟩]) ++ ofM (l.drop (k + 1)) m = ofM l m by rw [← HST.out]; simp)
        go_wp2_with fail
        refine (HC.out).mono ?_
        rintro e w1 ⟨rfl, hu1⟩
        have HO1 := own_upd HO.out hu1 (fun _ _ => id)
        have bE1 := bE.out.upd hu1 id
        have e0 := bE1.cell 0
        have e1 := bE1.cell 1
        have e2 := bE1.cell 2
        have e3 := bE1.cell 3
        simp only [List.getElem?_cons_zero, List.getElem?_cons_succ] at e0 e1 e2 e3
        have hz1 := hu1.size
        simp only [World.size_alloc] at hz1
        have HU := Lib.hid (uA.trans hu1)
        clear hu1 bE1 uA
        go_wp2_with (at_builtin; refine app1s rfl rfl slt_edges (v := .slice A3 xs.length c3) (cells := [.int .i64 xf, .int .i64 xt, .int .i64 xk, .int .i64 xy]) (by rfl) rfl HO1 rfl rfl (by omega) (by omega) (by omega) ?_; intro g' c' w4 hown4 hu4 hg4 hlt4)
        go_roundg (gk - 1)
        case measure => omega
        case rel => exact ⟨k + 1, some ⟨g', 0, none⟩, c', xs ++ [⟨xf, xt, xk, xy⟩], by omega, by go_num, by simp, HS, by simp; omega, Lib.hid (by simpa [Edge.cells] using hown4), HU.out.then_ hu4 fun i e => .inr (HO1.lt i e).1⟩
    · obtain rfl : k = l.length := by omega
      have HV := Lib.hid (show xs = ofM l m by rw [← hs.out, List.drop_length]; simp [ofM])
      go_wp2
      go_ret
      exact ⟨A3, c3, by rw [← HV.out]; rfl, by rw [← HV.out]; exact hown.out, hu⟩
set_option maxRecDepth 100000 in
theorem rCount16 (F : Nat → Prop) (w : World) (txs : List HTx) (ords : List HOrd) (A : Option Addr) (c : Nat) (B : Option Addr) (d : Nat) (e : Edge) (H : Hist.lies F w ⟨txs, ords, A, c, B, d⟩) :
    Calls Tryz.prog 7 #[.agg #[.slice A txs.length c, .slice B ords.length d], .agg e.cells.toArray] w fun r w' => r = .returned (.int .i64 ((countR ⟨txs, ords, A, c, B, d⟩ e : Nat) : Int)) ∧ Upd No w w' := by
  obtain ⟨ef, et, ek, ey⟩ := e
  unfold Edge.cells
  have u0 := ((Upd.refl No w).alloc (.cells #[.slice A txs.length c, .slice B ords.length d] 25)).alloc (.cells #[.int .i64 ef, .int .i64 et, .int .i64 ek, .int .i64 ey] 27)
  have bH := Lib.hid ((Blk.new w 25 [.slice A txs.length c, .slice B ords.length d]).alloc (.cells #[.int .i64 ef, .int .i64 et, .int .i64 ek, .int .i64 ey] 27))
  have b1 := Blk.new (w.alloc (.cells #[.slice A txs.length c, .slice B ords.length d] 25)) 27 [.int .i64 ef, .int .i64 et, .int .i64 ek, .int .i64 ey]
  simp only [World.size_alloc] at b1
  have bX := Lib.hid b1
  have U0 := Lib.hid u0
  clear b1 u0
  obtain ⟨b, hb⟩ : ∃ b, rightB ⟨txs, ords, A, c, B, d⟩ = b := ⟨_, rfl⟩
  have HR := Lib.hid (rRightV (H.upd U0.out (fun _ _ => id)) hb)
  cases b
  · have HV := Lib.hid (show countR ⟨txs, ords, A, c, B, d⟩ ⟨ef, et, ek, ey⟩ = 0 by unfold countR; rw [if_neg (by rw [hb]; decide)])
    clear hb
    go_enter Tryz.func7, Tryz.ntmps7
    go_wp2_with fail
    refine (HR.out).mono ?_
    rintro e w1 ⟨rfl, hu1⟩
    go_wp2
    go_ret
    exact ⟨by rw [HV.out]; rfl, U0.out.trans hu1⟩
  · have HV := Lib.hid (show countR ⟨txs, ords, A, c, B, d⟩ ⟨ef, et, ek, ey⟩ = cntR ⟨txs, ords, A, c, B, d⟩ ⟨ef, et, ek, ey⟩ by unfold countR; rw [if_pos hb])
    have HC := Lib.hid fun W (hW : Upd No w W) => rcount16 F W txs ords A c B d ⟨ef, et, ek, ey⟩ (H.upd hW (fun _ _ => id))
    clear hb
    go_enter Tryz.func7, Tryz.ntmps7
    go_wp2_with fail
    refine (HR.out).mono ?_
    rintro e w1 ⟨rfl, hu1⟩
    have bX1 := bX.out.upd hu1 id
    have bH1 := bH.out.upd hu1 id
    have y0 := bX1.cell 0
    have y1 := bX1.cell 1
    have y2 := bX1.cell 2
    have y3 := bX1.cell 3
    have r0 := bH1.cell 0
    have r1 := bH1.cell 1
    simp only [List.getElem?_cons_zero, List.getElem?_cons_succ] at y0 y1 y2 y3 r0 r1
    have U1 := Lib.hid (U0.out.trans hu1)
    clear bX1 bH1 hu1
    go_wp2_with fail
    refine (HC.out _ U1.out).mono ?_
    rintro e w2 ⟨rfl, hu2⟩
    go_wp2
    go_ret
    exact ⟨by rw [HV.out]; rfl, U1.out.trans hu2⟩
theorem badsT_len (txs : List HTx) (p : Int) (t : HTx) : ∀ (l : List HOp) (i : Nat) (acc : List HBad), (badsT txs p t i acc l).length ≤ acc.length + l.length
  | [], i, acc => by simp [badsT]
  | o :: l, i, acc => by
    rw [badsT_cons]
    have := badsT_len txs p t l (i + 1) (if badO txs t p o then acc ++ [⟨t.id, i, verOf o⟩] else acc)
    have h2 : (if badO txs t p o then acc ++ [⟨t.id, i, verOf o⟩] else acc).length ≤ acc.length + 1 := by split <;> simp
    rw [List.length_cons]; omega
theorem badsL_len (txs : List HTx) (p : Int) : ∀ (l : List HTx) (acc : List HBad), (∀ t ∈ l, t.ops.length ≤ 4095) → (badsL txs p acc l).length ≤ acc.length + 4095 * l.length
  | [], acc, _ => by simp [badsL]
  | t :: l, acc, h => by
    rw [badsL_cons]
    have h1 := badsL_len txs p l (badsT txs p t 0 acc t.ops) (fun u hu => h u (List.mem_cons_of_mem _ hu))
    have h2 := badsT_len txs p t t.ops 0 acc
    have h3 := h t (List.mem_cons_self ..)
    rw [List.length_cons]; omega
theorem badsR_len (h : Hist) (p : Int) : (badsR h p).length ≤ 100000000 := by
  unfold badsR
  split
  · rename_i hr
    have h1 := badsL_len h.txs p h.txs [] fun t ht => txErr_len (right_parts hr ht).1
    have h2 : h.txs.length ≤ 4096 := by
      unfold rightB at hr
      simp only [Bool.and_eq_true, decide_eq_true_eq] at hr
      exact hr.1.1.1
    simp only [List.length_nil, Nat.zero_add] at h1
    omega
  · simp
end Go.Proofs.YtgakhpdclhlmpaaGreat
