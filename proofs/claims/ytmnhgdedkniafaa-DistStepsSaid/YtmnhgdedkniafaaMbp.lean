/- Ways: the law of steps. -/
import Derived.Test.YtmnhgdedkniafaaMbk
import Derived.Test.YtmnhgdedkniafaaMbn
import Derived.Test.YtmnhgdedkniafaaMbo
namespace Go.Proofs.Ytmnhgdedkniafaa
set_option linter.unusedVariables false
open Go.RowKit
/-- arcs, one behind the other -/
def chainA : Int → List HArc → Int → Prop
  | a, [], b => a = b
  | a, x :: l, b => x.f = a ∧ chainA x.t l b
theorem wayF_chain {N : Nat} {p : List HArc} {least node : Int} {d : Int → Int} (h : DistOf N p least node d) : ∀ (k : Nat) (a : Int), d a = (k : Int) → chainA a (wayF p d least k a) node ∧ (wayF p d least k a).length = k ∧ ∀ x ∈ wayF p d least k a, x ∈ p
  | 0, a, ha => ⟨((h.z a).1 (by simpa using ha)).1, rfl, fun x hx => by cases hx⟩
  | k + 1, a, ha => by
    obtain ⟨x, h1, h2, h3, h4, h5⟩ := stepW_some h (u := a) (by omega)
    have ih := wayF_chain h k x.t (by omega)
    rw [wayF_succ k h1]
    refine ⟨⟨h3, ih.1⟩, by simp [ih.2.1], fun y hy => ?_⟩
    rcases List.mem_cons.1 hy with rfl | hy
    · exact h2
    · exact ih.2.2 y hy
set_option maxRecDepth 100000 in
set_option maxHeartbeats 8000000 in
theorem steps26 (F : Nat → Prop) (w : World) (n : Int) (A : Option Addr) (c : Nat) (l : List HArc) (mask from' to' : Int) (hL : ArcsL F w A l) (hll : l.length ≤ 9223372036854775807) (L : Hid (∀ w : World, Calls Try.prog 65 #[] w fun e w' => e = .returned (.bool true) ∧ Upd No w w')) :
    Calls Try.prog 9 #[.int .i64 n, .slice A l.length c, .int .i64 mask, .int .i64 from', .int .i64 to'] w fun e w' => e = .returned (.bool true) ∧ Upd No w w' := by
  by_cases h0 : n < 1
  · go_enter Try.func9, Try.ntmps9
    go_wp2_with fail
    refine (L.out _).mono ?_
    rintro e w1 ⟨rfl, hu1⟩
    go_wp2
    go_ret
    exact ⟨rfl, hu1⟩
  by_cases h1 : 30 < n
  · go_enter Try.func9, Try.ntmps9
    go_wp2_with fail
    refine (L.out _).mono ?_
    rintro e w1 ⟨rfl, hu1⟩
    go_wp2
    go_ret
    exact ⟨rfl, hu1⟩
  by_cases h2 : (100 : Int) < (l.length : Int)
  · go_enter Try.func9, Try.ntmps9
    go_wp2_with fail
    refine (L.out _).mono ?_
    rintro e w1 ⟨rfl, hu1⟩
    go_wp2
    go_ret
    exact ⟨rfl, hu1⟩
  obtain ⟨N, rfl⟩ : ∃ N : Nat, n = (N : Int) := ⟨n.toNat, by omega⟩
  have hN : roomN (N : Int) = N := by unfold roomN; omega
  have HMade := Lib.hid (fun (W : World) (u : Upd No w W) => hN ▸ dmade F W (N : Int) A c l (hL.upd u (fun _ _ => id)) (by omega))
  clear hN hL
  go_enter Try.func9, Try.ntmps9
  go_wp2_with fail
  refine (L.out _).mono ?_
  rintro e w1 ⟨rfl, hu1⟩
  go_wp2_with fail
  refine (HMade.out w1 hu1).mono ?_
  rintro e w2 ⟨g, rfl, hd2⟩
  obtain ⟨q, hq⟩ : ∃ q, madeQ N [] l = q := ⟨_, rfl⟩
  rw [hq] at hd2
  have HU2 := Lib.hid (hu1.trans hd2.upd)
  obtain ⟨G, hdg⟩ := hd2.is
  obtain ⟨p, hp⟩ : ∃ p, ofA mask q = p := ⟨_, rfl⟩
  have hpr : ∀ x ∈ p, 0 ≤ x.f ∧ x.f < (N : Int) := fun x hx => by
    rw [← hp] at hx
    have := (rightA_iff _ _).1 (hdg.right x (mem_ofA.1 hx).1)
    exact ⟨this.1, this.2.1⟩
  have hprt : ∀ x ∈ p, 0 ≤ x.t ∧ x.t < (N : Int) := fun x hx => by
    rw [← hp] at hx
    have := (rightA_iff _ _).1 (hdg.right x (mem_ofA.1 hx).1)
    exact ⟨this.2.2.1, this.2.2.2.1⟩
  have hpl : p.length ≤ 100 := by rw [← hp]; have := List.length_filter_le (fun x => bitM mask x.kind) q; have := hdg.few; unfold ofA; omega
  have HNext := Lib.hid (fun (W : World) (u : Upd No w2 W) (i : Int) => hp ▸ dgnext (hdg.no u) i mask)
  have HTo := Lib.hid (fun (W : World) (u : Upd No w2 W) => hp ▸ dto W G (some ⟨g, 0, none⟩) N l.length q (hdg.no u) (by omega) mask to' 0)
  have HWay := Lib.hid (fun (W : World) (u : Upd No w2 W) => hp ▸ dway W G (some ⟨g, 0, none⟩) N l.length q (hdg.no u) (by omega) mask from' to' 0)
  have HHas := Lib.hid (fun (W : World) (u : Upd No w2 W) (a : HArc) (ha : a ∈ p) => (show decide (a ∈ q) = true from decide_eq_true (mem_ofA.1 (hp ▸ ha : a ∈ ofA mask q)).1) ▸ dghas (hdg.no u) a)
  have HDI := Lib.hid (distL_is hpr 0 to')
  obtain ⟨d, hd⟩ : ∃ d, distL N p 0 to' = d := ⟨_, rfl⟩
  have HWL := Lib.hid (show wayB N p 0 from' to' = (startB N 0 from' && decide (0 ≤ d from')) ∧ wayL N p 0 from' to' = if wayB N p 0 from' to' = true then wayF p d 0 (d from').toNat from' else [] by unfold wayL wayB; rw [hd]; exact ⟨rfl, rfl⟩)
  rw [hd] at HTo HDI
  generalize wayB N p 0 from' to' = B at *
  generalize wayL N p 0 from' to' = R at *
  have HPR := Lib.hid hpr
  have HPT := Lib.hid hprt
  have HPL := Lib.hid hpl
  clear hd2 hu1 hq hp hpr hprt hpl hdg hd L HMade
  go_wp2_with fail
  refine (HTo.out w2 (Upd.refl _ _)).mono ?_
  rintro e w3 ⟨dg, rfl, hb3, hg3, hu3⟩
  rw [rowD_len] at *
  have HC := Lib.hid (fun (W : World) (u : Upd No w3 W) (i : Nat) (hi : i < N) => (show W.cell? ⟨dg, i, none⟩ = some (.int .i64 (d (i : Int))) from by rw [(hb3.upd u id).cell i, List.getElem?_map, rowD_at d hi]; rfl))
  have HU3 := Lib.hid hu3
  clear hb3 hu3 HTo hg3
  go_wp2
  go_loopg [13] N (fun gk i wr => ∃ (k : Nat), k + gk = N ∧ i = .int .i64 k ∧ Upd No w3 wr)
  case atStart => exact ⟨0, by omega, rfl, Upd.refl _ _⟩
  case round =>
    obtain ⟨k, hgk, rfl, hu⟩ := hrel
    by_cases hlt : k < N
    · have b1 : (0 : Int) ≤ (k : Int) := Int.natCast_nonneg _
      have b2 : (k : Int) < (N : Int) := by omega
      have cu := HC.out wr hu k hlt
      obtain ⟨du, hdu⟩ : ∃ v, d (k : Int) = v := ⟨_, rfl⟩
      rw [hdu] at cu
      have HDU := Lib.hid hdu
      obtain ⟨be, hbe⟩ : ∃ v, ((k : Int) == to') = v := ⟨_, rfl⟩
      have hzz : (du == 0) = be := by
        rw [← hbe, Bool.eq_iff_iff, beq_iff_eq, beq_iff_eq, ← hdu]
        constructor
        · intro h; exact ((HDI.out.z (k : Int)).1 h).1
        · intro h
          refine (HDI.out.z (k : Int)).2 ⟨h, ?_⟩
          unfold startB
          rw [← h, decide_eq_true (by omega), decide_eq_true b2]
          rfl
      obtain ⟨us, hus⟩ : ∃ us, nxA (k : Int) false p = us := ⟨_, rfl⟩
      have husl : us.length ≤ 100 := by rw [← hus]; exact Nat.le_trans (nx_nodup _ _ _) HPL.out
      have HNx := Lib.hid (hus ▸ HNext.out wr (HU3.out.trans hu) (k : Int))
      have HUS := Lib.hid (show ∀ v ∈ us, (0 ≤ v ∧ v < (N : Int)) ∧ (k : Int) ∈ prevF p v from fun v hv => by
        rw [← hus] at hv
        refine ⟨?_, nx_sym.1 hv⟩
        unfold nxA at hv
        rw [mem_nxS] at hv
        simp only [List.not_mem_nil, false_or, Bool.false_eq_true, if_false] at hv
        obtain ⟨x, h1, h2, h3⟩ := hv
        rw [h3]; exact HPT.out x h1)
      have hlo := HDI.out.lo (k : Int)
      have hhi := HDI.out.hi (k : Int)
      rw [hdu] at hlo hhi
      have HFin := Lib.hid (show ((be || decide (du < 0)) || us.any fun v => d v == du - 1) = true from by
        by_cases e : (k : Int) = to'
        · rw [← hbe]; simp [e]
        · by_cases e2 : du < 0
          · simp [e2]
          · rcases HDI.out.par (k : Int) (by omega) with ⟨h1, _⟩ | ⟨v, h1, h2, h3, h4⟩
            · exact absurd h1 e
            · have hv : v ∈ us := by rw [← hus]; exact nx_sym.2 h1
              have : us.any (fun v => d v == du - 1) = true := List.any_eq_true.2 ⟨v, hv, by simp; omega⟩
              rw [this]; simp)
      clear hus hdu
      generalize gk = m0 at *
      cases be
      · obtain ⟨bd, hbd⟩ : ∃ v, decide (du < 0) = v := ⟨_, rfl⟩
        have HFin := Lib.hid (show (bd || us.any fun v => d v == du - 1) = true from by rw [← hbd]; simpa using HFin.out)
        go_wp2_with fail
        refine (HNx.out).mono ?_
        rintro e w4 ⟨A4, c4, rfl, ho4, hu4⟩
        have HI := Lib.hid (Ints.of_own ho4)
        have HU4 := Lib.hid (hu.trans hu4)
        clear ho4 hu4 hu cu
        go_wp2
        (try clear hbd)
        go_loopg [14, 68] us.length (fun gk s i wr => ∃ (j : Nat) (b : Bool), j + gk = us.length ∧ i = .int .i64 j ∧ s = .bool b ∧ Hid (b = (bd || (us.take j).any fun v => d v == du - 1)) ∧ Upd No w4 wr)
        case atStart => exact ⟨0, bd, by omega, rfl, rfl, Lib.hid (by simp), Upd.refl _ _⟩
        case round =>
          obtain ⟨j, b, hgj, rfl, rfl, hb, hu⟩ := hrel
          have cu := HC.out wr (HU4.out.trans hu) k hlt
          rw [HDU.out] at cu
          by_cases hlt2 : j < us.length
          · obtain ⟨ad, rfl, _, _, hc⟩ := (HI.out.upd hu (fun _ _ => id)).at_ hlt2
            obtain ⟨v, hv⟩ : ∃ v, us[j] = v := ⟨_, rfl⟩
            rw [hv] at hc
            have hvu := HUS.out v (hv ▸ List.getElem_mem hlt2)
            obtain ⟨vi, rfl⟩ : ∃ vi : Nat, v = (vi : Int) := ⟨v.toNat, by omega⟩
            have hvi : vi < N := by omega
            have cv := HC.out wr (HU4.out.trans hu) vi hvi
            have hcl := fun h => HDI.out.clo (vi : Int) h (k : Int) hvu.2 b1
            have hvlo := HDI.out.lo (vi : Int)
            have hvhi := HDI.out.hi (vi : Int)
            obtain ⟨dv, hdv⟩ : ∃ x, d (vi : Int) = x := ⟨_, rfl⟩
            rw [hdv] at cv hcl hvlo hvhi
            rw [HDU.out] at hcl
            obtain ⟨bb, hbb⟩ : ∃ x, (dv == du - 1) = x := ⟨_, rfl⟩
            have HB := Lib.hid (show (b || bb) = (bd || (us.take (j + 1)).any fun v => d v == du - 1) from by
              rw [List.take_succ_eq_append_getElem hlt2, List.any_append, hv, hb.out]
              simp only [List.any_cons, List.any_nil, Bool.or_false, hdv, hbb, Bool.or_assoc])
            have c1 : (0 : Int) ≤ (j : Int) := Int.natCast_nonneg _
            have c2 : (j : Int) < (us.length : Int) := by omega
            have c3 : (0 : Int) ≤ (vi : Int) := Int.natCast_nonneg _
            have c4' : (vi : Int) < (N : Int) := by omega
            have hw1 : IntKind.i64.wrap (dv + 1) = dv + 1 := IntWalk.i64_in _ (by omega)
            have hw2 : IntKind.i64.wrap (du - 1) = du - 1 := IntWalk.i64_in _ (by omega)
            clear hv hvu hdv hb
            by_cases hd0 : 0 ≤ dv
            · have hcl2 := hcl hd0
              have hn1 : ¬ du < 0 := by omega
              have hn2 : ¬ dv + 1 < du := by omega
              have hn3 : decide (du < 0) = false := decide_eq_false hn1
              have hn4 : decide (dv + 1 < du) = false := decide_eq_false hn2
              have hn5 : decide (0 ≤ dv) = true := decide_eq_true hd0
              clear hcl hcl2
              cases b
              · go_wp2
                go_quiet (fail)
                go_wp2
                go_quiet (fail)
                go_wp2
                go_roundg (gk - 1)
                case measure => omega
                case rel => exact ⟨j + 1, _, by omega, by go_num, by first | rfl | simp, HB, (hu.drewN _)⟩
              · go_wp2
                go_quiet (fail)
                go_wp2
                go_quiet (fail)
                go_wp2
                go_roundg (gk - 1)
                case measure => omega
                case rel => exact ⟨j + 1, _, by omega, by go_num, by first | rfl | simp, HB, (hu.drewN _)⟩
            · have hn5 : decide (0 ≤ dv) = false := decide_eq_false hd0
              clear hcl
              cases b
              · go_wp2
                go_quiet (fail)
                go_wp2
                go_quiet (fail)
                go_wp2
                go_roundg (gk - 1)
                case measure => omega
                case rel => exact ⟨j + 1, _, by omega, by go_num, by first | rfl | simp, HB, (hu.drewN _)⟩
              · go_wp2
                go_quiet (fail)
                go_wp2
                go_quiet (fail)
                go_wp2
                go_roundg (gk - 1)
                case measure => omega
                case rel => exact ⟨j + 1, _, by omega, by go_num, by first | rfl | simp, HB, (hu.drewN _)⟩
          · obtain rfl : j = us.length := by omega
            have hbt : b = true := by rw [hb.out, List.take_length]; exact HFin.out
            subst hbt
            clear hb
            go_wp2
            go_roundg (m0 - 1)
            case measure => omega
            case rel => exact ⟨k + 1, by omega, by go_num, HU4.out.trans hu⟩
      · go_wp2_with fail
        refine (HNx.out).mono ?_
        rintro e w4 ⟨A4, c4, rfl, ho4, hu4⟩
        have HI := Lib.hid (Ints.of_own ho4)
        have HU4 := Lib.hid (hu.trans hu4)
        clear ho4 hu4 hu cu
        go_wp2
        (try clear hbd)
        go_loopg [14, 68] us.length (fun gk s i wr => ∃ (j : Nat) (b : Bool), j + gk = us.length ∧ i = .int .i64 j ∧ s = .bool b ∧ Hid (b = (true || (us.take j).any fun v => d v == du - 1)) ∧ Upd No w4 wr)
        case atStart => exact ⟨0, true, by omega, rfl, rfl, Lib.hid (by simp), Upd.refl _ _⟩
        case round =>
          obtain ⟨j, b, hgj, rfl, rfl, hb, hu⟩ := hrel
          have cu := HC.out wr (HU4.out.trans hu) k hlt
          rw [HDU.out] at cu
          by_cases hlt2 : j < us.length
          · obtain ⟨ad, rfl, _, _, hc⟩ := (HI.out.upd hu (fun _ _ => id)).at_ hlt2
            obtain ⟨v, hv⟩ : ∃ v, us[j] = v := ⟨_, rfl⟩
            rw [hv] at hc
            have hvu := HUS.out v (hv ▸ List.getElem_mem hlt2)
            obtain ⟨vi, rfl⟩ : ∃ vi : Nat, v = (vi : Int) := ⟨v.toNat, by omega⟩
            have hvi : vi < N := by omega
            have cv := HC.out wr (HU4.out.trans hu) vi hvi
            have hcl := fun h => HDI.out.clo (vi : Int) h (k : Int) hvu.2 b1
            have hvlo := HDI.out.lo (vi : Int)
            have hvhi := HDI.out.hi (vi : Int)
            obtain ⟨dv, hdv⟩ : ∃ x, d (vi : Int) = x := ⟨_, rfl⟩
            rw [hdv] at cv hcl hvlo hvhi
            rw [HDU.out] at hcl
            obtain ⟨bb, hbb⟩ : ∃ x, (dv == du - 1) = x := ⟨_, rfl⟩
            have HB := Lib.hid (show (b || bb) = (true || (us.take (j + 1)).any fun v => d v == du - 1) from by
              rw [List.take_succ_eq_append_getElem hlt2, List.any_append, hv, hb.out]
              simp only [List.any_cons, List.any_nil, Bool.or_false, hdv, hbb, Bool.or_assoc])
            have c1 : (0 : Int) ≤ (j : Int) := Int.natCast_nonneg _
            have c2 : (j : Int) < (us.length : Int) := by omega
            have c3 : (0 : Int) ≤ (vi : Int) := Int.natCast_nonneg _
            have c4' : (vi : Int) < (N : Int) := by omega
            have hw1 : IntKind.i64.wrap (dv + 1) = dv + 1 := IntWalk.i64_in _ (by omega)
            have hw2 : IntKind.i64.wrap (du - 1) = du - 1 := IntWalk.i64_in _ (by omega)
            clear hv hvu hdv hb
            by_cases hd0 : 0 ≤ dv
            · have hcl2 := hcl hd0
              have hn1 : ¬ du < 0 := by omega
              have hn2 : ¬ dv + 1 < du := by omega
              have hn3 : decide (du < 0) = false := decide_eq_false hn1
              have hn4 : decide (dv + 1 < du) = false := decide_eq_false hn2
              have hn5 : decide (0 ≤ dv) = true := decide_eq_true hd0
              clear hcl hcl2
              cases b
              · go_wp2
                go_quiet (fail)
                go_wp2
                go_quiet (fail)
                go_wp2
                go_roundg (gk - 1)
                case measure => omega
                case rel => exact ⟨j + 1, _, by omega, by go_num, by first | rfl | simp, HB, (hu.drewN _)⟩
              · go_wp2
                go_quiet (fail)
                go_wp2
                go_quiet (fail)
                go_wp2
                go_roundg (gk - 1)
                case measure => omega
                case rel => exact ⟨j + 1, _, by omega, by go_num, by first | rfl | simp, HB, (hu.drewN _)⟩
            · have hn5 : decide (0 ≤ dv) = false := decide_eq_false hd0
              clear hcl
              cases b
              · go_wp2
                go_quiet (fail)
                go_wp2
                go_quiet (fail)
                go_wp2
                go_roundg (gk - 1)
                case measure => omega
                case rel => exact ⟨j + 1, _, by omega, by go_num, by first | rfl | simp, HB, (hu.drewN _)⟩
              · go_wp2
                go_quiet (fail)
                go_wp2
                go_quiet (fail)
                go_wp2
                go_roundg (gk - 1)
                case measure => omega
                case rel => exact ⟨j + 1, _, by omega, by go_num, by first | rfl | simp, HB, (hu.drewN _)⟩
          · obtain rfl : j = us.length := by omega
            have hbt : b = true := by rw [hb.out, List.take_length]; exact HFin.out
            subst hbt
            clear hb
            go_wp2
            go_roundg (m0 - 1)
            case measure => omega
            case rel => exact ⟨k + 1, by omega, by go_num, HU4.out.trans hu⟩
    · obtain rfl : k = N := by omega
      go_wp2_with fail
      refine (HWay.out wr (HU3.out.trans hu)).mono ?_
      rintro e w5 ⟨A5, c5, rfl, ho5, hu5⟩
      have hBR := HWL.out
      by_cases hf : 0 ≤ from' ∧ from' < (k : Int)
      · obtain ⟨fi, rfl⟩ : ∃ fi : Nat, from' = (fi : Int) := ⟨from'.toNat, by omega⟩
        have hfi : fi < k := by omega
        have hsb : startB k 0 (fi : Int) = true := by unfold startB; rw [decide_eq_true (by omega), decide_eq_true (by omega)]; rfl
        have cf := HC.out w5 (hu.trans hu5) fi hfi
        have f1 : (0 : Int) ≤ (fi : Int) := by omega
        have f2 : (fi : Int) < (k : Int) := by omega
        obtain ⟨df, hdf⟩ : ∃ x, d (fi : Int) = x := ⟨_, rfl⟩
        rw [hdf, hsb] at hBR
        rw [hdf] at cf
        by_cases hdn : df < 0
        · have hB : B = false := by rw [hBR.1, decide_eq_false (by omega)]; rfl
          subst hB
          have hR : R = [] := by rw [hBR.2]; rfl
          subst hR
          have HU6 := Lib.hid (HU2.out.trans (HU3.out.trans (hu.trans hu5)))
          clear hBR hf hsb hdf ho5 hu5 hu
          go_wp2
          go_ret
          exact ⟨rfl, HU6.out⟩
        · have hB : B = true := by rw [hBR.1, decide_eq_true (by omega)]; rfl
          subst hB
          have hR : R = wayF p d 0 df.toNat (fi : Int) := by rw [hBR.2, if_pos rfl]
          have hch := wayF_chain HDI.out df.toNat (fi : Int) (by omega)
          rw [← hR] at hch
          have HCH := Lib.hid hch
          have hRl : (R.length : Int) = df := by have := hch.2.1; omega
          have hdm := HDI.out.hi (fi : Int)
          rw [hdf] at hdm
          have HA := Lib.hid (arcs_own' ho5)
          have HU5 := Lib.hid (hu.trans hu5)
          have HRL := Lib.hid hRl
          have HDF := Lib.hid hdf
          have hR100 : R.length ≤ 100 := by omega
          have hk9 : decide (k ≤ fi) = false := decide_eq_false (by omega)
          have hk8 : decide ((k : Int) ≤ (fi : Int)) = false := decide_eq_false (by omega)
          have hk7 : decide ((fi : Int) < 0) = false := decide_eq_false (by omega)
          have hk6 : decide (df < 0) = false := decide_eq_false hdn
          clear hBR hf hsb hdf ho5 hu5 hu hch hR hRl
          go_wp2
          go_loopg [19, 155] R.length (fun gk a i wr => ∃ (j : Nat) (ai : Int), j + gk = R.length ∧ i = .int .i64 j ∧ a = .int .i64 ai ∧ Hid (chainA ai (R.drop j) to') ∧ Upd No w5 wr)
          case atStart => exact ⟨0, (fi : Int), by omega, rfl, rfl, Lib.hid HCH.out.1, Upd.refl _ _⟩
          case round =>
            obtain ⟨j, ai, hgj, rfl, rfl, hcn, hu⟩ := hrel
            by_cases hlt3 : j < R.length
            · obtain ⟨ax, rfl, q0, q1, q2, q3⟩ := (HA.out.upd hu (fun _ _ => id)).at_ hlt3
              obtain ⟨x, hx⟩ : ∃ x, R[j] = x := ⟨_, rfl⟩
              rw [hx] at q0 q1 q2 q3
              have hxp := HCH.out.2.2 x (hx ▸ List.getElem_mem hlt3)
              have hcn2 := hcn.out
              rw [List.drop_eq_getElem_cons hlt3, hx] at hcn2
              obtain ⟨hxf, hcn3⟩ : x.f = ai ∧ chainA x.t (R.drop (j + 1)) to' := hcn2
              have HCN := Lib.hid hcn3
              obtain ⟨xf, xt, xk, xl⟩ := x
              simp only at q0 q1 q2 q3 hxf
              subst hxf
              have c1 : (0 : Int) ≤ (j : Int) := Int.natCast_nonneg _
              have c2 : (j : Int) < (R.length : Int) := by omega
              have bo := Blk.new wr 63 [.int .i64 xf, .int .i64 xt, .int .i64 xk, .int .i64 xl]
              have g0 := bo.cell 0
              have g1 := bo.cell 1
              have g2 := bo.cell 2
              have g3 := bo.cell 3
              simp only [List.getElem?_cons_zero, List.getElem?_cons_succ] at g0 g1 g2 g3
              have HUx := Lib.hid (hu.alloc (.cells #[.int .i64 xf, .int .i64 xt, .int .i64 xk, .int .i64 xl] 63))
              have BO := Lib.hid bo
              have hH := Lib.hid (HHas.out _ (HU3.out.trans (HU5.out.trans HUx.out)) _ hxp)
              clear bo hx hxp hcn hcn3 hu
              go_wp2_with fail
              refine (hH.out).mono ?_
              rintro e w8 ⟨rfl, hu8⟩
              have f1' := (BO.out.upd hu8 id).cell 1
              simp only [List.getElem?_cons_zero, List.getElem?_cons_succ] at f1'
              have HU8 := Lib.hid (HUx.out.trans hu8)
              clear hu8
              go_wp2
              go_roundg (gk - 1)
              case measure => omega
              case rel => exact ⟨j + 1, xt, by omega, by go_num, rfl, HCN, HU8.out⟩
            · obtain rfl : j = R.length := by omega
              have hat : ai = to' := by have := hcn.out; rw [List.drop_length] at this; exact this
              subst hat
              have cf := HC.out wr (HU5.out.trans hu) fi hfi
              rw [HDF.out, ← HRL.out] at cf
              have HU9 := Lib.hid (HU2.out.trans (HU3.out.trans (HU5.out.trans hu)))
              clear hcn hu
              go_wp2
              go_ret
              exact ⟨rfl, HU9.out⟩
      · have hsb : startB k 0 from' = false := by
          unfold startB
          by_cases h1 : 0 ≤ from'
          · rw [decide_eq_false (show ¬ from' < (k : Int) from fun e => hf ⟨h1, e⟩)]; simp
          · rw [decide_eq_false (show ¬ max 0 0 ≤ from' from by omega)]; rfl
        rw [hsb] at hBR
        have hB : B = false := by rw [hBR.1]; rfl
        subst hB
        have hR : R = [] := by rw [hBR.2]; rfl
        subst hR
        have HU6 := Lib.hid (HU2.out.trans (HU3.out.trans (hu.trans hu5)))
        by_cases hf1 : from' < 0
        · clear hBR hsb hf ho5 hu5 hu
          go_wp2
          go_ret
          exact ⟨rfl, HU6.out⟩
        · have hf2 : (k : Int) ≤ from' := by omega
          clear hBR hsb hf ho5 hu5 hu
          go_wp2
          go_ret
          exact ⟨rfl, HU6.out⟩
end Go.Proofs.Ytmnhgdedkniafaa

/- Ways: how far each node is, by walks with an arc of another mask; plain words on two states of a node. -/
namespace Go.Proofs.Ytmnhgdedkniafaa
set_option linter.unusedVariables false
open Go.RowKit
theorem and_one (x : Int) : bits .and .i64 x 1 = x % 2 := by
  have h := and_lit x 1 (by omega)
  rw [Nat.and_one_is_mod] at h
  have h' : bits .and .i64 x 1 = (((x % 18446744073709551616).toNat % 2 : Nat) : Int) := h
  rw [h']
  omega
theorem or_low (u h : Nat) (hu : u ≤ 1000000) (hh : h ≤ 1) : bits .or .i64 ((u : Int) * 2) (h : Int) = (u : Int) * 2 + (h : Int) := by
  change IntKind.i64.wrap (((BitVec.ofInt 64 ((u : Int) * 2) ||| BitVec.ofInt 64 (h : Int)).toNat : Nat) : Int) = _
  have h1 : (BitVec.ofInt 64 ((u : Int) * 2)).toNat = u <<< 1 := by rw [BitVec.toNat_ofInt, Nat.shiftLeft_eq]; omega
  have h2 : (BitVec.ofInt 64 (h : Int)).toNat = h := by rw [BitVec.toNat_ofInt]; omega
  rw [BitVec.toNat_or, h1, h2, ← Nat.shiftLeft_add_eq_or_of_lt (by omega), Nat.shiftLeft_eq]
  have : IntKind.i64.wrap (((u * 2 ^ 1 + h : Nat) : Nat) : Int) = ((u * 2 ^ 1 + h : Nat) : Int) := IntWalk.i64_in _ (by omega)
  rw [this]
  omega
/-- a node's two states, as numbers -/
def nowF (m1 m2 : Int) (had : Int) : Int := if m1 = m2 then 1 else had
def prev2 (p1 p2 : List HArc) (m1 m2 : Int) : Int → List Int := fun x => ((nxA (x / 2) true p1).map fun u => u * 2 + nowF m1 m2 (x % 2)) ++ ((nxA (x / 2) true p2).map fun u => u * 2 + 1)
def okL2 (least : Int) : Int → Bool := fun y => decide (least ≤ y / 2)
def mustL (N : Nat) (p1 p2 : List HArc) (m1 m2 least node : Int) : Int → Int :=
  if startB N least node = true then bfsA (okL2 least) (prev2 p1 p2 m1 m2) (2 * N) (rootF (node * 2), [node * 2]) else fun _ => -1
def row0 (N : Nat) (d : Int → Int) (h : Int) : List Int := rowD N fun i : Int => d (i * 2 + h)
theorem row0_set {N u : Nat} (d : Int → Int) {h : Int} (hh : h = 0 ∨ h = 1) (v : Int) (hu : u < N) : (row0 N d h).set u v = row0 N (updF d ((u : Int) * 2 + h) v) h := by
  unfold row0
  rw [rowD_set _ v hu]
  unfold rowD
  apply List.map_congr_left
  intro i hi
  unfold updF
  by_cases e : (i : Int) = (u : Int)
  · rw [if_pos e]
    show v = if (i : Int) * 2 + h = (u : Int) * 2 + h then v else d ((i : Int) * 2 + h)
    rw [if_pos (by omega)]
  · rw [if_neg e]
    show d ((i : Int) * 2 + h) = if (i : Int) * 2 + h = (u : Int) * 2 + h then v else d ((i : Int) * 2 + h)
    rw [if_neg (by omega)]
theorem row0_other {N : Nat} (d : Int → Int) {u h k : Int} (hh : h = 0 ∨ h = 1) (hk : k = 0 ∨ k = 1) (hne : h ≠ k) (v : Int) : row0 N (updF d (u * 2 + h) v) k = row0 N d k := by
  unfold row0 rowD
  apply List.map_congr_left
  intro i hi
  unfold updF
  show (if (i : Int) * 2 + k = u * 2 + h then v else d ((i : Int) * 2 + k)) = d ((i : Int) * 2 + k)
  rw [if_neg (by omega)]
theorem row0_const (N : Nat) (v h : Int) : row0 N (fun _ => v) h = List.replicate N v := rowD_const N v
theorem prev2_in {N : Nat} {p1 p2 : List HArc} {m1 m2 : Int} (h1 : ∀ x ∈ p1, 0 ≤ x.f ∧ x.f < (N : Int)) (h2 : ∀ x ∈ p2, 0 ≤ x.f ∧ x.f < (N : Int)) (v : Int) : ∀ u ∈ prev2 p1 p2 m1 m2 v, u ∈ nodesZ (2 * N) := fun u hu => by
  unfold prev2 at hu
  rw [mem_nodesZ]
  rcases List.mem_append.1 hu with hu | hu
  · obtain ⟨y, hy, rfl⟩ := List.mem_map.1 hu
    have := mem_nodesZ.1 (prevF_in h1 _ y hy)
    have hn : nowF m1 m2 (v % 2) = 0 ∨ nowF m1 m2 (v % 2) = 1 := by unfold nowF; split <;> omega
    omega
  · obtain ⟨y, hy, rfl⟩ := List.mem_map.1 hu
    have := mem_nodesZ.1 (prevF_in h2 _ y hy)
    omega
end Go.Proofs.Ytmnhgdedkniafaa
