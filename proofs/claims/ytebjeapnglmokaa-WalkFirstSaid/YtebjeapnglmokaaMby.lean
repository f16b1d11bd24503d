/- The walk that is found: the law WalkFirst. -/
import Derived.Test.YtebjeapnglmokaaMbi
import Derived.Test.YtebjeapnglmokaaMbx
namespace Go.Proofs.Ytebjeapnglmokaa
set_option linter.unusedVariables false
open Go.RowKit
theorem wf_pow {k : Int} (h : k = 1 ∨ k = 2 ∨ k = 3) : (2 : Int) ^ min (IntKind.u64.wrap k).toNat 64 = 2 ^ k.toNat := by
  rcases h with rfl | rfl | rfl <;> rfl
theorem wf_len {l d : List Edge} {mask must : Int} (h : SimpleD l d mask must) : d.length ≤ l.length := by
  have := nodup_len (l := d.map Edge.f) (m := l.map Edge.f) (List.pairwise_iff_getElem.2 fun i j hi hj hij => by
    rw [List.length_map] at hi hj
    rw [List.getElem_map, List.getElem_map]
    exact h.dist i j hij hj) (fun x hx => by
    obtain ⟨e, he, rfl⟩ := List.mem_map.1 hx
    exact List.mem_map.2 ⟨e, (h.kind e he).2, rfl⟩)
  rwa [List.length_map, List.length_map] at this
theorem wf_own {w : World} {base : Nat} {A : Option Addr} {c : Nat} {l m : List Edge} (ho : w.ownsRow base 29 4 (.slice A (l.length + m.length) c) (l.length + m.length) (edgesF l ++ edgesF m)) : Walk (fun _ => True) w A (l ++ m) := by
  have e : l.length + m.length = (l ++ m).length := List.length_append.symm
  have e2 : edgesF l ++ edgesF m = edgesF (l ++ m) := by unfold edgesF; simp
  rw [e, e2] at ho
  exact Recs.weak (Recs.of_own (rows := (l ++ m).map Edge.cells) edges_len (by omega) ho) (fun _ _ _ => trivial)
theorem wf_src {F : Nat → Prop} {w : World} {A : Option Addr} {l : List Edge} (h : Walk F w A l) : Src w A l.length 4 (edgesF l) := by
  have := Recs.src h edges_len
  rwa [List.length_map] at this
theorem wf_walk {w : World} {base : Nat} {A : Option Addr} {c : Nat} {l : List Edge} (ho : w.ownsRow base 29 4 (.slice A l.length c) l.length (l.map Edge.cells).flatten) : Walk (fun _ => True) w A l :=
  Recs.weak (Recs.of_own (rows := l.map Edge.cells) edges_len (by omega) ho) (fun _ _ _ => trivial)
theorem wf_big {w : World} {A B : Option Addr} {c cb n m : Nat} {mask must : Int} (hl : 40 < n ∨ 40 < m)
    (L : Hid (∀ w, Calls Try.prog 4 #[] w fun e w' => e = .returned (.bool true) ∧ Upd No w w')) :
    Calls Try.prog 3 #[.slice A n c, .int .i64 mask, .int .i64 must, .slice B m cb] w fun e w' => e = .returned (.bool true) ∧ Upd No w w' := by
  by_cases h1 : 40 < n
  · have hb : decide (40 < (n : Int)) = true := decide_eq_true (by omega)
    go_enter Try.func3, Try.ntmps3
    go_wp2_with fail
    refine (L.out _).mono ?_
    rintro e w1 ⟨rfl, hu1⟩
    go_wp2
    go_ret
    exact ⟨rfl, hu1⟩
  · have hb : decide (40 < (n : Int)) = false := decide_eq_false (by omega)
    have hb2 : decide (40 < (m : Int)) = true := decide_eq_true (by omega)
    go_enter Try.func3, Try.ntmps3
    go_wp2_with fail
    refine (L.out _).mono ?_
    rintro e w1 ⟨rfl, hu1⟩
    go_wp2
    go_ret
    exact ⟨rfl, hu1⟩
set_option maxRecDepth 100000 in
set_option maxHeartbeats 8000000 in
theorem wf_none {F G : Nat → Prop} {w : World} {A B : Option Addr} {c cb : Nat} {l o : List Edge} {mask must : Int} (hA : Walk F w A l) (hB : Walk G w B o) (hl : l.length ≤ 40) (hm : o.length ≤ 40) (hd : docS (l ++ o) mask must = [])
    (L : Hid (∀ w, Calls Try.prog 4 #[] w fun e w' => e = .returned (.bool true) ∧ Upd No w w')) :
    Calls Try.prog 3 #[.slice A l.length c, .int .i64 mask, .int .i64 must, .slice B o.length cb] w fun e w' => e = .returned (.bool true) ∧ Upd No w w' := by
  have hb : decide (40 < (l.length : Int)) = false := decide_eq_false (by omega)
  have hb2 : decide (40 < (o.length : Int)) = false := decide_eq_false (by omega)
  have HA := Lib.hid (fun (W : World) (u : Upd No w W) => hA.upd u (fun _ _ => id))
  have HB := Lib.hid (fun (W : World) (u : Upd No w W) => hB.upd u (fun _ _ => id))
  have hln : (l ++ o).length ≤ 2000 := by rw [List.length_append]; omega
  have HF0 := Lib.hid (first_none (all := l ++ o) (o := o) (mask := mask) (must := must) (by omega) (fun e he => List.mem_append_right _ he) hd)
  have HSh := Lib.hid (fun (W : World) (A : Option Addr) (c : Nat) (h : Walk (fun _ => True) W A (l ++ o)) => shNo (n := l.length + o.length) (c := c) h hln (by rw [List.length_append]) hd)
  clear hA hB hd hln
  go_enter Try.func3, Try.ntmps3
  go_wp2_with fail
  refine (L.out _).mono ?_
  rintro e w1 ⟨rfl, hu1⟩
  have HA1 := Lib.hid ((HA.out w1 hu1).upd ((Upd.refl No w1).alloc (.cells #[] 29)) (fun _ _ => id))
  have HU1 := Lib.hid hu1
  clear hu1
  go_wp2_with (at_builtin; (first
    | (refine appN rfl rfl slt_edges (base := w1.heap.size) (v := .slice (some ⟨w1.heap.size, 0, none⟩) 0 0) (n := 0) (m := l.length) (xs := []) rfl rfl (own_empE rfl (Nat.le_refl _)) (wf_src HA1.out) edges_one (by omega) (by omega) (by simp) ?_
       intro v4 w4 hown4 hu4 hg4
       simp only [Nat.zero_add, List.nil_append] at hown4
       obtain ⟨A4, c4, rfl⟩ := own_slice hown4
       have hu14 : Upd No w1 w4 := ((Upd.refl No w1).alloc _).then_ hu4 (fun j e => .inr (own_ge e))
       have HO4 := Lib.hid hown4
       have HU4 := Lib.hid hu14
       have HB4 := Lib.hid (HB.out w4 (HU1.out.trans hu14))
       clear hu4 hg4 hown4 hu14)
    | (refine appN rfl rfl slt_edges (base := w1.heap.size) (v := .slice A4 l.length c4) (n := l.length) (m := o.length) (xs := edgesF l) rfl rfl HO4.out (wf_src HB4.out) edges_one (by omega) (by omega) (HU4.out.size) ?_
       intro v5 w5 hown5 hu5 hg5
       obtain ⟨A5, c5, rfl⟩ := own_slice hown5
       have HU5 := Lib.hid (HU1.out.trans (HU4.out.then_ hu5 (fun i e => .inr (HO4.out.lt i e).1)))
       have HW5 := Lib.hid (wf_own (l := l) (m := o) hown5)
       clear hu5 hg5 hown5)
    | fail))
  go_wp2_with fail
  refine (HSh.out w5 A5 c5 HW5.out).mono ?_
  rintro e w6 ⟨X, cx, rfl, hu6⟩
  have HU6 := Lib.hid (HU5.out.trans hu6)
  clear hu6 HSh HW5
  -- closed, the loop, and the mask: the world is w6, Upd No w w6 by HU6
  have HC6 := Lib.hid (fun (W : World) (u : Upd No w W) => wclosed G W B cb o (HB.out W u) (by omega))
  have HM6 := Lib.hid (fun (W : World) (u : Upd No w W) => wmask G W B cb o (HB.out W u) (by omega))
  go_wp2_with fail
  refine (HC6.out w6 HU6.out).mono ?_
  rintro e w7 ⟨rfl, hu7⟩
  have HU7 := Lib.hid (HU6.out.trans hu7)
  have HU76 := Lib.hid hu7
  obtain ⟨ft, hft⟩ : ∃ ft, fitsB o mask must = ft := ⟨_, rfl⟩
  have HFT := Lib.hid hft
  clear hu7 hft
  go_wp2
  go_loopg [12, 41] o.length (fun gk sf i wr => ∃ (k : Nat) (fk : Bool), k + gk = o.length ∧ i = .int .i64 k ∧ sf = .bool fk ∧ Hid (fk = (closedB o && (o.take k).all fun e => bitR mask e.k)) ∧ Upd No w7 wr)
  case atStart => exact ⟨0, closedB o, by omega, rfl, rfl, Lib.hid (by simp), Upd.refl _ _⟩
  case round =>
    obtain ⟨k, fk, hgk, rfl, rfl, hfk, hu⟩ := hrel
    by_cases hlt : k < o.length
    · obtain ⟨ax, rfl, q0, q1, q2, q3⟩ := (HB.out wr (HU7.out.trans hu)).at_ hlt
      obtain ⟨x, hx⟩ : ∃ x, o[k] = x := ⟨_, rfl⟩
      rw [hx] at q0 q1 q2 q3
      have hst : (closedB o && (o.take (k + 1)).all fun e => bitR mask e.k) = (fk && bitR mask x.k) := by
        rw [hfk.out, List.take_succ_eq_append_getElem hlt, List.all_append, hx, Bool.and_assoc]
        simp
      have HST := Lib.hid hst
      have i1 : (0 : Int) ≤ (k : Int) := Int.natCast_nonneg _
      have i2 : (k : Int) < (o.length : Int) := by omega
      clear hst hx
      cases fk
      · go_wp2
        go_roundg (gk - 1)
        case measure => omega
        case rel => exact ⟨k + 1, false, by omega, by go_num, rfl, Lib.hid (by rw [HST.out]; rfl), hu.alloc _⟩
      · by_cases h1 : x.k < 1
        · have d1 : decide (1 ≤ x.k) = false := decide_eq_false (by omega)
          have HV := Lib.hid (show (true && bitR mask x.k) = false by unfold bitR; rw [d1]; rfl)
          go_wp2
          go_roundg (gk - 1)
          case measure => omega
          case rel => exact ⟨k + 1, false, by omega, by go_num, rfl, Lib.hid (by rw [HST.out, HV.out]), hu.alloc _⟩
        · have d1 : decide (1 ≤ x.k) = true := decide_eq_true (by omega)
          by_cases h3 : 3 < x.k
          · have d3 : decide (x.k ≤ 3) = false := decide_eq_false (by omega)
            have HV := Lib.hid (show (true && bitR mask x.k) = false by unfold bitR; rw [d1, d3]; rfl)
            go_wp2
            go_roundg (gk - 1)
            case measure => omega
            case rel => exact ⟨k + 1, false, by omega, by go_num, rfl, Lib.hid (by rw [HST.out, HV.out]), hu.alloc _⟩
          · have d3 : decide (x.k ≤ 3) = true := decide_eq_true (by omega)
            have hk3 : x.k = 1 ∨ x.k = 2 ∨ x.k = 3 := by omega
            have b1u : (bits .and .i64 (mask / 2 ^ min (IntKind.u64.wrap x.k).toNat 64) 1 == 1) = bitM mask x.k := by
              rw [wf_pow hk3, and_one1]
              rfl
            have b1v : (bits .and .i64 (mask / 2 ^ x.k.toNat) 1 == 1) = bitM mask x.k := by
              rw [and_one1]
              rfl
            have HV := Lib.hid (show (true && bitR mask x.k) = bitM mask x.k by unfold bitR; rw [d1, d3]; simp)
            clear hk3
            go_wp2
            go_roundg (gk - 1)
            case measure => omega
            case rel => exact ⟨k + 1, bitM mask x.k, by omega, by go_num, rfl, Lib.hid (by rw [HST.out, HV.out]), hu.alloc _⟩
    · obtain rfl : k = o.length := by omega
      have hfk2 : (closedB o && o.all fun e => bitR mask e.k) = fk := by rw [hfk.out, List.take_length]
      have HFK := Lib.hid hfk2
      have HU8 := Lib.hid (HU7.out.trans hu)
      clear hfk2 hfk
      go_upto_region 13 with fail
      go_cut [12] (fun s wc => s = .bool ft ∧ Upd No wr wc)
      case first =>
        cases fk
        · have HV := Lib.hid (show false = ft by rw [← HFT.out]; unfold fitsB; rw [HFK.out]; rfl)
          go_wp2_with fail
          go_meet
          exact ⟨by rw [HV.out], Upd.refl _ _⟩
        · cases hnd : needR must
          · have b14 : (bits .and .i64 must 14 == 0) = true := by have := need14 must; rw [hnd] at this; simpa using this
            have HV := Lib.hid (show true = ft by rw [← HFT.out]; unfold fitsB; rw [HFK.out, hnd]; rfl)
            clear hnd
            go_wp2_with fail
            go_meet
            exact ⟨by rw [HV.out], Upd.refl _ _⟩
          · have b14 : (bits .and .i64 must 14 == 0) = false := by have := need14 must; rw [hnd] at this; simpa using this
            have HV := Lib.hid (show (bits .and .i64 (maskOf o) must != 0) = ft by rw [← HFT.out]; unfold fitsB; rw [HFK.out, hnd]; rfl)
            clear hnd
            go_wp2_with fail
            refine (HM6.out wr HU8.out).mono ?_
            rintro e w9 ⟨rfl, hu9⟩
            go_wp2_with fail
            go_meet
            exact ⟨by rw [HV.out], hu9⟩
      case rest =>
        obtain ⟨rfl, huc⟩ := hcut
        have HUC := Lib.hid (HU8.out.trans huc)
        have HUR := Lib.hid (hu.trans huc)
        clear huc
        have hf0 : ft = false := by rw [← HFT.out]; exact HF0.out
        subst hf0
        go_wp2
        go_ret
        exact ⟨rfl, HUC.out⟩
set_option maxRecDepth 100000 in
set_option maxHeartbeats 8000000 in
theorem wf_yes {F G : Nat → Prop} {w : World} {A B : Option Addr} {c cb : Nat} {l o d : List Edge} {mask must : Int} (hA : Walk F w A l) (hB : Walk G w B o) (hl : l.length ≤ 40) (hm : o.length ≤ 40) (hd : docS (l ++ o) mask must = d) (h0 : 0 < d.length) (HD : SimpleD (l ++ o) d mask must)
    (L : Hid (∀ w, Calls Try.prog 4 #[] w fun e w' => e = .returned (.bool true) ∧ Upd No w w')) :
    Calls Try.prog 3 #[.slice A l.length c, .int .i64 mask, .int .i64 must, .slice B o.length cb] w fun e w' => e = .returned (.bool true) ∧ Upd No w w' := by
  have hb : decide (40 < (l.length : Int)) = false := decide_eq_false (by omega)
  have hb2 : decide (40 < (o.length : Int)) = false := decide_eq_false (by omega)
  have HA := Lib.hid (fun (W : World) (u : Upd No w W) => hA.upd u (fun _ _ => id))
  have HB := Lib.hid (fun (W : World) (u : Upd No w W) => hB.upd u (fun _ _ => id))
  have hln : (l ++ o).length ≤ 2000 := by rw [List.length_append]; omega
  have hdl : d.length ≤ 2000 := Nat.le_trans (wf_len HD) hln
  have HMK := Lib.hid (sd_mask HD)
  have HLs := Lib.hid (fun (hf : fitsB o mask must = true) (W : World) (u : Upd No w W) (X : Option Addr) (cx : Nat) (G2 : Nat → Prop) (h : Walk G2 W X d) => first_less (all := l ++ o) (by omega) (fun e he => List.mem_append_right _ he) hd h0 hf ▸ wless G G2 W B X cb cx o d (HB.out W u) h (by omega))
  have HSh := Lib.hid (fun (W : World) (A : Option Addr) (c : Nat) (h : Walk (fun _ => True) W A (l ++ o)) => shYesC (n := l.length + o.length) (c := c) h hln (by rw [List.length_append]) hd rfl h0)
  have HCx := Lib.hid (fun (X : Option Addr) (cx : Nat) (W : World) (G2 : Nat → Prop) (h : Walk G2 W X d) => sd_closed HD h0 ▸ wclosed G2 W X cx d h (by omega))
  have HSx := Lib.hid (fun (X : Option Addr) (cx : Nat) (W : World) (G2 : Nat → Prop) (h : Walk G2 W X d) => sd_simple HD ▸ wsimple G2 W X cx d h (by omega))
  have HTx := Lib.hid (fun (X : Option Addr) (cx : Nat) (hcx : d.length ≤ cx) (W : World) (G2 : Nat → Prop) (h : Walk G2 W X d) => (by
    have h2 := wturn G2 W X cx d h (by omega) hcx
    rw [sd_turn HD] at h2
    exact h2 : Calls Try.prog 10 #[.slice X d.length cx] W (NewE W (d.map Edge.cells).flatten d.length)))
  have HQx := Lib.hid (fun (X : Option Addr) (cx : Nat) (W : World) (G2 G3 : Nat → Prop) (AT : Option Addr) (ct : Nat) (h1 : Walk G2 W AT d) (h2 : Walk G3 W X d) => beq_self_eq_true d ▸ wsameW W G2 G3 AT X ct cx d d h1 h2 (by omega) (by omega))
  have HMx := Lib.hid (fun (X : Option Addr) (cx : Nat) (W : World) (G2 : Nat → Prop) (h : Walk G2 W X d) => wmask G2 W X cx d h (by omega))
  clear hA hB hd hln HD
  go_enter Try.func3, Try.ntmps3
  go_wp2_with fail
  refine (L.out _).mono ?_
  rintro e w1 ⟨rfl, hu1⟩
  have HA1 := Lib.hid ((HA.out w1 hu1).upd ((Upd.refl No w1).alloc (.cells #[] 29)) (fun _ _ => id))
  have HU1 := Lib.hid hu1
  clear hu1
  go_wp2_with (at_builtin; (first
    | (refine appN rfl rfl slt_edges (base := w1.heap.size) (v := .slice (some ⟨w1.heap.size, 0, none⟩) 0 0) (n := 0) (m := l.length) (xs := []) rfl rfl (own_empE rfl (Nat.le_refl _)) (wf_src HA1.out) edges_one (by omega) (by omega) (by simp) ?_
       intro v4 w4 hown4 hu4 hg4
       simp only [Nat.zero_add, List.nil_append] at hown4
       obtain ⟨A4, c4, rfl⟩ := own_slice hown4
       have hu14 : Upd No w1 w4 := ((Upd.refl No w1).alloc _).then_ hu4 (fun j e => .inr (own_ge e))
       have HO4 := Lib.hid hown4
       have HU4 := Lib.hid hu14
       have HB4 := Lib.hid (HB.out w4 (HU1.out.trans hu14))
       clear hu4 hg4 hown4 hu14)
    | (refine appN rfl rfl slt_edges (base := w1.heap.size) (v := .slice A4 l.length c4) (n := l.length) (m := o.length) (xs := edgesF l) rfl rfl HO4.out (wf_src HB4.out) edges_one (by omega) (by omega) (HU4.out.size) ?_
       intro v5 w5 hown5 hu5 hg5
       obtain ⟨A5, c5, rfl⟩ := own_slice hown5
       have HU5 := Lib.hid (HU1.out.trans (HU4.out.then_ hu5 (fun i e => .inr (HO4.out.lt i e).1)))
       have HW5 := Lib.hid (wf_own (l := l) (m := o) hown5)
       clear hu5 hg5 hown5)
    | fail))
  go_wp2_with fail
  refine (HSh.out w5 A5 c5 HW5.out).mono ?_
  rintro e w6 ⟨X, cx, rfl, hcx, hx, hu6⟩
  have HU6 := Lib.hid (HU5.out.trans hu6)
  have HX6 := Lib.hid hx
  clear hu6 HSh HW5 hx
  -- closed, the loop, and the mask: the world is w6, Upd No w w6 by HU6
  have HC6 := Lib.hid (fun (W : World) (u : Upd No w W) => wclosed G W B cb o (HB.out W u) (by omega))
  have HM6 := Lib.hid (fun (W : World) (u : Upd No w W) => wmask G W B cb o (HB.out W u) (by omega))
  go_wp2_with fail
  refine (HC6.out w6 HU6.out).mono ?_
  rintro e w7 ⟨rfl, hu7⟩
  have HU7 := Lib.hid (HU6.out.trans hu7)
  have HU76 := Lib.hid hu7
  obtain ⟨ft, hft⟩ : ∃ ft, fitsB o mask must = ft := ⟨_, rfl⟩
  have HFT := Lib.hid hft
  clear hu7 hft
  go_wp2
  go_loopg [12, 41] o.length (fun gk sf i wr => ∃ (k : Nat) (fk : Bool), k + gk = o.length ∧ i = .int .i64 k ∧ sf = .bool fk ∧ Hid (fk = (closedB o && (o.take k).all fun e => bitR mask e.k)) ∧ Upd No w7 wr)
  case atStart => exact ⟨0, closedB o, by omega, rfl, rfl, Lib.hid (by simp), Upd.refl _ _⟩
  case round =>
    obtain ⟨k, fk, hgk, rfl, rfl, hfk, hu⟩ := hrel
    by_cases hlt : k < o.length
    · obtain ⟨ax, rfl, q0, q1, q2, q3⟩ := (HB.out wr (HU7.out.trans hu)).at_ hlt
      obtain ⟨x, hx⟩ : ∃ x, o[k] = x := ⟨_, rfl⟩
      rw [hx] at q0 q1 q2 q3
      have hst : (closedB o && (o.take (k + 1)).all fun e => bitR mask e.k) = (fk && bitR mask x.k) := by
        rw [hfk.out, List.take_succ_eq_append_getElem hlt, List.all_append, hx, Bool.and_assoc]
        simp
      have HST := Lib.hid hst
      have i1 : (0 : Int) ≤ (k : Int) := Int.natCast_nonneg _
      have i2 : (k : Int) < (o.length : Int) := by omega
      clear hst hx
      cases fk
      · go_wp2
        go_roundg (gk - 1)
        case measure => omega
        case rel => exact ⟨k + 1, false, by omega, by go_num, rfl, Lib.hid (by rw [HST.out]; rfl), hu.alloc _⟩
      · by_cases h1 : x.k < 1
        · have d1 : decide (1 ≤ x.k) = false := decide_eq_false (by omega)
          have HV := Lib.hid (show (true && bitR mask x.k) = false by unfold bitR; rw [d1]; rfl)
          go_wp2
          go_roundg (gk - 1)
          case measure => omega
          case rel => exact ⟨k + 1, false, by omega, by go_num, rfl, Lib.hid (by rw [HST.out, HV.out]), hu.alloc _⟩
        · have d1 : decide (1 ≤ x.k) = true := decide_eq_true (by omega)
          by_cases h3 : 3 < x.k
          · have d3 : decide (x.k ≤ 3) = false := decide_eq_false (by omega)
            have HV := Lib.hid (show (true && bitR mask x.k) = false by unfold bitR; rw [d1, d3]; rfl)
            go_wp2
            go_roundg (gk - 1)
            case measure => omega
            case rel => exact ⟨k + 1, false, by omega, by go_num, rfl, Lib.hid (by rw [HST.out, HV.out]), hu.alloc _⟩
          · have d3 : decide (x.k ≤ 3) = true := decide_eq_true (by omega)
            have hk3 : x.k = 1 ∨ x.k = 2 ∨ x.k = 3 := by omega
            have b1u : (bits .and .i64 (mask / 2 ^ min (IntKind.u64.wrap x.k).toNat 64) 1 == 1) = bitM mask x.k := by
              rw [wf_pow hk3, and_one1]
              rfl
            have b1v : (bits .and .i64 (mask / 2 ^ x.k.toNat) 1 == 1) = bitM mask x.k := by
              rw [and_one1]
              rfl
            have HV := Lib.hid (show (true && bitR mask x.k) = bitM mask x.k by unfold bitR; rw [d1, d3]; simp)
            clear hk3
            go_wp2
            go_roundg (gk - 1)
            case measure => omega
            case rel => exact ⟨k + 1, bitM mask x.k, by omega, by go_num, rfl, Lib.hid (by rw [HST.out, HV.out]), hu.alloc _⟩
    · obtain rfl : k = o.length := by omega
      have hfk2 : (closedB o && o.all fun e => bitR mask e.k) = fk := by rw [hfk.out, List.take_length]
      have HFK := Lib.hid hfk2
      have HU8 := Lib.hid (HU7.out.trans hu)
      clear hfk2 hfk
      go_upto_region 13 with fail
      go_cut [12] (fun s wc => s = .bool ft ∧ Upd No wr wc)
      case first =>
        cases fk
        · have HV := Lib.hid (show false = ft by rw [← HFT.out]; unfold fitsB; rw [HFK.out]; rfl)
          go_wp2_with fail
          go_meet
          exact ⟨by rw [HV.out], Upd.refl _ _⟩
        · cases hnd : needR must
          · have b14 : (bits .and .i64 must 14 == 0) = true := by have := need14 must; rw [hnd] at this; simpa using this
            have HV := Lib.hid (show true = ft by rw [← HFT.out]; unfold fitsB; rw [HFK.out, hnd]; rfl)
            clear hnd
            go_wp2_with fail
            go_meet
            exact ⟨by rw [HV.out], Upd.refl _ _⟩
          · have b14 : (bits .and .i64 must 14 == 0) = false := by have := need14 must; rw [hnd] at this; simpa using this
            have HV := Lib.hid (show (bits .and .i64 (maskOf o) must != 0) = ft by rw [← HFT.out]; unfold fitsB; rw [HFK.out, hnd]; rfl)
            clear hnd
            go_wp2_with fail
            refine (HM6.out wr HU8.out).mono ?_
            rintro e w9 ⟨rfl, hu9⟩
            go_wp2_with fail
            go_meet
            exact ⟨by rw [HV.out], hu9⟩
      case rest =>
        obtain ⟨rfl, huc⟩ := hcut
        have HUC := Lib.hid (HU8.out.trans huc)
        have HUR := Lib.hid (hu.trans huc)
        clear huc
        have HXC := Lib.hid (Walk.upd HX6.out (HU76.out.trans HUR.out) (fun _ _ => id))
        have e5 : (bits .andNot .i64 (maskOf d) mask == 0) = true := HMK.out
        cases ft
        · go_wp2_with fail
          refine ((HCx.out X cx _ _ HXC.out)).mono ?_
          rintro e w10 ⟨rfl, hu10⟩
          have hx10 := Walk.upd HXC.out hu10 (fun _ _ => id)
          go_wp2_with fail
          refine ((HSx.out X cx w10 _ hx10)).mono ?_
          rintro e w11 ⟨rfl, hu11⟩
          have hx11 := Walk.upd hx10 hu11 (fun _ _ => id)
          go_wp2_with fail
          refine ((HTx.out X cx hcx w11 _ hx11)).mono ?_
          rintro e w12 ⟨AT, ct, rfl, hot, hu12⟩
          have hx12 := Walk.upd hx11 hu12 (fun _ _ => id)
          go_wp2_with fail
          refine ((HQx.out X cx w12 _ _ AT ct (wf_walk hot) hx12)).mono ?_
          rintro e w13 ⟨rfl, hu13⟩
          have hx13 := Walk.upd hx12 hu13 (fun _ _ => id)
          go_wp2_with fail
          refine ((HMx.out X cx w13 _ hx13)).mono ?_
          rintro e w14 ⟨rfl, hu14⟩
          have HUZ := Lib.hid ((((((HUC.out.trans hu10).trans hu11).trans hu12).trans hu13).trans hu14))
          go_wp2
          go_ret
          exact ⟨rfl, HUZ.out⟩
        · have HLS := Lib.hid (HLs.out HFT.out)
          go_wp2_with fail
          refine ((HCx.out X cx _ _ HXC.out)).mono ?_
          rintro e w10 ⟨rfl, hu10⟩
          have hx10 := Walk.upd HXC.out hu10 (fun _ _ => id)
          go_wp2_with fail
          refine ((HSx.out X cx w10 _ hx10)).mono ?_
          rintro e w11 ⟨rfl, hu11⟩
          have hx11 := Walk.upd hx10 hu11 (fun _ _ => id)
          go_wp2_with fail
          refine ((HTx.out X cx hcx w11 _ hx11)).mono ?_
          rintro e w12 ⟨AT, ct, rfl, hot, hu12⟩
          have hx12 := Walk.upd hx11 hu12 (fun _ _ => id)
          go_wp2_with fail
          refine ((HQx.out X cx w12 _ _ AT ct (wf_walk hot) hx12)).mono ?_
          rintro e w13 ⟨rfl, hu13⟩
          have hx13 := Walk.upd hx12 hu13 (fun _ _ => id)
          go_wp2_with fail
          refine ((HMx.out X cx w13 _ hx13)).mono ?_
          rintro e w14 ⟨rfl, hu14⟩
          have hx14 := Walk.upd hx13 hu14 (fun _ _ => id)
          have hu0 := (((((HUC.out.trans hu10).trans hu11).trans hu12).trans hu13).trans hu14)
          go_wp2_with fail
          refine ((HLS.out w14 hu0 X cx _ hx14)).mono ?_
          rintro e w15 ⟨rfl, hu15⟩
          have HUZ := Lib.hid (hu0.trans hu15)
          go_wp2
          go_ret
          exact ⟨rfl, HUZ.out⟩
theorem first28 (F G : Nat → Prop) (w : World) (A B : Option Addr) (c cb : Nat) (l o : List Edge) (mask must : Int) (hA : Walk F w A l) (hB : Walk G w B o)
    (L : Hid (∀ w, Calls Try.prog 4 #[] w fun e w' => e = .returned (.bool true) ∧ Upd No w w')) :
    Calls Try.prog 3 #[.slice A l.length c, .int .i64 mask, .int .i64 must, .slice B o.length cb] w fun e w' => e = .returned (.bool true) ∧ Upd No w w' := by
  by_cases hb : 40 < l.length ∨ 40 < o.length
  · exact wf_big hb L
  · have hln : (l ++ o).length ≤ 2000 := by rw [List.length_append]; omega
    rcases doc_simple (l := l ++ o) (mask := mask) (must := must) (by omega) with h | h
    · by_cases h0 : 0 < (docS (l ++ o) mask must).length
      · exact wf_yes hA hB (by omega) (by omega) rfl h0 h L
      · exact wf_none hA hB (by omega) (by omega) (List.eq_nil_of_length_eq_zero (by omega)) L
    · exact wf_none hA hB (by omega) (by omega) h L
end Go.Proofs.Ytebjeapnglmokaa
