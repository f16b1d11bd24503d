/- Edges of a history: the law that the edges are those of all keys. -/
import Derived.Test.YtaicemjckagcaaaMbp
import Derived.Test.YtaicemjckagcaaaMbv
namespace Go.Proofs.Ytaicemjckagcaaa
set_option linter.unusedVariables false
open Go.RowKit
def metL : List Int → List Int → List Int
  | a, [] => a
  | a, x :: l => if x ∈ a then metL a l else metL (a ++ [x]) l
theorem metL_append : ∀ (l k a : List Int), metL a (l ++ k) = metL (metL a l) k
  | [], _, _ => rfl
  | x :: l, k, a => by
    show (if x ∈ a then metL a (l ++ k) else metL (a ++ [x]) (l ++ k)) = metL (if x ∈ a then metL a l else metL (a ++ [x]) l) k
    split <;> exact metL_append l k _
theorem metL_nodup : ∀ (l a : List Int), a.Nodup → (metL a l).Nodup
  | [], _, h => h
  | x :: l, a, h => by
    show (if x ∈ a then metL a l else metL (a ++ [x]) l).Nodup
    split
    · exact metL_nodup l a h
    · rename_i hx
      refine metL_nodup l _ (List.nodup_append.2 ⟨h, by simp, fun y hy z hz e => ?_⟩)
      simp at hz
      subst hz e
      exact hx hy
theorem mem_metL (y : Int) : ∀ (l a : List Int), y ∈ metL a l ↔ y ∈ a ∨ y ∈ l
  | [], a => by simp [metL]
  | x :: l, a => by
    show y ∈ (if x ∈ a then metL a l else metL (a ++ [x]) l) ↔ _
    split
    · rename_i hx
      rw [mem_metL y l a, List.mem_cons]
      constructor
      · rintro (h | h)
        · exact Or.inl h
        · exact Or.inr (Or.inr h)
      · rintro (h | rfl | h)
        · exact Or.inl h
        · exact Or.inl hx
        · exact Or.inr h
    · rw [mem_metL y l _, List.mem_append, List.mem_singleton, List.mem_cons, or_assoc]
def sumK (l : List Hvy) (ys : List Int) : Nat := (ys.map fun k => (ofKey k l).length).sum
theorem sumK_snoc (l : List Hvy) (ys : List Int) (y : Int) : sumK l (ys ++ [y]) = sumK l ys + (ofKey y l).length := by unfold sumK; simp
theorem sumK_le (l : List Hvy) : ∀ ys : List Int, sumK l ys ≤ l.length * ys.length
  | [] => by simp [sumK]
  | y :: ys => by
    have h1 := sumK_le l ys
    have h2 := ofKey_len y l
    show (ofKey y l).length + sumK l ys ≤ _
    rw [List.length_cons, Nat.mul_succ]; omega
theorem sumK_cons (x : Hvy) (l : List Hvy) : ∀ ys : List Int, sumK (x :: l) ys = ys.count x.e.key + sumK l ys
  | [] => by simp [sumK]
  | y :: ys => by
    have h1 := sumK_cons x l ys
    show (ofKey y (x :: l)).length + sumK (x :: l) ys = (y :: ys).count x.e.key + ((ofKey y l).length + sumK l ys)
    rw [h1, List.count_cons]
    unfold ofKey
    rw [List.filter_cons]
    by_cases h : x.e.key = y
    · subst h; simp; omega
    · have h2 : (x.e.key == y) = false := by simpa using h
      have h3 : (y == x.e.key) = false := by simpa using fun e => h e.symm
      rw [h2, h3]; simp; omega
theorem sumK_all : ∀ (l : List Hvy) (ys : List Int), ys.Nodup → (∀ x ∈ l, x.e.key ∈ ys) → sumK l ys = l.length
  | [], ys, _, _ => by
    induction ys with
    | nil => rfl
    | cons y ys ih => exact (Nat.zero_add _).trans (ih (List.nodup_cons.1 ‹_›).2 (fun x hx => by cases hx))
  | x :: l, ys, hn, hm => by
    rw [sumK_cons, sumK_all l ys hn fun z hz => hm z (List.mem_cons_of_mem _ hz), List.length_cons, (List.nodup_iff_count.1 hn |> fun h => Nat.le_antisymm (h x.e.key) (List.count_pos_iff.2 (hm x (List.mem_cons_self ..))))]
    omega
theorem edgesR_right {h : Hist} {x : Hvy} (hx : x ∈ edgesR h) : rightB h = true := by
  cases hr : rightB h with
  | true => rfl
  | false => unfold edgesR at hx; rw [if_neg (by rw [hr]; decide)] at hx; cases hx
theorem edgesR_count {h : Hist} {x : Hvy} (hx : x ∈ edgesR h) : ((countR h x.e : Nat) : Int) = x.n := by
  have hr := edgesR_right hx
  unfold countR
  rw [if_pos hr]
  exact ((mem_edgesR hr).1 hx).2.symm
theorem edgesR_key {h : Hist} {x : Hvy} (hx : x ∈ edgesR h) : x.e.key ∈ txK h.txs := by
  have hr := edgesR_right hx
  have := (cntR_ends hr ((mem_edgesR hr).1 hx).1).2.2.2
  unfold allK at this
  rw [mem_putAll] at this
  simpa using this
theorem sumK_edges (h : Hist) : sumK (edgesR h) (metL [] (txK h.txs)) = (edgesR h).length :=
  sumK_all _ _ (metL_nodup _ _ List.nodup_nil) fun x hx => (mem_metL _ _ _).2 (Or.inr (edgesR_key hx))
end Go.Proofs.Ytaicemjckagcaaa

/- Edges of a history: the law that the edges are those of all keys: the walk. -/
namespace Go.Proofs.Ytaicemjckagcaaa
set_option linter.unusedVariables false
open Go.RowKit
theorem rinV (w : World) (F : Nat → Prop) (A : Option Addr) (c : Nat) (l : List Int) (a : Int) (h : Ints F w A l) (hl : l.length ≤ 4398046511103) {v : Bool} (hv : decide (a ∈ l) = v) :
    Calls Try.prog 17 #[.slice A l.length c, .int .i64 a] w fun e w' => e = .returned (.bool v) ∧ w = w' := by subst hv; exact rin01 w F A c l a h hl
set_option maxRecDepth 100000 in
set_option maxHeartbeats 8000000 in
theorem parts16 (F : Nat → Prop) (w : World) (txs : List HTx) (ords : List HOrd) (A : Option Addr) (c : Nat) (B : Option Addr) (d : Nat) (H : Hist.lies F w ⟨txs, ords, A, c, B, d⟩)
    (L : Hid (∀ w, Calls Try.prog 34 #[] w fun e w' => e = .returned (.bool true) ∧ Upd No w w')) :
    Calls Try.prog 8 #[.agg #[.slice A txs.length c, .slice B ords.length d]] w fun e w' => e = .returned (.bool true) ∧ Upd No w w' := by
  obtain ⟨z, hz⟩ : ∃ z, w.heap.size = z := ⟨_, rfl⟩
  obtain ⟨wb, hwb⟩ : ∃ wb, w.alloc (.cells #[.slice A txs.length c, .slice B ords.length d] 58) = wb := ⟨_, rfl⟩
  have u0 : Upd No w wb := by rw [← hwb]; exact (Upd.refl No w).alloc _
  have bH : Blk wb z 58 [.slice A txs.length c, .slice B ords.length d] := by rw [← hwb, ← hz]; exact Blk.new w _ _
  have BH := Lib.hid bH
  have HB := Lib.hid (H.upd u0 (fun _ _ => id))
  have U0 := Lib.hid u0
  have d0 : ∀ W, Upd No wb W → W.cell? ⟨z, 0, none⟩ = some (.slice A txs.length c) := fun W u => (bH.upd u id).cell 0
  have d1 : ∀ W, Upd No wb W → W.cell? ⟨z, 1, none⟩ = some (.slice B ords.length d) := fun W u => (bH.upd u id).cell 1
  clear bH u0 H
  obtain ⟨v, hv⟩ : ∃ v, lightB ⟨txs, ords, A, c, B, d⟩ = v := ⟨_, rfl⟩
  have HV := Lib.hid hv
  have C1 := Lib.hid (fun (W : World) (u : Upd No wb W) => light_d (HB.out.upd u (fun _ _ => id)) hv)
  clear hv
  go_enter Try.func8, Try.ntmps8
  cases v
  · go_wp2_with fail
    refine (L.out _).mono ?_
    rintro e w1 ⟨rfl, hu1⟩
    go_wp2_with fail
    refine (C1.out _ hu1).mono ?_
    rintro e w2 ⟨rfl, hu2⟩
    go_wp2
    go_ret
    exact ⟨rfl, (U0.out.trans hu1).trans hu2⟩
  · have HN := Lib.hid (light_few HV.out)
    go_wp2_with fail
    refine (L.out _).mono ?_
    rintro e w1 ⟨rfl, hu1⟩
    go_wp2_with fail
    refine (C1.out _ hu1).mono ?_
    rintro e w2 ⟨rfl, hu2'⟩
    have hu2 := hu1.trans hu2'
    clear hu1 hu2'
    obtain ⟨l, hl⟩ : ∃ l, edgesR ⟨txs, ords, A, c, B, d⟩ = l := ⟨_, rfl⟩
    have C2 := Lib.hid (vEdges (HB.out.upd hu2 (fun _ _ => id)) HN.out.1 HN.out.2 rfl rfl hl rfl)
    have hll : l.length ≤ 200000 := by rw [← hl]; exact edgesR_len HN.out.1 HN.out.2
    have HE := Lib.hid hl
    clear hl
    go_wp2_with fail
    refine (C2.out).mono ?_
    rintro e w3 ⟨A3, c3, rfl, hx3, hu3⟩
    obtain ⟨G, hx3⟩ := hx3
    have HG := Lib.hid hx3
    have V3 := Lib.hid (hu2.trans hu3)
    have HB3 := Lib.hid (HB.out.upd V3.out (fun _ _ => id))
    have D0 := Lib.hid (fun (W : World) (u : Upd No w3 W) => d0 W (V3.out.trans u))
    have D1 := Lib.hid (fun (W : World) (u : Upd No w3 W) => d1 W (V3.out.trans u))
    clear hx3 hu2 hu3 d0 d1
    have h0 := D0.out
    have h1 := D1.out
    have hr3 : Upd No w3 w3 := Upd.refl _ _
    have htl : txs.length ≤ 12 := HN.out.1
    go_wp2
    go_loopg [4, 5, 22] txs.length (fun gk n s i wr => ∃ (k : Nat) (A5 : Option Addr) (c5 : Nat) (xs : List Int), k + gk = txs.length ∧ n = .int .i64 ((sumK l xs : Nat) : Int) ∧ i = .int .i64 k ∧ s = .slice A5 xs.length c5 ∧ Hid (xs = metL [] (txK (txs.take k))) ∧ Hid (xs.length ≤ 24 * k) ∧ Hid (wr.ownsRow w3.heap.size 3 1 (.slice A5 xs.length c5) xs.length (xs.map (Value.int .i64))) ∧ Upd No w3 wr)
    case atStart => exact ⟨0, none, 0, [], by omega, by simp [sumK], rfl, rfl, Lib.hid rfl, Lib.hid (by simp), Lib.hid (World.ownsRow_nil _ _ _ _), Upd.refl _ _⟩
    case round =>
      obtain ⟨k, A5, c5, xs, hgk, rfl, rfl, rfl, hs, hln, hown, hu⟩ := hrel
      by_cases hlt : k < txs.length
      · obtain ⟨ad, hAd, q0, q1, q2⟩ := (HB3.out.upd hu (fun _ _ => id)).tx_at hlt
        simp only at hAd q0 q1 q2
        have hx2 := HN.out.2 _ (List.getElem_mem hlt)
        have hx0 := HB3.out.tx txs[k] (List.getElem_mem hlt)
        obtain ⟨⟨xi, xd, xo, xA, xc⟩, hx⟩ : ∃ x, txs[k] = x := ⟨_, rfl⟩
        rw [hx] at q0 q1 q2 hx2 hx0
        simp only at q0 q1 q2 hx2
        subst hAd
        have HX0 := Lib.hid (show HOps F w3 xA xo from hx0.1)
        have b1 : (0 : Int) ≤ (k : Int) := Int.natCast_nonneg _
        have b2 : (k : Int) < (txs.length : Int) := by omega
        obtain ⟨wx, hwx⟩ : ∃ wx, wr.alloc (.cells #[.int .i64 xi, .bool xd, .slice xA xo.length xc] 64) = wx := ⟨_, rfl⟩
        have ux : Upd No wr wx := by rw [← hwx]; exact (Upd.refl No wr).alloc _
        have bo : Blk wx wr.heap.size 64 [.int .i64 xi, .bool xd, .slice xA xo.length xc] := by rw [← hwx]; exact Blk.new wr _ _
        have t2 := bo.cell 2
        simp only [List.getElem?_cons_zero, List.getElem?_cons_succ] at t2
        have HUX := Lib.hid (hu.trans ux)
        have HOX := Lib.hid (own_upd hown.out ux (fun _ _ => id))
        have HT := Lib.hid (txK_succ hlt hx)
        simp only at HT
        have HP := Lib.hid hs.out
        clear hx bo ux hx0 hs hown
        obtain ⟨wo, hwo⟩ : ∃ wo, wo = wr := ⟨_, rfl⟩
        subst hwo
        generalize gk = GK at *
        go_wp2
        go_loopg [4, 5, 29] xo.length (fun gj n s i wr => ∃ (j : Nat) (A5 : Option Addr) (c5 : Nat) (ys : List Int), j + gj = xo.length ∧ n = .int .i64 ((sumK l ys : Nat) : Int) ∧ i = .int .i64 j ∧ s = .slice A5 ys.length c5 ∧ Hid (ys = metL xs (opK (xo.take j))) ∧ Hid (ys.length ≤ 24 * k + j) ∧ Hid (wr.ownsRow w3.heap.size 3 1 (.slice A5 ys.length c5) ys.length (ys.map (Value.int .i64))) ∧ Upd No w3 wr)
        case atStart => exact ⟨0, A5, c5, xs, by omega, rfl, rfl, rfl, Lib.hid rfl, Lib.hid (by have := hln.out; omega), HOX, HUX.out⟩
        case round =>
          obtain ⟨j, A6, c6, ys, hgj, rfl, rfl, rfl, hs2, hl2, hown2, hu2⟩ := hrel
          by_cases hltj : j < xo.length
          · obtain ⟨ad2, hAd2, p0, p1, p2, p3⟩ := (HX0.out.upd hu2 (fun _ _ => id)).at_ hltj
            obtain ⟨⟨yr, yk, yt, yn⟩, hy⟩ : ∃ y, xo[j] = y := ⟨_, rfl⟩
            rw [hy] at p0 p1 p2 p3
            simp only at p0 p1 p2 p3
            subst hAd2
            have c1 : (0 : Int) ≤ (j : Int) := Int.natCast_nonneg _
            have c2 : (j : Int) < (xo.length : Int) := by omega
            obtain ⟨wy, hwy⟩ : ∃ wy, wr.alloc (.cells #[.bool yr, .int .i64 yk, .int .i64 yt, .int .i64 yn] 66) = wy := ⟨_, rfl⟩
            have uy : Upd No wr wy := by rw [← hwy]; exact (Upd.refl No wr).alloc _
            have bo : Blk wy wr.heap.size 66 [.bool yr, .int .i64 yk, .int .i64 yt, .int .i64 yn] := by rw [← hwy]; exact Blk.new wr _ _
            have o1 := bo.cell 1
            simp only [List.getElem?_cons_zero, List.getElem?_cons_succ] at o1
            have hys : ys.length ≤ 400 := by have := hl2.out; omega
            have HUY := Lib.hid (hu2.trans uy)
            have hzy := HUY.out.size
            have HOY := Lib.hid (own_upd hown2.out uy (fun _ _ => id))
            have HLT := Lib.hid (fun i (e : Own (.slice A6 ys.length c6) i) => (hown2.out.lt i e).2)
            have BO := Lib.hid bo
            have HQ := Lib.hid (opK_succ hltj hy)
            simp only at HQ
            have hsb : sumK l ys + (ofKey yk l).length ≤ 1000000000 := by
              have g1 := sumK_le l ys
              have g2 := ofKey_len yk l
              have g3 := Nat.mul_le_mul hll hys
              omega
            clear hy bo uy hown2
            by_cases hin : yk ∈ ys
            · have CI := Lib.hid (rinV wy _ A6 c6 ys yk (Ints.of_own HOY.out) (by omega) (v := true) (by simpa using hin))
              have HS := Lib.hid (show ys = metL xs (opK (xo.take (j + 1))) by rw [HQ.out, metL_append, ← hs2.out]; show ys = if yk ∈ ys then ys else _; rw [if_pos hin])
              clear hin
              go_wp2_with fail
              refine (CI.out).mono ?_
              rintro e w5 ⟨rfl, rfl⟩
              go_wp2
              go_roundg (gk - 1)
              case measure => omega
              case rel => exact ⟨j + 1, A6, c6, ys, by omega, rfl, by go_num, rfl, HS, Lib.hid (by have := hl2.out; omega), HOY, HUY.out⟩
            · have CI := Lib.hid (rinV wy _ A6 c6 ys yk (Ints.of_own HOY.out) (by omega) (v := false) (by simpa using hin))
              have HS := Lib.hid (show ys ++ [yk] = metL xs (opK (xo.take (j + 1))) by rw [HQ.out, metL_append, ← hs2.out]; show ys ++ [yk] = if yk ∈ ys then ys else ys ++ [yk]; rw [if_neg hin])
              clear hin
              have CO := Lib.hid (fun (W : World) (u : Upd No w3 W) => vOf (key := yk) (HB3.out.upd u (fun _ _ => id)) HN.out.1 HN.out.2 rfl rfl (l := ofKey yk l) (by rw [HE.out]) rfl)
              go_wp2_with fail
              refine (CI.out).mono ?_
              rintro e w5 ⟨rfl, rfl⟩
              go_wp2_with (at_builtin; refine app1s rfl rfl slt_int (v := .slice A6 ys.length c6) (cells := [.int .i64 yk]) (by rfl) rfl HOY.out rfl rfl (by omega) (by omega) (by omega) ?_; intro g9 c9 w9 hown9 hu9 hg9 hlt9; have k9 := (BO.out.upd hu9 (fun e => absurd (HLT.out _ e) (Nat.lt_irrefl _))).cell 1; simp only [List.getElem?_cons_zero, List.getElem?_cons_succ] at k9; have hz9 := HUY.out.then_ hu9 (fun i e => Or.inr (HOY.out.lt i e).1))
              refine (CO.out _ hz9).mono ?_
              rintro e w10 ⟨A7, c7, rfl, hx7, hu10⟩
              have HO10 := Lib.hid (own_upd hown9 hu10 (fun _ _ => id))
              have HZ10 := Lib.hid (hz9.trans hu10)
              clear hx7 hown9 hu9 hu10 hz9
              go_wp2
              go_roundg (gk - 1)
              case measure => omega
              case rel => exact ⟨j + 1, some ⟨g9, 0, none⟩, c9, ys ++ [yk], by omega, by rw [sumK_snoc]; go_num, by go_num, by simp, HS, Lib.hid (by have := hl2.out; simp; omega), Lib.hid (by simpa using HO10.out), HZ10.out⟩
          · obtain rfl : j = xo.length := by omega
            have HN2 := Lib.hid (show ys = metL [] (txK (txs.take (k + 1))) by rw [HT.out, metL_append, ← HP.out]; have := hs2.out; rwa [List.take_length] at this)
            go_wp2
            go_roundg (GK - 1)
            case measure => omega
            case rel => exact ⟨k + 1, A6, c6, ys, by omega, rfl, by go_num, rfl, HN2, Lib.hid (by have := hl2.out; omega), hown2, hu2⟩
      · obtain rfl : k = txs.length := by omega
        have hfin : sumK l xs = l.length := by
          rw [hs.out, List.take_length, ← HE.out]
          exact sumK_edges ⟨txs, ords, A, c, B, d⟩
        simp only [hfin]
        have HUE := Lib.hid hu
        generalize gk = GK at *
        obtain ⟨wo, hwo⟩ : ∃ wo, wo = wr := ⟨_, rfl⟩
        subst hwo
        clear hs hln hown hfin
        go_wp2
        go_loopg [54] l.length (fun gk i wr => ∃ k : Nat, k + gk = l.length ∧ i = .int .i64 k ∧ Upd No w3 wr)
        case atStart => exact ⟨0, by omega, rfl, HUE.out⟩
        case round =>
          obtain ⟨k, hgk, rfl, hu⟩ := hrel
          by_cases hlt : k < l.length
          · obtain ⟨ad, rfl, q0, q1, q2, q3, q4⟩ := (Hvys.upd HG.out hu (fun _ _ => id)).at_ hlt
            have hxm := List.getElem_mem hlt
            obtain ⟨⟨⟨xf, xt, xk, xy⟩, xn⟩, hx⟩ : ∃ x, l[k] = x := ⟨_, rfl⟩
            rw [hx] at q0 q1 q2 q3 q4 hxm
            simp only at q0 q1 q2 q3 q4
            have i1 : (0 : Int) ≤ (k : Int) := Int.natCast_nonneg _
            have i2 : (k : Int) < (l.length : Int) := by omega
            obtain ⟨wx, hwx⟩ : ∃ wx, wr.alloc (.cells #[.int .i64 xf, .int .i64 xt, .int .i64 xk, .int .i64 xy, .int .i64 xn] 69) = wx := ⟨_, rfl⟩
            have ux : Upd No wr wx := by rw [← hwx]; exact (Upd.refl No wr).alloc _
            have bo : Blk wx wr.heap.size 69 [.int .i64 xf, .int .i64 xt, .int .i64 xk, .int .i64 xy, .int .i64 xn] := by rw [← hwx]; exact Blk.new wr _ _
            have m0 : ∀ W, Upd No wx W → W.cell? ⟨wr.heap.size, 0, none⟩ = some (.int .i64 xf) := fun W u => (bo.upd u id).cell 0
            have m1 : ∀ W, Upd No wx W → W.cell? ⟨wr.heap.size, 1, none⟩ = some (.int .i64 xt) := fun W u => (bo.upd u id).cell 1
            have m2 : ∀ W, Upd No wx W → W.cell? ⟨wr.heap.size, 2, none⟩ = some (.int .i64 xk) := fun W u => (bo.upd u id).cell 2
            have m3 : ∀ W, Upd No wx W → W.cell? ⟨wr.heap.size, 3, none⟩ = some (.int .i64 xy) := fun W u => (bo.upd u id).cell 3
            have m4 : ∀ W, Upd No wx W → W.cell? ⟨wr.heap.size, 4, none⟩ = some (.int .i64 xn) := fun W u => (bo.upd u id).cell 4
            have HUX := Lib.hid (hu.trans ux)
            have CC := Lib.hid (fun (W : World) (u : Upd No wx W) => vCount (HB3.out.upd (HUX.out.trans u) (fun _ _ => id)) rfl rfl rfl (edgesR_count (x := ⟨⟨xf, xt, xk, xy⟩, xn⟩) (by rw [HE.out]; exact hxm)))
            simp only at CC
            have x0 : ∀ W, Upd No wx W → W.cell? ⟨z, 0, none⟩ = some (.slice A txs.length c) := fun W u => D0.out W (HUX.out.trans u)
            have x1 : ∀ W, Upd No wx W → W.cell? ⟨z, 1, none⟩ = some (.slice B ords.length d) := fun W u => D1.out W (HUX.out.trans u)
            have hxz : Upd No wx wx := Upd.refl _ _
            clear hx hxm bo ux
            go_wp2
            refine wp_region_noPanic ?_
            refine wp_region_held_drew (S := (fun W' => Upd No wx W')) (by kernel_rfl) ?_ (fun hHeld => ?_)
            · (first | exact hxz.drew | exact hHeld.trans hu2 | exact hHeld)
            refine wpT 0 ⟨some 58, .load 58 (.tmp 1), 58, "law.go:103", #[], none⟩ ?_ (.inl ⟨by rfl, ?_⟩) ?_
            rotate_left
            · (intro W hSw; (try dsimp only at hSw); go_simp; try (with_reducible rfl))
            try simp only [Act.put]
            try simp only [List.setIfInBounds_toArray]
            try simp only [List.set_cons_succ]
            try simp only [List.set_cons_zero]
            refine wpT 1 ⟨some 59, .fieldAddr 69 (.tmp 11) 0, 0, "law.go:103", #[], none⟩ ?_ (.inl ⟨by rfl, ?_⟩) ?_
            rotate_left
            · (intro W hSw; (try dsimp only at hSw); go_simp; try (with_reducible rfl))
            try simp only [Act.put]
            try simp only [List.setIfInBounds_toArray]
            try simp only [List.set_cons_succ]
            try simp only [List.set_cons_zero]
            refine wpT 2 ⟨some 60, .load 33 (.tmp 59), 33, "law.go:103", #[⟨1, .data⟩], none⟩ ?_ (.inl ⟨by rfl, ?_⟩) ?_
            rotate_left
            · (intro W hSw; (try dsimp only at hSw); go_simp; try (with_reducible rfl))
            try simp only [Act.put]
            try simp only [List.setIfInBounds_toArray]
            try simp only [List.set_cons_succ]
            try simp only [List.set_cons_zero]
            refine wpT 4 ⟨some 62, .fieldAddr 69 (.tmp 11) 1, 0, "law.go:103", #[], none⟩ ?_ (.inl ⟨by rfl, ?_⟩) ?_
            rotate_left
            · (intro W hSw; (try dsimp only at hSw); go_simp; try (with_reducible rfl))
            try simp only [Act.put]
            try simp only [List.setIfInBounds_toArray]
            try simp only [List.set_cons_succ]
            try simp only [List.set_cons_zero]
            refine wpT 5 ⟨some 63, .load 3 (.tmp 62), 3, "law.go:103", #[⟨4, .data⟩], none⟩ ?_ (.inl ⟨by rfl, ?_⟩) ?_
            rotate_left
            · (intro W hSw; (try dsimp only at hSw); go_simp; try (with_reducible rfl))
            try simp only [Act.put]
            try simp only [List.setIfInBounds_toArray]
            try simp only [List.set_cons_succ]
            try simp only [List.set_cons_zero]
            refine wpAnyH_ready (rs := [3]) (by kernel_rfl) (by simp) ?_
            refine AllReadyH.cons (o := ⟨some 61, .call { callee := .value (.func 38), args := #[.tmp 58, .tmp 60], argTypes := #[58, 33] }, 3, "law.go:103", #[⟨0, .data⟩, ⟨2, .data⟩], none⟩) rfl (fun K hK => ?_) AllReadyH.nil
            go_simp
            (first
    | (go_at_call 38; refine Calls.mono (CC.out _ hHeld) ?_; rintro r w2 ⟨rfl, hu2⟩))
            try (go_wp2_with fail)
            refine hK.out _ _ ?_ (fun hHeld => ?_)
            · (first | exact hxz.drew | exact hHeld.trans hu2 | exact hHeld)
            clear hK K
            try simp only [Act.put]
            try simp only [List.setIfInBounds_toArray]
            try simp only [List.set_cons_succ]
            try simp only [List.set_cons_zero]
            refine wpT 6 ⟨some 64, .binOp .neq 3 (.tmp 61) (.tmp 63) 3, 4, "law.go:103", #[⟨3, .data⟩, ⟨5, .data⟩], none⟩ ?_ (.inl ⟨by rfl, ?_⟩) ?_
            rotate_left
            · (intro W hSw; (try dsimp only at hSw); go_simp; try (with_reducible rfl))
            try simp only [Act.put]
            try simp only [List.setIfInBounds_toArray]
            try simp only [List.set_cons_succ]
            try simp only [List.set_cons_zero]
            refine wpAnyH_done (by kernel_rfl) (NoPanic.normal ?_) _
            have HH := Lib.hid hHeld
            clear hHeld
            go_wp2
            go_roundg (gk - 1)
            case measure => omega
            case rel => exact ⟨k + 1, by omega, by go_num, HUX.out.trans HH.out⟩
          · obtain rfl : k = l.length := by omega
            go_wp2
            go_ret
            exact ⟨rfl, (U0.out.trans V3.out).trans hu⟩
end Go.Proofs.Ytaicemjckagcaaa
