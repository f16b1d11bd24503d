/- Digraphs: the law of whatever is added and dropped. -/
import Derived.Test.YtmnhgdedkniafaaMar
namespace Go.Proofs.Ytmnhgdedkniafaa
set_option linter.unusedVariables false
open Go.RowKit
structure DDeed where
  k : Int
  a : HArc
def DDeed.cells (d : DDeed) : List Value := [.int .i64 d.k, .int .i64 d.a.f, .int .i64 d.a.t, .int .i64 d.a.kind, .int .i64 d.a.label]
def DeedsL (F : Nat → Prop) (w : World) (A : Option Addr) (l : List DDeed) : Prop := Recs F w A 5 (l.map DDeed.cells)
theorem DeedsL.at_ {F : Nat → Prop} {w : World} {A : Option Addr} {l : List DDeed} (h : DeedsL F w A l) {k : Nat} (hk : k < l.length) : ∃ ad, A = some ad ∧
    w.cell? (ad.add (k * 5)) = some (.int .i64 l[k].k) ∧ w.cell? ⟨(ad.add (k * 5)).block, (ad.add (k * 5)).off + 1, none⟩ = some (.int .i64 l[k].a.f) ∧
    w.cell? ⟨(ad.add (k * 5)).block, (ad.add (k * 5)).off + 2, none⟩ = some (.int .i64 l[k].a.t) ∧ w.cell? ⟨(ad.add (k * 5)).block, (ad.add (k * 5)).off + 3, none⟩ = some (.int .i64 l[k].a.kind) ∧
    w.cell? ⟨(ad.add (k * 5)).block, (ad.add (k * 5)).off + 4, none⟩ = some (.int .i64 l[k].a.label) := by
  have hk' : k < (l.map DDeed.cells).length := by simpa using hk
  obtain ⟨ad, e, _, _, hc⟩ := Recs.at_ h hk'
  rw [List.getElem_map] at hc
  exact ⟨ad, e, by simpa using hc 0 _ rfl, by simpa using hc 1 _ rfl, by simpa using hc 2 _ rfl, by simpa using hc 3 _ rfl, by simpa using hc 4 _ rfl⟩
theorem DeedsL.upd {F S : Nat → Prop} {w w' : World} {A : Option Addr} {l : List DDeed} (h : DeedsL F w A l) (k : Upd S w w') (hn : ∀ i, F i → ¬ S i) : DeedsL F w' A l := Recs.upd h k hn
def stepD (N : Nat) (q : List HArc) (d : DDeed) : List HArc := if d.k = 0 then addQ N q d.a else q.filter fun x => x != d.a
/-- what a round of the law knows: the digraph holds q, the slice holds s; a box of the call's own -/
def BSt (w : World) (g N K : Nat) (q : List HArc) (A : Option Addr) (s : List HArc) (b : Nat) (cs : List Value) (W : World) : Prop :=
  ∃ G F, DG W G (some ⟨g, 0, none⟩) N K q ∧ Upd No w W ∧ (∀ k, G k → w.heap.size ≤ k) ∧ ArcsL F W A s ∧ (∀ i, F i → ¬ G i ∧ i < W.heap.size) ∧ (cs ≠ [] → ¬ G b ∧ Blk W b 65 cs)
namespace BSt
variable {w W W' : World} {g N K : Nat} {q s : List HArc} {A : Option Addr} {b : Nat} {cs : List Value}
theorem no (h : BSt w g N K q A s b cs W) (k : Upd No W W') : BSt w g N K q A s b cs W' := by
  obtain ⟨G, F, h1, h2, h3, h4, h5, h6⟩ := h
  exact ⟨G, F, h1.no k, h2.trans k, h3, h4.upd k (fun _ _ => id), fun i hi => ⟨(h5 i hi).1, Nat.lt_of_lt_of_le (h5 i hi).2 k.size⟩, fun e => ⟨(h6 e).1, (h6 e).2.upd k id⟩⟩
theorem box (h : BSt w g N K q A s b cs W) (c2 : List Value) : BSt w g N K q A s W.heap.size c2 (W.alloc (.cells c2.toArray 65)) := by
  obtain ⟨G, F, h1, h2, h3, h4, h5, h6⟩ := h
  have k := (Upd.refl No W).alloc (.cells c2.toArray 65)
  exact ⟨G, F, h1.no k, h2.trans k, h3, h4.upd k (fun _ _ => id), fun i hi => ⟨(h5 i hi).1, Nat.lt_of_lt_of_le (h5 i hi).2 k.size⟩, fun _ => ⟨fun e => by have := h1.old (by simp) _ e; omega, Blk.new W _ c2⟩⟩
theorem bare (h : BSt w g N K q A s b cs W) : BSt w g N K q A s 0 [] W := by
  obtain ⟨G, F, h1, h2, h3, h4, h5, h6⟩ := h
  exact ⟨G, F, h1, h2, h3, h4, h5, fun e => absurd rfl e⟩
theorem upd (h : BSt w g N K q A s b cs W) : Upd No w W := by
  obtain ⟨G, F, h1, h2, h3, h4, h5, h6⟩ := h
  exact h2
theorem blk (h : BSt w g N K q A s b cs W) (hc : cs ≠ []) : Blk W b 65 cs := by
  obtain ⟨G, F, h1, h2, h3, h4, h5, h6⟩ := h
  exact (h6 hc).2
theorem sl (h : BSt w g N K q A s b cs W) : ∃ F, ArcsL F W A s := by
  obtain ⟨G, F, h1, h2, h3, h4, h5, h6⟩ := h
  exact ⟨F, h4⟩
theorem dg (h : BSt w g N K q A s b cs W) : ∃ G, DG W G (some ⟨g, 0, none⟩) N K q := by
  obtain ⟨G, F, h1, h2, h3, h4, h5, h6⟩ := h
  exact ⟨G, h1⟩
theorem put (h : BSt w g N K q A s b cs W) {A' : Option Addr} {s' : List HArc} {c' : Nat} (ho : W'.ownsRow W.heap.size 63 4 (.slice A' s'.length c') s'.length (arcsF s')) (k : Upd No W W') : BSt w g N K q A' s' b cs W' := by
  obtain ⟨G, F, h1, h2, h3, h4, h5, h6⟩ := h
  have hold := h1.old (by simp)
  exact ⟨G, Own (.slice A' s'.length c'), h1.no k, h2.trans k, h3, arcs_own' ho, fun i hi => ⟨fun e => by have := hold i e; have := (ho.lt i hi).1; omega, (ho.lt i hi).2⟩, fun e => ⟨(h6 e).1, (h6 e).2.upd k id⟩⟩
theorem turn_ (h : BSt w g N K q A s b cs W) {K' : Nat} {q' : List HArc} {v : Value} (hc : ∀ G, DG W G (some ⟨g, 0, none⟩) N K q → ∀ e w', DTs W G (some ⟨g, 0, none⟩) N K' q' v e w' → e = .returned v ∧ ∃ G', DG w' G' (some ⟨g, 0, none⟩) N K' q' ∧ Upd G W w' ∧ ∀ k, G' k → G k ∨ W.heap.size ≤ k)
    {G : Nat → Prop} {F : Nat → Prop} (h1 : DG W G (some ⟨g, 0, none⟩) N K q) (h2 : Upd No w W) (h3 : ∀ k, G k → w.heap.size ≤ k) (h4 : ArcsL F W A s) (h5 : ∀ i, F i → ¬ G i ∧ i < W.heap.size) (h6 : cs ≠ [] → ¬ G b ∧ Blk W b 65 cs)
    {e : Ending} {w' : World} (hd : DTs W G (some ⟨g, 0, none⟩) N K' q' v e w') : e = .returned v ∧ BSt w g N K' q' A s b cs w' := by
  obtain ⟨e1, G', k1, k2, k3⟩ := hc G h1 e w' hd
  have hne : ∀ i, i < W.heap.size → ¬ G i → ¬ G' i := fun i hi hn e => by
    rcases k3 i e with e | e
    · exact hn e
    · omega
  refine ⟨e1, G', F, k1, h2.then_ k2 fun i e => .inr (h3 i e), fun k hk => ?_, h4.upd k2 (fun i hi => (h5 i hi).1), fun i hi => ⟨hne i (h5 i hi).2 (h5 i hi).1, Nat.lt_of_lt_of_le (h5 i hi).2 k2.size⟩, fun e => ⟨hne b (h6 e).2.lt (h6 e).1, (h6 e).2.upd k2 (h6 e).1⟩⟩
  have := h2.size
  rcases k3 k hk with e | e
  · exact h3 k e
  · omega
theorem add (h : BSt w g N K q A s b cs W) (hK : K < 100000) (a : HArc) : Calls Try.prog 43 #[.pointer (some ⟨g, 0, none⟩), .agg a.cells.toArray] W fun e w' => e = .returned (.int .i64 (addE N q a)) ∧ BSt w g N (K + 1) (addQ N q a) A s b cs w' := by
  have h' := h
  obtain ⟨G, F, h1, h2, h3, h4, h5, h6⟩ := h
  refine (dgadd h1 hK a).mono fun e w' hd => h'.turn_ (fun G _ e w' hd => ?_) h1 h2 h3 h4 h5 h6 hd
  obtain ⟨G', rfl, k⟩ := hd
  exact ⟨rfl, G', k⟩
theorem drop (h : BSt w g N K q A s b cs W) (hK : K < 100000) (a : HArc) : Calls Try.prog 45 #[.pointer (some ⟨g, 0, none⟩), .agg a.cells.toArray] W fun e w' => e = .returned (.int .i64 (dropE q a)) ∧ BSt w g N (K + 1) (q.filter fun x => x != a) A s b cs w' := by
  have h' := h
  obtain ⟨G, F, h1, h2, h3, h4, h5, h6⟩ := h
  refine (dgdrop h1 hK a).mono fun e w' hd => ?_
  have hz := h'.turn_ (fun G _ e w' hd => by obtain ⟨G', rfl, k⟩ := hd; exact ⟨rfl, G', k⟩) h1 h2 h3 h4 h5 h6 hd
  obtain ⟨e1, G, F, k1, k2, k3, k4, k5, k6⟩ := hz
  refine ⟨e1, G, F, ?_, k2, k3, k4, k5, k6⟩
  rcases k1 with ⟨e, _⟩ | ⟨g', e, out, inn, ob, ib, oh, ih, base, z1, z2, z3⟩
  · cases e
  · exact .inr ⟨g', e, out, inn, ob, ib, oh, ih, base, z1, z2.mono (by omega), z3⟩
end BSt
set_option maxRecDepth 100000 in
set_option maxHeartbeats 8000000 in
theorem plays22 (F : Nat → Prop) (w : World) (n : Int) (A : Option Addr) (c : Nat) (ds : List DDeed) (mask : Int) (hL : DeedsL F w A ds) (hll : ds.length ≤ 9223372036854775807) (L : Hid (∀ w : World, Calls Try.prog 38 #[] w fun e w' => e = .returned (.bool true) ∧ Upd No w w')) :
    Calls Try.prog 6 #[.int .i64 n, .slice A ds.length c, .int .i64 mask] w fun e w' => e = .returned (.bool true) ∧ Upd No w w' := by
  obtain ⟨N, hN⟩ : ∃ N, roomN n = N := ⟨_, rfl⟩
  have hN4 : N ≤ 4096 := hN ▸ roomN_le n
  have HNew := Lib.hid (fun W => hN ▸ dgnew W n)
  have HRoom := Lib.hid (fun W => hN ▸ rroom W n)
  clear hN
  have HL := Lib.hid hL
  clear hL
  by_cases h2 : (60 : Int) < (ds.length : Int)
  · go_enter Try.func6, Try.ntmps6
    go_wp2_with fail
    refine (HNew.out w).mono ?_
    rintro e w1 ⟨G, g, rfl, hd, hu, hG⟩
    go_wp2_with fail
    refine (L.out _).mono ?_
    rintro e w2 ⟨rfl, hu2⟩
    go_wp2
    go_ret
    exact ⟨rfl, hu.trans hu2⟩
  go_enter Try.func6, Try.ntmps6
  go_wp2_with fail
  refine (HNew.out w).mono ?_
  rintro e w1 ⟨G, g, rfl, hd, hu, hG⟩
  go_wp2_with fail
  refine (HRoom.out _).mono ?_
  rintro e w2 ⟨rfl, rfl⟩
  have HS0 := Lib.hid (show BSt w g N 0 [] none [] 0 [] w1 from ⟨G, fun _ => False, hd, hu, hG, fun e => absurd rfl e, fun _ e => e.elim, fun e => absurd rfl e⟩)
  clear hd hu hG
  go_wp2
  go_loopg [9, 33] ds.length (fun gk s i wr => ∃ (k : Nat) (A5 : Option Addr) (c5 : Nat) (q : List HArc), k + gk = ds.length ∧ i = .int .i64 k ∧ s = .slice A5 q.length c5 ∧ Hid (BSt w g N k q A5 q 0 [] wr))
  case atStart => exact ⟨0, none, 0, [], by omega, rfl, rfl, HS0⟩
  case round =>
    obtain ⟨k, A5, c5, q, hgk, rfl, rfl, hst⟩ := hrel
    by_cases hlt : k < ds.length
    · obtain ⟨ax, rfl, q0, q1, q2, q3, q4⟩ := (HL.out.upd hst.out.upd (fun _ _ => id)).at_ hlt
      obtain ⟨x, hx⟩ : ∃ x, ds[k] = x := ⟨_, rfl⟩
      rw [hx] at q0 q1 q2 q3 q4
      obtain ⟨xk, x⟩ := x
      simp only at q0 q1 q2 q3 q4
      clear hx
      have b1 : (0 : Int) ≤ (k : Int) := Int.natCast_nonneg _
      have b2 : (k : Int) < (ds.length : Int) := by omega
      have hbx := hst.out.box [.int .i64 xk, .int .i64 x.f, .int .i64 x.t, .int .i64 x.kind, .int .i64 x.label]
      obtain ⟨b, hb⟩ : ∃ b, wr.heap.size = b := ⟨_, rfl⟩
      obtain ⟨wx, hwx⟩ : ∃ wx, wr.alloc (.cells #[.int .i64 xk, .int .i64 x.f, .int .i64 x.t, .int .i64 x.kind, .int .i64 x.label] 65) = wx := ⟨_, rfl⟩
      have hbx : BSt w g N k q (A5) q b [.int .i64 xk, .int .i64 x.f, .int .i64 x.t, .int .i64 x.kind, .int .i64 x.label] wx := by rw [← hb, ← hwx]; exact hbx
      have hqk : q.length ≤ 60 := by obtain ⟨_, h⟩ := hbx.dg; have := h.few; omega
      have ALLX := Lib.hid (show ∀ W, Blk W b 65 [.int .i64 xk, .int .i64 x.f, .int .i64 x.t, .int .i64 x.kind, .int .i64 x.label] → W.cell? ⟨b, 0, none⟩ = some (.int .i64 xk) ∧ W.cell? ⟨b, 1, none⟩ = some (.int .i64 x.f) ∧ W.cell? ⟨b, 2, none⟩ = some (.int .i64 x.t) ∧ W.cell? ⟨b, 3, none⟩ = some (.int .i64 x.kind) ∧ W.cell? ⟨b, 4, none⟩ = some (.int .i64 x.label)
        from fun W h => ⟨h.cell 0, h.cell 1, h.cell 2, h.cell 3, h.cell 4⟩)
      obtain ⟨g0, g1, g2, g3, g4⟩ := ALLX.out _ (hbx.blk (by simp))
      have HB := Lib.hid hbx
      obtain ⟨bq, hbq⟩ : ∃ v, decide (x ∈ q) = v := ⟨_, rfl⟩
      obtain ⟨br, hbr⟩ : ∃ v, rightA N x = v := ⟨_, rfl⟩
      obtain ⟨bk, hbk⟩ : ∃ v, (xk == 0) = v := ⟨_, rfl⟩
      have HV := Lib.hid (show (bk = true → stepD N q ⟨xk, x⟩ = addQ N q x) ∧ (bk = false → stepD N q ⟨xk, x⟩ = q.filter fun y => y != x) from by
        unfold stepD
        by_cases e : xk = 0
        · exact ⟨fun _ => if_pos e, fun h => by rw [← hbk, e] at h; simp at h⟩
        · exact ⟨fun h => absurd (by rw [← hbk] at h; simpa using h) e, fun _ => if_neg e⟩)
      have HE := Lib.hid (show addE N q x = (if br = true then (if bq = true then 4 else 0) else 1) ∧ dropE q x = (if bq = true then 0 else 3) ∧ addQ N q x = (if br = true then (if bq = true then q else putA x q) else q) from by
        unfold addE dropE addQ
        rw [hbr, ← hbq]
        simp only [decide_eq_true_eq, and_self])
      obtain ⟨q', hq'⟩ : ∃ q', stepD N q ⟨xk, x⟩ = q' := ⟨_, rfl⟩
      rw [hq'] at HV
      have HIn := Lib.hid (fun (W : World) (h : ∃ F, ArcsL F W A5 q) => hbq ▸ rarcin W h.choose A5 c5 q x h.choose_spec (by omega))
      have HRi := Lib.hid (fun (W : World) => hbr ▸ raright W N x)
      clear hbq hbr hbx hst hq'
      unfold HArc.cells at HIn HRi
      go_wp2_with fail
      clear hwx hb q0 q1 q2 q3 q4
      refine (HIn.out wx HB.out.sl).mono ?_
      rintro e w3 ⟨rfl, hu3⟩
      have HB3 := Lib.hid (HB.out.no hu3)
      obtain ⟨d0, d1, d2, d3, d4⟩ := ALLX.out _ (HB3.out.blk (by simp))
      clear g0 g1 g2 g3 g4 HB hu3
      go_upto_if 43 with fail
      go_cut [9] (fun s9 wy => ∃ (A9 : Option Addr) (c9 : Nat), s9 = .slice A9 q'.length c9 ∧ BSt w g N (k + 1) q' A9 q' b [.int .i64 xk, .int .i64 x.f, .int .i64 x.t, .int .i64 x.kind, .int .i64 x.label] wy)
      case first =>
        cases bk
        · have hqq := HV.out.2 rfl
          have HDr := Lib.hid (radrop _ w3 A5 c5 q x HB3.out.sl.choose_spec (by omega))
          unfold HArc.cells at HDr
          clear HIn HRi
          go_wp2_with fail
          refine (HDr.out).mono ?_
          rintro e w5 ⟨A6, c6, rfl, ho6, hu6⟩
          have hb5 := HB3.out.put ho6 hu6
          obtain ⟨e0, e1, e2, e3, e4⟩ := ALLX.out _ (hb5.blk (by simp))
          have HD := Lib.hid (hb5.drop (by omega) x)
          rw [HE.out.2.1, ← hqq] at HD
          rw [← hqq]
          unfold HArc.cells at HD
          clear HB3 HDr ho6 hu6 d0 d1 d2 d3 d4 hb5
          cases bq
          · have HD2 : Hid (Calls Try.prog 45 #[.pointer (some ⟨g, 0, none⟩), .agg #[.int .i64 x.f, .int .i64 x.t, .int .i64 x.kind, .int .i64 x.label]] w5 fun e w' => e = .returned (.int .i64 3) ∧ BSt w g N (k + 1) q' A6 q' b [.int .i64 xk, .int .i64 x.f, .int .i64 x.t, .int .i64 x.kind, .int .i64 x.label] w') := HD
            clear HD
            go_wp2_with fail
            refine (HD2.out).mono ?_
            rintro e w6 ⟨rfl, hb6⟩
            go_wp2
            go_meet
            exact ⟨A6, c6, by rw [hqq], hb6⟩
          · have HD2 : Hid (Calls Try.prog 45 #[.pointer (some ⟨g, 0, none⟩), .agg #[.int .i64 x.f, .int .i64 x.t, .int .i64 x.kind, .int .i64 x.label]] w5 fun e w' => e = .returned (.int .i64 0) ∧ BSt w g N (k + 1) q' A6 q' b [.int .i64 xk, .int .i64 x.f, .int .i64 x.t, .int .i64 x.kind, .int .i64 x.label] w') := HD
            clear HD
            go_wp2_with fail
            refine (HD2.out).mono ?_
            rintro e w6 ⟨rfl, hb6⟩
            go_wp2
            go_meet
            exact ⟨A6, c6, by rw [hqq], hb6⟩
        · have hqq := HV.out.1 rfl
          rw [HE.out.2.2] at hqq
          clear HIn
          go_wp2_with fail
          refine (HRi.out _).mono ?_
          rintro e w4 ⟨rfl, hu4⟩
          have HB4 := Lib.hid (HB3.out.no hu4)
          obtain ⟨e0, e1, e2, e3, e4⟩ := ALLX.out _ (HB4.out.blk (by simp))
          clear HB3 HRi hu4 d0 d1 d2 d3 d4
          cases br
          · have hqq : q' = q := hqq
            have HD := Lib.hid (HB4.out.add (by omega) x)
            rw [HE.out.1, HE.out.2.2] at HD
            unfold HArc.cells at HD
            have HD2 : Hid (Calls Try.prog 43 #[.pointer (some ⟨g, 0, none⟩), .agg #[.int .i64 x.f, .int .i64 x.t, .int .i64 x.kind, .int .i64 x.label]] w4 fun e w' => e = .returned (.int .i64 1) ∧ BSt w g N (k + 1) q A5 q b [.int .i64 xk, .int .i64 x.f, .int .i64 x.t, .int .i64 x.kind, .int .i64 x.label] w') := HD
            clear HD HB4
            go_wp2_with fail
            refine (HD2.out).mono ?_
            rintro e w6 ⟨rfl, hb6⟩
            go_wp2
            go_meet
            rw [hqq]
            exact ⟨A5, c5, rfl, hb6⟩
          · cases bq
            · have hqq : q' = putA x q := hqq
              have HPu := Lib.hid (putAT_eq x q ▸ raput _ w4 A5 c5 q x HB4.out.sl.choose_spec (by omega))
              unfold HArc.cells at HPu
              go_wp2_with fail
              refine (HPu.out).mono ?_
              rintro e w5 ⟨A6, c6, rfl, ho6, hu6⟩
              have HB5 := Lib.hid (HB4.out.put ho6 hu6)
              obtain ⟨f0, f1, f2, f3, f4⟩ := ALLX.out _ (HB5.out.blk (by simp))
              clear HB4 HPu ho6 hu6 e0 e1 e2 e3 e4
              have HD := Lib.hid (HB5.out.add (by omega) x)
              rw [HE.out.1, HE.out.2.2] at HD
              unfold HArc.cells at HD
              have HD2 : Hid (Calls Try.prog 43 #[.pointer (some ⟨g, 0, none⟩), .agg #[.int .i64 x.f, .int .i64 x.t, .int .i64 x.kind, .int .i64 x.label]] w5 fun e w' => e = .returned (.int .i64 0) ∧ BSt w g N (k + 1) (putA x q) A6 (putA x q) b [.int .i64 xk, .int .i64 x.f, .int .i64 x.t, .int .i64 x.kind, .int .i64 x.label] w') := HD
              clear HD HB5
              go_wp2_with fail
              refine (HD2.out).mono ?_
              rintro e w6 ⟨rfl, hb6⟩
              go_wp2
              go_meet
              rw [hqq]
              exact ⟨A6, c6, rfl, hb6⟩
            · have hqq : q' = q := hqq
              have HD := Lib.hid (HB4.out.add (by omega) x)
              rw [HE.out.1, HE.out.2.2] at HD
              unfold HArc.cells at HD
              have HD2 : Hid (Calls Try.prog 43 #[.pointer (some ⟨g, 0, none⟩), .agg #[.int .i64 x.f, .int .i64 x.t, .int .i64 x.kind, .int .i64 x.label]] w4 fun e w' => e = .returned (.int .i64 4) ∧ BSt w g N (k + 1) q A5 q b [.int .i64 xk, .int .i64 x.f, .int .i64 x.t, .int .i64 x.kind, .int .i64 x.label] w') := HD
              clear HD HB4
              go_wp2_with fail
              refine (HD2.out).mono ?_
              rintro e w6 ⟨rfl, hb6⟩
              go_wp2
              go_meet
              rw [hqq]
              exact ⟨A5, c5, rfl, hb6⟩
      case rest =>
        obtain ⟨A9, c9, rfl, hcu⟩ := hcut
        have hbx := hcu.blk (by simp)
        obtain ⟨G, hdg⟩ := hcu.dg
        have hsl := hcu.sl
        have hqk' : q'.length ≤ 100 := by have := hdg.few; omega
        have HB := Lib.hid hcu
        have hkd : ∀ y ∈ q', 1 ≤ y.kind ∧ y.kind ≤ 3 := fun y hy => by
          have := (rightA_iff _ _).1 (hdg.right y hy)
          exact ⟨this.2.2.2.2.1, this.2.2.2.2.2.1⟩
        obtain ⟨p, hp⟩ : ∃ p, ofA mask q' = p := ⟨_, rfl⟩
        have hpl : p.length ≤ 100 := by
          rw [← hp]
          exact Nat.le_trans (List.length_filter_le _ _) hqk'
        obtain ⟨o, ho⟩ : ∃ o, (p.filter fun y => y.f == x.f) = o := ⟨_, rfl⟩
        have hol : o.length ≤ 100 := by
          rw [← ho]
          exact Nat.le_trans (List.length_filter_le _ _) hpl
        obtain ⟨l1, hl1⟩ : ∃ l, nxA x.f false p = l := ⟨_, rfl⟩
        have hl1l : l1.length ≤ 100 := by rw [← hl1]; exact Nat.le_trans (nx_nodup _ _ _) hpl
        obtain ⟨l2, hl2⟩ : ∃ l, nxA x.t true p = l := ⟨_, rfl⟩
        have hl2l : l2.length ≤ 100 := by rw [← hl2]; exact Nat.le_trans (nx_nodup _ _ _) hpl
        obtain ⟨bh, hbh⟩ : ∃ v, decide (x ∈ q') = v := ⟨_, rfl⟩
        have HOf := Lib.hid (fun (W : World) (u : Upd No wc W) => (show (q'.filter fun (y : HArc) => bitM mask y.kind) = p from hp) ▸ raof hsl.choose W A9 c9 q' mask (hsl.choose_spec.upd u (fun _ _ => id)) hkd (by omega))
        have HNo := Lib.hid (fun (W : World) (u : Upd No wc W) => dgnodes (hdg.no u))
        have HLe := Lib.hid (fun (W : World) (u : Upd No wc W) => dglen (hdg.no u))
        have HHa := Lib.hid (fun (W : World) (u : Upd No wc W) => hbh ▸ dghas (hdg.no u) x)
        have HIn := Lib.hid (fun (W : World) (u : Upd No wc W) => hbh ▸ rarcin W hsl.choose A9 c9 q' x (hsl.choose_spec.upd u (fun _ _ => id)) (by omega))
        have HAr := Lib.hid (fun (W : World) (u : Upd No wc W) => hp ▸ dgarcs (hdg.no u) mask)
        have HOu := Lib.hid (fun (W : World) (u : Upd No wc W) => ho ▸ hp ▸ dgout (hdg.no u) x.f mask)
        have HRo := Lib.hid (fun (W : World) (F : Nat → Prop) (A : Option Addr) (c : Nat) (h : ArcsL F W A p) => ho ▸ raout F W A c p x.f h (by omega))
        have HNx := Lib.hid (fun (W : World) (u : Upd No wc W) => hl1 ▸ hp ▸ dgnext (hdg.no u) x.f mask)
        have HRn := Lib.hid (fun (W : World) (F : Nat → Prop) (A : Option Addr) (c : Nat) (h : ArcsL F W A p) => hl1 ▸ ranext F W A c p x.f false h (by omega))
        have HPv := Lib.hid (fun (W : World) (u : Upd No wc W) => hl2 ▸ hp ▸ dgprev (hdg.no u) x.t mask)
        have HRp := Lib.hid (fun (W : World) (F : Nat → Prop) (A : Option Addr) (c : Nat) (h : ArcsL F W A p) => hl2 ▸ ranext F W A c p x.t true h (by omega))
        unfold HArc.cells at HHa HIn
        have ALLC := Lib.hid (show ∀ W, Upd No wc W → Upd No wc W ∧ W.cell? ⟨b, 0, none⟩ = some (.int .i64 xk) ∧ W.cell? ⟨b, 1, none⟩ = some (.int .i64 x.f) ∧ W.cell? ⟨b, 2, none⟩ = some (.int .i64 x.t) ∧ W.cell? ⟨b, 3, none⟩ = some (.int .i64 x.kind) ∧ W.cell? ⟨b, 4, none⟩ = some (.int .i64 x.label) from fun W u => ⟨u, ALLX.out _ (hbx.upd u id)⟩)
        clear hp ho hl1 hl2 hbh hkd hdg hsl hbx hcu HRi HE HV ALLX hqk
        go_wp2_with fail
        refine (HOf.out _ (Upd.refl No wc)).mono ?_
        rintro e w2 ⟨Ap, cp, rfl, hop, hu2⟩
        have HP := Lib.hid (arcs_own' hop)
        have HU2 := Lib.hid hu2
        clear hop hu2 HOf
        go_wp2
        have hHeld : Upd No w2 w2.drew ∧ w2.drew.cell? ⟨b, 0, none⟩ = some (.int .i64 xk) ∧ w2.drew.cell? ⟨b, 1, none⟩ = some (.int .i64 x.f) ∧ w2.drew.cell? ⟨b, 2, none⟩ = some (.int .i64 x.t) ∧ w2.drew.cell? ⟨b, 3, none⟩ = some (.int .i64 x.kind) ∧ w2.drew.cell? ⟨b, 4, none⟩ = some (.int .i64 x.label) := ⟨(Upd.refl No w2).drew, (ALLC.out _ (HU2.out.drew)).2⟩
        try simp only [List.append]
        refine wp_region_noPanic ?_
        refine peel_start (by kernel_rfl) ?_
        generalize w2.drew = w5 at hHeld ⊢
        refine peelQ 5 (by kernel_rfl) (by kernel_rfl) 70 rfl (fun _ _ _ _ _ h => h) (fun QQ hq hdone => ?_)
        simp only [partOps_lit, partL, shiftO_mk, shiftA, shiftG]
        refine wpAny_of_held (S := (fun W => Upd No w2 W ∧ W.cell? ⟨b, 0, none⟩ = some (.int .i64 xk) ∧ W.cell? ⟨b, 1, none⟩ = some (.int .i64 x.f) ∧ W.cell? ⟨b, 2, none⟩ = some (.int .i64 x.t) ∧ W.cell? ⟨b, 3, none⟩ = some (.int .i64 x.kind) ∧ W.cell? ⟨b, 4, none⟩ = some (.int .i64 x.label))) _ _ _ _ ?_
        refine wpAnyH_take (i := 0) (v := ?_) rfl (by kernel_rfl) (by kernel_rfl) (by kernel_rfl) (fun c a w h => hq c a _ _ w h) (Or.inl ⟨by rfl, ?_⟩) (by assumption) ?_
        rotate_left
        · (intro W hSw; (try dsimp only at hSw); go_simp; try (with_reducible rfl))
        try simp only [Act.put]
        try simp only [List.setIfInBounds_toArray]
        try simp only [List.set_cons_succ]
        try simp only [List.set_cons_zero]
        refine wpAnyH_take (i := 2) (v := ?_) rfl (by kernel_rfl) (by kernel_rfl) (by kernel_rfl) (fun c a w h => hq c a _ _ w h) (Or.inl ⟨by rfl, ?_⟩) (by assumption) ?_
        rotate_left
        · (intro W hSw; (try dsimp only at hSw); go_simp; try (with_reducible rfl))
        try simp only [Act.put]
        try simp only [List.setIfInBounds_toArray]
        try simp only [List.set_cons_succ]
        try simp only [List.set_cons_zero]
        refine wpAnyH_ready (rs := [1]) (by kernel_rfl) (by simp) ?_
        refine AllReadyH.cons rfl (fun K hK => ?_) AllReadyH.nil
        go_simp
        (first
            | (go_at_call 47; refine (HNo.out _ (HU2.out.trans hHeld.1)).mono ?_; rintro e w3 ⟨rfl, rfl⟩))
        try (go_wp2_with fail)
        refine hK.out _ _ ?_ (fun hHeld => ?_)
        · (first | exact ⟨hHeld.1.trans hu3, (ALLC.out _ (HU2.out.trans (hHeld.1.trans hu3))).2⟩ | exact hHeld)
        clear hK K
        try simp only [Act.put]
        try simp only [List.setIfInBounds_toArray]
        try simp only [List.set_cons_succ]
        try simp only [List.set_cons_zero]
        refine wpAnyH_take (i := 3) (v := ?_) rfl (by kernel_rfl) (by kernel_rfl) (by kernel_rfl) (fun c a w h => hq c a _ _ w h) (Or.inl ⟨by rfl, ?_⟩) (by assumption) ?_
        rotate_left
        · (intro W hSw; (try dsimp only at hSw); go_simp; try (with_reducible rfl))
        try simp only [Act.put]
        try simp only [List.setIfInBounds_toArray]
        try simp only [List.set_cons_succ]
        try simp only [List.set_cons_zero]
        refine wpAnyH_take (i := 4) (v := ?_) rfl (by kernel_rfl) (by kernel_rfl) (by kernel_rfl) (fun c a w h => hq c a _ _ w h) (Or.inl ⟨by rfl, ?_⟩) (by assumption) ?_
        rotate_left
        · (intro W hSw; (try dsimp only at hSw); go_simp; try (with_reducible rfl))
        try simp only [Act.put]
        try simp only [List.setIfInBounds_toArray]
        try simp only [List.set_cons_succ]
        try simp only [List.set_cons_zero]
        refine wpAnyH_done (by kernel_rfl) (hdone.out _ _ ?_) _
        clear hdone hq QQ
        refine peelQ 7 (by kernel_rfl) (by kernel_rfl) 63 rfl (fun _ _ _ _ _ h => h) (fun QQ hq hdone => ?_)
        simp only [partOps_lit, partL, shiftO_mk, shiftA, shiftG]
        refine wpAny_of_held (S := (fun W => Upd No w2 W ∧ W.cell? ⟨b, 0, none⟩ = some (.int .i64 xk) ∧ W.cell? ⟨b, 1, none⟩ = some (.int .i64 x.f) ∧ W.cell? ⟨b, 2, none⟩ = some (.int .i64 x.t) ∧ W.cell? ⟨b, 3, none⟩ = some (.int .i64 x.kind) ∧ W.cell? ⟨b, 4, none⟩ = some (.int .i64 x.label))) _ _ _ _ ?_
        refine wpAnyH_take (i := 0) (v := ?_) rfl (by kernel_rfl) (by kernel_rfl) (by kernel_rfl) (fun c a w h => hq c a _ _ w h) (Or.inl ⟨by rfl, ?_⟩) (by assumption) ?_
        rotate_left
        · (intro W hSw; (try dsimp only at hSw); go_simp; try (with_reducible rfl))
        try simp only [Act.put]
        try simp only [List.setIfInBounds_toArray]
        try simp only [List.set_cons_succ]
        try simp only [List.set_cons_zero]
        refine wpAnyH_take (i := 2) (v := ?_) rfl (by kernel_rfl) (by kernel_rfl) (by kernel_rfl) (fun c a w h => hq c a _ _ w h) (Or.inl ⟨by rfl, ?_⟩) (by assumption) ?_
        rotate_left
        · (intro W hSw; (try dsimp only at hSw); go_simp; try (with_reducible rfl))
        try simp only [Act.put]
        try simp only [List.setIfInBounds_toArray]
        try simp only [List.set_cons_succ]
        try simp only [List.set_cons_zero]
        refine wpAnyH_take (i := 3) (v := ?_) rfl (by kernel_rfl) (by kernel_rfl) (by kernel_rfl) (fun c a w h => hq c a _ _ w h) (Or.inl ⟨by rfl, ?_⟩) (by assumption) ?_
        rotate_left
        · (intro W hSw; (try dsimp only at hSw); go_simp; try (with_reducible rfl))
        try simp only [Act.put]
        try simp only [List.setIfInBounds_toArray]
        try simp only [List.set_cons_succ]
        try simp only [List.set_cons_zero]
        refine wpAnyH_ready (rs := [1]) (by kernel_rfl) (by simp) ?_
        refine AllReadyH.cons rfl (fun K hK => ?_) AllReadyH.nil
        go_simp
        (first
            | (go_at_call 48; refine (HLe.out _ (HU2.out.trans hHeld.1)).mono ?_; rintro e w3 ⟨rfl, rfl⟩))
        try (go_wp2_with fail)
        refine hK.out _ _ ?_ (fun hHeld => ?_)
        · (first | exact ⟨hHeld.1.trans hu3, (ALLC.out _ (HU2.out.trans (hHeld.1.trans hu3))).2⟩ | exact hHeld)
        clear hK K
        try simp only [Act.put]
        try simp only [List.setIfInBounds_toArray]
        try simp only [List.set_cons_succ]
        try simp only [List.set_cons_zero]
        refine wpAnyH_take (i := 4) (v := ?_) rfl (by kernel_rfl) (by kernel_rfl) (by kernel_rfl) (fun c a w h => hq c a _ _ w h) (Or.inl ⟨by rfl, ?_⟩) (by assumption) ?_
        rotate_left
        · (intro W hSw; (try dsimp only at hSw); go_simp; try (with_reducible rfl))
        try simp only [Act.put]
        try simp only [List.setIfInBounds_toArray]
        try simp only [List.set_cons_succ]
        try simp only [List.set_cons_zero]
        refine wpAnyH_take (i := 5) (v := ?_) rfl (by kernel_rfl) (by kernel_rfl) (by kernel_rfl) (fun c a w h => hq c a _ _ w h) (Or.inl ⟨by rfl, ?_⟩) (by assumption) ?_
        rotate_left
        · (intro W hSw; (try dsimp only at hSw); go_simp; try (with_reducible rfl))
        try simp only [Act.put]
        try simp only [List.setIfInBounds_toArray]
        try simp only [List.set_cons_succ]
        try simp only [List.set_cons_zero]
        refine wpAnyH_take (i := 6) (v := ?_) rfl (by kernel_rfl) (by kernel_rfl) (by kernel_rfl) (fun c a w h => hq c a _ _ w h) (Or.inl ⟨by rfl, ?_⟩) (by assumption) ?_
        rotate_left
        · (intro W hSw; (try dsimp only at hSw); go_simp; try (with_reducible rfl))
        try simp only [Act.put]
        try simp only [List.setIfInBounds_toArray]
        try simp only [List.set_cons_succ]
        try simp only [List.set_cons_zero]
        refine wpAnyH_done (by kernel_rfl) (hdone.out _ _ ?_) _
        clear hdone hq QQ
        refine peelQ 11 (by kernel_rfl) (by kernel_rfl) 52 rfl (fun _ _ _ _ _ h => h) (fun QQ hq hdone => ?_)
        simp only [partOps_lit, partL, shiftO_mk, shiftA, shiftG]
        refine wpAny_of_held (S := (fun W => Upd No w2 W ∧ W.cell? ⟨b, 0, none⟩ = some (.int .i64 xk) ∧ W.cell? ⟨b, 1, none⟩ = some (.int .i64 x.f) ∧ W.cell? ⟨b, 2, none⟩ = some (.int .i64 x.t) ∧ W.cell? ⟨b, 3, none⟩ = some (.int .i64 x.kind) ∧ W.cell? ⟨b, 4, none⟩ = some (.int .i64 x.label))) _ _ _ _ ?_
        refine wpAnyH_take (i := 0) (v := ?_) rfl (by kernel_rfl) (by kernel_rfl) (by kernel_rfl) (fun c a w h => hq c a _ _ w h) (Or.inl ⟨by rfl, ?_⟩) (by assumption) ?_
        rotate_left
        · (intro W hSw; (try dsimp only at hSw); go_simp; try (with_reducible rfl))
        try simp only [Act.put]
        try simp only [List.setIfInBounds_toArray]
        try simp only [List.set_cons_succ]
        try simp only [List.set_cons_zero]
        refine wpAnyH_take (i := 1) (v := ?_) rfl (by kernel_rfl) (by kernel_rfl) (by kernel_rfl) (fun c a w h => hq c a _ _ w h) (Or.inl ⟨by rfl, ?_⟩) (by assumption) ?_
        rotate_left
        · (intro W hSw; (try dsimp only at hSw); go_simp; try (with_reducible rfl))
        try simp only [Act.put]
        try simp only [List.setIfInBounds_toArray]
        try simp only [List.set_cons_succ]
        try simp only [List.set_cons_zero]
        refine wpAnyH_take (i := 2) (v := ?_) rfl (by kernel_rfl) (by kernel_rfl) (by kernel_rfl) (fun c a w h => hq c a _ _ w h) (Or.inl ⟨by rfl, ?_⟩) (by assumption) ?_
        rotate_left
        · (intro W hSw; (try dsimp only at hSw); go_simp; try (with_reducible rfl))
        try simp only [Act.put]
        try simp only [List.setIfInBounds_toArray]
        try simp only [List.set_cons_succ]
        try simp only [List.set_cons_zero]
        refine wpAnyH_take (i := 4) (v := ?_) rfl (by kernel_rfl) (by kernel_rfl) (by kernel_rfl) (fun c a w h => hq c a _ _ w h) (Or.inl ⟨by rfl, ?_⟩) (by assumption) ?_
        rotate_left
        · (intro W hSw; (try dsimp only at hSw); go_simp; try (with_reducible rfl))
        try simp only [Act.put]
        try simp only [List.setIfInBounds_toArray]
        try simp only [List.set_cons_succ]
        try simp only [List.set_cons_zero]
        refine wpAnyH_take (i := 5) (v := ?_) rfl (by kernel_rfl) (by kernel_rfl) (by kernel_rfl) (fun c a w h => hq c a _ _ w h) (Or.inl ⟨by rfl, ?_⟩) (by assumption) ?_
        rotate_left
        · (intro W hSw; (try dsimp only at hSw); go_simp; try (with_reducible rfl))
        try simp only [Act.put]
        try simp only [List.setIfInBounds_toArray]
        try simp only [List.set_cons_succ]
        try simp only [List.set_cons_zero]
        refine wpAnyH_take (i := 6) (v := ?_) rfl (by kernel_rfl) (by kernel_rfl) (by kernel_rfl) (fun c a w h => hq c a _ _ w h) (Or.inl ⟨by rfl, ?_⟩) (by assumption) ?_
        rotate_left
        · (intro W hSw; (try dsimp only at hSw); go_simp; try (with_reducible rfl))
        try simp only [Act.put]
        try simp only [List.setIfInBounds_toArray]
        try simp only [List.set_cons_succ]
        try simp only [List.set_cons_zero]
        refine wpAnyH_ready (rs := [3]) (by kernel_rfl) (by simp) ?_
        refine AllReadyH.cons rfl (fun K hK => ?_) AllReadyH.nil
        go_simp
        (first
            | (go_at_call 49; refine (HHa.out _ (HU2.out.trans hHeld.1)).mono ?_; rintro e w3 ⟨rfl, hu3⟩))
        try (go_wp2_with fail)
        refine hK.out _ _ ?_ (fun hHeld => ?_)
        · (first | exact ⟨hHeld.1.trans hu3, (ALLC.out _ (HU2.out.trans (hHeld.1.trans hu3))).2⟩ | exact hHeld)
        clear hK K
        try simp only [Act.put]
        try simp only [List.setIfInBounds_toArray]
        try simp only [List.set_cons_succ]
        try simp only [List.set_cons_zero]
        refine wpAnyH_ready (rs := [7]) (by kernel_rfl) (by simp) ?_
        refine AllReadyH.cons rfl (fun K hK => ?_) AllReadyH.nil
        go_simp
        (first
            | (go_at_call 40; refine (HIn.out _ (HU2.out.trans hHeld.1)).mono ?_; rintro e w3 ⟨rfl, hu3⟩))
        try (go_wp2_with fail)
        refine hK.out _ _ ?_ (fun hHeld => ?_)
        · (first | exact ⟨hHeld.1.trans hu3, (ALLC.out _ (HU2.out.trans (hHeld.1.trans hu3))).2⟩ | exact hHeld)
        clear hK K
        try simp only [Act.put]
        try simp only [List.setIfInBounds_toArray]
        try simp only [List.set_cons_succ]
        try simp only [List.set_cons_zero]
        refine wpAnyH_take (i := 8) (v := ?_) rfl (by kernel_rfl) (by kernel_rfl) (by kernel_rfl) (fun c a w h => hq c a _ _ w h) (Or.inl ⟨by rfl, ?_⟩) (by assumption) ?_
        rotate_left
        · (intro W hSw; (try dsimp only at hSw); go_simp; try (with_reducible rfl))
        try simp only [Act.put]
        try simp only [List.setIfInBounds_toArray]
        try simp only [List.set_cons_succ]
        try simp only [List.set_cons_zero]
        refine wpAnyH_take (i := 9) (v := ?_) rfl (by kernel_rfl) (by kernel_rfl) (by kernel_rfl) (fun c a w h => hq c a _ _ w h) (Or.inl ⟨by rfl, ?_⟩) (by assumption) ?_
        rotate_left
        · (intro W hSw; (try dsimp only at hSw); go_simp; try (with_reducible rfl))
        try simp only [Act.put]
        try simp only [List.setIfInBounds_toArray]
        try simp only [List.set_cons_succ]
        try simp only [List.set_cons_zero]
        refine wpAnyH_take (i := 10) (v := ?_) rfl (by kernel_rfl) (by kernel_rfl) (by kernel_rfl) (fun c a w h => hq c a _ _ w h) (Or.inl ⟨by rfl, ?_⟩) (by assumption) ?_
        rotate_left
        · (intro W hSw; (try dsimp only at hSw); go_simp; try (with_reducible rfl))
        try simp only [Act.put]
        try simp only [List.setIfInBounds_toArray]
        try simp only [List.set_cons_succ]
        try simp only [List.set_cons_zero]
        refine wpAnyH_done (by kernel_rfl) (hdone.out _ _ ?_) _
        clear hdone hq QQ
        refine peelQ 8 (by kernel_rfl) (by kernel_rfl) 44 rfl (fun _ _ _ _ _ h => h) (fun QQ hq hdone => ?_)
        simp only [partOps_lit, partL, shiftO_mk, shiftA, shiftG]
        refine wpAny_of_held (S := (fun W => Upd No w2 W ∧ W.cell? ⟨b, 0, none⟩ = some (.int .i64 xk) ∧ W.cell? ⟨b, 1, none⟩ = some (.int .i64 x.f) ∧ W.cell? ⟨b, 2, none⟩ = some (.int .i64 x.t) ∧ W.cell? ⟨b, 3, none⟩ = some (.int .i64 x.kind) ∧ W.cell? ⟨b, 4, none⟩ = some (.int .i64 x.label))) _ _ _ _ ?_
        refine wpAnyH_take (i := 0) (v := ?_) rfl (by kernel_rfl) (by kernel_rfl) (by kernel_rfl) (fun c a w h => hq c a _ _ w h) (Or.inl ⟨by rfl, ?_⟩) (by assumption) ?_
        rotate_left
        · (intro W hSw; (try dsimp only at hSw); go_simp; try (with_reducible rfl))
        try simp only [Act.put]
        try simp only [List.setIfInBounds_toArray]
        try simp only [List.set_cons_succ]
        try simp only [List.set_cons_zero]
        refine wpAnyH_take (i := 1) (v := ?_) rfl (by kernel_rfl) (by kernel_rfl) (by kernel_rfl) (fun c a w h => hq c a _ _ w h) (Or.inl ⟨by rfl, ?_⟩) (by assumption) ?_
        rotate_left
        · (intro W hSw; (try dsimp only at hSw); go_simp; try (with_reducible rfl))
        try simp only [Act.put]
        try simp only [List.setIfInBounds_toArray]
        try simp only [List.set_cons_succ]
        try simp only [List.set_cons_zero]
        refine wpAnyH_take (i := 3) (v := ?_) rfl (by kernel_rfl) (by kernel_rfl) (by kernel_rfl) (fun c a w h => hq c a _ _ w h) (Or.inl ⟨by rfl, ?_⟩) (by assumption) ?_
        rotate_left
        · (intro W hSw; (try dsimp only at hSw); go_simp; try (with_reducible rfl))
        try simp only [Act.put]
        try simp only [List.setIfInBounds_toArray]
        try simp only [List.set_cons_succ]
        try simp only [List.set_cons_zero]
        refine wpAnyH_ready (rs := [2]) (by kernel_rfl) (by simp) ?_
        refine AllReadyH.cons rfl (fun K hK => ?_) AllReadyH.nil
        go_simp
        (first
            | (go_at_call 51; refine (HAr.out _ (HU2.out.trans hHeld.1)).mono ?_; rintro e w3 ⟨A5, c5, rfl, ho5, hu3⟩))
        try (go_wp2_with fail)
        refine hK.out _ _ ?_ (fun hHeld => ?_)
        · (first | exact ⟨hHeld.1.trans hu3, (ALLC.out _ (HU2.out.trans (hHeld.1.trans hu3))).2⟩ | exact hHeld)
        clear hK K
        try simp only [Act.put]
        try simp only [List.setIfInBounds_toArray]
        try simp only [List.set_cons_succ]
        try simp only [List.set_cons_zero]
        refine wpAnyH_ready (rs := [4]) (by kernel_rfl) (by simp) ?_
        refine AllReadyH.cons rfl (fun K hK => ?_) AllReadyH.nil
        go_simp
        (first
            | (go_at_call 50; refine (samearcs1 _ _ _ A5 Ap c5 cp p (arcs_own' ho5) (HP.out.upd hHeld.1 (fun _ _ => id)) (by omega)).mono ?_; rintro e w3 ⟨rfl, hu3⟩))
        try (go_wp2_with fail)
        refine hK.out _ _ ?_ (fun hHeld => ?_)
        · (first | exact ⟨hHeld.1.trans hu3, (ALLC.out _ (HU2.out.trans (hHeld.1.trans hu3))).2⟩ | exact hHeld)
        clear hK K
        try simp only [Act.put]
        try simp only [List.setIfInBounds_toArray]
        try simp only [List.set_cons_succ]
        try simp only [List.set_cons_zero]
        refine wpAnyH_take (i := 5) (v := ?_) rfl (by kernel_rfl) (by kernel_rfl) (by kernel_rfl) (fun c a w h => hq c a _ _ w h) (Or.inl ⟨by rfl, ?_⟩) (by assumption) ?_
        rotate_left
        · (intro W hSw; (try dsimp only at hSw); go_simp; try (with_reducible rfl))
        try simp only [Act.put]
        try simp only [List.setIfInBounds_toArray]
        try simp only [List.set_cons_succ]
        try simp only [List.set_cons_zero]
        refine wpAnyH_take (i := 6) (v := ?_) rfl (by kernel_rfl) (by kernel_rfl) (by kernel_rfl) (fun c a w h => hq c a _ _ w h) (Or.inl ⟨by rfl, ?_⟩) (by assumption) ?_
        rotate_left
        · (intro W hSw; (try dsimp only at hSw); go_simp; try (with_reducible rfl))
        try simp only [Act.put]
        try simp only [List.setIfInBounds_toArray]
        try simp only [List.set_cons_succ]
        try simp only [List.set_cons_zero]
        refine wpAnyH_take (i := 7) (v := ?_) rfl (by kernel_rfl) (by kernel_rfl) (by kernel_rfl) (fun c a w h => hq c a _ _ w h) (Or.inl ⟨by rfl, ?_⟩) (by assumption) ?_
        rotate_left
        · (intro W hSw; (try dsimp only at hSw); go_simp; try (with_reducible rfl))
        try simp only [Act.put]
        try simp only [List.setIfInBounds_toArray]
        try simp only [List.set_cons_succ]
        try simp only [List.set_cons_zero]
        refine wpAnyH_done (by kernel_rfl) (hdone.out _ _ ?_) _
        clear hdone hq QQ
        refine peelQ 15 (by kernel_rfl) (by kernel_rfl) 29 rfl (fun _ _ _ _ _ h => h) (fun QQ hq hdone => ?_)
        simp only [partOps_lit, partL, shiftO_mk, shiftA, shiftG]
        refine wpAny_of_held (S := (fun W => Upd No w2 W ∧ W.cell? ⟨b, 0, none⟩ = some (.int .i64 xk) ∧ W.cell? ⟨b, 1, none⟩ = some (.int .i64 x.f) ∧ W.cell? ⟨b, 2, none⟩ = some (.int .i64 x.t) ∧ W.cell? ⟨b, 3, none⟩ = some (.int .i64 x.kind) ∧ W.cell? ⟨b, 4, none⟩ = some (.int .i64 x.label))) _ _ _ _ ?_
        refine wpAnyH_take (i := 0) (v := ?_) rfl (by kernel_rfl) (by kernel_rfl) (by kernel_rfl) (fun c a w h => hq c a _ _ w h) (Or.inl ⟨by rfl, ?_⟩) (by assumption) ?_
        rotate_left
        · (intro W hSw; (try dsimp only at hSw); go_simp; try (with_reducible rfl))
        try simp only [Act.put]
        try simp only [List.setIfInBounds_toArray]
        try simp only [List.set_cons_succ]
        try simp only [List.set_cons_zero]
        refine wpAnyH_take (i := 1) (v := ?_) rfl (by kernel_rfl) (by kernel_rfl) (by kernel_rfl) (fun c a w h => hq c a _ _ w h) (Or.inl ⟨by rfl, ?_⟩) (by assumption) ?_
        rotate_left
        · (intro W hSw; (try dsimp only at hSw); go_simp; try (with_reducible rfl))
        try simp only [Act.put]
        try simp only [List.setIfInBounds_toArray]
        try simp only [List.set_cons_succ]
        try simp only [List.set_cons_zero]
        refine wpAnyH_take (i := 2) (v := ?_) rfl (by kernel_rfl) (by kernel_rfl) (by kernel_rfl) (fun c a w h => hq c a _ _ w h) (Or.inl ⟨by rfl, ?_⟩) (by assumption) ?_
        rotate_left
        · (intro W hSw; (try dsimp only at hSw); go_simp; try (with_reducible rfl))
        try simp only [Act.put]
        try simp only [List.setIfInBounds_toArray]
        try simp only [List.set_cons_succ]
        try simp only [List.set_cons_zero]
        refine wpAnyH_take (i := 3) (v := ?_) rfl (by kernel_rfl) (by kernel_rfl) (by kernel_rfl) (fun c a w h => hq c a _ _ w h) (Or.inl ⟨by rfl, ?_⟩) (by assumption) ?_
        rotate_left
        · (intro W hSw; (try dsimp only at hSw); go_simp; try (with_reducible rfl))
        try simp only [Act.put]
        try simp only [List.setIfInBounds_toArray]
        try simp only [List.set_cons_succ]
        try simp only [List.set_cons_zero]
        refine wpAnyH_take (i := 4) (v := ?_) rfl (by kernel_rfl) (by kernel_rfl) (by kernel_rfl) (fun c a w h => hq c a _ _ w h) (Or.inl ⟨by rfl, ?_⟩) (by assumption) ?_
        rotate_left
        · (intro W hSw; (try dsimp only at hSw); go_simp; try (with_reducible rfl))
        try simp only [Act.put]
        try simp only [List.setIfInBounds_toArray]
        try simp only [List.set_cons_succ]
        try simp only [List.set_cons_zero]
        refine wpAnyH_take (i := 6) (v := ?_) rfl (by kernel_rfl) (by kernel_rfl) (by kernel_rfl) (fun c a w h => hq c a _ _ w h) (Or.inl ⟨by rfl, ?_⟩) (by assumption) ?_
        rotate_left
        · (intro W hSw; (try dsimp only at hSw); go_simp; try (with_reducible rfl))
        try simp only [Act.put]
        try simp only [List.setIfInBounds_toArray]
        try simp only [List.set_cons_succ]
        try simp only [List.set_cons_zero]
        refine wpAnyH_take (i := 7) (v := ?_) rfl (by kernel_rfl) (by kernel_rfl) (by kernel_rfl) (fun c a w h => hq c a _ _ w h) (Or.inl ⟨by rfl, ?_⟩) (by assumption) ?_
        rotate_left
        · (intro W hSw; (try dsimp only at hSw); go_simp; try (with_reducible rfl))
        try simp only [Act.put]
        try simp only [List.setIfInBounds_toArray]
        try simp only [List.set_cons_succ]
        try simp only [List.set_cons_zero]
        refine wpAnyH_take (i := 8) (v := ?_) rfl (by kernel_rfl) (by kernel_rfl) (by kernel_rfl) (fun c a w h => hq c a _ _ w h) (Or.inl ⟨by rfl, ?_⟩) (by assumption) ?_
        rotate_left
        · (intro W hSw; (try dsimp only at hSw); go_simp; try (with_reducible rfl))
        try simp only [Act.put]
        try simp only [List.setIfInBounds_toArray]
        try simp only [List.set_cons_succ]
        try simp only [List.set_cons_zero]
        refine wpAnyH_take (i := 9) (v := ?_) rfl (by kernel_rfl) (by kernel_rfl) (by kernel_rfl) (fun c a w h => hq c a _ _ w h) (Or.inl ⟨by rfl, ?_⟩) (by assumption) ?_
        rotate_left
        · (intro W hSw; (try dsimp only at hSw); go_simp; try (with_reducible rfl))
        try simp only [Act.put]
        try simp only [List.setIfInBounds_toArray]
        try simp only [List.set_cons_succ]
        try simp only [List.set_cons_zero]
        refine wpAnyH_ready (rs := [5]) (by kernel_rfl) (by simp) ?_
        refine AllReadyH.cons rfl (fun K hK => ?_) AllReadyH.nil
        go_simp
        (first
            | (go_at_call 52; refine (HOu.out _ (HU2.out.trans hHeld.1)).mono ?_; rintro e w3 ⟨A5, c5, rfl, ho5, hu3⟩))
        try (go_wp2_with fail)
        refine hK.out _ _ ?_ (fun hHeld => ?_)
        · (first | exact ⟨hHeld.1.trans hu3, (ALLC.out _ (HU2.out.trans (hHeld.1.trans hu3))).2⟩ | exact hHeld)
        clear hK K
        try simp only [Act.put]
        try simp only [List.setIfInBounds_toArray]
        try simp only [List.set_cons_succ]
        try simp only [List.set_cons_zero]
        refine wpAnyH_ready (rs := [10]) (by kernel_rfl) (by simp) ?_
        refine AllReadyH.cons rfl (fun K hK => ?_) AllReadyH.nil
        go_simp
        (first
            | (go_at_call 53; refine (HRo.out _ _ Ap cp (HP.out.upd hHeld.1 (fun _ _ => id))).mono ?_; rintro e w3 ⟨A6, c6, rfl, ho6, hu3⟩))
        try (go_wp2_with fail)
        refine hK.out _ _ ?_ (fun hHeld => ?_)
        · (first | exact ⟨hHeld.1.trans hu3, (ALLC.out _ (HU2.out.trans (hHeld.1.trans hu3))).2⟩ | exact hHeld)
        clear hK K
        try simp only [Act.put]
        try simp only [List.setIfInBounds_toArray]
        try simp only [List.set_cons_succ]
        try simp only [List.set_cons_zero]
        refine wpAnyH_ready (rs := [11]) (by kernel_rfl) (by simp) ?_
        refine AllReadyH.cons rfl (fun K hK => ?_) AllReadyH.nil
        go_simp
        (first
            | (go_at_call 50; refine (samearcs1 _ _ _ A5 A6 c5 c6 o ((arcs_own' ho5).upd hu3 (fun _ _ => id)) (arcs_own' ho6) (by omega)).mono ?_; rintro e w3 ⟨rfl, hu3⟩))
        try (go_wp2_with fail)
        refine hK.out _ _ ?_ (fun hHeld => ?_)
        · (first | exact ⟨hHeld.1.trans hu3, (ALLC.out _ (HU2.out.trans (hHeld.1.trans hu3))).2⟩ | exact hHeld)
        clear hK K
        try simp only [Act.put]
        try simp only [List.setIfInBounds_toArray]
        try simp only [List.set_cons_succ]
        try simp only [List.set_cons_zero]
        refine wpAnyH_take (i := 12) (v := ?_) rfl (by kernel_rfl) (by kernel_rfl) (by kernel_rfl) (fun c a w h => hq c a _ _ w h) (Or.inl ⟨by rfl, ?_⟩) (by assumption) ?_
        rotate_left
        · (intro W hSw; (try dsimp only at hSw); go_simp; try (with_reducible rfl))
        try simp only [Act.put]
        try simp only [List.setIfInBounds_toArray]
        try simp only [List.set_cons_succ]
        try simp only [List.set_cons_zero]
        refine wpAnyH_take (i := 13) (v := ?_) rfl (by kernel_rfl) (by kernel_rfl) (by kernel_rfl) (fun c a w h => hq c a _ _ w h) (Or.inl ⟨by rfl, ?_⟩) (by assumption) ?_
        rotate_left
        · (intro W hSw; (try dsimp only at hSw); go_simp; try (with_reducible rfl))
        try simp only [Act.put]
        try simp only [List.setIfInBounds_toArray]
        try simp only [List.set_cons_succ]
        try simp only [List.set_cons_zero]
        refine wpAnyH_take (i := 14) (v := ?_) rfl (by kernel_rfl) (by kernel_rfl) (by kernel_rfl) (fun c a w h => hq c a _ _ w h) (Or.inl ⟨by rfl, ?_⟩) (by assumption) ?_
        rotate_left
        · (intro W hSw; (try dsimp only at hSw); go_simp; try (with_reducible rfl))
        try simp only [Act.put]
        try simp only [List.setIfInBounds_toArray]
        try simp only [List.set_cons_succ]
        try simp only [List.set_cons_zero]
        refine wpAnyH_done (by kernel_rfl) (hdone.out _ _ ?_) _
        clear hdone hq QQ
        refine peelQ 15 (by kernel_rfl) (by kernel_rfl) 14 rfl (fun _ _ _ _ _ h => h) (fun QQ hq hdone => ?_)
        simp only [partOps_lit, partL, shiftO_mk, shiftA, shiftG]
        refine wpAny_of_held (S := (fun W => Upd No w2 W ∧ W.cell? ⟨b, 0, none⟩ = some (.int .i64 xk) ∧ W.cell? ⟨b, 1, none⟩ = some (.int .i64 x.f) ∧ W.cell? ⟨b, 2, none⟩ = some (.int .i64 x.t) ∧ W.cell? ⟨b, 3, none⟩ = some (.int .i64 x.kind) ∧ W.cell? ⟨b, 4, none⟩ = some (.int .i64 x.label))) _ _ _ _ ?_
        refine wpAnyH_take (i := 0) (v := ?_) rfl (by kernel_rfl) (by kernel_rfl) (by kernel_rfl) (fun c a w h => hq c a _ _ w h) (Or.inl ⟨by rfl, ?_⟩) (by assumption) ?_
        rotate_left
        · (intro W hSw; (try dsimp only at hSw); go_simp; try (with_reducible rfl))
        try simp only [Act.put]
        try simp only [List.setIfInBounds_toArray]
        try simp only [List.set_cons_succ]
        try simp only [List.set_cons_zero]
        refine wpAnyH_take (i := 1) (v := ?_) rfl (by kernel_rfl) (by kernel_rfl) (by kernel_rfl) (fun c a w h => hq c a _ _ w h) (Or.inl ⟨by rfl, ?_⟩) (by assumption) ?_
        rotate_left
        · (intro W hSw; (try dsimp only at hSw); go_simp; try (with_reducible rfl))
        try simp only [Act.put]
        try simp only [List.setIfInBounds_toArray]
        try simp only [List.set_cons_succ]
        try simp only [List.set_cons_zero]
        refine wpAnyH_take (i := 2) (v := ?_) rfl (by kernel_rfl) (by kernel_rfl) (by kernel_rfl) (fun c a w h => hq c a _ _ w h) (Or.inl ⟨by rfl, ?_⟩) (by assumption) ?_
        rotate_left
        · (intro W hSw; (try dsimp only at hSw); go_simp; try (with_reducible rfl))
        try simp only [Act.put]
        try simp only [List.setIfInBounds_toArray]
        try simp only [List.set_cons_succ]
        try simp only [List.set_cons_zero]
        refine wpAnyH_take (i := 3) (v := ?_) rfl (by kernel_rfl) (by kernel_rfl) (by kernel_rfl) (fun c a w h => hq c a _ _ w h) (Or.inl ⟨by rfl, ?_⟩) (by assumption) ?_
        rotate_left
        · (intro W hSw; (try dsimp only at hSw); go_simp; try (with_reducible rfl))
        try simp only [Act.put]
        try simp only [List.setIfInBounds_toArray]
        try simp only [List.set_cons_succ]
        try simp only [List.set_cons_zero]
        refine wpAnyH_take (i := 4) (v := ?_) rfl (by kernel_rfl) (by kernel_rfl) (by kernel_rfl) (fun c a w h => hq c a _ _ w h) (Or.inl ⟨by rfl, ?_⟩) (by assumption) ?_
        rotate_left
        · (intro W hSw; (try dsimp only at hSw); go_simp; try (with_reducible rfl))
        try simp only [Act.put]
        try simp only [List.setIfInBounds_toArray]
        try simp only [List.set_cons_succ]
        try simp only [List.set_cons_zero]
        refine wpAnyH_take (i := 6) (v := ?_) rfl (by kernel_rfl) (by kernel_rfl) (by kernel_rfl) (fun c a w h => hq c a _ _ w h) (Or.inl ⟨by rfl, ?_⟩) (by assumption) ?_
        rotate_left
        · (intro W hSw; (try dsimp only at hSw); go_simp; try (with_reducible rfl))
        try simp only [Act.put]
        try simp only [List.setIfInBounds_toArray]
        try simp only [List.set_cons_succ]
        try simp only [List.set_cons_zero]
        refine wpAnyH_take (i := 7) (v := ?_) rfl (by kernel_rfl) (by kernel_rfl) (by kernel_rfl) (fun c a w h => hq c a _ _ w h) (Or.inl ⟨by rfl, ?_⟩) (by assumption) ?_
        rotate_left
        · (intro W hSw; (try dsimp only at hSw); go_simp; try (with_reducible rfl))
        try simp only [Act.put]
        try simp only [List.setIfInBounds_toArray]
        try simp only [List.set_cons_succ]
        try simp only [List.set_cons_zero]
        refine wpAnyH_take (i := 8) (v := ?_) rfl (by kernel_rfl) (by kernel_rfl) (by kernel_rfl) (fun c a w h => hq c a _ _ w h) (Or.inl ⟨by rfl, ?_⟩) (by assumption) ?_
        rotate_left
        · (intro W hSw; (try dsimp only at hSw); go_simp; try (with_reducible rfl))
        try simp only [Act.put]
        try simp only [List.setIfInBounds_toArray]
        try simp only [List.set_cons_succ]
        try simp only [List.set_cons_zero]
        refine wpAnyH_take (i := 9) (v := ?_) rfl (by kernel_rfl) (by kernel_rfl) (by kernel_rfl) (fun c a w h => hq c a _ _ w h) (Or.inl ⟨by rfl, ?_⟩) (by assumption) ?_
        rotate_left
        · (intro W hSw; (try dsimp only at hSw); go_simp; try (with_reducible rfl))
        try simp only [Act.put]
        try simp only [List.setIfInBounds_toArray]
        try simp only [List.set_cons_succ]
        try simp only [List.set_cons_zero]
        refine wpAnyH_ready (rs := [5]) (by kernel_rfl) (by simp) ?_
        refine AllReadyH.cons rfl (fun K hK => ?_) AllReadyH.nil
        go_simp
        (first
            | (go_at_call 54; refine (HNx.out _ (HU2.out.trans hHeld.1)).mono ?_; rintro e w3 ⟨A5, c5, rfl, ho5, hu3⟩))
        try (go_wp2_with fail)
        refine hK.out _ _ ?_ (fun hHeld => ?_)
        · (first | exact ⟨hHeld.1.trans hu3, (ALLC.out _ (HU2.out.trans (hHeld.1.trans hu3))).2⟩ | exact hHeld)
        clear hK K
        try simp only [Act.put]
        try simp only [List.setIfInBounds_toArray]
        try simp only [List.set_cons_succ]
        try simp only [List.set_cons_zero]
        refine wpAnyH_ready (rs := [10]) (by kernel_rfl) (by simp) ?_
        refine AllReadyH.cons rfl (fun K hK => ?_) AllReadyH.nil
        go_simp
        (first
            | (go_at_call 55; refine (HRn.out _ _ Ap cp (HP.out.upd hHeld.1 (fun _ _ => id))).mono ?_; rintro e w3 ⟨A6, c6, rfl, ho6, hu3⟩))
        try (go_wp2_with fail)
        refine hK.out _ _ ?_ (fun hHeld => ?_)
        · (first | exact ⟨hHeld.1.trans hu3, (ALLC.out _ (HU2.out.trans (hHeld.1.trans hu3))).2⟩ | exact hHeld)
        clear hK K
        try simp only [Act.put]
        try simp only [List.setIfInBounds_toArray]
        try simp only [List.set_cons_succ]
        try simp only [List.set_cons_zero]
        refine wpAnyH_ready (rs := [11]) (by kernel_rfl) (by simp) ?_
        refine AllReadyH.cons rfl (fun K hK => ?_) AllReadyH.nil
        go_simp
        (first
            | (go_at_call 33; refine (samei1 _ _ _ A5 A6 c5 c6 l1 ((Ints.of_own ho5).upd hu3 (fun _ _ => id)) (Ints.of_own ho6) (by omega)).mono ?_; rintro e w3 ⟨rfl, hu3⟩))
        try (go_wp2_with fail)
        refine hK.out _ _ ?_ (fun hHeld => ?_)
        · (first | exact ⟨hHeld.1.trans hu3, (ALLC.out _ (HU2.out.trans (hHeld.1.trans hu3))).2⟩ | exact hHeld)
        clear hK K
        try simp only [Act.put]
        try simp only [List.setIfInBounds_toArray]
        try simp only [List.set_cons_succ]
        try simp only [List.set_cons_zero]
        refine wpAnyH_take (i := 12) (v := ?_) rfl (by kernel_rfl) (by kernel_rfl) (by kernel_rfl) (fun c a w h => hq c a _ _ w h) (Or.inl ⟨by rfl, ?_⟩) (by assumption) ?_
        rotate_left
        · (intro W hSw; (try dsimp only at hSw); go_simp; try (with_reducible rfl))
        try simp only [Act.put]
        try simp only [List.setIfInBounds_toArray]
        try simp only [List.set_cons_succ]
        try simp only [List.set_cons_zero]
        refine wpAnyH_take (i := 13) (v := ?_) rfl (by kernel_rfl) (by kernel_rfl) (by kernel_rfl) (fun c a w h => hq c a _ _ w h) (Or.inl ⟨by rfl, ?_⟩) (by assumption) ?_
        rotate_left
        · (intro W hSw; (try dsimp only at hSw); go_simp; try (with_reducible rfl))
        try simp only [Act.put]
        try simp only [List.setIfInBounds_toArray]
        try simp only [List.set_cons_succ]
        try simp only [List.set_cons_zero]
        refine wpAnyH_take (i := 14) (v := ?_) rfl (by kernel_rfl) (by kernel_rfl) (by kernel_rfl) (fun c a w h => hq c a _ _ w h) (Or.inl ⟨by rfl, ?_⟩) (by assumption) ?_
        rotate_left
        · (intro W hSw; (try dsimp only at hSw); go_simp; try (with_reducible rfl))
        try simp only [Act.put]
        try simp only [List.setIfInBounds_toArray]
        try simp only [List.set_cons_succ]
        try simp only [List.set_cons_zero]
        refine wpAnyH_done (by kernel_rfl) (hdone.out _ _ ?_) _
        clear hdone hq QQ
        refine peelQ 14 (by kernel_rfl) (by kernel_rfl) 0 rfl (fun _ _ _ _ _ h => h) (fun QQ hq hdone => ?_)
        simp only [partOps_lit, partL, shiftO_mk, shiftA, shiftG]
        refine wpAny_of_held (S := (fun W => Upd No w2 W ∧ W.cell? ⟨b, 0, none⟩ = some (.int .i64 xk) ∧ W.cell? ⟨b, 1, none⟩ = some (.int .i64 x.f) ∧ W.cell? ⟨b, 2, none⟩ = some (.int .i64 x.t) ∧ W.cell? ⟨b, 3, none⟩ = some (.int .i64 x.kind) ∧ W.cell? ⟨b, 4, none⟩ = some (.int .i64 x.label))) _ _ _ _ ?_
        refine wpAnyH_take (i := 0) (v := ?_) rfl (by kernel_rfl) (by kernel_rfl) (by kernel_rfl) (fun c a w h => hq c a _ _ w h) (Or.inl ⟨by rfl, ?_⟩) (by assumption) ?_
        rotate_left
        · (intro W hSw; (try dsimp only at hSw); go_simp; try (with_reducible rfl))
        try simp only [Act.put]
        try simp only [List.setIfInBounds_toArray]
        try simp only [List.set_cons_succ]
        try simp only [List.set_cons_zero]
        refine wpAnyH_take (i := 1) (v := ?_) rfl (by kernel_rfl) (by kernel_rfl) (by kernel_rfl) (fun c a w h => hq c a _ _ w h) (Or.inl ⟨by rfl, ?_⟩) (by assumption) ?_
        rotate_left
        · (intro W hSw; (try dsimp only at hSw); go_simp; try (with_reducible rfl))
        try simp only [Act.put]
        try simp only [List.setIfInBounds_toArray]
        try simp only [List.set_cons_succ]
        try simp only [List.set_cons_zero]
        refine wpAnyH_take (i := 2) (v := ?_) rfl (by kernel_rfl) (by kernel_rfl) (by kernel_rfl) (fun c a w h => hq c a _ _ w h) (Or.inl ⟨by rfl, ?_⟩) (by assumption) ?_
        rotate_left
        · (intro W hSw; (try dsimp only at hSw); go_simp; try (with_reducible rfl))
        try simp only [Act.put]
        try simp only [List.setIfInBounds_toArray]
        try simp only [List.set_cons_succ]
        try simp only [List.set_cons_zero]
        refine wpAnyH_take (i := 3) (v := ?_) rfl (by kernel_rfl) (by kernel_rfl) (by kernel_rfl) (fun c a w h => hq c a _ _ w h) (Or.inl ⟨by rfl, ?_⟩) (by assumption) ?_
        rotate_left
        · (intro W hSw; (try dsimp only at hSw); go_simp; try (with_reducible rfl))
        try simp only [Act.put]
        try simp only [List.setIfInBounds_toArray]
        try simp only [List.set_cons_succ]
        try simp only [List.set_cons_zero]
        refine wpAnyH_take (i := 4) (v := ?_) rfl (by kernel_rfl) (by kernel_rfl) (by kernel_rfl) (fun c a w h => hq c a _ _ w h) (Or.inl ⟨by rfl, ?_⟩) (by assumption) ?_
        rotate_left
        · (intro W hSw; (try dsimp only at hSw); go_simp; try (with_reducible rfl))
        try simp only [Act.put]
        try simp only [List.setIfInBounds_toArray]
        try simp only [List.set_cons_succ]
        try simp only [List.set_cons_zero]
        refine wpAnyH_take (i := 6) (v := ?_) rfl (by kernel_rfl) (by kernel_rfl) (by kernel_rfl) (fun c a w h => hq c a _ _ w h) (Or.inl ⟨by rfl, ?_⟩) (by assumption) ?_
        rotate_left
        · (intro W hSw; (try dsimp only at hSw); go_simp; try (with_reducible rfl))
        try simp only [Act.put]
        try simp only [List.setIfInBounds_toArray]
        try simp only [List.set_cons_succ]
        try simp only [List.set_cons_zero]
        refine wpAnyH_take (i := 7) (v := ?_) rfl (by kernel_rfl) (by kernel_rfl) (by kernel_rfl) (fun c a w h => hq c a _ _ w h) (Or.inl ⟨by rfl, ?_⟩) (by assumption) ?_
        rotate_left
        · (intro W hSw; (try dsimp only at hSw); go_simp; try (with_reducible rfl))
        try simp only [Act.put]
        try simp only [List.setIfInBounds_toArray]
        try simp only [List.set_cons_succ]
        try simp only [List.set_cons_zero]
        refine wpAnyH_take (i := 8) (v := ?_) rfl (by kernel_rfl) (by kernel_rfl) (by kernel_rfl) (fun c a w h => hq c a _ _ w h) (Or.inl ⟨by rfl, ?_⟩) (by assumption) ?_
        rotate_left
        · (intro W hSw; (try dsimp only at hSw); go_simp; try (with_reducible rfl))
        try simp only [Act.put]
        try simp only [List.setIfInBounds_toArray]
        try simp only [List.set_cons_succ]
        try simp only [List.set_cons_zero]
        refine wpAnyH_take (i := 9) (v := ?_) rfl (by kernel_rfl) (by kernel_rfl) (by kernel_rfl) (fun c a w h => hq c a _ _ w h) (Or.inl ⟨by rfl, ?_⟩) (by assumption) ?_
        rotate_left
        · (intro W hSw; (try dsimp only at hSw); go_simp; try (with_reducible rfl))
        try simp only [Act.put]
        try simp only [List.setIfInBounds_toArray]
        try simp only [List.set_cons_succ]
        try simp only [List.set_cons_zero]
        refine wpAnyH_ready (rs := [5]) (by kernel_rfl) (by simp) ?_
        refine AllReadyH.cons rfl (fun K hK => ?_) AllReadyH.nil
        go_simp
        (first
            | (go_at_call 56; refine (HPv.out _ (HU2.out.trans hHeld.1)).mono ?_; rintro e w3 ⟨A5, c5, rfl, ho5, hu3⟩))
        try (go_wp2_with fail)
        refine hK.out _ _ ?_ (fun hHeld => ?_)
        · (first | exact ⟨hHeld.1.trans hu3, (ALLC.out _ (HU2.out.trans (hHeld.1.trans hu3))).2⟩ | exact hHeld)
        clear hK K
        try simp only [Act.put]
        try simp only [List.setIfInBounds_toArray]
        try simp only [List.set_cons_succ]
        try simp only [List.set_cons_zero]
        refine wpAnyH_ready (rs := [10]) (by kernel_rfl) (by simp) ?_
        refine AllReadyH.cons rfl (fun K hK => ?_) AllReadyH.nil
        go_simp
        (first
            | (go_at_call 55; refine (HRp.out _ _ Ap cp (HP.out.upd hHeld.1 (fun _ _ => id))).mono ?_; rintro e w3 ⟨A6, c6, rfl, ho6, hu3⟩))
        try (go_wp2_with fail)
        refine hK.out _ _ ?_ (fun hHeld => ?_)
        · (first | exact ⟨hHeld.1.trans hu3, (ALLC.out _ (HU2.out.trans (hHeld.1.trans hu3))).2⟩ | exact hHeld)
        clear hK K
        try simp only [Act.put]
        try simp only [List.setIfInBounds_toArray]
        try simp only [List.set_cons_succ]
        try simp only [List.set_cons_zero]
        refine wpAnyH_ready (rs := [11]) (by kernel_rfl) (by simp) ?_
        refine AllReadyH.cons rfl (fun K hK => ?_) AllReadyH.nil
        go_simp
        (first
            | (go_at_call 33; refine (samei1 _ _ _ A5 A6 c5 c6 l2 ((Ints.of_own ho5).upd hu3 (fun _ _ => id)) (Ints.of_own ho6) (by omega)).mono ?_; rintro e w3 ⟨rfl, hu3⟩))
        try (go_wp2_with fail)
        refine hK.out _ _ ?_ (fun hHeld => ?_)
        · (first | exact ⟨hHeld.1.trans hu3, (ALLC.out _ (HU2.out.trans (hHeld.1.trans hu3))).2⟩ | exact hHeld)
        clear hK K
        try simp only [Act.put]
        try simp only [List.setIfInBounds_toArray]
        try simp only [List.set_cons_succ]
        try simp only [List.set_cons_zero]
        refine wpAnyH_take (i := 12) (v := ?_) rfl (by kernel_rfl) (by kernel_rfl) (by kernel_rfl) (fun c a w h => hq c a _ _ w h) (Or.inl ⟨by rfl, ?_⟩) (by assumption) ?_
        rotate_left
        · (intro W hSw; (try dsimp only at hSw); go_simp; try (with_reducible rfl))
        try simp only [Act.put]
        try simp only [List.setIfInBounds_toArray]
        try simp only [List.set_cons_succ]
        try simp only [List.set_cons_zero]
        refine wpAnyH_take (i := 13) (v := ?_) rfl (by kernel_rfl) (by kernel_rfl) (by kernel_rfl) (fun c a w h => hq c a _ _ w h) (Or.inl ⟨by rfl, ?_⟩) (by assumption) ?_
        rotate_left
        · (intro W hSw; (try dsimp only at hSw); go_simp; try (with_reducible rfl))
        try simp only [Act.put]
        try simp only [List.setIfInBounds_toArray]
        try simp only [List.set_cons_succ]
        try simp only [List.set_cons_zero]
        refine wpAnyH_done (by kernel_rfl) (hdone.out _ _ ?_) _
        clear hdone hq QQ
        refine peel_end (NoPanic.normal ?_)
        go_wp2
        go_roundg (gk - 1)
        case measure => omega
        case rel => exact ⟨k + 1, A9, c9, q', by omega, by go_num, rfl, Lib.hid ((HB.out.no (HU2.out.trans hHeld.1)).bare)⟩
    · obtain rfl : k = ds.length := by omega
      go_wp2_with fail
      refine (L.out _).mono ?_
      rintro e w2 ⟨rfl, hu2⟩
      go_wp2
      go_ret
      exact ⟨rfl, hst.out.upd.trans hu2⟩
end Go.Proofs.Ytmnhgdedkniafaa
