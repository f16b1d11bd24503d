/- Digraphs: the law of both sides. -/
import Derived.Test.YtmnhgdedkniafaaMaq
namespace Go.Proofs.Ytmnhgdedkniafaa
set_option linter.unusedVariables false
open Go.RowKit
/-- a digraph that was made in the call -/
def DMa (w : World) (g N K : Nat) (q : List HArc) (W : World) : Prop :=
  ∃ G, DG W G (some ⟨g, 0, none⟩) N K q ∧ Upd No w W ∧ ∀ k, G k → w.heap.size ≤ k
namespace DMa
variable {w W W' : World} {g N K : Nat} {q : List HArc}
theorem no (h : DMa w g N K q W) (k : Upd No W W') : DMa w g N K q W' := by
  obtain ⟨G, h1, h2, h3⟩ := h
  exact ⟨G, h1.no k, h2.trans k, h3⟩
theorem upd (h : DMa w g N K q W) : Upd No w W := by
  obtain ⟨G, h1, h2, h3⟩ := h
  exact h2
theorem is (h : DMa w g N K q W) : ∃ G, DG W G (some ⟨g, 0, none⟩) N K q := by
  obtain ⟨G, h1, h2, h3⟩ := h
  exact ⟨G, h1⟩
end DMa
theorem dmnew (w : World) (n : Int) : Calls Try.prog 37 #[.int .i64 n] w fun e w' => ∃ g, e = .returned (.pointer (some ⟨g, 0, none⟩)) ∧ DMa w g (roomN n) 0 [] w' := by
  refine (dgnew w n).mono ?_
  rintro e w' ⟨G, g, rfl, h1, h2, h3⟩
  exact ⟨g, rfl, G, h1, h2, h3⟩
theorem dmadd {w W : World} {g N K : Nat} {q : List HArc} (h : DMa w g N K q W) (hK : K < 100000) (a : HArc) : Calls Try.prog 43 #[.pointer (some ⟨g, 0, none⟩), .agg a.cells.toArray] W fun e w' => e = .returned (.int .i64 (addE N q a)) ∧ DMa w g N (K + 1) (addQ N q a) w' := by
  obtain ⟨G, h1, h2, h3⟩ := h
  refine (dgadd h1 hK a).mono ?_
  rintro e w' ⟨G', rfl, k1, k2, k3⟩
  refine ⟨rfl, G', k1, h2.then_ k2 fun i e => .inr (h3 i e), fun k hk => ?_⟩
  have := h2.size
  rcases k3 k hk with e | e
  · exact h3 k e
  · omega
theorem nx_sym {p : List HArc} {u v : Int} : v ∈ nxA u false p ↔ u ∈ nxA v true p := by
  unfold nxA
  rw [mem_nxS, mem_nxS]
  simp only [List.not_mem_nil, false_or, Bool.false_eq_true, if_false, if_true]
  constructor
  · rintro ⟨x, h1, h2, h3⟩; exact ⟨x, h1, h3.symm, h2.symm⟩
  · rintro ⟨x, h1, h2, h3⟩; exact ⟨x, h1, h3.symm, h2.symm⟩
theorem nx_nodup (node : Int) (back : Bool) (p : List HArc) : (nxA node back p).length ≤ p.length := by
  have := nxS_len node back p []
  simpa [nxA] using this
/-- the arcs from the nodes up to one -/
def uptoA (p : List HArc) (u : Nat) : List HArc := p.filter fun x => decide (x.f < (u : Int))
theorem uptoA_succ {p : List HArc} (hs : sortedA p) (u : Nat) : uptoA p (u + 1) = uptoA p u ++ p.filter fun x => x.f == (u : Int) := by
  refine sortedA_eq (hs.filter _) ?_ fun x => ?_
  · unfold sortedA
    rw [List.pairwise_append]
    refine ⟨hs.filter _, hs.filter _, fun a ha b hb => ?_⟩
    unfold uptoA at ha
    rw [List.mem_filter] at ha hb
    have h1 := of_decide_eq_true ha.2
    have h2 : b.f = (u : Int) := by simpa using hb.2
    rw [lessA_iff]
    exact .inl (by omega)
  · unfold uptoA
    rw [List.mem_append, List.mem_filter, List.mem_filter, List.mem_filter]
    simp only [decide_eq_true_eq, beq_iff_eq]
    constructor
    · rintro ⟨h1, h2⟩
      by_cases e : x.f = (u : Int)
      · exact .inr ⟨h1, e⟩
      · exact .inl ⟨h1, by omega⟩
    · rintro (⟨h1, h2⟩ | ⟨h1, h2⟩)
      · exact ⟨h1, by omega⟩
      · exact ⟨h1, by omega⟩
theorem uptoA_zero {p : List HArc} (h : ∀ x ∈ p, 0 ≤ x.f) : uptoA p 0 = [] := by
  unfold uptoA
  rw [List.filter_eq_nil_iff]
  intro x hx
  have := h x hx
  simp; omega
theorem uptoA_all {p : List HArc} {N : Nat} (h : ∀ x ∈ p, x.f < (N : Int)) : uptoA p N = p := by
  unfold uptoA
  rw [List.filter_eq_self]
  intro x hx
  simpa using h x hx
theorem ofA_14 {q : List HArc} {N : Nat} (h : ∀ a ∈ q, rightA N a = true) : ofA 14 q = q := by
  unfold ofA
  rw [List.filter_eq_self]
  intro x hx
  have := (rightA_iff _ _).1 (h x hx)
  unfold bitM
  have : x.kind = 1 ∨ x.kind = 2 ∨ x.kind = 3 := by omega
  rcases this with e | e | e <;> rw [e] <;> decide
theorem samearcs1 (w : World) (F G : Nat → Prop) (A B : Option Addr) (c d : Nat) (xs : List HArc) (hx : ArcsL F w A xs) (hy : ArcsL G w B xs) (hl : xs.length ≤ 4398046511103) :
    Calls Try.prog 50 #[.slice A xs.length c, .slice B xs.length d] w fun e w' => e = .returned (.bool true) ∧ Upd No w w' := by
  refine (samearcs w F G A B c d xs xs hx hy hl hl).mono ?_
  rintro e w' ⟨rfl, h⟩
  exact ⟨by simp, h⟩
theorem arcs_own' {w : World} {base c : Nat} {A : Option Addr} {l : List HArc} (h : w.ownsRow base 63 4 (.slice A l.length c) l.length (arcsF l)) : ArcsL (Own (.slice A l.length c)) w A l := Recs.of_own (n := l.length) (c := c) (arc_len l) (by omega) h
set_option maxRecDepth 100000 in
set_option maxHeartbeats 4000000 in
theorem sides22 (F : Nat → Prop) (w : World) (n : Int) (A : Option Addr) (c : Nat) (l : List HArc) (mask : Int) (hL : ArcsL F w A l) (hll : l.length ≤ 9223372036854775807) (L : Hid (∀ w : World, Calls Try.prog 38 #[] w fun e w' => e = .returned (.bool true) ∧ Upd No w w')) :
    Calls Try.prog 7 #[.int .i64 n, .slice A l.length c, .int .i64 mask] w fun e w' => e = .returned (.bool true) ∧ Upd No w w' := by
  by_cases h0 : n < 0
  · go_enter Try.func7, Try.ntmps7
    go_wp2_with fail
    refine (L.out _).mono ?_
    rintro e w1 ⟨rfl, hu1⟩
    go_wp2
    go_ret
    exact ⟨rfl, hu1⟩
  by_cases h1 : 12 < n
  · go_enter Try.func7, Try.ntmps7
    go_wp2_with fail
    refine (L.out _).mono ?_
    rintro e w1 ⟨rfl, hu1⟩
    go_wp2
    go_ret
    exact ⟨rfl, hu1⟩
  by_cases h2 : (100 : Int) < (l.length : Int)
  · go_enter Try.func7, Try.ntmps7
    go_wp2_with fail
    refine (L.out _).mono ?_
    rintro e w1 ⟨rfl, hu1⟩
    go_wp2
    go_ret
    exact ⟨rfl, hu1⟩
  obtain ⟨N, rfl⟩ : ∃ N : Nat, n = (N : Int) := ⟨n.toNat, by omega⟩
  have hN : roomN (N : Int) = N := by unfold roomN; omega
  have HNew := Lib.hid (fun W => hN ▸ dmnew W (N : Int))
  clear hN
  have HL := Lib.hid hL
  clear hL
  go_enter Try.func7, Try.ntmps7
  go_wp2_with fail
  refine (L.out _).mono ?_
  rintro e w1 ⟨rfl, hu1⟩
  go_wp2_with fail
  refine (HNew.out w1).mono ?_
  rintro e w2 ⟨g, rfl, hd2⟩
  go_wp2
  go_loopg [35] l.length (fun gk i wr => ∃ (k : Nat) (q : List HArc), k + gk = l.length ∧ i = .int .i64 k ∧ Hid (DMa w1 g N k q wr))
  case atStart => exact ⟨0, [], by omega, rfl, Lib.hid hd2⟩
  case round =>
    obtain ⟨k, q, hgk, rfl, hd⟩ := hrel
    by_cases hlt : k < l.length
    · obtain ⟨ax, rfl, q0, q1, q2, q3⟩ := (HL.out.upd (hu1.trans hd.out.upd) (fun _ _ => id)).at_ hlt
      obtain ⟨x, hx⟩ : ∃ x, l[k] = x := ⟨_, rfl⟩
      rw [hx] at q0 q1 q2 q3
      clear hx
      have b1 : (0 : Int) ≤ (k : Int) := Int.natCast_nonneg _
      have b2 : (k : Int) < (l.length : Int) := by omega
      have bo := Blk.new wr 63 [.int .i64 x.f, .int .i64 x.t, .int .i64 x.kind, .int .i64 x.label]
      have g0 := bo.cell 0
      have g1 := bo.cell 1
      have g2 := bo.cell 2
      have g3 := bo.cell 3
      simp only [List.getElem?_cons_zero, List.getElem?_cons_succ] at g0 g1 g2 g3
      have HD := Lib.hid (hd.out.no ((Upd.refl No wr).alloc (.cells #[.int .i64 x.f, .int .i64 x.t, .int .i64 x.kind, .int .i64 x.label] 63)))
      clear bo hd
      go_wp2_with fail
      refine (dmadd HD.out (by omega) x).mono ?_
      rintro e w3 ⟨rfl, hd3⟩
      go_wp2
      go_roundg (gk - 1)
      case measure => omega
      case rel => exact ⟨k + 1, addQ N q x, by omega, by go_num, Lib.hid hd3⟩
    · obtain rfl : k = l.length := by omega
      obtain ⟨wb, hwb⟩ : ∃ wb, wb = wr := ⟨_, rfl⟩
      subst hwb
      have HUB := Lib.hid (hu1.trans hd.out.upd)
      obtain ⟨G, hdg⟩ := hd.out.is
      have hqK := hdg.few
      obtain ⟨p, hp⟩ : ∃ p, ofA mask q = p := ⟨_, rfl⟩
      have hps : sortedA p := by rw [← hp]; exact hdg.sorted.filter _
      have hpm : ∀ x ∈ p, x ∈ q := fun x hx => by rw [← hp] at hx; exact (mem_ofA.1 hx).1
      have hpl : p.length ≤ 100 := by
        rw [← hp]
        have : (ofA mask q).length ≤ q.length := List.length_filter_le _ _
        omega
      have hpr : ∀ x ∈ p, 0 ≤ x.f ∧ x.f < (N : Int) := fun x hx => by
        have := (rightA_iff _ _).1 (hdg.right x (hpm x hx))
        exact ⟨this.1, this.2.1⟩
      have HOut := Lib.hid (fun (W : World) (u : Upd No wb W) (i : Int) => hp ▸ dgout (hdg.no u) i mask)
      have HNext := Lib.hid (fun (W : World) (u : Upd No wb W) (i : Int) => hp ▸ dgnext (hdg.no u) i mask)
      have HPrev := Lib.hid (fun (W : World) (u : Upd No wb W) (i : Int) => hp ▸ dgprev (hdg.no u) i mask)
      have HArcs := Lib.hid (fun (W : World) (u : Upd No wb W) => hp ▸ dgarcs (hdg.no u) mask)
      have h14 := ofA_14 hdg.right
      have HAll := Lib.hid (fun (W : World) (u : Upd No wb W) => h14 ▸ dgarcs (hdg.no u) 14)
      have HLen := Lib.hid (fun (W : World) (u : Upd No wb W) => dglen (hdg.no u))
      have HHas := Lib.hid (fun (W : World) (u : Upd No wb W) (a : HArc) (ha : a ∈ p) => (show decide (a ∈ q) = true from decide_eq_true (hpm a ha)) ▸ dghas (hdg.no u) a)
      have HPS := Lib.hid hps
      have HPR := Lib.hid hpr
      have HF := Lib.hid (fun (f : HArc → Bool) => Nat.le_trans (List.length_filter_le f p) hpl)
      have HX := Lib.hid (fun (i : Int) (b : Bool) => Nat.le_trans (nx_nodup i b p) hpl)
      clear h14 hps hpr hpm hpl hp hdg hd hu1 HL hd2 L HNew
      generalize hwbz : wb.heap.size = B at *
      go_wp2
      go_loopg [10, 11] N (fun gk s i wr => ∃ (k : Nat) (v : Value) (xs : List HArc), k + gk = N ∧ i = .int .i64 k ∧ s = v ∧ Hid (xs = uptoA p k) ∧ wr.ownsRow B 63 4 v xs.length (arcsF xs) ∧ Upd No wb wr)
      case atStart => exact ⟨0, .slice none 0 0, [], by omega, rfl, rfl, Lib.hid (uptoA_zero (fun x hx => (HPR.out x hx).1)).symm, World.ownsRow_nil _ _ _ _, Upd.refl _ _⟩
      case round =>
        obtain ⟨k, v, xs, hgk, rfl, rfl, hxs, hown, hu⟩ := hrel
        by_cases hlt : k < N
        · have b1 : (0 : Int) ≤ (k : Int) := Int.natCast_nonneg _
          have b2 : (k : Int) < (N : Int) := by omega
          have hl1 : xs.length ≤ 100 := by rw [hxs.out]; exact HF.out _
          obtain ⟨ys, hys⟩ : ∃ ys, (p.filter fun x => x.f == (k : Int)) = ys := ⟨_, rfl⟩
          have hl2 : ys.length ≤ 100 := by rw [← hys]; exact HF.out _
          obtain ⟨ns, hns⟩ : ∃ ns, nxA (k : Int) false p = ns := ⟨_, rfl⟩
          have hl3 : ns.length ≤ 100 := by rw [← hns]; exact HX.out _ _
          have hO := Lib.hid (fun (W : World) (u : Upd No wb W) => hys ▸ HOut.out W u (k : Int))
          have hNx := Lib.hid (fun (W : World) (u : Upd No wb W) => hns ▸ HNext.out W u (k : Int))
          have HS := Lib.hid (uptoA_succ HPS.out k)
          have HYm := Lib.hid (show ∀ a ∈ ys, a ∈ p ∧ a.f = (k : Int) ∧ a.t ∈ ns from fun a ha => by
            rw [← hys, List.mem_filter] at ha
            have h2 : a.f = (k : Int) := by simpa using ha.2
            refine ⟨ha.1, h2, ?_⟩
            rw [← hns]
            unfold nxA
            rw [mem_nxS]
            exact .inr ⟨a, ha.1, by simp [h2]⟩)
          have HYS := Lib.hid hys
          have HNV := Lib.hid (show ∀ x : Int, decide (x ∈ ns) = decide ((k : Int) ∈ nxA x true p) from fun x => by rw [decide_eq_decide, ← hns]; exact nx_sym)
          clear hys hns
          go_wp2_with fail
          refine (hO.out _ hu).mono ?_
          rintro e w3 ⟨A2, c2, rfl, ho2, hu2⟩
          have hown2 := own_upd hown hu2 (fun _ _ => id)
          have hs2 := arcs_src ho2
          have hz0 := hu.size
          have hz1 := hu2.size
          rw [hwbz] at hz0
          have Hu2 := Lib.hid (hu.trans hu2)
          have hge := Lib.hid (fun i e => (hown.lt i e).1)
          have H1 := Lib.hid (arcsF_one ys)
          clear hown hu2 ho2 hu
          go_wp2_with (at_builtin; refine appN rfl rfl slt_arc (v := u10) (n := xs.length) (m := ys.length) (xs := arcsF xs) (news := arcsF ys) (by rfl) rfl hown2 hs2 H1.out (by omega) (by omega) (by omega) ?_; intro v' w4 hown4 hu4 hg4; have HU4 := Lib.hid (Hu2.out.then_ hu4 fun i e => .inr (by rw [hwbz]; exact hge.out i e)); have HO4 := Lib.hid hown4; clear hown4 hu4 hg4)
          refine (hNx.out _ HU4.out).mono ?_
          rintro e w5 ⟨A5, c5, rfl, ho5, hu5⟩
          have HO5 := Lib.hid (own_upd HO4.out hu5 (fun _ _ => id))
          have HU5 := Lib.hid (HU4.out.trans hu5)
          have HI5 := Lib.hid (Ints.of_own ho5)
          clear HO4 HU4 ho5 hu5 hNx
          generalize gk = m0 at *
          go_wp2
          go_loopg [13] N (fun gk i wr => ∃ (j : Nat), j + gk = N ∧ i = .int .i64 j ∧ Upd No w5 wr)
          case atStart => exact ⟨0, by omega, rfl, Upd.refl _ _⟩
          case round =>
            obtain ⟨j, hgj, rfl, hu⟩ := hrel
            by_cases hlt3 : j < N
            · have b3 : (0 : Int) ≤ (j : Int) := Int.natCast_nonneg _
              have b4 : (j : Int) < (N : Int) := by omega
              obtain ⟨bb, hbb⟩ : ∃ b, decide ((j : Int) ∈ ns) = b := ⟨_, rfl⟩
              have hb2 : decide ((k : Int) ∈ nxA (j : Int) true p) = bb := by rw [← hbb, HNV.out]
              obtain ⟨ps, hps⟩ : ∃ ps, nxA (j : Int) true p = ps := ⟨_, rfl⟩
              have hl4 : ps.length ≤ 100 := by rw [← hps]; exact HX.out _ _
              have hPv := Lib.hid (fun (W : World) (u : Upd No wb W) => hps ▸ HPrev.out W u (j : Int))
              rw [hps] at hb2
              have hI := Lib.hid (hbb ▸ rin01 wr _ A5 c5 ns (j : Int) (HI5.out.upd hu (fun _ _ => id)) (by omega))
              have hJ := Lib.hid (fun (W : World) (F : Nat → Prop) (A : Option Addr) (c : Nat) (h : Ints F W A ps) => hb2 ▸ rin01 W F A c ps (k : Int) h (by omega))
              clear hbb hb2 hps
              go_wp2_with fail
              refine (hI.out).mono ?_
              rintro e w6 ⟨rfl, rfl⟩
              go_wp2_with fail
              refine (hPv.out _ (HU5.out.trans hu)).mono ?_
              rintro e w7 ⟨A7, c7, rfl, ho7, hu7⟩
              go_wp2_with fail
              refine (hJ.out _ _ A7 c7 (Ints.of_own ho7)).mono ?_
              rintro e w8 ⟨rfl, rfl⟩
              have HU7 := Lib.hid (hu.trans hu7)
              clear ho7 hu7 hu
              go_wp2
              go_roundg (gk - 1)
              case measure => omega
              case rel => exact ⟨j + 1, by omega, by go_num, HU7.out⟩
            · obtain rfl : j = N := by omega
              have HU6 := Lib.hid (HU5.out.trans hu)
              have HO6 := Lib.hid (own_upd HO5.out hu (fun _ _ => id))
              have HI6 := Lib.hid (HI5.out.upd hu (fun _ _ => id))
              obtain ⟨w6, hw6⟩ : ∃ x, x = wr := ⟨_, rfl⟩
              subst hw6
              clear HU5 HO5 HI5 hu
              go_wp2_with fail
              refine (hO.out _ HU6.out).mono ?_
              rintro e w7 ⟨A7, c7, rfl, ho7, hu7⟩
              have HO7 := Lib.hid (own_upd HO6.out hu7 (fun _ _ => id))
              have HU7 := Lib.hid (HU6.out.trans hu7)
              have HI7 := Lib.hid (HI6.out.upd hu7 (fun _ _ => id))
              have HY7 := Lib.hid (arcs_own' ho7)
              clear HO6 HU6 HI6 ho7 hu7 hO
              go_wp2
              go_loopg [78] ys.length (fun gk i wr => ∃ (j : Nat), j + gk = ys.length ∧ i = .int .i64 j ∧ Upd No w7 wr)
              case atStart => exact ⟨0, by omega, rfl, Upd.refl _ _⟩
              case round =>
                obtain ⟨j, hgj2, rfl, hu⟩ := hrel
                by_cases hlt4 : j < ys.length
                · have b3 : (0 : Int) ≤ (j : Int) := Int.natCast_nonneg _
                  have b4 : (j : Int) < (ys.length : Int) := by omega
                  obtain ⟨ax, rfl, q0, q1, q2, q3⟩ := (HY7.out.upd hu (fun _ _ => id)).at_ hlt4
                  obtain ⟨x, hx⟩ : ∃ x, ys[j] = x := ⟨_, rfl⟩
                  have HM := HYm.out _ (List.getElem_mem hlt4)
                  rw [hx] at q0 q1 q2 q3 HM
                  obtain ⟨xf, xt, xk, xl⟩ := x
                  obtain ⟨m1, m2, m3⟩ := HM
                  simp only at q0 q1 q2 q3 m2 m3
                  subst m2
                  have bo := Blk.new wr 63 [.int .i64 (k : Int), .int .i64 xt, .int .i64 xk, .int .i64 xl]
                  have g0 := bo.cell 0
                  have g1 := bo.cell 1
                  have g2 := bo.cell 2
                  have g3 := bo.cell 3
                  simp only [List.getElem?_cons_zero, List.getElem?_cons_succ] at g0 g1 g2 g3
                  have HUx := Lib.hid (hu.alloc (.cells #[.int .i64 (k : Int), .int .i64 xt, .int .i64 xk, .int .i64 xl] 63))
                  have BO := Lib.hid bo
                  have hH := Lib.hid (HHas.out _ (HU7.out.trans HUx.out) _ m1)
                  have hJ := Lib.hid (fun (W : World) (F : Nat → Prop) (A : Option Addr) (c : Nat) (h : Ints F W A ns) => (show decide (xt ∈ ns) = true from decide_eq_true m3) ▸ rin01 W F A c ns xt h (by omega))
                  clear bo hx m1 m3 hu
                  go_wp2_with fail
                  refine (hH.out).mono ?_
                  rintro e w8 ⟨rfl, hu8⟩
                  have f1 := (BO.out.upd hu8 id).cell 1
                  simp only [List.getElem?_cons_zero, List.getElem?_cons_succ] at f1
                  go_wp2_with fail
                  refine (hJ.out _ _ A5 c5 (HI7.out.upd (HUx.out.trans hu8) (fun _ _ => id))).mono ?_
                  rintro e w9 ⟨rfl, rfl⟩
                  have HU9 := Lib.hid (HUx.out.trans hu8)
                  clear hu8
                  go_wp2
                  go_roundg (gk - 1)
                  case measure => omega
                  case rel => exact ⟨j + 1, by omega, by go_num, HU9.out⟩
                · obtain rfl : j = ys.length := by omega
                  have HU8 := Lib.hid (HU7.out.trans hu)
                  have HO8 := Lib.hid (own_upd HO7.out hu (fun _ _ => id))
                  clear hu
                  go_wp2
                  go_roundg (m0 - 1)
                  case measure => omega
                  case rel =>
                    refine ⟨k + 1, _, xs ++ ys, by omega, by go_num, rfl, Lib.hid (by rw [HS.out, ← hxs.out, HYS.out]), ?_, HU8.out⟩
                    rw [List.length_append]
                    simpa [arcsF] using HO8.out
        · obtain rfl : k = N := by omega
          have hx : xs = p := by rw [hxs.out]; exact uptoA_all (fun x hx => (HPR.out x hx).2)
          subst hx
          have hxl : xs.length ≤ 100 := by have := HF.out (fun _ => true); rwa [List.filter_eq_self.2 (fun _ _ => rfl)] at this
          obtain ⟨A, c, rfl⟩ := own_shape hown
          go_wp2_with fail
          refine (HArcs.out _ hu).mono ?_
          rintro e w3 ⟨A3, c3, rfl, ho3, hu3⟩
          go_wp2_with fail
          refine (samearcs1 _ _ _ A A3 c c3 xs ((arcs_own' hown).upd hu3 (fun _ _ => id)) (arcs_own' ho3) (by omega)).mono ?_
          rintro e w4 ⟨rfl, hu4⟩
          have HU4 := Lib.hid ((hu.trans hu3).trans hu4)
          clear hu3 hu4 ho3 hown hu
          go_wp2_with fail
          refine (HAll.out _ HU4.out).mono ?_
          rintro e w5 ⟨A5, c5, rfl, ho5, hu5⟩
          go_wp2_with fail
          refine (HLen.out _ (HU4.out.trans hu5)).mono ?_
          rintro e w6 ⟨rfl, rfl⟩
          go_wp2
          go_ret
          exact ⟨rfl, HUB.out.trans (HU4.out.trans hu5)⟩
end Go.Proofs.Ytmnhgdedkniafaa

/- How arcs and deeds that come in read. -/
namespace Go.Proofs.Ytmnhgdedkniafaa
set_option linter.unusedVariables false
open Go.RowKit
theorem dcs4 {l : List Value} (h : l.length = 4) : ∃ a b c d, l = [a, b, c, d] :=
  match l, h with
  | [a, b, c, d], _ => ⟨a, b, c, d, rfl⟩
theorem DCint : Try.prog.cellsOf 3 = 1 := by kernel_rfl
theorem DCarc : Try.prog.cellsOf 63 = 4 := by kernel_rfl
theorem DBarc : Try.prog.bytesOf 63 = 32 := by kernel_rfl
/-- the numbers of an arc are numbers of the machine -/
def HArc.i (a : HArc) : Prop := (-9223372036854775808 ≤ a.f ∧ a.f ≤ 9223372036854775807) ∧ (-9223372036854775808 ≤ a.t ∧ a.t ≤ 9223372036854775807) ∧ (-9223372036854775808 ≤ a.kind ∧ a.kind ≤ 9223372036854775807) ∧ (-9223372036854775808 ≤ a.label ∧ a.label ≤ 9223372036854775807)
theorem dwf64 {n : Int} (h : (Lit.int .i64 n).wf = true) : -9223372036854775808 ≤ n ∧ n ≤ 9223372036854775807 := by
  simp [Lit.wf, IntKind.min, IntKind.max, IntKind.signed, IntKind.bits] at h; omega
section
variable {H : Type} {enc : TypeId × Value → H} {w : World} {base : Nat} {spare : Nat → Bool} {held : Bool} {row : List Value}
theorem rddi {v : Value} (h : Rdz enc Try.prog w base spare held 3 [v]) : ∃ n, v = .int .i64 n ∧ -9223372036854775808 ≤ n ∧ n ≤ 9223372036854775807 := by
  obtain ⟨n, e, hw⟩ := Rdz.int_ Try.underlying3 h
  cases e
  exact ⟨n, rfl, dwf64 hw⟩
theorem rdarc (h : Rdz enc Try.prog w base spare held 63 row) : ∃ e : HArc, row = e.cells ∧ e.i := by
  obtain ⟨hl, hf⟩ := h.struct_ Try.underlying63
  rw [DCarc] at hl
  obtain ⟨c0, c1, c2, c3, rfl⟩ := dcs4 hl
  have h0 : Rdz enc Try.prog w base spare held 3 (([c0, c1, c2, c3].drop 0).take (Try.prog.cellsOf 3)) := hf 0 _ rfl
  have h1 : Rdz enc Try.prog w base spare held 3 (([c0, c1, c2, c3].drop 1).take (Try.prog.cellsOf 3)) := hf 1 _ rfl
  have h2 : Rdz enc Try.prog w base spare held 3 (([c0, c1, c2, c3].drop 2).take (Try.prog.cellsOf 3)) := hf 2 _ rfl
  have h3 : Rdz enc Try.prog w base spare held 3 (([c0, c1, c2, c3].drop 3).take (Try.prog.cellsOf 3)) := hf 3 _ rfl
  rw [DCint] at h0 h1 h2 h3
  obtain ⟨n0, rfl, b0⟩ := rddi h0
  obtain ⟨n1, rfl, b1⟩ := rddi h1
  obtain ⟨n2, rfl, b2⟩ := rddi h2
  obtain ⟨n3, rfl, b3⟩ := rddi h3
  exact ⟨⟨n0, n1, n2, n3⟩, rfl, b0, b1, b2, b3⟩
theorem rdarcs {v : Value} (h : Rdz enc Try.prog w base spare held 61 [v]) : ∃ (A : Option Addr) (c : Nat) (l : List HArc), v = .slice A l.length c ∧ ArcsL (fun _ => True) w A l ∧ l.length ≤ c ∧ l.length ≤ 4398046511103 ∧ ∀ e ∈ l, e.i := by
  rcases h.slice_ Try.underlying61 DCarc (by omega) with h | ⟨a, len, cap, rows, hv, hl, hm, hlen, hz, hrec, hrow⟩
  · cases h
    exact ⟨none, 0, [], rfl, fun h => absurd rfl h, by simp, by simp, fun e he => by simp at he⟩
  · cases hv
    obtain ⟨l, rfl, hok⟩ := rows_of' (f := HArc.cells) (Q := HArc.i) fun row hr => rdarc (hrow row hr).2
    rw [List.length_map] at hlen
    subst hlen
    rw [DBarc] at hz
    unfold reachBytes at hz
    exact ⟨some a, cap, l, rfl, hrec, hl, by omega, hok⟩
end
end Go.Proofs.Ytmnhgdedkniafaa
