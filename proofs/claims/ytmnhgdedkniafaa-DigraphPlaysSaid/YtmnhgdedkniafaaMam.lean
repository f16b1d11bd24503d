/- Digraphs: the nodes of some ends. -/
import Derived.Laws.StructEq
import Derived.Test.YtmnhgdedkniafaaMal
namespace Go.Proofs.Ytmnhgdedkniafaa
set_option linter.unusedVariables false
open Go.RowKit
def pickN (mask : Int) (l : List DEnd) : List Int := (l.filter fun e => bitM mask e.kind).map (·.node)
def nodesD (mask : Int) (l : List DEnd) : List Int := Lib.compact (sortI (pickN mask l))
theorem pickN_yes {mask : Int} {l : List DEnd} {k : Nat} {x : DEnd} (hk : k < l.length) (hx : l[k] = x) (hr : bitM mask x.kind = true) : pickN mask (l.take (k + 1)) = pickN mask (l.take k) ++ [x.node] := by
  subst hx
  unfold pickN
  rw [List.take_succ_eq_append_getElem hk, List.filter_append, List.map_append, List.filter_cons_of_pos (by rw [hr])]
  rfl
theorem pickN_no {mask : Int} {l : List DEnd} {k : Nat} {x : DEnd} (hk : k < l.length) (hx : l[k] = x) (hr : bitM mask x.kind = false) : pickN mask (l.take (k + 1)) = pickN mask (l.take k) := by
  subst hx
  unfold pickN
  rw [List.take_succ_eq_append_getElem hk, List.filter_append, List.map_append, List.filter_cons_of_neg (by rw [hr]; decide)]
  simp
theorem dofU (w : World) (mask kind : Int) (h1 : 1 ≤ kind) (h2 : kind ≤ 3) : Calls Try.prog 108 #[.int .i64 mask, .int .i64 kind] w fun e w' => e = .returned (.bool (bitM mask kind)) ∧ Upd No w w' :=
  (dof w mask kind h1 h2).mono fun _ _ h => ⟨h.1, h.2 ▸ Upd.refl No w⟩
set_option maxRecDepth 100000 in
set_option maxHeartbeats 1000000 in
theorem dpick (F : Nat → Prop) (w : World) (mask : Int) (A : Option Addr) (c : Nat) (l : List DEnd) (h : DEnds F w A l) (hkd : ∀ e ∈ l, 1 ≤ e.kind ∧ e.kind ≤ 3) (hl : l.length ≤ 1000000) :
    Calls Try.prog 109 #[.slice A l.length c, .int .i64 mask] w (NewI w (nodesD mask l)) := by
  go_enter Try.func109, Try.ntmps109
  go_wp2
  go_loopg [5, 10] l.length (fun gk s i wr => ∃ (k : Nat) (A5 : Option Addr) (c5 : Nat) (xs : List Int), k + gk = l.length ∧ i = .int .i64 k ∧ s = .slice A5 xs.length c5 ∧ Hid (xs = pickN mask (l.take k)) ∧ xs.length ≤ k ∧
    wr.ownsRow w.heap.size 3 1 (.slice A5 xs.length c5) xs.length (xs.map (Value.int .i64)) ∧ Upd No w wr)
  case atStart => exact ⟨0, none, 0, [], by omega, rfl, rfl, Lib.hid (by simp [pickN]), by simp, World.ownsRow_nil _ _ _ _, Upd.refl _ _⟩
  case round =>
    obtain ⟨k, A5, c5, xs, hgk, rfl, rfl, hxs, hxl, hown, hu⟩ := hrel
    by_cases hlt : k < l.length
    · obtain ⟨ad, hAd, q0, q1, q2⟩ := (h.upd hu (fun _ _ => id)).at_ hlt
      obtain ⟨hk1, hk2⟩ := hkd _ (List.getElem_mem hlt)
      obtain ⟨x, hx⟩ : ∃ x, l[k] = x := ⟨_, rfl⟩
      rw [hx] at q0 q1 q2 hk1 hk2
      subst hAd
      have X := Lib.hid hx
      clear hx
      have b1 : (0 : Int) ≤ (k : Int) := Int.natCast_nonneg _
      have b2 : (k : Int) < (l.length : Int) := by omega
      have uA := (Upd.refl No wr).alloc (.cells #[.int .i64 x.kind, .int .i64 x.label, .int .i64 x.node] 138)
      have bo := Blk.new wr 138 [.int .i64 x.kind, .int .i64 x.label, .int .i64 x.node]
      have hown1 := own_upd hown uA (fun _ _ => id)
      have g0 := bo.cell 0
      simp only [List.getElem?_cons_zero] at g0
      have hof := Lib.hid (fun W => dofU W mask x.kind hk1 hk2)
      cases hr : bitM mask x.kind
      · rw [hr] at hof
        have HS := Lib.hid (pickN_no hlt X.out hr)
        clear hr
        go_wp2_with fail
        refine (hof.out _).mono ?_
        rintro e w1 ⟨rfl, hu1⟩
        have Hu1 := Lib.hid ((hu.trans uA).trans hu1)
        have hown2 := own_upd hown1 hu1 (fun _ _ => id)
        clear hown1 uA hu1
        go_wp2
        go_roundg (gk - 1)
        case measure => omega
        case rel => exact ⟨k + 1, A5, c5, xs, by omega, by go_num, rfl, Lib.hid (by rw [HS.out, hxs.out]), by omega, hown2, Hu1.out⟩
      · rw [hr] at hof
        have HS := Lib.hid (pickN_yes hlt X.out hr)
        clear hr
        go_wp2_with fail
        refine (hof.out _).mono ?_
        rintro e w1 ⟨rfl, hu1⟩
        have bo1 := bo.upd hu1 id
        have g1 := bo1.cell 2
        simp only [List.getElem?_cons_zero, List.getElem?_cons_succ] at g1
        have hown2 := own_upd hown1 hu1 (fun _ _ => id)
        have hz1 := (uA.trans hu1).size
        have hz0 := hu.size
        have Hu1 := Lib.hid ((hu.trans uA).trans hu1)
        clear hown1 uA hu1
        go_wp2_with (at_builtin; refine app1s rfl rfl slt_int (v := .slice A5 xs.length c5) (cells := [.int .i64 x.node]) (by rfl) rfl hown2 rfl rfl (by omega) (by omega) (by omega) ?_; intro g' c' w2 hown3 hu3 hg3 hlt3)
        go_roundg (gk - 1)
        case measure => omega
        case rel =>
          refine ⟨k + 1, some ⟨g', 0, none⟩, c', xs ++ [x.node], by omega, by go_num, by simp, Lib.hid (by rw [HS.out, hxs.out]), by simp; omega, by simpa using hown3, Hu1.out.then_ hu3 fun i e => ?_⟩
          exact .inr (hown2.lt i e).1
    · obtain rfl : k = l.length := by omega
      have Hx := Lib.hid (show xs = pickN mask l by rw [hxs.out, List.take_length])
      clear hxs
      have hsl := Lib.hid (sortI_len xs)
      have Hk := Lib.hid (show Lib.compact (sortI xs) = nodesD mask l by rw [Hx.out]; rfl)
      go_wp2_with fail
      refine (isort _ _ A5 c5 xs hown (by omega)).mono ?_
      rintro e w1 ⟨rfl, ho1, hu1⟩
      have ho1' : w1.ownsRow w.heap.size 3 1 (.slice A5 (sortI xs).length c5) (sortI xs).length ((sortI xs).map (Value.int .i64)) := by rw [hsl.out]; exact ho1
      have hic := icompact w1 w.heap.size A5 c5 (sortI xs) ho1' (by rw [hsl.out]; omega)
      rw [Hk.out, hsl.out] at hic
      have Hic := Lib.hid hic
      have hge := Lib.hid (show ∀ i, Own (.slice A5 xs.length c5) i → w.heap.size ≤ i from fun i e => (hown.lt i e).1)
      clear hic ho1 ho1' hown
      go_wp2_with fail
      refine (Hic.out).mono ?_
      rintro e w2 ⟨rfl, ho2, hu2⟩
      go_wp2
      go_ret
      exact ⟨A5, c5, rfl, ho2, (hu.then_ hu1 fun i e => .inr (hge.out i e)).then_ hu2 fun i e => .inr (hge.out i e)⟩
end Go.Proofs.Ytmnhgdedkniafaa

/- Digraphs: the nodes next to one, and those ahead of it. -/
namespace Go.Proofs.Ytmnhgdedkniafaa
set_option linter.unusedVariables false
open Go.RowKit
def nextD (mask : Int) (ls : List (List DEnd)) (i : Int) : List Int := match (if nodeB ls.length i then ls[i.toNat]? else none) with | some l => nodesD mask l | none => []
def kindsD (ls : List (List DEnd)) : Prop := ∀ l ∈ ls, ∀ e ∈ l, 1 ≤ e.kind ∧ e.kind ≤ 3
theorem newI_nil (w w' : World) (u : Upd No w w') : NewI w [] (.returned (.slice none 0 0)) w' := ⟨none, 0, rfl, World.ownsRow_nil _ _ _ _, u⟩
section
variable {w : World} {G : Nat → Prop} {g : Nat} {out inn : List (List DEnd)} {n : Int} {ob ib : Nat} {oh ih : List Value} {base : Nat}
set_option maxRecDepth 100000 in
theorem dnext (h : GIs w G g out inn n ob ib oh ih base) (hk : kindsD out) (i mask : Int) : Calls Try.prog 54 #[.pointer (some ⟨g, 0, none⟩), .int .i64 i, .int .i64 mask] w (NewI w (nextD mask out i)) := by
  have HN := Lib.hid (dnode h i)
  by_cases hb : nodeB out.length i = true
  · have hb' := hb
    simp only [nodeB, Bool.and_eq_true, decide_eq_true_eq] at hb'
    obtain ⟨j, rfl⟩ : ∃ j : Nat, i = (j : Int) := ⟨i.toNat, by omega⟩
    have hj : j < out.length := by omega
    obtain ⟨A, c, hoi, hown⟩ := h.ro.2 j hj
    have hv := Lib.hid (show nextD mask out (j : Int) = nodesD mask out[j] by unfold nextD; rw [if_pos hb]; simp [List.getElem?_eq_getElem hj])
    have c0 := h.blk.cell 0
    have c1 : w.cell? ⟨ob, j, none⟩ = some (.slice A out[j].length c) := by rw [h.ob_.cell j]; exact hoi
    have hc := Lib.hid (dpick _ w mask A c out[j] (dends_own hown) (hk _ (List.getElem_mem hj)) (Nat.le_trans (h.few.2.1 _ (List.getElem_mem hj)) (by omega)))
    have k1 : (0 : Int) ≤ (j : Int) := Int.natCast_nonneg _
    have k2 : (j : Int) < (out.length : Int) := by omega
    simp only [List.getElem?_cons_zero] at c0
    rw [hb] at HN
    clear hb hb' hoi hown h hk
    go_enter Try.func54, Try.ntmps54
    go_wp2_with fail
    refine (HN.out).mono ?_
    rintro e w1 ⟨rfl, rfl⟩
    go_wp2_with fail
    refine (hc.out).mono ?_
    rintro e w2 ⟨A2, c2, rfl, ho, hu⟩
    go_wp2
    go_ret
    rw [hv.out]
    exact ⟨A2, c2, rfl, ho, hu⟩
  · have hb' : nodeB out.length i = false := by simpa using hb
    have hv := Lib.hid (show nextD mask out i = [] by unfold nextD; rw [if_neg hb])
    rw [hb'] at HN
    clear hb hb' h hk
    go_enter Try.func54, Try.ntmps54
    go_wp2_with fail
    refine (HN.out).mono ?_
    rintro e w1 ⟨rfl, rfl⟩
    go_wp2
    go_ret
    rw [hv.out]
    exact newI_nil _ _ (Upd.refl _ _)
set_option maxRecDepth 100000 in
theorem dprev (h : GIs w G g out inn n ob ib oh ih base) (hk : kindsD inn) (i mask : Int) : Calls Try.prog 56 #[.pointer (some ⟨g, 0, none⟩), .int .i64 i, .int .i64 mask] w (NewI w (nextD mask inn i)) := by
  have HN := Lib.hid (dnode h i)
  have hlen := h.len
  by_cases hb : nodeB out.length i = true
  · have hb' := hb
    simp only [nodeB, Bool.and_eq_true, decide_eq_true_eq] at hb'
    obtain ⟨j, rfl⟩ : ∃ j : Nat, i = (j : Int) := ⟨i.toNat, by omega⟩
    have hj : j < inn.length := by omega
    obtain ⟨A, c, hoi, hown⟩ := h.ri.2 j hj
    have hv := Lib.hid (show nextD mask inn (j : Int) = nodesD mask inn[j] by unfold nextD; rw [hlen, if_pos hb]; simp [List.getElem?_eq_getElem hj])
    have c0 := h.blk.cell 1
    have c1 : w.cell? ⟨ib, j, none⟩ = some (.slice A inn[j].length c) := by rw [h.ib_.cell j]; exact hoi
    have hc := Lib.hid (dpick _ w mask A c inn[j] (dends_own hown) (hk _ (List.getElem_mem hj)) (Nat.le_trans (h.few.2.2 _ (List.getElem_mem hj)) (by omega)))
    have k1 : (0 : Int) ≤ (j : Int) := Int.natCast_nonneg _
    have k2 : (j : Int) < (out.length : Int) := by omega
    simp only [List.getElem?_cons_zero, List.getElem?_cons_succ] at c0
    rw [hb] at HN
    clear hb hb' hoi hown h hk hlen
    go_enter Try.func56, Try.ntmps56
    go_wp2_with fail
    refine (HN.out).mono ?_
    rintro e w1 ⟨rfl, rfl⟩
    go_wp2_with fail
    refine (hc.out).mono ?_
    rintro e w2 ⟨A2, c2, rfl, ho, hu⟩
    go_wp2
    go_ret
    rw [hv.out]
    exact ⟨A2, c2, rfl, ho, hu⟩
  · have hb' : nodeB out.length i = false := by simpa using hb
    have hv := Lib.hid (show nextD mask inn i = [] by unfold nextD; rw [hlen, if_neg hb])
    rw [hb'] at HN
    clear hb hb' h hk hlen
    go_enter Try.func56, Try.ntmps56
    go_wp2_with fail
    refine (HN.out).mono ?_
    rintro e w1 ⟨rfl, rfl⟩
    go_wp2
    go_ret
    rw [hv.out]
    exact newI_nil _ _ (Upd.refl _ _)
end
end Go.Proofs.Ytmnhgdedkniafaa

/- Digraphs: the arcs that go out of a node. -/
namespace Go.Proofs.Ytmnhgdedkniafaa
set_option linter.unusedVariables false
open Go.RowKit
theorem slt_arc : SlT Try.prog 61 63 4 32 := SlT.mk_ Try.underlying61 (z := .agg #[.int .i64 0, .int .i64 0, .int .i64 0, .int .i64 0]) (by kernel_rfl) rfl (by omega)
def arcsF (l : List HArc) : List Value := (l.map HArc.cells).flatten
/-- a new row of arcs -/
def NewA (w : World) (l : List HArc) (e : Ending) (w' : World) : Prop := ∃ A c, e = .returned (.slice A l.length c) ∧ w'.ownsRow w.heap.size 63 4 (.slice A l.length c) l.length (arcsF l) ∧ Upd No w w'
def pickA (mask i : Int) (l : List DEnd) : List HArc := (l.filter fun e => bitM mask e.kind).map fun e => ⟨i, e.node, e.kind, e.label⟩
theorem pickA_yes {mask i : Int} {l : List DEnd} {k : Nat} {x : DEnd} (hk : k < l.length) (hx : l[k] = x) (hr : bitM mask x.kind = true) : pickA mask i (l.take (k + 1)) = pickA mask i (l.take k) ++ [⟨i, x.node, x.kind, x.label⟩] := by
  subst hx
  unfold pickA
  rw [List.take_succ_eq_append_getElem hk, List.filter_append, List.map_append, List.filter_cons_of_pos (by rw [hr])]
  rfl
theorem pickA_no {mask i : Int} {l : List DEnd} {k : Nat} {x : DEnd} (hk : k < l.length) (hx : l[k] = x) (hr : bitM mask x.kind = false) : pickA mask i (l.take (k + 1)) = pickA mask i (l.take k) := by
  subst hx
  unfold pickA
  rw [List.take_succ_eq_append_getElem hk, List.filter_append, List.map_append, List.filter_cons_of_neg (by rw [hr]; decide)]
  simp
theorem arcsF_len (l : List HArc) : (arcsF l).length = l.length * 4 := by
  unfold arcsF
  induction l with
  | nil => rfl
  | cons a l ih => simp only [List.map_cons, List.flatten_cons, List.length_append, List.length_cons, ih]; simp [HArc.cells]; omega
def outD (mask : Int) (ls : List (List DEnd)) (i : Int) : List HArc := match (if nodeB ls.length i then ls[i.toNat]? else none) with | some l => pickA mask i l | none => []
section
variable {w : World} {G : Nat → Prop} {g : Nat} {out inn : List (List DEnd)} {n : Int} {ob ib : Nat} {oh ih : List Value} {base : Nat}
set_option maxRecDepth 100000 in
set_option maxHeartbeats 1000000 in
theorem dout (h : GIs w G g out inn n ob ib oh ih base) (hkd : kindsD out) (i mask : Int) : Calls Try.prog 52 #[.pointer (some ⟨g, 0, none⟩), .int .i64 i, .int .i64 mask] w (NewA w (outD mask out i)) := by
  have HN := Lib.hid (dnode h i)
  by_cases hb : nodeB out.length i = true
  · have hb' := hb
    simp only [nodeB, Bool.and_eq_true, decide_eq_true_eq] at hb'
    obtain ⟨j, rfl⟩ : ∃ j : Nat, i = (j : Int) := ⟨i.toNat, by omega⟩
    have hj : j < out.length := by omega
    obtain ⟨A, c, hoi, hown0⟩ := h.ro.2 j hj
    have hv := Lib.hid (show outD mask out (j : Int) = pickA mask j out[j] by unfold outD; rw [if_pos hb]; simp [List.getElem?_eq_getElem hj])
    have c0 := h.blk.cell 0
    have c1 : w.cell? ⟨ob, j, none⟩ = some (.slice A out[j].length c) := by rw [h.ob_.cell j]; exact hoi
    have hde := dends_own hown0
    have hkl := hkd _ (List.getElem_mem hj)
    have hl : out[j].length ≤ 1000000 := Nat.le_trans (h.few.2.1 _ (List.getElem_mem hj)) (by omega)
    obtain ⟨l, hlq⟩ : ∃ l, out[j] = l := ⟨_, rfl⟩
    rw [hlq] at hde hkl hl hv c1
    have k1 : (0 : Int) ≤ (j : Int) := Int.natCast_nonneg _
    have k2 : (j : Int) < (out.length : Int) := by omega
    simp only [List.getElem?_cons_zero] at c0
    rw [hb] at HN
    clear hb hb' hoi hown0 h hkd hlq
    go_enter Try.func52, Try.ntmps52
    go_wp2_with fail
    refine (HN.out).mono ?_
    rintro e w1 ⟨rfl, rfl⟩
    go_wp2
    go_loopg [7, 23] l.length (fun gk s i wr => ∃ (k : Nat) (A5 : Option Addr) (c5 : Nat) (xs : List HArc), k + gk = l.length ∧ i = .int .i64 k ∧ s = .slice A5 xs.length c5 ∧ Hid (xs = pickA mask j (l.take k)) ∧ xs.length ≤ k ∧
      wr.ownsRow w.heap.size 63 4 (.slice A5 xs.length c5) xs.length (arcsF xs) ∧ Upd No w wr)
    case atStart => exact ⟨0, none, 0, [], by omega, rfl, rfl, Lib.hid (by simp [pickA]), by simp, World.ownsRow_nil _ _ _ _, Upd.refl _ _⟩
    case round =>
      obtain ⟨k, A5, c5, xs, hgk, rfl, rfl, hxs, hxl, hown, hu⟩ := hrel
      by_cases hlt : k < l.length
      · obtain ⟨ad, hAd, q0, q1, q2⟩ := (hde.upd hu (fun _ _ => id)).at_ hlt
        obtain ⟨hk1, hk2⟩ := hkl _ (List.getElem_mem hlt)
        obtain ⟨x, hx⟩ : ∃ x, l[k] = x := ⟨_, rfl⟩
        rw [hx] at q0 q1 q2 hk1 hk2
        subst hAd
        have X := Lib.hid hx
        clear hx
        have b1 : (0 : Int) ≤ (k : Int) := Int.natCast_nonneg _
        have b2 : (k : Int) < (l.length : Int) := by omega
        have uA := (Upd.refl No wr).alloc (.cells #[.int .i64 x.kind, .int .i64 x.label, .int .i64 x.node] 138)
        have bo := Blk.new wr 138 [.int .i64 x.kind, .int .i64 x.label, .int .i64 x.node]
        have hown1 := own_upd hown uA (fun _ _ => id)
        have g0 := bo.cell 0
        simp only [List.getElem?_cons_zero] at g0
        have hof := Lib.hid (fun W => dofU W mask x.kind hk1 hk2)
        cases hr : bitM mask x.kind
        · rw [hr] at hof
          have HS := Lib.hid (pickA_no (i := (j : Int)) hlt X.out hr)
          clear hr
          go_wp2_with fail
          refine (hof.out _).mono ?_
          rintro e w1 ⟨rfl, hu1⟩
          have Hu1 := Lib.hid ((hu.trans uA).trans hu1)
          have hown2 := own_upd hown1 hu1 (fun _ _ => id)
          clear hown1 uA hu1
          go_wp2
          go_roundg (gk - 1)
          case measure => omega
          case rel => exact ⟨k + 1, A5, c5, xs, by omega, by go_num, rfl, Lib.hid (by rw [HS.out, hxs.out]), by omega, hown2, Hu1.out⟩
        · rw [hr] at hof
          have HS := Lib.hid (pickA_yes (i := (j : Int)) hlt X.out hr)
          clear hr
          go_wp2_with fail
          refine (hof.out _).mono ?_
          rintro e w1 ⟨rfl, hu1⟩
          have bo1 := bo.upd hu1 id
          have g1 := bo1.cell 0
          have g2 := bo1.cell 1
          have g3 := bo1.cell 2
          simp only [List.getElem?_cons_zero, List.getElem?_cons_succ] at g1 g2 g3
          have hown2 := own_upd hown1 hu1 (fun _ _ => id)
          have hz1 := (uA.trans hu1).size
          have hz0 := hu.size
          have Hu1 := Lib.hid ((hu.trans uA).trans hu1)
          have HL := Lib.hid (arcsF_len xs)
          clear hown1 uA hu1 bo1
          go_wp2_with (at_builtin; refine app1s rfl rfl slt_arc (v := .slice A5 xs.length c5) (cells := [.int .i64 (j : Int), .int .i64 x.node, .int .i64 x.kind, .int .i64 x.label]) (by rfl) rfl hown2 rfl rfl (by omega) (by omega) (by omega) ?_; intro g' c' w2 hown3 hu3 hg3 hlt3)
          go_roundg (gk - 1)
          case measure => omega
          case rel =>
            refine ⟨k + 1, some ⟨g', 0, none⟩, c', xs ++ [⟨j, x.node, x.kind, x.label⟩], by omega, by go_num, by simp, Lib.hid (by rw [HS.out, hxs.out]), by simp; omega, by simpa [arcsF, HArc.cells] using hown3, Hu1.out.then_ hu3 fun i e => ?_⟩
            exact .inr (hown2.lt i e).1
      · obtain rfl : k = l.length := by omega
        have Hx := Lib.hid (show pickA mask j l = xs by rw [hxs.out, List.take_length])
        clear hxs
        go_wp2
        go_ret
        rw [hv.out, Hx.out]
        exact ⟨A5, c5, rfl, hown, hu⟩
  · have hb' : nodeB out.length i = false := by simpa using hb
    have hv := Lib.hid (show outD mask out i = [] by unfold outD; rw [if_neg hb])
    rw [hb'] at HN
    clear hb hb' h hkd
    go_enter Try.func52, Try.ntmps52
    go_wp2_with fail
    refine (HN.out).mono ?_
    rintro e w1 ⟨rfl, rfl⟩
    go_wp2
    go_ret
    rw [hv.out]
    exact ⟨none, 0, rfl, World.ownsRow_nil _ _ _ _, Upd.refl _ _⟩
end
end Go.Proofs.Ytmnhgdedkniafaa

/- Digraphs: all arcs. -/
namespace Go.Proofs.Ytmnhgdedkniafaa
set_option linter.unusedVariables false
open Go.RowKit
def arcsUp (mask : Int) (out : List (List DEnd)) : Nat → List HArc
  | 0 => []
  | k + 1 => arcsUp mask out k ++ outD mask out (k : Int)
theorem outD_len {mask : Int} {out : List (List DEnd)} (h : ∀ l ∈ out, l.length ≤ 100000) (i : Int) : (outD mask out i).length ≤ 100000 := by
  unfold outD
  split
  · next l hl =>
    split at hl
    · have := h l (List.mem_of_getElem? hl)
      unfold pickA
      rw [List.length_map]
      exact Nat.le_trans (List.length_filter_le _ _) this
    · cases hl
  · simp
theorem arcsUp_len {mask : Int} {out : List (List DEnd)} (h : ∀ l ∈ out, l.length ≤ 100000) (k : Nat) : (arcsUp mask out k).length ≤ k * 100000 := by
  induction k with
  | zero => simp [arcsUp]
  | succ k ih =>
    have := outD_len (mask := mask) h (k : Int)
    simp only [arcsUp, List.length_append]
    omega
theorem arc_one (a : HArc) : ∀ u ∈ a.cells, u.oneCell' = true := by
  unfold HArc.cells
  simp [Value.oneCell']
theorem arcsF_one (l : List HArc) : ∀ u ∈ arcsF l, u.oneCell' = true := by
  intro u hu
  unfold arcsF at hu
  rw [List.mem_flatten] at hu
  obtain ⟨r, hr, hu⟩ := hu
  rw [List.mem_map] at hr
  obtain ⟨a, _, rfl⟩ := hr
  exact arc_one a u hu
theorem arc_len (l : List HArc) : ∀ r ∈ l.map HArc.cells, r.length = 4 := by
  intro r hr
  rw [List.mem_map] at hr
  obtain ⟨a, _, rfl⟩ := hr
  rfl
theorem arcs_src {w : World} {base : Nat} {A : Option Addr} {c : Nat} {l : List HArc} (h : w.ownsRow base 63 4 (.slice A l.length c) l.length (arcsF l)) : Src w A l.length 4 (arcsF l) := by
  have h1 : Recs (Own (.slice A l.length c)) w A 4 (l.map HArc.cells) := Recs.of_own (n := l.length) (c := c) (arc_len l) (by omega) h
  have h2 := h1.src (arc_len l)
  rw [List.length_map] at h2
  exact h2
theorem own_shape {w : World} {base : Nat} {e : TypeId} {size : Nat} {v : Value} {n : Nat} {xs : List Value} (h : w.ownsRow base e size v n xs) : ∃ A c, v = .slice A n c := by
  rcases h.2 with ⟨hv, hn⟩ | ⟨g, cap, cur, hv, _⟩
  · exact ⟨none, 0, by rw [hv, hn]⟩
  · exact ⟨_, _, hv⟩
section
variable {w : World} {G : Nat → Prop} {g : Nat} {out inn : List (List DEnd)} {n : Int} {ob ib : Nat} {oh ih : List Value} {base : Nat}
set_option maxRecDepth 100000 in
set_option maxHeartbeats 1000000 in
theorem darcs (h : GIs w G g out inn n ob ib oh ih base) (hkd : kindsD out) (mask : Int) : Calls Try.prog 51 #[.pointer (some ⟨g, 0, none⟩), .int .i64 mask] w (NewA w (arcsUp mask out out.length)) := by
  have HN := Lib.hid (dnodes h)
  have HO := Lib.hid (fun (W : World) (u : Upd No w W) (i : Int) => dout (h.upd u (fun _ _ => id)) hkd i mask)
  have HL := Lib.hid (fun k => arcsUp_len (mask := mask) h.few.2.1 k)
  have HD := Lib.hid (fun i => outD_len (mask := mask) h.few.2.1 i)
  have hfew := h.few.1
  clear h hkd
  go_enter Try.func51, Try.ntmps51
  go_wp2_with fail
  refine (HN.out).mono ?_
  rintro e w1 ⟨rfl, rfl⟩
  go_wp2
  go_loopg [5, 9] out.length (fun gk s i wr => ∃ (k : Nat) (v : Value) (xs : List HArc), k + gk = out.length ∧ i = .int .i64 k ∧ s = v ∧ Hid (xs = arcsUp mask out k) ∧
    wr.ownsRow w.heap.size 63 4 v xs.length (arcsF xs) ∧ Upd No w wr)
  case atStart => exact ⟨0, .slice none 0 0, [], by omega, rfl, rfl, Lib.hid rfl, World.ownsRow_nil _ _ _ _, Upd.refl _ _⟩
  case round =>
    obtain ⟨k, v, xs, hgk, rfl, rfl, hxs, hown, hu⟩ := hrel
    by_cases hlt : k < out.length
    · have b1 : (0 : Int) ≤ (k : Int) := Int.natCast_nonneg _
      have b2 : (k : Int) < (out.length : Int) := by omega
      have hl1 : xs.length ≤ k * 100000 := by rw [hxs.out]; exact HL.out k
      have hl2 := HD.out (k : Int)
      obtain ⟨ys, hys⟩ : ∃ ys, outD mask out (k : Int) = ys := ⟨_, rfl⟩
      rw [hys] at hl2
      have hO := HO.out wr hu (k : Int)
      rw [hys] at hO
      have HOk := Lib.hid hO
      have HY := Lib.hid hys
      clear hO hys
      go_wp2_with fail
      refine (HOk.out).mono ?_
      rintro e w2 ⟨A2, c2, rfl, ho2, hu2⟩
      have hown2 := own_upd hown hu2 (fun _ _ => id)
      have hs2 := arcs_src ho2
      have hz0 := hu.size
      have hz1 := hu2.size
      have Hu2 := Lib.hid (hu.trans hu2)
      have hge := Lib.hid (fun i e => (hown.lt i e).1)
      have H1 := Lib.hid (arcsF_one ys)
      clear hown hu2 ho2
      go_wp2_with (at_builtin; refine appN rfl rfl slt_arc (v := u5) (n := xs.length) (m := ys.length) (xs := arcsF xs) (news := arcsF ys) (by rfl) rfl hown2 hs2 H1.out (by omega) (by omega) (by omega) ?_; intro v' w3 hown3 hu3 hg3)
      go_roundg (gk - 1)
      case measure => omega
      case rel =>
        refine ⟨k + 1, v', xs ++ ys, by omega, by go_num, rfl, Lib.hid (by rw [hxs.out, ← HY.out]; rfl), ?_, Hu2.out.then_ hu3 fun i e => .inr (hge.out i e)⟩
        rw [List.length_append]
        simpa [arcsF] using hown3
    · obtain rfl : k = out.length := by omega
      obtain ⟨A, c, rfl⟩ := own_shape hown
      go_wp2
      go_ret
      rw [← hxs.out]
      exact ⟨A, c, rfl, hown, hu⟩
end
end Go.Proofs.Ytmnhgdedkniafaa

/- Digraphs: lists of arcs; when two are one. -/
namespace Go.Proofs.Ytmnhgdedkniafaa
set_option linter.unusedVariables false
open Go.RowKit
/-- arcs lie there -/
def ArcsL (F : Nat → Prop) (w : World) (A : Option Addr) (l : List HArc) : Prop := Recs F w A 4 (l.map HArc.cells)
theorem arc_eq (w : World) (a b c d a' b' c' d' : Int) :
    (Op.equalIn 10000 63 (.agg #[.int .i64 a, .int .i64 b, .int .i64 c, .int .i64 d]) (.agg #[.int .i64 a', .int .i64 b', .int .i64 c', .int .i64 d'])).run Try.prog w = .ok (decide ((⟨a, b, c, d⟩ : HArc) = ⟨a', b', c', d'⟩)) w := by
  rw [run_equalIn_struct w _ _ _ _ (by kernel_rfl) (by kernel_rfl)]
  have hI : ∀ (w : World) (d : Nat) (x y : Int), (Op.equalIn (d + 1) 3 (.int .i64 x) (.int .i64 y)).run Try.prog w = .ok (x == y) w := fun w d x y => run_equalIn_int w d _ _ _ x y Try.underlying3
  by_cases h1 : a = a' <;> by_cases h2 : b = b' <;> by_cases h3 : c = c' <;> by_cases h4 : d = d' <;>
    simp [Program.fieldsOf, Try.underlying63, Op.eqFields, part, hI, h1, h2, h3, h4, Result.andThen]
theorem arc_neq (w : World) (x y : HArc) : (binOp .neq 63 (.agg #[.int .i64 x.f, .int .i64 x.t, .int .i64 x.kind, .int .i64 x.label]) (.agg #[.int .i64 y.f, .int .i64 y.t, .int .i64 y.kind, .int .i64 y.label])).run Try.prog w = .ok (.bool (x != y)) w := by
  obtain ⟨a, b, c, d⟩ := x
  obtain ⟨a', b', c', d'⟩ := y
  rw [run_neq_struct, arc_eq]
  simp only [Result.andThen]
  by_cases h : (⟨a, b, c, d⟩ : HArc) = ⟨a', b', c', d'⟩ <;> simp [h]
theorem ArcsL.at_ {F : Nat → Prop} {w : World} {A : Option Addr} {l : List HArc} (h : ArcsL F w A l) {k : Nat} (hk : k < l.length) : ∃ ad, A = some ad ∧
    w.cell? (ad.add (k * 4)) = some (.int .i64 l[k].f) ∧ w.cell? ⟨(ad.add (k * 4)).block, (ad.add (k * 4)).off + 1, none⟩ = some (.int .i64 l[k].t) ∧
    w.cell? ⟨(ad.add (k * 4)).block, (ad.add (k * 4)).off + 2, none⟩ = some (.int .i64 l[k].kind) ∧ w.cell? ⟨(ad.add (k * 4)).block, (ad.add (k * 4)).off + 3, none⟩ = some (.int .i64 l[k].label) := by
  have hk' : k < (l.map HArc.cells).length := by simpa using hk
  obtain ⟨ad, e, _, _, hc⟩ := Recs.at_ h hk'
  rw [List.getElem_map] at hc
  exact ⟨ad, e, by simpa using hc 0 _ rfl, by simpa using hc 1 _ rfl, by simpa using hc 2 _ rfl, by simpa using hc 3 _ rfl⟩
theorem ArcsL.upd {F S : Nat → Prop} {w w' : World} {A : Option Addr} {l : List HArc} (h : ArcsL F w A l) (k : Upd S w w') (hn : ∀ i, F i → ¬ S i) : ArcsL F w' A l := Recs.upd h k hn

theorem samearcs (w : World) (F G : Nat → Prop) (A B : Option Addr) (c d : Nat) (xs ys : List HArc) (hx : ArcsL F w A xs) (hy : ArcsL G w B ys) (hl : xs.length ≤ 4398046511103) (hl2 : ys.length ≤ 4398046511103) :
    Calls Try.prog 50 #[.slice A xs.length c, .slice B ys.length d] w fun e w' => e = .returned (.bool (xs == ys)) ∧ Upd No w w' := by
  have qN := arc_neq
  have qG : ∀ (op : BinOp) (x y : Operand) (xs ys : Array Value) (w : World), (eqGuard op 63 x y (.agg xs) (.agg ys)).run Try.prog w = .ok () w := fun op x y xs ys w => run_eqGuard_agg w op _ x y xs ys (by kernel_rfl)
  by_cases hne : xs.length = ys.length
  · have hb : ((xs.length : Int) != (ys.length : Int)) = false := by rw [hne]; simp
    go_enter Try.func50, Try.ntmps50
    have Hne := Lib.hid hne
    clear hne
    go_wp2
    go_loopg [5, 13] xs.length (fun gk j i wr => ∃ k : Nat, k + gk = xs.length ∧ i = .int .i64 k ∧ xs.take k = ys.take k ∧ Upd No w wr)
    case atStart => exact ⟨0, by omega, rfl, by simp, Upd.refl _ _⟩
    case round =>
      obtain ⟨k, hgk, rfl, hs, hu⟩ := hrel
      have Hs := Lib.hid hs
      clear hs
      by_cases hlt : k < xs.length
      · have hlt2 : k < ys.length := by have := Hne.out; omega
        obtain ⟨ax, rfl, hc0, hc1, hc2, hc3⟩ := (hx.upd hu (fun _ _ => id)).at_ hlt
        obtain ⟨ay, rfl, hd0, hd1, hd2, hd3⟩ := (hy.upd hu (fun _ _ => id)).at_ hlt2
        have b1 : (0 : Int) ≤ (k : Int) := Int.natCast_nonneg _
        have b2 : (k : Int) < (xs.length : Int) := by omega
        have b3 : (k : Int) < (ys.length : Int) := by omega
        by_cases he : xs[k] = ys[k]
        · have heb : (xs[k] != ys[k]) = false := by rw [he]; simp
          have He := Lib.hid he
          clear he
          go_wp2
          go_quiet (fail)
          go_wp2
          go_roundg (gk - 1)
          case measure => omega
          case rel =>
            refine ⟨k + 1, by omega, by go_num, ?_, hu.drewN _⟩
            rw [List.take_succ_eq_append_getElem hlt, List.take_succ_eq_append_getElem hlt2, Hs.out, He.out]
        · have heb : (xs[k] != ys[k]) = true := by simpa using he
          have He := Lib.hid he
          clear he
          go_wp2
          go_quiet (fail)
          go_wp2
          go_ret
          have hne2 : (xs == ys) = false := by
            rw [beq_eq_false_iff_ne]
            rintro rfl
            exact He.out rfl
          exact ⟨by rw [hne2]; rfl, hu.drewN _⟩
      · obtain rfl : k = xs.length := by omega
        go_wp2
        go_ret
        have h2 := Hs.out
        rw [List.take_length, Hne.out, List.take_length] at h2
        exact ⟨by rw [h2, beq_self_eq_true]; rfl, hu⟩
  · have hb : ((xs.length : Int) != (ys.length : Int)) = true := by rw [bne_iff_ne]; omega
    have hf : (xs == ys) = false := by rw [beq_eq_false_iff_ne]; rintro rfl; exact hne rfl
    have Hf := Lib.hid hf
    clear hf
    go_enter Try.func50, Try.ntmps50
    go_wp2
    go_ret
    exact ⟨by rw [Hf.out]; rfl, Upd.refl _ _⟩
end Go.Proofs.Ytmnhgdedkniafaa
