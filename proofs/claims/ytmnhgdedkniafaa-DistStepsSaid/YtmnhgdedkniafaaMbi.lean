/- Digraphs: the nodes of some ends. -/
import Derived.Laws.StructEq
import Derived.Test.YtmnhgdedkniafaaMbe
import Derived.Test.YtmnhgdedkniafaaMbh
namespace Go.Proofs.Ytmnhgdedkniafaa
set_option linter.unusedVariables false
open Go.RowKit
def pickN (mask : Int) (l : List DEnd) : List Int := (l.filter fun e => bitM mask e.kind).map (·.node)
def nodesD (mask : Int) (l : List DEnd) : List Int := Lib.compact (sortI (pickN mask l))
theorem pickN_yes {mask : Int} {l : List DEnd} {k : Nat} {x : DEnd} (hk : k < l.length) (hx : l[k] = x) (hr : bitM mask x.kind = true) : pickN mask (l.take (k + 1)) = pickN mask (l.take k) ++ [x.node] := by
  subst hx
  unfold pickN
  rw [List.take_succ_eq_append_getElem hk, List.filter_append, List.map_append, List.filter_cons_of_pos (by rw [hr])]
  rfl
theorem pickN_no {mask : Int} {l : List DEnd} {k : Nat} {x : DEnd} (hk : k < l.length) (hx : l[k] = x) (hr : bitM mask x.kind = false) : pickN mask (l.take (k + 1)) = pickN mask (l.take k) := by
  subst hx
  unfold pickN
  rw [List.take_succ_eq_append_getElem hk, List.filter_append, List.map_append, List.filter_cons_of_neg (by rw [hr]; decide)]
  simp
theorem dofU (w : World) (mask kind : Int) (h1 : 1 ≤ kind) (h2 : kind ≤ 3) : Calls Try.prog 108 #[.int .i64 mask, .int .i64 kind] w fun e w' => e = .returned (.bool (bitM mask kind)) ∧ Upd No w w' :=
  (dof w mask kind h1 h2).mono fun _ _ h => ⟨h.1, h.2 ▸ Upd.refl No w⟩
set_option maxRecDepth 100000 in
set_option maxHeartbeats 1000000 in
theorem dpick (F : Nat → Prop) (w : World) (mask : Int) (A : Option Addr) (c : Nat) (l : List DEnd) (h : DEnds F w A l) (hkd : ∀ e ∈ l, 1 ≤ e.kind ∧ e.kind ≤ 3) (hl : l.length ≤ 1000000) :
    Calls Try.prog 109 #[.slice A l.length c, .int .i64 mask] w (NewI w (nodesD mask l)) := by
  go_enter Try.func109, Try.ntmps109
  go_wp2
  go_loopg [5, 10] l.length (fun gk s i wr => ∃ (k : Nat) (A5 : Option Addr) (c5 : Nat) (xs : List Int), k + gk = l.length ∧ i = .int .i64 k ∧ s = .slice A5 xs.length c5 ∧ Hid (xs = pickN mask (l.take k)) ∧ xs.length ≤ k ∧
    wr.ownsRow w.heap.size 3 1 (.slice A5 xs.length c5) xs.length (xs.map (Value.int .i64)) ∧ Upd No w wr)
  case atStart => exact ⟨0, none, 0, [], by omega, rfl, rfl, Lib.hid (by simp [pickN]), by simp, World.ownsRow_nil _ _ _ _, Upd.refl _ _⟩
  case round =>
    obtain ⟨k, A5, c5, xs, hgk, rfl, rfl, hxs, hxl, hown, hu⟩ := hrel
    by_cases hlt : k < l.length
    · obtain ⟨ad, hAd, q0, q1, q2⟩ := (h.upd hu (fun _ _ => id)).at_ hlt
      obtain ⟨hk1, hk2⟩ := hkd _ (List.getElem_mem hlt)
      obtain ⟨x, hx⟩ : ∃ x, l[k] = x := ⟨_, rfl⟩
      rw [hx] at q0 q1 q2 hk1 hk2
      subst hAd
      have X := Lib.hid hx
      clear hx
      have b1 : (0 : Int) ≤ (k : Int) := Int.natCast_nonneg _
      have b2 : (k : Int) < (l.length : Int) := by omega
      have uA := (Upd.refl No wr).alloc (.cells #[.int .i64 x.kind, .int .i64 x.label, .int .i64 x.node] 138)
      have bo := Blk.new wr 138 [.int .i64 x.kind, .int .i64 x.label, .int .i64 x.node]
      have hown1 := own_upd hown uA (fun _ _ => id)
      have g0 := bo.cell 0
      simp only [List.getElem?_cons_zero] at g0
      have hof := Lib.hid (fun W => dofU W mask x.kind hk1 hk2)
      cases hr : bitM mask x.kind
      · rw [hr] at hof
        have HS := Lib.hid (pickN_no hlt X.out hr)
        clear hr
        go_wp2_with fail
        refine (hof.out _).mono ?_
        rintro e w1 ⟨rfl, hu1⟩
        have Hu1 := Lib.hid ((hu.trans uA).trans hu1)
        have hown2 := own_upd hown1 hu1 (fun _ _ => id)
        clear hown1 uA hu1
        go_wp2
        go_roundg (gk - 1)
        case measure => omega
        case rel => exact ⟨k + 1, A5, c5, xs, by omega, by go_num, rfl, Lib.hid (by rw [HS.out, hxs.out]), by omega, hown2, Hu1.out⟩
      · rw [hr] at hof
        have HS := Lib.hid (pickN_yes hlt X.out hr)
        clear hr
        go_wp2_with fail
        refine (hof.out _).mono ?_
        rintro e w1 ⟨rfl, hu1⟩
        have bo1 := bo.upd hu1 id
        have g1 := bo1.cell 2
        simp only [List.getElem?_cons_zero, List.getElem?_cons_succ] at g1
        have hown2 := own_upd hown1 hu1 (fun _ _ => id)
        have hz1 := (uA.trans hu1).size
        have hz0 := hu.size
        have Hu1 := Lib.hid ((hu.trans uA).trans hu1)
        clear hown1 uA hu1
        go_wp2_with (at_builtin; refine app1s rfl rfl slt_int (v := .slice A5 xs.length c5) (cells := [.int .i64 x.node]) (by rfl) rfl hown2 rfl rfl (by omega) (by omega) (by omega) ?_; intro g' c' w2 hown3 hu3 hg3 hlt3)
        go_roundg (gk - 1)
        case measure => omega
        case rel =>
          refine ⟨k + 1, some ⟨g', 0, none⟩, c', xs ++ [x.node], by omega, by go_num, by simp, Lib.hid (by rw [HS.out, hxs.out]), by simp; omega, by simpa using hown3, Hu1.out.then_ hu3 fun i e => ?_⟩
          exact .inr (hown2.lt i e).1
    · obtain rfl : k = l.length := by omega
      have Hx := Lib.hid (show xs = pickN mask l by rw [hxs.out, List.take_length])
      clear hxs
      have hsl := Lib.hid (sortI_len xs)
      have Hk := Lib.hid (show Lib.compact (sortI xs) = nodesD mask l by rw [Hx.out]; rfl)
      go_wp2_with fail
      refine (isort _ _ A5 c5 xs hown (by omega)).mono ?_
      rintro e w1 ⟨rfl, ho1, hu1⟩
      have ho1' : w1.ownsRow w.heap.size 3 1 (.slice A5 (sortI xs).length c5) (sortI xs).length ((sortI xs).map (Value.int .i64)) := by rw [hsl.out]; exact ho1
      have hic := icompact w1 w.heap.size A5 c5 (sortI xs) ho1' (by rw [hsl.out]; omega)
      rw [Hk.out, hsl.out] at hic
      have Hic := Lib.hid hic
      have hge := Lib.hid (show ∀ i, Own (.slice A5 xs.length c5) i → w.heap.size ≤ i from fun i e => (hown.lt i e).1)
      clear hic ho1 ho1' hown
      go_wp2_with fail
      refine (Hic.out).mono ?_
      rintro e w2 ⟨rfl, ho2, hu2⟩
      go_wp2
      go_ret
      exact ⟨A5, c5, rfl, ho2, (hu.then_ hu1 fun i e => .inr (hge.out i e)).then_ hu2 fun i e => .inr (hge.out i e)⟩
end Go.Proofs.Ytmnhgdedkniafaa

/- Digraphs: the nodes next to one, and those ahead of it. -/
namespace Go.Proofs.Ytmnhgdedkniafaa
set_option linter.unusedVariables false
open Go.RowKit
def nextD (mask : Int) (ls : List (List DEnd)) (i : Int) : List Int := match (if nodeB ls.length i then ls[i.toNat]? else none) with | some l => nodesD mask l | none => []
def kindsD (ls : List (List DEnd)) : Prop := ∀ l ∈ ls, ∀ e ∈ l, 1 ≤ e.kind ∧ e.kind ≤ 3
theorem newI_nil (w w' : World) (u : Upd No w w') : NewI w [] (.returned (.slice none 0 0)) w' := ⟨none, 0, rfl, World.ownsRow_nil _ _ _ _, u⟩
section
variable {w : World} {G : Nat → Prop} {g : Nat} {out inn : List (List DEnd)} {n : Int} {ob ib : Nat} {oh ih : List Value} {base : Nat}
set_option maxRecDepth 100000 in
theorem dnext (h : GIs w G g out inn n ob ib oh ih base) (hk : kindsD out) (i mask : Int) : Calls Try.prog 54 #[.pointer (some ⟨g, 0, none⟩), .int .i64 i, .int .i64 mask] w (NewI w (nextD mask out i)) := by
  have HN := Lib.hid (dnode h i)
  by_cases hb : nodeB out.length i = true
  · have hb' := hb
    simp only [nodeB, Bool.and_eq_true, decide_eq_true_eq] at hb'
    obtain ⟨j, rfl⟩ : ∃ j : Nat, i = (j : Int) := ⟨i.toNat, by omega⟩
    have hj : j < out.length := by omega
    obtain ⟨A, c, hoi, hown⟩ := h.ro.2 j hj
    have hv := Lib.hid (show nextD mask out (j : Int) = nodesD mask out[j] by unfold nextD; rw [if_pos hb]; simp [List.getElem?_eq_getElem hj])
    have c0 := h.blk.cell 0
    have c1 : w.cell? ⟨ob, j, none⟩ = some (.slice A out[j].length c) := by rw [h.ob_.cell j]; exact hoi
    have hc := Lib.hid (dpick _ w mask A c out[j] (dends_own hown) (hk _ (List.getElem_mem hj)) (Nat.le_trans (h.few.2.1 _ (List.getElem_mem hj)) (by omega)))
    have k1 : (0 : Int) ≤ (j : Int) := Int.natCast_nonneg _
    have k2 : (j : Int) < (out.length : Int) := by omega
    simp only [List.getElem?_cons_zero] at c0
    rw [hb] at HN
    clear hb hb' hoi hown h hk
    go_enter Try.func54, Try.ntmps54
    go_wp2_with fail
    refine (HN.out).mono ?_
    rintro e w1 ⟨rfl, rfl⟩
    go_wp2_with fail
    refine (hc.out).mono ?_
    rintro e w2 ⟨A2, c2, rfl, ho, hu⟩
    go_wp2
    go_ret
    rw [hv.out]
    exact ⟨A2, c2, rfl, ho, hu⟩
  · have hb' : nodeB out.length i = false := by simpa using hb
    have hv := Lib.hid (show nextD mask out i = [] by unfold nextD; rw [if_neg hb])
    rw [hb'] at HN
    clear hb hb' h hk
    go_enter Try.func54, Try.ntmps54
    go_wp2_with fail
    refine (HN.out).mono ?_
    rintro e w1 ⟨rfl, rfl⟩
    go_wp2
    go_ret
    rw [hv.out]
    exact newI_nil _ _ (Upd.refl _ _)
set_option maxRecDepth 100000 in
theorem dprev (h : GIs w G g out inn n ob ib oh ih base) (hk : kindsD inn) (i mask : Int) : Calls Try.prog 56 #[.pointer (some ⟨g, 0, none⟩), .int .i64 i, .int .i64 mask] w (NewI w (nextD mask inn i)) := by
  have HN := Lib.hid (dnode h i)
  have hlen := h.len
  by_cases hb : nodeB out.length i = true
  · have hb' := hb
    simp only [nodeB, Bool.and_eq_true, decide_eq_true_eq] at hb'
    obtain ⟨j, rfl⟩ : ∃ j : Nat, i = (j : Int) := ⟨i.toNat, by omega⟩
    have hj : j < inn.length := by omega
    obtain ⟨A, c, hoi, hown⟩ := h.ri.2 j hj
    have hv := Lib.hid (show nextD mask inn (j : Int) = nodesD mask inn[j] by unfold nextD; rw [hlen, if_pos hb]; simp [List.getElem?_eq_getElem hj])
    have c0 := h.blk.cell 1
    have c1 : w.cell? ⟨ib, j, none⟩ = some (.slice A inn[j].length c) := by rw [h.ib_.cell j]; exact hoi
    have hc := Lib.hid (dpick _ w mask A c inn[j] (dends_own hown) (hk _ (List.getElem_mem hj)) (Nat.le_trans (h.few.2.2 _ (List.getElem_mem hj)) (by omega)))
    have k1 : (0 : Int) ≤ (j : Int) := Int.natCast_nonneg _
    have k2 : (j : Int) < (out.length : Int) := by omega
    simp only [List.getElem?_cons_zero, List.getElem?_cons_succ] at c0
    rw [hb] at HN
    clear hb hb' hoi hown h hk hlen
    go_enter Try.func56, Try.ntmps56
    go_wp2_with fail
    refine (HN.out).mono ?_
    rintro e w1 ⟨rfl, rfl⟩
    go_wp2_with fail
    refine (hc.out).mono ?_
    rintro e w2 ⟨A2, c2, rfl, ho, hu⟩
    go_wp2
    go_ret
    rw [hv.out]
    exact ⟨A2, c2, rfl, ho, hu⟩
  · have hb' : nodeB out.length i = false := by simpa using hb
    have hv := Lib.hid (show nextD mask inn i = [] by unfold nextD; rw [hlen, if_neg hb])
    rw [hb'] at HN
    clear hb hb' h hk hlen
    go_enter Try.func56, Try.ntmps56
    go_wp2_with fail
    refine (HN.out).mono ?_
    rintro e w1 ⟨rfl, rfl⟩
    go_wp2
    go_ret
    rw [hv.out]
    exact newI_nil _ _ (Upd.refl _ _)
end
end Go.Proofs.Ytmnhgdedkniafaa

/- Digraphs: the arcs that go out of a node. -/
namespace Go.Proofs.Ytmnhgdedkniafaa
set_option linter.unusedVariables false
open Go.RowKit
theorem slt_arc : SlT Try.prog 61 63 4 32 := SlT.mk_ Try.underlying61 (z := .agg #[.int .i64 0, .int .i64 0, .int .i64 0, .int .i64 0]) (by kernel_rfl) rfl (by omega)
def arcsF (l : List HArc) : List Value := (l.map HArc.cells).flatten
/-- a new row of arcs -/
def NewA (w : World) (l : List HArc) (e : Ending) (w' : World) : Prop := ∃ A c, e = .returned (.slice A l.length c) ∧ w'.ownsRow w.heap.size 63 4 (.slice A l.length c) l.length (arcsF l) ∧ Upd No w w'
def pickA (mask i : Int) (l : List DEnd) : List HArc := (l.filter fun e => bitM mask e.kind).map fun e => ⟨i, e.node, e.kind, e.label⟩
theorem pickA_yes {mask i : Int} {l : List DEnd} {k : Nat} {x : DEnd} (hk : k < l.length) (hx : l[k] = x) (hr : bitM mask x.kind = true) : pickA mask i (l.take (k + 1)) = pickA mask i (l.take k) ++ [⟨i, x.node, x.kind, x.label⟩] := by
  subst hx
  unfold pickA
  rw [List.take_succ_eq_append_getElem hk, List.filter_append, List.map_append, List.filter_cons_of_pos (by rw [hr])]
  rfl
theorem pickA_no {mask i : Int} {l : List DEnd} {k : Nat} {x : DEnd} (hk : k < l.length) (hx : l[k] = x) (hr : bitM mask x.kind = false) : pickA mask i (l.take (k + 1)) = pickA mask i (l.take k) := by
  subst hx
  unfold pickA
  rw [List.take_succ_eq_append_getElem hk, List.filter_append, List.map_append, List.filter_cons_of_neg (by rw [hr]; decide)]
  simp
theorem arcsF_len (l : List HArc) : (arcsF l).length = l.length * 4 := by
  unfold arcsF
  induction l with
  | nil => rfl
  | cons a l ih => simp only [List.map_cons, List.flatten_cons, List.length_append, List.length_cons, ih]; simp [HArc.cells]; omega
def outD (mask : Int) (ls : List (List DEnd)) (i : Int) : List HArc := match (if nodeB ls.length i then ls[i.toNat]? else none) with | some l => pickA mask i l | none => []
section
variable {w : World} {G : Nat → Prop} {g : Nat} {out inn : List (List DEnd)} {n : Int} {ob ib : Nat} {oh ih : List Value} {base : Nat}
set_option maxRecDepth 100000 in
set_option maxHeartbeats 1000000 in
theorem dout (h : GIs w G g out inn n ob ib oh ih base) (hkd : kindsD out) (i mask : Int) : Calls Try.prog 52 #[.pointer (some ⟨g, 0, none⟩), .int .i64 i, .int .i64 mask] w (NewA w (outD mask out i)) := by
  have HN := Lib.hid (dnode h i)
  by_cases hb : nodeB out.length i = true
  · have hb' := hb
    simp only [nodeB, Bool.and_eq_true, decide_eq_true_eq] at hb'
    obtain ⟨j, rfl⟩ : ∃ j : Nat, i = (j : Int) := ⟨i.toNat, by omega⟩
    have hj : j < out.length := by omega
    obtain ⟨A, c, hoi, hown0⟩ := h.ro.2 j hj
    have hv := Lib.hid (show outD mask out (j : Int) = pickA mask j out[j] by unfold outD; rw [if_pos hb]; simp [List.getElem?_eq_getElem hj])
    have c0 := h.blk.cell 0
    have c1 : w.cell? ⟨ob, j, none⟩ = some (.slice A out[j].length c) := by rw [h.ob_.cell j]; exact hoi
    have hde := dends_own hown0
    have hkl := hkd _ (List.getElem_mem hj)
    have hl : out[j].length ≤ 1000000 := Nat.le_trans (h.few.2.1 _ (List.getElem_mem hj)) (by omega)
    obtain ⟨l, hlq⟩ : ∃ l, out[j] = l := ⟨_, rfl⟩
    rw [hlq] at hde hkl hl hv c1
    have k1 : (0 : Int) ≤ (j : Int) := Int.natCast_nonneg _
    have k2 : (j : Int) < (out.length : Int) := by omega
    simp only [List.getElem?_cons_zero] at c0
    rw [hb] at HN
    clear hb hb' hoi hown0 h hkd hlq
    go_enter Try.func52, Try.ntmps52
    go_wp2_with fail
    refine (HN.out).mono ?_
    rintro e w1 ⟨rfl, rfl⟩
    go_wp2
    go_loopg [7, 23] l.length (fun gk s i wr => ∃ (k : Nat) (A5 : Option Addr) (c5 : Nat) (xs : List HArc), k + gk = l.length ∧ i = .int .i64 k ∧ s = .slice A5 xs.length c5 ∧ Hid (xs = pickA mask j (l.take k)) ∧ xs.length ≤ k ∧
      wr.ownsRow w.heap.size 63 4 (.slice A5 xs.length c5) xs.length (arcsF xs) ∧ Upd No w wr)
    case atStart => exact ⟨0, none, 0, [], by omega, rfl, rfl, Lib.hid (by simp [pickA]), by simp, World.ownsRow_nil _ _ _ _, Upd.refl _ _⟩
    case round =>
      obtain ⟨k, A5, c5, xs, hgk, rfl, rfl, hxs, hxl, hown, hu⟩ := hrel
      by_cases hlt : k < l.length
      · obtain ⟨ad, hAd, q0, q1, q2⟩ := (hde.upd hu (fun _ _ => id)).at_ hlt
        obtain ⟨hk1, hk2⟩ := hkl _ (List.getElem_mem hlt)
        obtain ⟨x, hx⟩ : ∃ x, l[k] = x := ⟨_, rfl⟩
        rw [hx] at q0 q1 q2 hk1 hk2
        subst hAd
        have X := Lib.hid hx
        clear hx
        have b1 : (0 : Int) ≤ (k : Int) := Int.natCast_nonneg _
        have b2 : (k : Int) < (l.length : Int) := by omega
        have uA := (Upd.refl No wr).alloc (.cells #[.int .i64 x.kind, .int .i64 x.label, .int .i64 x.node] 138)
        have bo := Blk.new wr 138 [.int .i64 x.kind, .int .i64 x.label, .int .i64 x.node]
        have hown1 := own_upd hown uA (fun _ _ => id)
        have g0 := bo.cell 0
        simp only [List.getElem?_cons_zero] at g0
        have hof := Lib.hid (fun W => dofU W mask x.kind hk1 hk2)
        cases hr : bitM mask x.kind
        · rw [hr] at hof
          have HS := Lib.hid (pickA_no (i := (j : Int)) hlt X.out hr)
          clear hr
          go_wp2_with fail
          refine (hof.out _).mono ?_
          rintro e w1 ⟨rfl, hu1⟩
          have Hu1 := Lib.hid ((hu.trans uA).trans hu1)
          have hown2 := own_upd hown1 hu1 (fun _ _ => id)
          clear hown1 uA hu1
          go_wp2
          go_roundg (gk - 1)
          case measure => omega
          case rel => exact ⟨k + 1, A5, c5, xs, by omega, by go_num, rfl, Lib.hid (by rw [HS.out, hxs.out]), by omega, hown2, Hu1.out⟩
        · rw [hr] at hof
          have HS := Lib.hid (pickA_yes (i := (j : Int)) hlt X.out hr)
          clear hr
          go_wp2_with fail
          refine (hof.out _).mono ?_
          rintro e w1 ⟨rfl, hu1⟩
          have bo1 := bo.upd hu1 id
          have g1 := bo1.cell 0
          have g2 := bo1.cell 1
          have g3 := bo1.cell 2
          simp only [List.getElem?_cons_zero, List.getElem?_cons_succ] at g1 g2 g3
          have hown2 := own_upd hown1 hu1 (fun _ _ => id)
          have hz1 := (uA.trans hu1).size
          have hz0 := hu.size
          have Hu1 := Lib.hid ((hu.trans uA).trans hu1)
          have HL := Lib.hid (arcsF_len xs)
          clear hown1 uA hu1 bo1
          go_wp2_with (at_builtin; refine app1s rfl rfl slt_arc (v := .slice A5 xs.length c5) (cells := [.int .i64 (j : Int), .int .i64 x.node, .int .i64 x.kind, .int .i64 x.label]) (by rfl) rfl hown2 rfl rfl (by omega) (by omega) (by omega) ?_; intro g' c' w2 hown3 hu3 hg3 hlt3)
          go_roundg (gk - 1)
          case measure => omega
          case rel =>
            refine ⟨k + 1, some ⟨g', 0, none⟩, c', xs ++ [⟨j, x.node, x.kind, x.label⟩], by omega, by go_num, by simp, Lib.hid (by rw [HS.out, hxs.out]), by simp; omega, by simpa [arcsF, HArc.cells] using hown3, Hu1.out.then_ hu3 fun i e => ?_⟩
            exact .inr (hown2.lt i e).1
      · obtain rfl : k = l.length := by omega
        have Hx := Lib.hid (show pickA mask j l = xs by rw [hxs.out, List.take_length])
        clear hxs
        go_wp2
        go_ret
        rw [hv.out, Hx.out]
        exact ⟨A5, c5, rfl, hown, hu⟩
  · have hb' : nodeB out.length i = false := by simpa using hb
    have hv := Lib.hid (show outD mask out i = [] by unfold outD; rw [if_neg hb])
    rw [hb'] at HN
    clear hb hb' h hkd
    go_enter Try.func52, Try.ntmps52
    go_wp2_with fail
    refine (HN.out).mono ?_
    rintro e w1 ⟨rfl, rfl⟩
    go_wp2
    go_ret
    rw [hv.out]
    exact ⟨none, 0, rfl, World.ownsRow_nil _ _ _ _, Upd.refl _ _⟩
end
end Go.Proofs.Ytmnhgdedkniafaa

/- Digraphs: all arcs. -/
namespace Go.Proofs.Ytmnhgdedkniafaa
set_option linter.unusedVariables false
open Go.RowKit
theorem arc_len (l : List HArc) : ∀ r ∈ l.map HArc.cells, r.length = 4 := by
  intro r hr
  rw [List.mem_map] at hr
  obtain ⟨a, _, rfl⟩ := hr
  rfl
section
variable {w : World} {G : Nat → Prop} {g : Nat} {out inn : List (List DEnd)} {n : Int} {ob ib : Nat} {oh ih : List Value} {base : Nat}
end
end Go.Proofs.Ytmnhgdedkniafaa

/- Digraphs: lists of arcs; when two are one. -/
namespace Go.Proofs.Ytmnhgdedkniafaa
set_option linter.unusedVariables false
open Go.RowKit
/-- arcs lie there -/
def ArcsL (F : Nat → Prop) (w : World) (A : Option Addr) (l : List HArc) : Prop := Recs F w A 4 (l.map HArc.cells)
theorem ArcsL.at_ {F : Nat → Prop} {w : World} {A : Option Addr} {l : List HArc} (h : ArcsL F w A l) {k : Nat} (hk : k < l.length) : ∃ ad, A = some ad ∧
    w.cell? (ad.add (k * 4)) = some (.int .i64 l[k].f) ∧ w.cell? ⟨(ad.add (k * 4)).block, (ad.add (k * 4)).off + 1, none⟩ = some (.int .i64 l[k].t) ∧
    w.cell? ⟨(ad.add (k * 4)).block, (ad.add (k * 4)).off + 2, none⟩ = some (.int .i64 l[k].kind) ∧ w.cell? ⟨(ad.add (k * 4)).block, (ad.add (k * 4)).off + 3, none⟩ = some (.int .i64 l[k].label) := by
  have hk' : k < (l.map HArc.cells).length := by simpa using hk
  obtain ⟨ad, e, _, _, hc⟩ := Recs.at_ h hk'
  rw [List.getElem_map] at hc
  exact ⟨ad, e, by simpa using hc 0 _ rfl, by simpa using hc 1 _ rfl, by simpa using hc 2 _ rfl, by simpa using hc 3 _ rfl⟩
theorem ArcsL.upd {F S : Nat → Prop} {w w' : World} {A : Option Addr} {l : List HArc} (h : ArcsL F w A l) (k : Upd S w w') (hn : ∀ i, F i → ¬ S i) : ArcsL F w' A l := Recs.upd h k hn

end Go.Proofs.Ytmnhgdedkniafaa

/- The document's digraph: whether an arc is among some. -/
namespace Go.Proofs.Ytmnhgdedkniafaa
set_option linter.unusedVariables false
open Go.RowKit
end Go.Proofs.Ytmnhgdedkniafaa

/- The document's digraph: arcs left out, arcs from a node. -/
namespace Go.Proofs.Ytmnhgdedkniafaa
set_option linter.unusedVariables false
open Go.RowKit
end Go.Proofs.Ytmnhgdedkniafaa

/- The document's digraph: an arc left out. -/
namespace Go.Proofs.Ytmnhgdedkniafaa
set_option linter.unusedVariables false
open Go.RowKit
end Go.Proofs.Ytmnhgdedkniafaa

/- The document's digraph: the arcs of a mask. -/
namespace Go.Proofs.Ytmnhgdedkniafaa
set_option linter.unusedVariables false
open Go.RowKit
end Go.Proofs.Ytmnhgdedkniafaa

/- The document's digraph: the order of arcs; how many nodes there may be. -/
namespace Go.Proofs.Ytmnhgdedkniafaa
set_option linter.unusedVariables false
open Go.RowKit
def lessA (a b : HArc) : Bool := if a.f = b.f then (if a.kind = b.kind then (if a.label = b.label then decide (a.t < b.t) else decide (a.label < b.label)) else decide (a.kind < b.kind)) else decide (a.f < b.f)
end Go.Proofs.Ytmnhgdedkniafaa

/- A nil digraph. -/
namespace Go.Proofs.Ytmnhgdedkniafaa
set_option linter.unusedVariables false
open Go.RowKit
theorem dnodes0 (w : World) : Calls Try.prog 47 #[.pointer none] w fun e w' => e = .returned (.int .i64 0) ∧ w = w' := by
  go_enter Try.func47, Try.ntmps47
  go_wp2
  go_ret
  exact ⟨rfl, rfl⟩
theorem dnode0 (w : World) (i : Int) : Calls Try.prog 107 #[.pointer none, .int .i64 i] w fun e w' => e = .returned (.bool false) ∧ w = w' := by
  have HN := Lib.hid (dnodes0 w)
  by_cases h0 : 0 ≤ i
  · have hb : decide (i < 0) = false := decide_eq_false (by omega)
    go_enter Try.func107, Try.ntmps107
    go_wp2_with fail
    refine (HN.out).mono ?_
    rintro e w1 ⟨rfl, rfl⟩
    go_wp2
    go_ret
    exact ⟨by simp, rfl⟩
  · have hb : decide (0 ≤ i) = false := decide_eq_false h0
    clear h0
    go_enter Try.func107, Try.ntmps107
    go_wp2
    go_ret
    exact ⟨rfl, rfl⟩
theorem dnext0 (w : World) (i mask : Int) : Calls Try.prog 54 #[.pointer none, .int .i64 i, .int .i64 mask] w (NewI w []) := by
  have HN := Lib.hid (dnode0 w i)
  go_enter Try.func54, Try.ntmps54
  go_wp2_with fail
  refine (HN.out).mono ?_
  rintro e w1 ⟨rfl, rfl⟩
  go_wp2
  go_ret
  exact newI_nil _ _ (Upd.refl _ _)
theorem dright0 (w : World) (a : HArc) : Calls Try.prog 100 #[.pointer none, .agg a.cells.toArray] w fun e w' => e = .returned (.bool false) ∧ Upd No w w' := by
  have HN := Lib.hid (fun W => dnode0 W a.f)
  have U0 := Lib.hid ((Upd.refl No w).alloc (.cells a.cells.toArray 63))
  unfold HArc.cells at *
  go_enter Try.func100, Try.ntmps100
  go_wp2_with fail
  refine (HN.out _).mono ?_
  rintro e w1 ⟨rfl, rfl⟩
  go_wp2
  go_ret
  exact ⟨rfl, U0.out⟩
theorem dhas0 (w : World) (a : HArc) : Calls Try.prog 49 #[.pointer none, .agg a.cells.toArray] w fun e w' => e = .returned (.bool false) ∧ Upd No w w' := by
  have HN := Lib.hid (fun W => dright0 W a)
  have U0 := Lib.hid ((Upd.refl No w).alloc (.cells a.cells.toArray 63))
  unfold HArc.cells at *
  go_enter Try.func49, Try.ntmps49
  go_wp2_with fail
  refine (HN.out _).mono ?_
  rintro e w1 ⟨rfl, hu⟩
  have HU := Lib.hid (U0.out.trans hu)
  clear hu
  go_wp2
  go_ret
  exact ⟨rfl, HU.out⟩
theorem dadd0 (w : World) (a : HArc) : Calls Try.prog 43 #[.pointer none, .agg a.cells.toArray] w fun e w' => e = .returned (.int .i64 1) ∧ Upd No w w' := by
  have HN := Lib.hid (fun W => dright0 W a)
  have U0 := Lib.hid ((Upd.refl No w).alloc (.cells a.cells.toArray 63))
  unfold HArc.cells at *
  go_enter Try.func43, Try.ntmps43
  go_wp2_with fail
  refine (HN.out _).mono ?_
  rintro e w1 ⟨rfl, hu⟩
  have HU := Lib.hid (U0.out.trans hu)
  clear hu
  go_wp2
  go_ret
  exact ⟨rfl, HU.out⟩
end Go.Proofs.Ytmnhgdedkniafaa
