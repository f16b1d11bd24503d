/- The document's digraph: whether an arc is among some. -/
import Derived.Test.YtmnhgdedkniafaaMam
namespace Go.Proofs.Ytmnhgdedkniafaa
set_option linter.unusedVariables false
open Go.RowKit
theorem arc_eql (w : World) (x y : HArc) : (binOp .eql 63 (.agg #[.int .i64 x.f, .int .i64 x.t, .int .i64 x.kind, .int .i64 x.label]) (.agg #[.int .i64 y.f, .int .i64 y.t, .int .i64 y.kind, .int .i64 y.label])).run Try.prog w = .ok (.bool (x == y)) w := by
  obtain ⟨a, b, c, d⟩ := x
  obtain ⟨a', b', c', d'⟩ := y
  rw [run_eql_struct, arc_eq]
  simp only [Result.andThen]
  by_cases h : (⟨a, b, c, d⟩ : HArc) = ⟨a', b', c', d'⟩ <;> simp [h]
set_option maxRecDepth 100000 in
theorem rarcin (w : World) (F : Nat → Prop) (A : Option Addr) (c : Nat) (l : List HArc) (a : HArc) (h : ArcsL F w A l) (hl : l.length ≤ 4398046511103) :
    Calls Try.prog 40 #[.slice A l.length c, .agg a.cells.toArray] w fun e w' => e = .returned (.bool (decide (a ∈ l))) ∧ Upd No w w' := by
  have qN := arc_eql
  have qG : ∀ (op : BinOp) (x y : Operand) (xs ys : Array Value) (w : World), (eqGuard op 63 x y (.agg xs) (.agg ys)).run Try.prog w = .ok () w := fun op x y xs ys w => run_eqGuard_agg w op _ x y xs ys (by kernel_rfl)
  have u0 := (Upd.refl No w).alloc (.cells a.cells.toArray 63)
  have bA := Lib.hid (Blk.new w 63 a.cells)
  have HA := Lib.hid (h.upd u0 (fun _ _ => id))
  have U0 := Lib.hid u0
  unfold HArc.cells at *
  clear h u0
  go_enter Try.func40, Try.ntmps40
  go_wp2
  obtain ⟨wb, hwb⟩ : ∃ wb, w.alloc (.cells #[.int .i64 a.f, .int .i64 a.t, .int .i64 a.kind, .int .i64 a.label] 63) = wb := ⟨_, rfl⟩
  have HA := Lib.hid (show ArcsL F wb A l from hwb ▸ HA.out)
  have bA := Lib.hid (show Blk wb w.heap.size 63 [.int .i64 a.f, .int .i64 a.t, .int .i64 a.kind, .int .i64 a.label] from hwb ▸ bA.out)
  have U0 := Lib.hid (show Upd No w wb from hwb ▸ U0.out)
  rw [hwb]
  clear hwb
  go_loopg [9] l.length (fun gk i wr => ∃ k : Nat, k + gk = l.length ∧ i = .int .i64 k ∧ Hid (decide (a ∈ l) = decide (a ∈ l.drop k)) ∧ Upd No wb wr)
  case atStart => exact ⟨0, by omega, rfl, Lib.hid (by simp), Upd.refl _ _⟩
  case round =>
    obtain ⟨k, hgk, rfl, hs, hu⟩ := hrel
    by_cases hlt : k < l.length
    · obtain ⟨ax, rfl, hc0, hc1, hc2, hc3⟩ := (HA.out.upd hu (fun _ _ => id)).at_ hlt
      obtain ⟨x, hx⟩ : ∃ x, l[k] = x := ⟨_, rfl⟩
      have hd := Lib.hid (show l.drop k = x :: l.drop (k + 1) by rw [← hx]; exact List.drop_eq_getElem_cons hlt)
      rw [hx] at hc0 hc1 hc2 hc3
      have b1 : (0 : Int) ≤ (k : Int) := Int.natCast_nonneg _
      have b2 : (k : Int) < (l.length : Int) := by omega
      have bb := bA.out.upd hu id
      have uA := hu.alloc (.cells #[.int .i64 x.f, .int .i64 x.t, .int .i64 x.kind, .int .i64 x.label] 63)
      have bb' := bb.alloc (.cells #[.int .i64 x.f, .int .i64 x.t, .int .i64 x.kind, .int .i64 x.label] 63)
      have d0 := bb'.cell 0
      have d1 := bb'.cell 1
      have d2 := bb'.cell 2
      have d3 := bb'.cell 3
      simp only [List.getElem?_cons_zero, List.getElem?_cons_succ] at d0 d1 d2 d3
      have UA := Lib.hid uA
      clear hx bb bb' uA hu
      by_cases he : x = a
      · have heb : (x == a) = true := by rw [he]; simp
        have He := Lib.hid he
        clear he
        go_wp2
        go_ret
        exact ⟨by rw [hs.out, hd.out, He.out]; simp, U0.out.trans UA.out⟩
      · have heb : (x == a) = false := by simpa using he
        have He := Lib.hid he
        clear he
        go_wp2
        go_roundg (gk - 1)
        case measure => omega
        case rel =>
          refine ⟨k + 1, by omega, by go_num, Lib.hid ?_, UA.out⟩
          rw [hs.out, hd.out]
          have := He.out
          simp only [List.mem_cons, decide_eq_decide]
          exact ⟨fun e => e.elim (fun e => absurd e.symm this) id, .inr⟩
    · obtain rfl : k = l.length := by omega
      go_wp2
      go_ret
      exact ⟨by rw [hs.out, List.drop_length]; simp, U0.out.trans hu⟩
end Go.Proofs.Ytmnhgdedkniafaa

/- The document's digraph: arcs left out, arcs from a node. -/
namespace Go.Proofs.Ytmnhgdedkniafaa
set_option linter.unusedVariables false
open Go.RowKit
theorem filt_yes {p : HArc → Bool} {l : List HArc} {k : Nat} {x : HArc} (hk : k < l.length) (hx : l[k] = x) (hr : p x = true) : (l.take (k + 1)).filter p = (l.take k).filter p ++ [x] := by
  subst hx
  rw [List.take_succ_eq_append_getElem hk, List.filter_append, List.filter_cons_of_pos (by rw [hr])]
  rfl
theorem filt_no {p : HArc → Bool} {l : List HArc} {k : Nat} {x : HArc} (hk : k < l.length) (hx : l[k] = x) (hr : p x = false) : (l.take (k + 1)).filter p = (l.take k).filter p := by
  subst hx
  rw [List.take_succ_eq_append_getElem hk, List.filter_append, List.filter_cons_of_neg (by rw [hr]; decide)]
  simp
set_option maxRecDepth 100000 in
set_option maxHeartbeats 1000000 in
theorem raout (F : Nat → Prop) (w : World) (A : Option Addr) (c : Nat) (l : List HArc) (node : Int) (h : ArcsL F w A l) (hl : l.length ≤ 1000000) :
    Calls Try.prog 53 #[.slice A l.length c, .int .i64 node] w (NewA w (l.filter fun x => x.f == node)) := by
  have HA := Lib.hid h
  clear h
  go_enter Try.func53, Try.ntmps53
  go_wp2
  go_loopg [5, 10] l.length (fun gk s i wr => ∃ (k : Nat) (A5 : Option Addr) (c5 : Nat) (xs : List HArc), k + gk = l.length ∧ i = .int .i64 k ∧ s = .slice A5 xs.length c5 ∧ Hid (xs = (l.take k).filter fun x => x.f == node) ∧ xs.length ≤ k ∧
    wr.ownsRow w.heap.size 63 4 (.slice A5 xs.length c5) xs.length (arcsF xs) ∧ Upd No w wr)
  case atStart => exact ⟨0, none, 0, [], by omega, rfl, rfl, Lib.hid (by simp), by simp, World.ownsRow_nil _ _ _ _, Upd.refl _ _⟩
  case round =>
    obtain ⟨k, A5, c5, xs, hgk, rfl, rfl, hxs, hxl, hown, hu⟩ := hrel
    by_cases hlt : k < l.length
    · obtain ⟨ax, rfl, q0, q1, q2, q3⟩ := (HA.out.upd hu (fun _ _ => id)).at_ hlt
      obtain ⟨x, hx⟩ : ∃ x, l[k] = x := ⟨_, rfl⟩
      rw [hx] at q0 q1 q2 q3
      have X := Lib.hid hx
      clear hx
      have b1 : (0 : Int) ≤ (k : Int) := Int.natCast_nonneg _
      have b2 : (k : Int) < (l.length : Int) := by omega
      have uA := (Upd.refl No wr).alloc (.cells #[.int .i64 x.f, .int .i64 x.t, .int .i64 x.kind, .int .i64 x.label] 63)
      have bo := Blk.new wr 63 [.int .i64 x.f, .int .i64 x.t, .int .i64 x.kind, .int .i64 x.label]
      have hown1 := own_upd hown uA (fun _ _ => id)
      have g0 := bo.cell 0
      have g1 := bo.cell 1
      have g2 := bo.cell 2
      have g3 := bo.cell 3
      simp only [List.getElem?_cons_zero, List.getElem?_cons_succ] at g0 g1 g2 g3
      have hz1 := uA.size
      have hz0 := hu.size
      have Hu1 := Lib.hid (hu.trans uA)
      have HL := Lib.hid (arcsF_len xs)
      clear uA
      cases hr : (x.f == node)
      · have HS := Lib.hid (filt_no (p := fun x => x.f == node) hlt X.out hr)
        go_wp2
        go_roundg (gk - 1)
        case measure => omega
        case rel => exact ⟨k + 1, A5, c5, xs, by omega, by go_num, rfl, Lib.hid (by rw [HS.out, hxs.out]), by omega, hown1, Hu1.out⟩
      · have HS := Lib.hid (filt_yes (p := fun x => x.f == node) hlt X.out hr)
        go_wp2_with (at_builtin; refine app1s rfl rfl slt_arc (base := w.heap.size) (n := xs.length) (xs := arcsF xs) (v := .slice A5 xs.length c5) (cells := [.int .i64 x.f, .int .i64 x.t, .int .i64 x.kind, .int .i64 x.label]) (c := 1) (by rfl) (by show Value.slice (some ⟨wr.heap.size + 1, 0, none⟩) 1 1 = _; simp) hown1 rfl rfl (by omega) (by omega) (by omega) ?_; intro g' c' w2 hown3 hu3 hg3 hlt3)
        go_roundg (gk - 1)
        case measure => omega
        case rel =>
          refine ⟨k + 1, some ⟨g', 0, none⟩, c', xs ++ [x], by omega, by go_num, by simp, Lib.hid (by rw [HS.out, hxs.out]), by simp; omega, by simpa [arcsF, HArc.cells] using hown3, Hu1.out.then_ hu3 fun i e => ?_⟩
          exact .inr (hown1.lt i e).1
    · obtain rfl : k = l.length := by omega
      have Hx := Lib.hid (show (l.filter fun x => x.f == node) = xs by rw [hxs.out, List.take_length])
      clear hxs
      go_wp2
      go_ret
      rw [Hx.out]
      exact ⟨A5, c5, rfl, hown, hu⟩
end Go.Proofs.Ytmnhgdedkniafaa

/- The document's digraph: an arc left out. -/
namespace Go.Proofs.Ytmnhgdedkniafaa
set_option linter.unusedVariables false
open Go.RowKit
set_option maxRecDepth 100000 in
set_option maxHeartbeats 1000000 in
theorem radrop (F : Nat → Prop) (w : World) (A : Option Addr) (c : Nat) (l : List HArc) (a : HArc) (h : ArcsL F w A l) (hl : l.length ≤ 1000000) :
    Calls Try.prog 44 #[.slice A l.length c, .agg a.cells.toArray] w (NewA w (l.filter fun x => x != a)) := by
  have qN := arc_neq
  have qG : ∀ (op : BinOp) (x y : Operand) (xs ys : Array Value) (w : World), (eqGuard op 63 x y (.agg xs) (.agg ys)).run Try.prog w = .ok () w := fun op x y xs ys w => run_eqGuard_agg w op _ x y xs ys (by kernel_rfl)
  have HA := Lib.hid h
  have UB := Lib.hid ((Upd.refl No w).alloc (.cells #[.int .i64 a.f, .int .i64 a.t, .int .i64 a.kind, .int .i64 a.label] 63))
  have bB := Lib.hid (Blk.new w 63 [.int .i64 a.f, .int .i64 a.t, .int .i64 a.kind, .int .i64 a.label])
  unfold HArc.cells
  clear h
  go_enter Try.func44, Try.ntmps44
  go_wp2
  go_loopg [5, 10] l.length (fun gk s i wr => ∃ (k : Nat) (A5 : Option Addr) (c5 : Nat) (xs : List HArc), k + gk = l.length ∧ i = .int .i64 k ∧ s = .slice A5 xs.length c5 ∧ Hid (xs = (l.take k).filter fun x => x != a) ∧ xs.length ≤ k ∧
    wr.ownsRow (w.heap.size + 1) 63 4 (.slice A5 xs.length c5) xs.length (arcsF xs) ∧ Upd No w wr ∧ Blk wr w.heap.size 63 [.int .i64 a.f, .int .i64 a.t, .int .i64 a.kind, .int .i64 a.label])
  case atStart => exact ⟨0, none, 0, [], by omega, rfl, rfl, Lib.hid (by simp), by simp, World.ownsRow_nil _ _ _ _, UB.out, bB.out⟩
  case round =>
    obtain ⟨k, A5, c5, xs, hgk, rfl, rfl, hxs, hxl, hown, hu, hbl⟩ := hrel
    by_cases hlt : k < l.length
    · obtain ⟨ax, rfl, q0, q1, q2, q3⟩ := (HA.out.upd hu (fun _ _ => id)).at_ hlt
      obtain ⟨x, hx⟩ : ∃ x, l[k] = x := ⟨_, rfl⟩
      rw [hx] at q0 q1 q2 q3
      have X := Lib.hid hx
      clear hx
      have b1 : (0 : Int) ≤ (k : Int) := Int.natCast_nonneg _
      have b2 : (k : Int) < (l.length : Int) := by omega
      have uA := (Upd.refl No wr).alloc (.cells #[.int .i64 x.f, .int .i64 x.t, .int .i64 x.kind, .int .i64 x.label] 63)
      have bo := Blk.new wr 63 [.int .i64 x.f, .int .i64 x.t, .int .i64 x.kind, .int .i64 x.label]
      have hown1 := own_upd hown uA (fun _ _ => id)
      have g0 := bo.cell 0
      have g1 := bo.cell 1
      have g2 := bo.cell 2
      have g3 := bo.cell 3
      simp only [List.getElem?_cons_zero, List.getElem?_cons_succ] at g0 g1 g2 g3
      have hbA := hbl.alloc (.cells #[.int .i64 x.f, .int .i64 x.t, .int .i64 x.kind, .int .i64 x.label] 63)
      have d0 := hbA.cell 0
      have d1 := hbA.cell 1
      have d2 := hbA.cell 2
      have d3 := hbA.cell 3
      simp only [List.getElem?_cons_zero, List.getElem?_cons_succ] at d0 d1 d2 d3
      have hz1 := uA.size
      have hz0 := hbl.lt
      have hNB := Lib.hid (show ¬ Own (.slice A5 xs.length c5) w.heap.size from fun e => by have := (hown1.lt _ e).1; omega)
      have Hu1 := Lib.hid (hu.trans uA)
      have HL := Lib.hid (arcsF_len xs)
      clear uA
      cases hr : (x != a)
      · have HS := Lib.hid (filt_no (p := fun x => x != a) hlt X.out hr)
        go_wp2
        go_roundg (gk - 1)
        case measure => omega
        case rel => exact ⟨k + 1, A5, c5, xs, by omega, by go_num, rfl, Lib.hid (by rw [HS.out, hxs.out]), by omega, hown1, Hu1.out, hbA⟩
      · have HS := Lib.hid (filt_yes (p := fun x => x != a) hlt X.out hr)
        go_wp2_with (at_builtin; refine app1s rfl rfl slt_arc (base := w.heap.size + 1) (n := xs.length) (xs := arcsF xs) (v := .slice A5 xs.length c5) (cells := [.int .i64 x.f, .int .i64 x.t, .int .i64 x.kind, .int .i64 x.label]) (c := 1) (by rfl) (by show Value.slice (some ⟨wr.heap.size + 1, 0, none⟩) 1 1 = _; simp) hown1 rfl rfl (by omega) (by omega) (by omega) ?_; intro g' c' w2 hown3 hu3 hg3 hlt3)
        go_roundg (gk - 1)
        case measure => omega
        case rel =>
          refine ⟨k + 1, some ⟨g', 0, none⟩, c', xs ++ [x], by omega, by go_num, by simp, Lib.hid (by rw [HS.out, hxs.out]), by simp; omega, by simpa [arcsF, HArc.cells] using hown3, Hu1.out.then_ hu3 fun i e => ?_, hbA.upd hu3 fun e => ?_⟩
          · exact .inr (by have := (hown1.lt i e).1; omega)
          · exact hNB.out e
    · obtain rfl : k = l.length := by omega
      have Hx := Lib.hid (show (l.filter fun x => x != a) = xs by rw [hxs.out, List.take_length])
      clear hxs
      go_wp2
      go_ret
      rw [Hx.out]
      exact ⟨A5, c5, rfl, own_base hown (by omega), hu⟩
end Go.Proofs.Ytmnhgdedkniafaa

/- The document's digraph: the arcs of a mask. -/
namespace Go.Proofs.Ytmnhgdedkniafaa
set_option linter.unusedVariables false
open Go.RowKit
set_option maxRecDepth 100000 in
set_option maxHeartbeats 1000000 in
theorem raof (F : Nat → Prop) (w : World) (A : Option Addr) (c : Nat) (l : List HArc) (mask : Int) (h : ArcsL F w A l) (hkd : ∀ x ∈ l, 1 ≤ x.kind ∧ x.kind ≤ 3) (hl : l.length ≤ 1000000) :
    Calls Try.prog 46 #[.slice A l.length c, .int .i64 mask] w (NewA w (l.filter fun x => bitM mask x.kind)) := by
  have HA := Lib.hid h
  clear h
  go_enter Try.func46, Try.ntmps46
  go_wp2
  go_loopg [5, 10] l.length (fun gk s i wr => ∃ (k : Nat) (A5 : Option Addr) (c5 : Nat) (xs : List HArc), k + gk = l.length ∧ i = .int .i64 k ∧ s = .slice A5 xs.length c5 ∧ Hid (xs = (l.take k).filter fun x => bitM mask x.kind) ∧ xs.length ≤ k ∧
    wr.ownsRow w.heap.size 63 4 (.slice A5 xs.length c5) xs.length (arcsF xs) ∧ Upd No w wr)
  case atStart => exact ⟨0, none, 0, [], by omega, rfl, rfl, Lib.hid (by simp), by simp, World.ownsRow_nil _ _ _ _, Upd.refl _ _⟩
  case round =>
    obtain ⟨k, A5, c5, xs, hgk, rfl, rfl, hxs, hxl, hown, hu⟩ := hrel
    by_cases hlt : k < l.length
    · obtain ⟨ax, rfl, q0, q1, q2, q3⟩ := (HA.out.upd hu (fun _ _ => id)).at_ hlt
      obtain ⟨x, hx⟩ : ∃ x, l[k] = x := ⟨_, rfl⟩
      obtain ⟨hk1, hk2⟩ := hkd _ (List.getElem_mem hlt)
      rw [hx] at q0 q1 q2 q3 hk1 hk2
      have X := Lib.hid hx
      clear hx
      have b1 : (0 : Int) ≤ (k : Int) := Int.natCast_nonneg _
      have b2 : (k : Int) < (l.length : Int) := by omega
      have uA := (Upd.refl No wr).alloc (.cells #[.int .i64 x.f, .int .i64 x.t, .int .i64 x.kind, .int .i64 x.label] 63)
      have bo := Blk.new wr 63 [.int .i64 x.f, .int .i64 x.t, .int .i64 x.kind, .int .i64 x.label]
      have hown1 := own_upd hown uA (fun _ _ => id)
      have g0 := bo.cell 2
      simp only [List.getElem?_cons_zero, List.getElem?_cons_succ] at g0
      have hof := Lib.hid (fun W => rbit W mask x.kind hk1 hk2)
      cases hr : bitM mask x.kind
      · rw [hr] at hof
        have HS := Lib.hid (filt_no (p := fun x => bitM mask x.kind) hlt X.out hr)
        clear hr
        go_wp2_with fail
        refine (hof.out _).mono ?_
        rintro e w1 ⟨rfl, hu1⟩
        have Hu1 := Lib.hid ((hu.trans uA).trans hu1)
        have hown2 := own_upd hown1 hu1 (fun _ _ => id)
        clear hown1 uA hu1
        go_wp2
        go_roundg (gk - 1)
        case measure => omega
        case rel => exact ⟨k + 1, A5, c5, xs, by omega, by go_num, rfl, Lib.hid (by rw [HS.out, hxs.out]), by omega, hown2, Hu1.out⟩
      · rw [hr] at hof
        have HS := Lib.hid (filt_yes (p := fun x => bitM mask x.kind) hlt X.out hr)
        clear hr
        go_wp2_with fail
        refine (hof.out _).mono ?_
        rintro e w1 ⟨rfl, hu1⟩
        have bo1 := bo.upd hu1 id
        have g1 := bo1.cell 0
        have g2 := bo1.cell 1
        have g3 := bo1.cell 2
        have g4 := bo1.cell 3
        simp only [List.getElem?_cons_zero, List.getElem?_cons_succ] at g1 g2 g3 g4
        have hown2 := own_upd hown1 hu1 (fun _ _ => id)
        have hz1 := (uA.trans hu1).size
        have hz0 := hu.size
        have Hu1 := Lib.hid ((hu.trans uA).trans hu1)
        have HL := Lib.hid (arcsF_len xs)
        clear hown1 uA hu1 bo1
        go_wp2_with (at_builtin; refine app1s rfl rfl slt_arc (v := .slice A5 xs.length c5) (cells := [.int .i64 x.f, .int .i64 x.t, .int .i64 x.kind, .int .i64 x.label]) (by rfl) rfl hown2 rfl rfl (by omega) (by omega) (by omega) ?_; intro g' c' w2 hown3 hu3 hg3 hlt3)
        go_roundg (gk - 1)
        case measure => omega
        case rel =>
          refine ⟨k + 1, some ⟨g', 0, none⟩, c', xs ++ [x], by omega, by go_num, by simp, Lib.hid (by rw [HS.out, hxs.out]), by simp; omega, by simpa [arcsF, HArc.cells] using hown3, Hu1.out.then_ hu3 fun i e => ?_⟩
          exact .inr (hown2.lt i e).1
    · obtain rfl : k = l.length := by omega
      have Hx := Lib.hid (show (l.filter fun x => bitM mask x.kind) = xs by rw [hxs.out, List.take_length])
      clear hxs
      go_wp2
      go_ret
      rw [Hx.out]
      exact ⟨A5, c5, rfl, hown, hu⟩
end Go.Proofs.Ytmnhgdedkniafaa

/- The document's digraph: the order of arcs; how many nodes there may be. -/
namespace Go.Proofs.Ytmnhgdedkniafaa
set_option linter.unusedVariables false
open Go.RowKit
def lessA (a b : HArc) : Bool := if a.f = b.f then (if a.kind = b.kind then (if a.label = b.label then decide (a.t < b.t) else decide (a.label < b.label)) else decide (a.kind < b.kind)) else decide (a.f < b.f)
theorem raless (w : World) (a b : HArc) : Calls Try.prog 99 #[.agg a.cells.toArray, .agg b.cells.toArray] w fun e w' => e = .returned (.bool (lessA a b)) ∧ Upd No w w' := by
  obtain ⟨af, at', ak, al⟩ := a
  obtain ⟨bf, bt, bk, bl⟩ := b
  have U0 := Lib.hid (((Upd.refl No w).alloc (.cells (HArc.cells ⟨af, at', ak, al⟩).toArray 63)).alloc (.cells (HArc.cells ⟨bf, bt, bk, bl⟩).toArray 63))
  unfold HArc.cells at *
  by_cases h1 : af = bf
  · subst h1
    by_cases h2 : ak = bk
    · subst h2
      by_cases h3 : al = bl
      · subst h3
        have HV := Lib.hid (show lessA ⟨af, at', ak, al⟩ ⟨af, bt, ak, al⟩ = decide (at' < bt) by simp [lessA])
        go_enter Try.func99, Try.ntmps99
        go_wp2
        go_ret
        exact ⟨by rw [HV.out]; rfl, U0.out⟩
      · have HV := Lib.hid (show lessA ⟨af, at', ak, al⟩ ⟨af, bt, ak, bl⟩ = decide (al < bl) by simp [lessA, h3])
        go_enter Try.func99, Try.ntmps99
        go_wp2
        go_ret
        exact ⟨by rw [HV.out]; rfl, U0.out⟩
    · have HV := Lib.hid (show lessA ⟨af, at', ak, al⟩ ⟨af, bt, bk, bl⟩ = decide (ak < bk) by simp [lessA, h2])
      go_enter Try.func99, Try.ntmps99
      go_wp2
      go_ret
      exact ⟨by rw [HV.out]; rfl, U0.out⟩
  · have HV := Lib.hid (show lessA ⟨af, at', ak, al⟩ ⟨bf, bt, bk, bl⟩ = decide (af < bf) by simp [lessA, h1])
    go_enter Try.func99, Try.ntmps99
    go_wp2
    go_ret
    exact ⟨by rw [HV.out]; rfl, U0.out⟩
theorem rroom (w : World) (n : Int) : Calls Try.prog 39 #[.int .i64 n] w fun e w' => e = .returned (.int .i64 (roomN n : Int)) ∧ w = w' := by
  by_cases h1 : n < 0
  · have hv := Lib.hid (show (roomN n : Int) = 0 by unfold roomN; omega)
    go_enter Try.func39, Try.ntmps39
    go_wp2
    go_ret
    exact ⟨by rw [hv.out]; rfl, rfl⟩
  · by_cases h2 : 4096 < n
    · have hv := Lib.hid (show (roomN n : Int) = 4096 by unfold roomN; omega)
      go_enter Try.func39, Try.ntmps39
      go_wp2
      go_ret
      exact ⟨by rw [hv.out]; rfl, rfl⟩
    · have hv := Lib.hid (show (roomN n : Int) = n by unfold roomN; omega)
      go_enter Try.func39, Try.ntmps39
      go_wp2
      go_ret
      exact ⟨by rw [hv.out]; rfl, rfl⟩
end Go.Proofs.Ytmnhgdedkniafaa

/- A nil digraph. -/
namespace Go.Proofs.Ytmnhgdedkniafaa
set_option linter.unusedVariables false
open Go.RowKit
theorem dnodes0 (w : World) : Calls Try.prog 47 #[.pointer none] w fun e w' => e = .returned (.int .i64 0) ∧ w = w' := by
  go_enter Try.func47, Try.ntmps47
  go_wp2
  go_ret
  exact ⟨rfl, rfl⟩
theorem dnode0 (w : World) (i : Int) : Calls Try.prog 107 #[.pointer none, .int .i64 i] w fun e w' => e = .returned (.bool false) ∧ w = w' := by
  have HN := Lib.hid (dnodes0 w)
  by_cases h0 : 0 ≤ i
  · have hb : decide (i < 0) = false := decide_eq_false (by omega)
    go_enter Try.func107, Try.ntmps107
    go_wp2_with fail
    refine (HN.out).mono ?_
    rintro e w1 ⟨rfl, rfl⟩
    go_wp2
    go_ret
    exact ⟨by simp [hb], rfl⟩
  · have hb : decide (0 ≤ i) = false := decide_eq_false h0
    clear h0
    go_enter Try.func107, Try.ntmps107
    go_wp2
    go_ret
    exact ⟨rfl, rfl⟩
theorem dnext0 (w : World) (i mask : Int) : Calls Try.prog 54 #[.pointer none, .int .i64 i, .int .i64 mask] w (NewI w []) := by
  have HN := Lib.hid (dnode0 w i)
  go_enter Try.func54, Try.ntmps54
  go_wp2_with fail
  refine (HN.out).mono ?_
  rintro e w1 ⟨rfl, rfl⟩
  go_wp2
  go_ret
  exact newI_nil _ _ (Upd.refl _ _)
theorem dright0 (w : World) (a : HArc) : Calls Try.prog 100 #[.pointer none, .agg a.cells.toArray] w fun e w' => e = .returned (.bool false) ∧ Upd No w w' := by
  have HN := Lib.hid (fun W => dnode0 W a.f)
  have U0 := Lib.hid ((Upd.refl No w).alloc (.cells a.cells.toArray 63))
  unfold HArc.cells at *
  go_enter Try.func100, Try.ntmps100
  go_wp2_with fail
  refine (HN.out _).mono ?_
  rintro e w1 ⟨rfl, rfl⟩
  go_wp2
  go_ret
  exact ⟨rfl, U0.out⟩
theorem dhas0 (w : World) (a : HArc) : Calls Try.prog 49 #[.pointer none, .agg a.cells.toArray] w fun e w' => e = .returned (.bool false) ∧ Upd No w w' := by
  have HN := Lib.hid (fun W => dright0 W a)
  have U0 := Lib.hid ((Upd.refl No w).alloc (.cells a.cells.toArray 63))
  unfold HArc.cells at *
  go_enter Try.func49, Try.ntmps49
  go_wp2_with fail
  refine (HN.out _).mono ?_
  rintro e w1 ⟨rfl, hu⟩
  have HU := Lib.hid (U0.out.trans hu)
  clear hu
  go_wp2
  go_ret
  exact ⟨rfl, HU.out⟩
theorem dadd0 (w : World) (a : HArc) : Calls Try.prog 43 #[.pointer none, .agg a.cells.toArray] w fun e w' => e = .returned (.int .i64 1) ∧ Upd No w w' := by
  have HN := Lib.hid (fun W => dright0 W a)
  have U0 := Lib.hid ((Upd.refl No w).alloc (.cells a.cells.toArray 63))
  unfold HArc.cells at *
  go_enter Try.func43, Try.ntmps43
  go_wp2_with fail
  refine (HN.out _).mono ?_
  rintro e w1 ⟨rfl, hu⟩
  have HU := Lib.hid (U0.out.trans hu)
  clear hu
  go_wp2
  go_ret
  exact ⟨rfl, HU.out⟩
theorem ddrop0 (w : World) (a : HArc) : Calls Try.prog 45 #[.pointer none, .agg a.cells.toArray] w fun e w' => e = .returned (.int .i64 3) ∧ Upd No w w' := by
  have HN := Lib.hid (fun W => dhas0 W a)
  have U0 := Lib.hid ((Upd.refl No w).alloc (.cells a.cells.toArray 63))
  unfold HArc.cells at *
  go_enter Try.func45, Try.ntmps45
  go_wp2_with fail
  refine (HN.out _).mono ?_
  rintro e w1 ⟨rfl, hu⟩
  have HU := Lib.hid (U0.out.trans hu)
  clear hu
  go_wp2
  go_ret
  exact ⟨rfl, HU.out⟩
end Go.Proofs.Ytmnhgdedkniafaa
