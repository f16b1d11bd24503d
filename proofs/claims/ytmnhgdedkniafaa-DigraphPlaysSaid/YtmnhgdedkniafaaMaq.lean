/- The document's digraph: an arc put among others. -/
import Derived.Test.YtmnhgdedkniafaaProg
import Derived.Test.YtmnhgdedkniafaaMap
namespace Go.Proofs.Ytmnhgdedkniafaa
set_option linter.unusedVariables false
open Go.RowKit
set_option maxRecDepth 100000 in
set_option maxHeartbeats 2000000 in
theorem raput (F : Nat → Prop) (w : World) (A : Option Addr) (c : Nat) (l : List HArc) (a : HArc) (h : ArcsL F w A l) (hl : l.length ≤ 1000000) :
    Calls Try.prog 42 #[.slice A l.length c, .agg a.cells.toArray] w (NewA w (putAT a false [] l)) := by
  have qN := arc_neq
  have qG : ∀ (op : BinOp) (x y : Operand) (xs ys : Array Value) (w : World), (eqGuard op 63 x y (.agg xs) (.agg ys)).run Try.prog w = .ok () w := fun op x y xs ys w => run_eqGuard_agg w op _ x y xs ys (by kernel_rfl)
  have HA := Lib.hid h
  have UB := Lib.hid ((Upd.refl No w).alloc (.cells #[.int .i64 a.f, .int .i64 a.t, .int .i64 a.kind, .int .i64 a.label] 63))
  have bB := Lib.hid (Blk.new w 63 [.int .i64 a.f, .int .i64 a.t, .int .i64 a.kind, .int .i64 a.label])
  unfold HArc.cells
  clear h
  go_enter Try.func42, Try.ntmps42
  go_wp2
  go_loopg [5, 6, 11] l.length (fun gk s d i wr => ∃ (k : Nat) (b : Bool) (A5 : Option Addr) (c5 : Nat) (xs : List HArc), k + gk = l.length ∧ i = .int .i64 k ∧ d = .bool b ∧ s = .slice A5 xs.length c5 ∧ Hid (putAT a b xs (l.drop k) = putAT a false [] l) ∧ xs.length ≤ 2 * k ∧
    wr.ownsRow (w.heap.size + 1) 63 4 (.slice A5 xs.length c5) xs.length (arcsF xs) ∧ Upd No w wr ∧ Blk wr w.heap.size 63 [.int .i64 a.f, .int .i64 a.t, .int .i64 a.kind, .int .i64 a.label])
  case atStart => exact ⟨0, false, none, 0, [], by omega, rfl, rfl, rfl, Lib.hid rfl, by simp, World.ownsRow_nil _ _ _ _, UB.out, bB.out⟩
  case round =>
    obtain ⟨k, b, A5, c5, xs, hgk, rfl, rfl, rfl, hs, hxl, hown, hu, hbl⟩ := hrel
    by_cases hlt : k < l.length
    · obtain ⟨ax, rfl, q0, q1, q2, q3⟩ := (HA.out.upd hu (fun _ _ => id)).at_ hlt
      obtain ⟨x, hx⟩ : ∃ x, l[k] = x := ⟨_, rfl⟩
      rw [hx] at q0 q1 q2 q3
      have hst := hs.out
      rw [show l.drop k = x :: l.drop (k + 1) by rw [← hx]; exact List.drop_eq_getElem_cons hlt] at hst
      have hst : putAT a (b || !lessA x a) ((if !b && !lessA x a then xs ++ [a] else xs) ++ (if x = a then [] else [x])) (l.drop (k + 1)) = putAT a false [] l := hst
      clear hx
      have b1 : (0 : Int) ≤ (k : Int) := Int.natCast_nonneg _
      have b2 : (k : Int) < (l.length : Int) := by omega
      have uA := (Upd.refl No wr).alloc (.cells #[.int .i64 x.f, .int .i64 x.t, .int .i64 x.kind, .int .i64 x.label] 63)
      have bo := Blk.new wr 63 [.int .i64 x.f, .int .i64 x.t, .int .i64 x.kind, .int .i64 x.label]
      have hown1 := own_upd hown uA (fun _ _ => id)
      have hbA := hbl.alloc (.cells #[.int .i64 x.f, .int .i64 x.t, .int .i64 x.kind, .int .i64 x.label] 63)
      have hz0 := hbl.lt
      have hzz := hu.size
      have HNB := Lib.hid (show ¬ Own (.slice A5 xs.length c5) w.heap.size from fun e => by have := (hown1.lt _ e).1; omega)
      have HNX := Lib.hid (show ¬ Own (.slice A5 xs.length c5) wr.heap.size from fun e => by have := (hown.lt _ e).2; omega)
      have HL := Lib.hid (arcsF_len xs)
      have HGE := Lib.hid (fun i e => (hown.lt i e).1)
      have Hu1 := Lib.hid (hu.trans uA)
      have HR := Lib.hid (fun W => raless W x a)
      have g0 := bo.cell 0
      have g1 := bo.cell 1
      have g2 := bo.cell 2
      have g3 := bo.cell 3
      have d0 := hbA.cell 0
      have d1 := hbA.cell 1
      have d2 := hbA.cell 2
      have d3 := hbA.cell 3
      simp only [List.getElem?_cons_zero, List.getElem?_cons_succ] at g0 g1 g2 g3 d0 d1 d2 d3
      have BX := Lib.hid bo
      have BA := Lib.hid hbA
      clear uA bo hbA
      cases b
      · cases hr : lessA x a
        · rw [hr] at hst HR
          simp only [Bool.not_false, Bool.true_and, if_true, Bool.false_or] at hst
          unfold HArc.cells at HR
          go_wp2_with fail
          refine (HR.out _).mono ?_
          rintro e w1 ⟨rfl, hu1⟩
          have bX1 := BX.out.upd hu1 id
          have bA1 := BA.out.upd hu1 id
          have f0 := bA1.cell 0
          have f1 := bA1.cell 1
          have f2 := bA1.cell 2
          have f3 := bA1.cell 3
          simp only [List.getElem?_cons_zero, List.getElem?_cons_succ] at f0 f1 f2 f3
          have hown2 := own_upd hown1 hu1 (fun _ _ => id)
          have hz1 := hu1.size
          simp only [World.size_alloc] at hz1
          have HU2 := Lib.hid (Hu1.out.trans hu1)
          have BX1 := Lib.hid bX1
          have BA1 := Lib.hid bA1
          clear bX1 bA1 hown1 hu1
          by_cases hxa : x = a
          · rw [if_pos hxa, List.append_nil] at hst
            have hb : (x != a) = false := by rw [hxa]; simp
            have HS := Lib.hid hst
            clear hst hxa
            go_wp2_with (at_builtin; refine app1s rfl rfl slt_arc (v := .slice A5 xs.length c5) (n := xs.length) (xs := arcsF xs) (cells := [.int .i64 a.f, .int .i64 a.t, .int .i64 a.kind, .int .i64 a.label]) (by rfl) rfl hown2 rfl rfl (by omega) (by omega) (by omega) ?_; intro g' c' w2 hown3 hu3 hg3 hlt3; have e0 := (BX1.out.upd hu3 HNX.out).cell 0; have e1 := (BX1.out.upd hu3 HNX.out).cell 1; have e2 := (BX1.out.upd hu3 HNX.out).cell 2; have e3 := (BX1.out.upd hu3 HNX.out).cell 3; have j0 := (BA1.out.upd hu3 HNB.out).cell 0; have j1 := (BA1.out.upd hu3 HNB.out).cell 1; have j2 := (BA1.out.upd hu3 HNB.out).cell 2; have j3 := (BA1.out.upd hu3 HNB.out).cell 3; simp only [List.getElem?_cons_zero, List.getElem?_cons_succ] at e0 e1 e2 e3 j0 j1 j2 j3)
            go_roundg (gk - 1)
            case measure => omega
            case rel =>
              exact ⟨k + 1, true, some ⟨g', 0, none⟩, c', xs ++ [a], by omega, by go_num, rfl, by simp, HS, by simp; omega, by simpa [arcsF, HArc.cells] using hown3, HU2.out.then_ hu3 fun i e => .inr (by have := HGE.out i e; omega), BA1.out.upd hu3 HNB.out⟩
          · rw [if_neg hxa] at hst
            have hb : (x != a) = true := by rw [bne_iff_ne]; exact hxa
            have HS := Lib.hid hst
            clear hst hxa
            go_wp2_with (at_builtin; (first
              | (refine app1s rfl rfl slt_arc (v := .slice A5 xs.length c5) (n := xs.length) (xs := arcsF xs) (cells := [.int .i64 a.f, .int .i64 a.t, .int .i64 a.kind, .int .i64 a.label]) (by rfl) rfl hown2 rfl rfl (by omega) (by omega) (by omega) ?_; intro g' c' w2 hown3 hu3 hg3 hlt3; have e0 := (BX1.out.upd hu3 HNX.out).cell 0; have e1 := (BX1.out.upd hu3 HNX.out).cell 1; have e2 := (BX1.out.upd hu3 HNX.out).cell 2; have e3 := (BX1.out.upd hu3 HNX.out).cell 3; have j0 := (BA1.out.upd hu3 HNB.out).cell 0; have j1 := (BA1.out.upd hu3 HNB.out).cell 1; have j2 := (BA1.out.upd hu3 HNB.out).cell 2; have j3 := (BA1.out.upd hu3 HNB.out).cell 3; simp only [List.getElem?_cons_zero, List.getElem?_cons_succ] at e0 e1 e2 e3 j0 j1 j2 j3; have hz2 := hu3.size; have HU3 := Lib.hid (HU2.out.then_ hu3 fun i e => .inr (by have := HGE.out i e; omega)); have BA2 := Lib.hid (BA1.out.upd hu3 HNB.out); have HGE2 := Lib.hid (fun i e => (hown3.lt i e).1); have HNB2 := Lib.hid (show ¬ Own (.slice (some ⟨g', 0, none⟩) (xs.length + 1) c') w.heap.size from fun e => by have := HGE2.out _ e; omega); clear hg3 hu3)
              | (refine app1s rfl rfl slt_arc (v := .slice (some ⟨g', 0, none⟩) (xs.length + 1) c') (n := xs.length + 1) (xs := arcsF xs ++ [.int .i64 a.f, .int .i64 a.t, .int .i64 a.kind, .int .i64 a.label]) (cells := [.int .i64 x.f, .int .i64 x.t, .int .i64 x.kind, .int .i64 x.label]) (by rfl) rfl hown3 rfl rfl (by omega) (by omega) (by omega) ?_; intro g5 c6 w3 hown5 hu5 hg5 hlt5)))
            go_roundg (gk - 1)
            case measure => omega
            case rel =>
              exact ⟨k + 1, true, some ⟨g5, 0, none⟩, c6, xs ++ [a] ++ [x], by omega, by go_num, rfl, by simp, HS, by simp; omega, by simpa [arcsF, HArc.cells] using hown5, HU3.out.then_ hu5 fun i e => .inr (by have := HGE2.out i e; omega), BA2.out.upd hu5 HNB2.out⟩
        · have hxa : ¬ x = a := fun e => lessA_irr a (e ▸ hr)
          rw [hr, if_neg hxa] at hst
          rw [hr] at HR
          simp only [Bool.not_false, Bool.not_true, Bool.and_false, Bool.or_false] at hst
          rw [if_neg (show ¬ (false = true) by decide)] at hst
          have hb : (x != a) = true := by rw [bne_iff_ne]; exact hxa
          have HS := Lib.hid hst
          clear hst hxa
          unfold HArc.cells at HR
          go_wp2_with fail
          refine (HR.out _).mono ?_
          rintro e w1 ⟨rfl, hu1⟩
          have bX1 := BX.out.upd hu1 id
          have bA1 := BA.out.upd hu1 id
          have f0 := bA1.cell 0
          have f1 := bA1.cell 1
          have f2 := bA1.cell 2
          have f3 := bA1.cell 3
          have e0 := bX1.cell 0
          have e1 := bX1.cell 1
          have e2 := bX1.cell 2
          have e3 := bX1.cell 3
          simp only [List.getElem?_cons_zero, List.getElem?_cons_succ] at e0 e1 e2 e3 f0 f1 f2 f3
          have hown2 := own_upd hown1 hu1 (fun _ _ => id)
          have hz1 := hu1.size
          simp only [World.size_alloc] at hz1
          have HU2 := Lib.hid (Hu1.out.trans hu1)
          have BA1 := Lib.hid bA1
          clear bX1 bA1 hown1 hu1
          go_wp2_with (at_builtin; refine app1s rfl rfl slt_arc (v := .slice A5 xs.length c5) (n := xs.length) (xs := arcsF xs) (cells := [.int .i64 x.f, .int .i64 x.t, .int .i64 x.kind, .int .i64 x.label]) (by rfl) rfl hown2 rfl rfl (by omega) (by omega) (by omega) ?_; intro g' c' w2 hown3 hu3 hg3 hlt3)
          go_roundg (gk - 1)
          case measure => omega
          case rel =>
            exact ⟨k + 1, false, some ⟨g', 0, none⟩, c', xs ++ [x], by omega, by go_num, rfl, by simp, HS, by simp; omega, by simpa [arcsF, HArc.cells] using hown3, HU2.out.then_ hu3 fun i e => .inr (by have := HGE.out i e; omega), BA1.out.upd hu3 HNB.out⟩
      · simp only [Bool.not_true, Bool.false_and, Bool.true_or] at hst
        rw [if_neg (show ¬ (false = true) by decide)] at hst
        by_cases hxa : x = a
        · rw [if_pos hxa, List.append_nil] at hst
          have hb : (x != a) = false := by rw [hxa]; simp
          have HS := Lib.hid hst
          clear hst hxa HR
          go_wp2
          go_roundg (gk - 1)
          case measure => omega
          case rel => exact ⟨k + 1, true, A5, c5, xs, by omega, by go_num, rfl, rfl, HS, by omega, hown1, Hu1.out, BA.out⟩
        · rw [if_neg hxa] at hst
          have hb : (x != a) = true := by rw [bne_iff_ne]; exact hxa
          have HS := Lib.hid hst
          clear hst hxa HR
          go_wp2_with (at_builtin; refine app1s rfl rfl slt_arc (base := w.heap.size + 1) (n := xs.length) (xs := arcsF xs) (v := .slice A5 xs.length c5) (cells := [.int .i64 x.f, .int .i64 x.t, .int .i64 x.kind, .int .i64 x.label]) (c := 1) (by rfl) (by show Value.slice (some ⟨wr.heap.size + 1, 0, none⟩) 1 1 = _; simp) hown1 rfl rfl (by omega) (by omega) (by simp; omega) ?_; intro g' c' w2 hown3 hu3 hg3 hlt3)
          go_roundg (gk - 1)
          case measure => omega
          case rel =>
            exact ⟨k + 1, true, some ⟨g', 0, none⟩, c', xs ++ [x], by omega, by go_num, rfl, by simp, HS, by simp; omega, by simpa [arcsF, HArc.cells] using hown3, Hu1.out.then_ hu3 fun i e => .inr (by have := HGE.out i e; omega), BA.out.upd hu3 HNB.out⟩
    · obtain rfl : k = l.length := by omega
      have hst := hs.out
      rw [List.drop_length] at hst
      have hz0 := hbl.lt
      have hzz := hu.size
      have HL := Lib.hid (arcsF_len xs)
      have HGE := Lib.hid (fun i e => (hown.lt i e).1)
      have d0 := hbl.cell 0
      have d1 := hbl.cell 1
      have d2 := hbl.cell 2
      have d3 := hbl.cell 3
      simp only [List.getElem?_cons_zero, List.getElem?_cons_succ] at d0 d1 d2 d3
      clear hbl
      cases b
      · have HS := Lib.hid (show xs ++ [a] = putAT a false [] l from hst)
        clear hst
        go_wp2_with (at_builtin; refine app1s rfl rfl slt_arc (v := .slice A5 xs.length c5) (n := xs.length) (xs := arcsF xs) (cells := [.int .i64 a.f, .int .i64 a.t, .int .i64 a.kind, .int .i64 a.label]) (by rfl) rfl hown rfl rfl (by omega) (by omega) (by omega) ?_; intro g' c' w2 hown3 hu3 hg3 hlt3)
        go_ret
        rw [← HS.out]
        refine ⟨some ⟨g', 0, none⟩, c', by simp, own_base (by simpa [arcsF, HArc.cells] using hown3) (by omega), hu.then_ hu3 fun i e => .inr (by have := HGE.out i e; omega)⟩
      · have HS := Lib.hid (show xs = putAT a false [] l from hst)
        clear hst
        go_wp2
        go_ret
        rw [← HS.out]
        exact ⟨A5, c5, rfl, own_base hown (by omega), hu⟩
theorem ranextF (F : Nat → Prop) (w : World) (A : Option Addr) (c : Nat) (l : List HArc) (node : Int) (h : ArcsL F w A l) (hl : l.length ≤ 1000000) :
    Calls Try.prog 55 #[.slice A l.length c, .int .i64 node, .bool false] w (NewI w (nxA node false l)) := by
  have HA := Lib.hid h
  clear h
  go_enter Try.func55, Try.ntmps55
  go_wp2
  go_loopg [7, 12] l.length (fun gk s i wr => ∃ (k : Nat) (A5 : Option Addr) (c5 : Nat) (xs : List Int), k + gk = l.length ∧ i = .int .i64 k ∧ s = .slice A5 xs.length c5 ∧ Hid (nxS node false xs (l.drop k) = nxA node false l) ∧ xs.length ≤ k ∧
    wr.ownsRow w.heap.size 3 1 (.slice A5 xs.length c5) xs.length (xs.map (Value.int .i64)) ∧ Upd No w wr)
  case atStart => exact ⟨0, none, 0, [], by omega, rfl, rfl, Lib.hid rfl, by simp, World.ownsRow_nil _ _ _ _, Upd.refl _ _⟩
  case round =>
    obtain ⟨k, A5, c5, xs, hgk, rfl, rfl, hs, hxl, hown, hu⟩ := hrel
    by_cases hlt : k < l.length
    · obtain ⟨ax, rfl, q0, q1, q2, q3⟩ := (HA.out.upd hu (fun _ _ => id)).at_ hlt
      obtain ⟨x, hx⟩ : ∃ x, l[k] = x := ⟨_, rfl⟩
      rw [hx] at q0 q1 q2 q3
      have hst := hs.out
      rw [show l.drop k = x :: l.drop (k + 1) by rw [← hx]; exact List.drop_eq_getElem_cons hlt] at hst
      have hst : nxS node false (if false = true then (if x.t = node then putL x.f xs else xs) else (if x.f = node then putL x.t xs else xs)) (l.drop (k + 1)) = nxA node false l := hst
      clear hx
      have b1 : (0 : Int) ≤ (k : Int) := Int.natCast_nonneg _
      have b2 : (k : Int) < (l.length : Int) := by omega
      have uA := (Upd.refl No wr).alloc (.cells #[.int .i64 x.f, .int .i64 x.t, .int .i64 x.kind, .int .i64 x.label] 63)
      have bo := Blk.new wr 63 [.int .i64 x.f, .int .i64 x.t, .int .i64 x.kind, .int .i64 x.label]
      have hown1 := own_upd hown uA (fun _ _ => id)
      have g0 := bo.cell 0
      have g1 := bo.cell 1
      simp only [List.getElem?_cons_zero, List.getElem?_cons_succ] at g0 g1
      have Hu1 := Lib.hid (hu.trans uA)
      have hzz := (hu.trans uA).size
      clear uA bo hown
      by_cases he : x.f = node
      · have heb : (x.f == node) = true := by rw [he]; simp
        rw [if_neg (by decide)] at hst
        rw [if_pos he] at hst
        have HS := Lib.hid hst
        have hp := Lib.hid (rPut _ _ A5 c5 xs x.t (Ints.of_own hown1) (by omega))
        have hpl := putL_len x.t xs
        clear hst he
        go_wp2_with fail
        refine (hp.out).mono ?_
        rintro e w2 ⟨A2, c2, rfl, ho2, hu2⟩
        go_wp2
        go_roundg (gk - 1)
        case measure => omega
        case rel => exact ⟨k + 1, A2, c2, putL x.t xs, by omega, by go_num, rfl, HS, by omega, own_base ho2 hzz, Hu1.out.trans hu2⟩
      · have heb : (x.f == node) = false := by simpa using he
        rw [if_neg (by decide)] at hst
        rw [if_neg he] at hst
        have HS := Lib.hid hst
        clear hst he
        go_wp2
        go_roundg (gk - 1)
        case measure => omega
        case rel => exact ⟨k + 1, A5, c5, xs, by omega, by go_num, rfl, HS, by omega, hown1, Hu1.out⟩
    · obtain rfl : k = l.length := by omega
      have Hx := Lib.hid (show xs = nxA node false l by have := hs.out; rw [List.drop_length] at this; exact this)
      clear hs
      go_wp2
      go_ret
      rw [← Hx.out]
      exact ⟨A5, c5, rfl, hown, hu⟩
theorem ranextB (F : Nat → Prop) (w : World) (A : Option Addr) (c : Nat) (l : List HArc) (node : Int) (h : ArcsL F w A l) (hl : l.length ≤ 1000000) :
    Calls Try.prog 55 #[.slice A l.length c, .int .i64 node, .bool true] w (NewI w (nxA node true l)) := by
  have HA := Lib.hid h
  clear h
  go_enter Try.func55, Try.ntmps55
  go_wp2
  go_loopg [7, 12] l.length (fun gk s i wr => ∃ (k : Nat) (A5 : Option Addr) (c5 : Nat) (xs : List Int), k + gk = l.length ∧ i = .int .i64 k ∧ s = .slice A5 xs.length c5 ∧ Hid (nxS node true xs (l.drop k) = nxA node true l) ∧ xs.length ≤ k ∧
    wr.ownsRow w.heap.size 3 1 (.slice A5 xs.length c5) xs.length (xs.map (Value.int .i64)) ∧ Upd No w wr)
  case atStart => exact ⟨0, none, 0, [], by omega, rfl, rfl, Lib.hid rfl, by simp, World.ownsRow_nil _ _ _ _, Upd.refl _ _⟩
  case round =>
    obtain ⟨k, A5, c5, xs, hgk, rfl, rfl, hs, hxl, hown, hu⟩ := hrel
    by_cases hlt : k < l.length
    · obtain ⟨ax, rfl, q0, q1, q2, q3⟩ := (HA.out.upd hu (fun _ _ => id)).at_ hlt
      obtain ⟨x, hx⟩ : ∃ x, l[k] = x := ⟨_, rfl⟩
      rw [hx] at q0 q1 q2 q3
      have hst := hs.out
      rw [show l.drop k = x :: l.drop (k + 1) by rw [← hx]; exact List.drop_eq_getElem_cons hlt] at hst
      have hst : nxS node true (if true = true then (if x.t = node then putL x.f xs else xs) else (if x.f = node then putL x.t xs else xs)) (l.drop (k + 1)) = nxA node true l := hst
      clear hx
      have b1 : (0 : Int) ≤ (k : Int) := Int.natCast_nonneg _
      have b2 : (k : Int) < (l.length : Int) := by omega
      have uA := (Upd.refl No wr).alloc (.cells #[.int .i64 x.f, .int .i64 x.t, .int .i64 x.kind, .int .i64 x.label] 63)
      have bo := Blk.new wr 63 [.int .i64 x.f, .int .i64 x.t, .int .i64 x.kind, .int .i64 x.label]
      have hown1 := own_upd hown uA (fun _ _ => id)
      have g0 := bo.cell 0
      have g1 := bo.cell 1
      simp only [List.getElem?_cons_zero, List.getElem?_cons_succ] at g0 g1
      have Hu1 := Lib.hid (hu.trans uA)
      have hzz := (hu.trans uA).size
      clear uA bo hown
      by_cases he : x.t = node
      · have heb : (x.t == node) = true := by rw [he]; simp
        rw [if_pos rfl] at hst
        rw [if_pos he] at hst
        have HS := Lib.hid hst
        have hp := Lib.hid (rPut _ _ A5 c5 xs x.f (Ints.of_own hown1) (by omega))
        have hpl := putL_len x.f xs
        clear hst he
        go_wp2_with fail
        refine (hp.out).mono ?_
        rintro e w2 ⟨A2, c2, rfl, ho2, hu2⟩
        go_wp2
        go_roundg (gk - 1)
        case measure => omega
        case rel => exact ⟨k + 1, A2, c2, putL x.f xs, by omega, by go_num, rfl, HS, by omega, own_base ho2 hzz, Hu1.out.trans hu2⟩
      · have heb : (x.t == node) = false := by simpa using he
        rw [if_pos rfl] at hst
        rw [if_neg he] at hst
        have HS := Lib.hid hst
        clear hst he
        go_wp2
        go_roundg (gk - 1)
        case measure => omega
        case rel => exact ⟨k + 1, A5, c5, xs, by omega, by go_num, rfl, HS, by omega, hown1, Hu1.out⟩
    · obtain rfl : k = l.length := by omega
      have Hx := Lib.hid (show xs = nxA node true l by have := hs.out; rw [List.drop_length] at this; exact this)
      clear hs
      go_wp2
      go_ret
      rw [← Hx.out]
      exact ⟨A5, c5, rfl, hown, hu⟩
theorem ranext (F : Nat → Prop) (w : World) (A : Option Addr) (c : Nat) (l : List HArc) (node : Int) (back : Bool) (h : ArcsL F w A l) (hl : l.length ≤ 1000000) :
    Calls Try.prog 55 #[.slice A l.length c, .int .i64 node, .bool back] w (NewI w (nxA node back l)) := by
  cases back
  · exact ranextF F w A c l node h hl
  · exact ranextB F w A c l node h hl
end Go.Proofs.Ytmnhgdedkniafaa

/- The document's digraph: whether an arc is right. -/
namespace Go.Proofs.Ytmnhgdedkniafaa
set_option linter.unusedVariables false
open Go.RowKit
theorem raright (w : World) (N : Nat) (a : HArc) : Calls Try.prog 41 #[.int .i64 (N : Int), .agg a.cells.toArray] w fun e w' => e = .returned (.bool (rightA N a)) ∧ Upd No w w' := by
  have U0 := Lib.hid ((Upd.refl No w).alloc (.cells a.cells.toArray 63))
  obtain ⟨af, at', ak, al⟩ := a
  unfold HArc.cells at *
  by_cases h1 : 0 ≤ af
  · skip
    by_cases h2 : af < (N : Int)
    · skip
      by_cases h3 : 0 ≤ at'
      · skip
        by_cases h4 : at' < (N : Int)
        · skip
          by_cases h5 : 1 ≤ ak
          · skip
            by_cases h6 : ak ≤ 3
            · skip
              by_cases h7 : 0 ≤ al
              · skip
                have HV := Lib.hid (show rightA N ⟨af, at', ak, al⟩ = decide (al ≤ 1048575) by simp [rightA, nodeB, h1, h2, h3, h4, h5, h6, h7])
                go_enter Try.func41, Try.ntmps41
                go_wp2
                go_ret
                exact ⟨by rw [HV.out]; rfl, U0.out⟩
              · have HV := Lib.hid (show rightA N ⟨af, at', ak, al⟩ = false by simp [rightA, nodeB, h7])
                go_enter Try.func41, Try.ntmps41
                go_wp2
                go_ret
                exact ⟨by rw [HV.out]; rfl, U0.out⟩
            · have HV := Lib.hid (show rightA N ⟨af, at', ak, al⟩ = false by simp [rightA, nodeB, h6])
              go_enter Try.func41, Try.ntmps41
              go_wp2
              go_ret
              exact ⟨by rw [HV.out]; rfl, U0.out⟩
          · have HV := Lib.hid (show rightA N ⟨af, at', ak, al⟩ = false by simp [rightA, nodeB, h5])
            go_enter Try.func41, Try.ntmps41
            go_wp2
            go_ret
            exact ⟨by rw [HV.out]; rfl, U0.out⟩
        · have HV := Lib.hid (show rightA N ⟨af, at', ak, al⟩ = false by simp [rightA, nodeB, h4])
          go_enter Try.func41, Try.ntmps41
          go_wp2
          go_ret
          exact ⟨by rw [HV.out]; rfl, U0.out⟩
      · have HV := Lib.hid (show rightA N ⟨af, at', ak, al⟩ = false by simp [rightA, nodeB, h3])
        go_enter Try.func41, Try.ntmps41
        go_wp2
        go_ret
        exact ⟨by rw [HV.out]; rfl, U0.out⟩
    · have HV := Lib.hid (show rightA N ⟨af, at', ak, al⟩ = false by simp [rightA, nodeB, h2])
      go_enter Try.func41, Try.ntmps41
      go_wp2
      go_ret
      exact ⟨by rw [HV.out]; rfl, U0.out⟩
  · have HV := Lib.hid (show rightA N ⟨af, at', ak, al⟩ = false by simp [rightA, nodeB, h1])
    go_enter Try.func41, Try.ntmps41
    go_wp2
    go_ret
    exact ⟨by rw [HV.out]; rfl, U0.out⟩
end Go.Proofs.Ytmnhgdedkniafaa

/- Whether a number is among some. -/
namespace Go.Proofs.Ytmnhgdedkniafaa
set_option linter.unusedVariables false
open Go.RowKit
end Go.Proofs.Ytmnhgdedkniafaa

/- When two lists of numbers are one, by the document. -/
namespace Go.Proofs.Ytmnhgdedkniafaa
set_option linter.unusedVariables false
open Go.RowKit
theorem samei (w : World) (F G : Nat → Prop) (A B : Option Addr) (c d : Nat) (xs ys : List Int) (hx : Ints F w A xs) (hy : Ints G w B ys) (hl : xs.length ≤ 1048576) (hl2 : ys.length ≤ 1048576) :
    Calls Try.prog 33 #[.slice A xs.length c, .slice B ys.length d] w fun e w' => e = .returned (.bool (xs == ys)) ∧ Upd No w w' := by
  by_cases hne : xs.length = ys.length
  · have hb : ((xs.length : Int) != (ys.length : Int)) = false := by rw [hne]; simp
    go_enter Try.func33, Try.ntmps33
    have Hne := Lib.hid hne
    clear hne
    go_wp2
    go_loopg [5, 13] xs.length (fun gk j i wr => ∃ k : Nat, k + gk = xs.length ∧ i = .int .i64 k ∧ xs.take k = ys.take k ∧ Upd No w wr)
    case atStart => exact ⟨0, by omega, rfl, by simp, Upd.refl _ _⟩
    case round =>
      obtain ⟨k, hgk, rfl, hs, hu⟩ := hrel
      have Hs := Lib.hid hs
      clear hs
      by_cases hlt : k < xs.length
      · have hlt2 : k < ys.length := by have := Hne.out; omega
        obtain ⟨ax, rfl, _, _, hcx⟩ := (hx.upd hu (fun _ _ => id)).at_ hlt
        obtain ⟨ay, rfl, _, _, hcy⟩ := (hy.upd hu (fun _ _ => id)).at_ hlt2
        have b1 : (0 : Int) ≤ (k : Int) := Int.natCast_nonneg _
        have b2 : (k : Int) < (xs.length : Int) := by omega
        have b3 : (k : Int) < (ys.length : Int) := by omega
        by_cases he : xs[k] = ys[k]
        · have heb : (xs[k] != ys[k]) = false := by rw [he]; simp
          have He := Lib.hid he
          clear he
          go_wp2
          go_quiet (fail)
          go_wp2
          go_roundg (gk - 1)
          case measure => omega
          case rel =>
            refine ⟨k + 1, by omega, by go_num, ?_, hu.drewN _⟩
            rw [List.take_succ_eq_append_getElem hlt, List.take_succ_eq_append_getElem hlt2, Hs.out, He.out]
        · have heb : (xs[k] != ys[k]) = true := by simpa using he
          have He := Lib.hid he
          clear he
          go_wp2
          go_quiet (fail)
          go_wp2
          go_ret
          have hne2 : (xs == ys) = false := by
            rw [beq_eq_false_iff_ne]
            rintro rfl
            exact He.out rfl
          exact ⟨by rw [hne2]; rfl, hu.drewN _⟩
      · obtain rfl : k = xs.length := by omega
        go_wp2
        go_ret
        have h2 := Hs.out
        rw [List.take_length, Hne.out, List.take_length] at h2
        exact ⟨by rw [h2, beq_self_eq_true]; rfl, hu⟩
  · have hb : ((xs.length : Int) != (ys.length : Int)) = true := by rw [bne_iff_ne]; omega
    have hf : (xs == ys) = false := by rw [beq_eq_false_iff_ne]; rintro rfl; exact hne rfl
    have Hf := Lib.hid hf
    clear hf
    go_enter Try.func33, Try.ntmps33
    go_wp2
    go_ret
    exact ⟨by rw [Hf.out]; rfl, Upd.refl _ _⟩
end Go.Proofs.Ytmnhgdedkniafaa

/- Digraphs: the law of both sides. -/
namespace Go.Proofs.Ytmnhgdedkniafaa
set_option linter.unusedVariables false
open Go.RowKit
/-- a digraph that was made in the call -/
def DMa (w : World) (g N K : Nat) (q : List HArc) (W : World) : Prop :=
  ∃ G, DG W G (some ⟨g, 0, none⟩) N K q ∧ Upd No w W ∧ ∀ k, G k → w.heap.size ≤ k
namespace DMa
variable {w W W' : World} {g N K : Nat} {q : List HArc}
theorem no (h : DMa w g N K q W) (k : Upd No W W') : DMa w g N K q W' := by
  obtain ⟨G, h1, h2, h3⟩ := h
  exact ⟨G, h1.no k, h2.trans k, h3⟩
theorem upd (h : DMa w g N K q W) : Upd No w W := by
  obtain ⟨G, h1, h2, h3⟩ := h
  exact h2
theorem is (h : DMa w g N K q W) : ∃ G, DG W G (some ⟨g, 0, none⟩) N K q := by
  obtain ⟨G, h1, h2, h3⟩ := h
  exact ⟨G, h1⟩
end DMa
theorem nx_nodup (node : Int) (back : Bool) (p : List HArc) : (nxA node back p).length ≤ p.length := by
  have := nxS_len node back p []
  simpa [nxA] using this
theorem samearcs1 (w : World) (F G : Nat → Prop) (A B : Option Addr) (c d : Nat) (xs : List HArc) (hx : ArcsL F w A xs) (hy : ArcsL G w B xs) (hl : xs.length ≤ 4398046511103) :
    Calls Try.prog 50 #[.slice A xs.length c, .slice B xs.length d] w fun e w' => e = .returned (.bool true) ∧ Upd No w w' := by
  refine (samearcs w F G A B c d xs xs hx hy hl hl).mono ?_
  rintro e w' ⟨rfl, h⟩
  exact ⟨by simp, h⟩
theorem samei1 (w : World) (F G : Nat → Prop) (A B : Option Addr) (c d : Nat) (xs : List Int) (hx : Ints F w A xs) (hy : Ints G w B xs) (hl : xs.length ≤ 1048576) :
    Calls Try.prog 33 #[.slice A xs.length c, .slice B xs.length d] w fun e w' => e = .returned (.bool true) ∧ Upd No w w' := by
  refine (samei w F G A B c d xs xs hx hy hl hl).mono ?_
  rintro e w' ⟨rfl, h⟩
  exact ⟨by simp, h⟩
theorem arcs_own' {w : World} {base c : Nat} {A : Option Addr} {l : List HArc} (h : w.ownsRow base 63 4 (.slice A l.length c) l.length (arcsF l)) : ArcsL (Own (.slice A l.length c)) w A l := Recs.of_own (n := l.length) (c := c) (arc_len l) (by omega) h
end Go.Proofs.Ytmnhgdedkniafaa

/- How arcs and deeds that come in read. -/
namespace Go.Proofs.Ytmnhgdedkniafaa
set_option linter.unusedVariables false
open Go.RowKit
theorem dcs4 {l : List Value} (h : l.length = 4) : ∃ a b c d, l = [a, b, c, d] :=
  match l, h with
  | [a, b, c, d], _ => ⟨a, b, c, d, rfl⟩
theorem DCint : Try.prog.cellsOf 3 = 1 := by kernel_rfl
theorem DCarc : Try.prog.cellsOf 63 = 4 := by kernel_rfl
/-- the numbers of an arc are numbers of the machine -/
def HArc.i (a : HArc) : Prop := (-9223372036854775808 ≤ a.f ∧ a.f ≤ 9223372036854775807) ∧ (-9223372036854775808 ≤ a.t ∧ a.t ≤ 9223372036854775807) ∧ (-9223372036854775808 ≤ a.kind ∧ a.kind ≤ 9223372036854775807) ∧ (-9223372036854775808 ≤ a.label ∧ a.label ≤ 9223372036854775807)
theorem dwf64 {n : Int} (h : (Lit.int .i64 n).wf = true) : -9223372036854775808 ≤ n ∧ n ≤ 9223372036854775807 := by
  simp [Lit.wf, IntKind.min, IntKind.max, IntKind.signed, IntKind.bits] at h; omega
section
variable {H : Type} {enc : TypeId × Value → H} {w : World} {base : Nat} {spare : Nat → Bool} {held : Bool} {row : List Value}
theorem rddi {v : Value} (h : Rdz enc Try.prog w base spare held 3 [v]) : ∃ n, v = .int .i64 n ∧ -9223372036854775808 ≤ n ∧ n ≤ 9223372036854775807 := by
  obtain ⟨n, e, hw⟩ := Rdz.int_ Try.underlying3 h
  cases e
  exact ⟨n, rfl, dwf64 hw⟩
theorem rdarc (h : Rdz enc Try.prog w base spare held 63 row) : ∃ e : HArc, row = e.cells ∧ e.i := by
  obtain ⟨hl, hf⟩ := h.struct_ Try.underlying63
  rw [DCarc] at hl
  obtain ⟨c0, c1, c2, c3, rfl⟩ := dcs4 hl
  have h0 : Rdz enc Try.prog w base spare held 3 (([c0, c1, c2, c3].drop 0).take (Try.prog.cellsOf 3)) := hf 0 _ rfl
  have h1 : Rdz enc Try.prog w base spare held 3 (([c0, c1, c2, c3].drop 1).take (Try.prog.cellsOf 3)) := hf 1 _ rfl
  have h2 : Rdz enc Try.prog w base spare held 3 (([c0, c1, c2, c3].drop 2).take (Try.prog.cellsOf 3)) := hf 2 _ rfl
  have h3 : Rdz enc Try.prog w base spare held 3 (([c0, c1, c2, c3].drop 3).take (Try.prog.cellsOf 3)) := hf 3 _ rfl
  rw [DCint] at h0 h1 h2 h3
  obtain ⟨n0, rfl, b0⟩ := rddi h0
  obtain ⟨n1, rfl, b1⟩ := rddi h1
  obtain ⟨n2, rfl, b2⟩ := rddi h2
  obtain ⟨n3, rfl, b3⟩ := rddi h3
  exact ⟨⟨n0, n1, n2, n3⟩, rfl, b0, b1, b2, b3⟩
end
end Go.Proofs.Ytmnhgdedkniafaa
