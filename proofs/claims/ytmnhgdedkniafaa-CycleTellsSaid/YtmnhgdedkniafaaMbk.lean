/- Closed walks, the document's: edges put among others, and those of a mask. -/
import Derived.Test.YtmnhgdedkniafaaMar
import Derived.Test.YtmnhgdedkniafaaMbd
import Derived.Test.YtmnhgdedkniafaaMbe
import Derived.Test.YtmnhgdedkniafaaMbi
import Derived.Test.YtmnhgdedkniafaaMbj
namespace Go.Proofs.Ytmnhgdedkniafaa
set_option linter.unusedVariables false
open Go.RowKit
def edgesF (l : List Edge) : List Value := (l.map Edge.cells).flatten
theorem edgesF_len (l : List Edge) : (edgesF l).length = l.length * 4 := by
  unfold edgesF
  induction l with
  | nil => rfl
  | cons a l ih => simp only [List.map_cons, List.flatten_cons, List.length_append, List.length_cons, ih]; simp [Edge.cells]; omega
/-- a new row of edges -/
def NewEd (w : World) (l : List Edge) (e : Ending) (w' : World) : Prop := ∃ A c, e = .returned (.slice A l.length c) ∧ w'.ownsRow w.heap.size 96 4 (.slice A l.length c) l.length (edgesF l) ∧ Upd No w w'
theorem ltE_irrN (a : Edge) : ¬ ltE a a = true := by rw [ltE_less]; exact lessA_irr _
/-- an edge among some in order: what is left to do -/
def putET (a : Edge) (done : Bool) (out : List Edge) : List Edge → List Edge
  | [] => if done then out else out ++ [a]
  | x :: l => putET a (done || !ltE x a) ((if !done && !ltE x a then out ++ [a] else out) ++ (if x = a then [] else [x])) l
def putEd (a : Edge) : List Edge → List Edge
  | [] => [a]
  | x :: l => if ltE x a = true then x :: putEd a l else a :: (x :: l).filter (fun y => !(y == a))
theorem putET_true (a : Edge) : ∀ (l out : List Edge), putET a true out l = out ++ l.filter fun y => !(y == a)
  | [], out => by simp [putET]
  | x :: l, out => by
    show putET a true ((if !true && !ltE x a then out ++ [a] else out) ++ (if x = a then [] else [x])) l = _
    rw [putET_true a l]
    by_cases h : x = a
    · subst h; simp
    · have : (x == a) = false := by simpa using h
      simp [h]
theorem putET_false (a : Edge) : ∀ (l out : List Edge), putET a false out l = out ++ putEd a l
  | [], out => by simp [putET, putEd]
  | x :: l, out => by
    show putET a (false || !ltE x a) ((if !false && !ltE x a then out ++ [a] else out) ++ (if x = a then [] else [x])) l = _
    unfold putEd
    by_cases h : ltE x a = true
    · rw [if_pos h, h]
      show putET a false (out ++ (if x = a then [] else [x])) l = _
      rw [if_neg (show ¬ x = a from fun e => ltE_irrN a (e ▸ h)), putET_false a l]
      simp
    · have hf : ltE x a = false := by simpa using h
      rw [if_neg h, hf]
      show putET a true ((out ++ [a]) ++ (if x = a then [] else [x])) l = _
      rw [putET_true]
      by_cases h2 : x = a
      · subst h2; simp
      · simp [h2]
theorem putET_eq (a : Edge) (l : List Edge) : putET a false [] l = putEd a l := by rw [putET_false]; rfl
set_option maxRecDepth 100000 in
set_option maxHeartbeats 2000000 in
theorem reput (F : Nat → Prop) (w : World) (A : Option Addr) (c : Nat) (l : List Edge) (a : Edge) (h : Walk F w A l) (hl : l.length ≤ 1000000) :
    Calls Try.prog 178 #[.slice A l.length c, .agg a.cells.toArray] w (NewEd w (putET a false [] l)) := by
  have qN := edge_neq
  have qG : ∀ (op : BinOp) (x y : Operand) (xs ys : Array Value) (w : World), (eqGuard op 96 x y (.agg xs) (.agg ys)).run Try.prog w = .ok () w := fun op x y xs ys w => run_eqGuard_agg w op _ x y xs ys (by kernel_rfl)
  have HA := Lib.hid h
  have UB := Lib.hid ((Upd.refl No w).alloc (.cells #[.int .i64 a.f, .int .i64 a.t, .int .i64 a.k, .int .i64 a.key] 96))
  have bB := Lib.hid (Blk.new w 96 [.int .i64 a.f, .int .i64 a.t, .int .i64 a.k, .int .i64 a.key])
  unfold Edge.cells
  clear h
  go_enter Try.func178, Try.ntmps178
  go_wp2
  go_loopg [5, 6, 11] l.length (fun gk s d i wr => ∃ (k : Nat) (b : Bool) (A5 : Option Addr) (c5 : Nat) (xs : List Edge), k + gk = l.length ∧ i = .int .i64 k ∧ d = .bool b ∧ s = .slice A5 xs.length c5 ∧ Hid (putET a b xs (l.drop k) = putET a false [] l) ∧ xs.length ≤ 2 * k ∧
    wr.ownsRow (w.heap.size + 1) 96 4 (.slice A5 xs.length c5) xs.length (edgesF xs) ∧ Upd No w wr ∧ Blk wr w.heap.size 96 [.int .i64 a.f, .int .i64 a.t, .int .i64 a.k, .int .i64 a.key])
  case atStart => exact ⟨0, false, none, 0, [], by omega, rfl, rfl, rfl, Lib.hid rfl, by simp, World.ownsRow_nil _ _ _ _, UB.out, bB.out⟩
  case round =>
    obtain ⟨k, b, A5, c5, xs, hgk, rfl, rfl, rfl, hs, hxl, hown, hu, hbl⟩ := hrel
    by_cases hlt : k < l.length
    · obtain ⟨ax, rfl, q0, q1, q2, q3⟩ := (HA.out.upd hu (fun _ _ => id)).at_ hlt
      obtain ⟨x, hx⟩ : ∃ x, l[k] = x := ⟨_, rfl⟩
      rw [hx] at q0 q1 q2 q3
      have hst := hs.out
      rw [show l.drop k = x :: l.drop (k + 1) by rw [← hx]; exact List.drop_eq_getElem_cons hlt] at hst
      have hst : putET a (b || !ltE x a) ((if !b && !ltE x a then xs ++ [a] else xs) ++ (if x = a then [] else [x])) (l.drop (k + 1)) = putET a false [] l := hst
      clear hx
      have b1 : (0 : Int) ≤ (k : Int) := Int.natCast_nonneg _
      have b2 : (k : Int) < (l.length : Int) := by omega
      have uA := (Upd.refl No wr).alloc (.cells #[.int .i64 x.f, .int .i64 x.t, .int .i64 x.k, .int .i64 x.key] 96)
      have bo := Blk.new wr 96 [.int .i64 x.f, .int .i64 x.t, .int .i64 x.k, .int .i64 x.key]
      have hown1 := own_upd hown uA (fun _ _ => id)
      have hbA := hbl.alloc (.cells #[.int .i64 x.f, .int .i64 x.t, .int .i64 x.k, .int .i64 x.key] 96)
      have hz0 := hbl.lt
      have hzz := hu.size
      have HNB := Lib.hid (show ¬ Own (.slice A5 xs.length c5) w.heap.size from fun e => by have := (hown1.lt _ e).1; omega)
      have HNX := Lib.hid (show ¬ Own (.slice A5 xs.length c5) wr.heap.size from fun e => by have := (hown.lt _ e).2; omega)
      have HL := Lib.hid (edgesF_len xs)
      have HGE := Lib.hid (fun i e => (hown.lt i e).1)
      have Hu1 := Lib.hid (hu.trans uA)
      have HR := Lib.hid (fun W => rless W x a)
      have g0 := bo.cell 0
      have g1 := bo.cell 1
      have g2 := bo.cell 2
      have g3 := bo.cell 3
      have d0 := hbA.cell 0
      have d1 := hbA.cell 1
      have d2 := hbA.cell 2
      have d3 := hbA.cell 3
      simp only [List.getElem?_cons_zero, List.getElem?_cons_succ] at g0 g1 g2 g3 d0 d1 d2 d3
      have BX := Lib.hid bo
      have BA := Lib.hid hbA
      clear uA bo hbA
      cases b
      · cases hr : ltE x a
        · rw [hr] at hst HR
          simp only [Bool.not_false, Bool.true_and, if_true, Bool.false_or] at hst
          unfold Edge.cells at HR
          go_wp2_with fail
          refine (HR.out _).mono ?_
          rintro e w1 ⟨rfl, hu1⟩
          have bX1 := BX.out.upd hu1 id
          have bA1 := BA.out.upd hu1 id
          have f0 := bA1.cell 0
          have f1 := bA1.cell 1
          have f2 := bA1.cell 2
          have f3 := bA1.cell 3
          simp only [List.getElem?_cons_zero, List.getElem?_cons_succ] at f0 f1 f2 f3
          have hown2 := own_upd hown1 hu1 (fun _ _ => id)
          have hz1 := hu1.size
          simp only [World.size_alloc] at hz1
          have HU2 := Lib.hid (Hu1.out.trans hu1)
          have BX1 := Lib.hid bX1
          have BA1 := Lib.hid bA1
          clear bX1 bA1 hown1 hu1
          by_cases hxa : x = a
          · rw [if_pos hxa, List.append_nil] at hst
            have hb : (x != a) = false := by rw [hxa]; simp
            have HS := Lib.hid hst
            clear hst hxa
            go_wp2_with (at_builtin; refine app1s rfl rfl slt_edges (v := .slice A5 xs.length c5) (n := xs.length) (xs := edgesF xs) (cells := [.int .i64 a.f, .int .i64 a.t, .int .i64 a.k, .int .i64 a.key]) (by rfl) rfl hown2 rfl rfl (by omega) (by omega) (by omega) ?_; intro g' c' w2 hown3 hu3 hg3 hlt3; have e0 := (BX1.out.upd hu3 HNX.out).cell 0; have e1 := (BX1.out.upd hu3 HNX.out).cell 1; have e2 := (BX1.out.upd hu3 HNX.out).cell 2; have e3 := (BX1.out.upd hu3 HNX.out).cell 3; have j0 := (BA1.out.upd hu3 HNB.out).cell 0; have j1 := (BA1.out.upd hu3 HNB.out).cell 1; have j2 := (BA1.out.upd hu3 HNB.out).cell 2; have j3 := (BA1.out.upd hu3 HNB.out).cell 3; simp only [List.getElem?_cons_zero, List.getElem?_cons_succ] at e0 e1 e2 e3 j0 j1 j2 j3)
            go_roundg (gk - 1)
            case measure => omega
            case rel =>
              exact ⟨k + 1, true, some ⟨g', 0, none⟩, c', xs ++ [a], by omega, by go_num, rfl, by simp, HS, by simp; omega, by simpa [edgesF, Edge.cells] using hown3, HU2.out.then_ hu3 fun i e => .inr (by have := HGE.out i e; omega), BA1.out.upd hu3 HNB.out⟩
          · rw [if_neg hxa] at hst
            have hb : (x != a) = true := by rw [bne_iff_ne]; exact hxa
            have HS := Lib.hid hst
            clear hst hxa
            go_wp2_with (at_builtin; (first
              | (refine app1s rfl rfl slt_edges (v := .slice A5 xs.length c5) (n := xs.length) (xs := edgesF xs) (cells := [.int .i64 a.f, .int .i64 a.t, .int .i64 a.k, .int .i64 a.key]) (by rfl) rfl hown2 rfl rfl (by omega) (by omega) (by omega) ?_; intro g' c' w2 hown3 hu3 hg3 hlt3; have e0 := (BX1.out.upd hu3 HNX.out).cell 0; have e1 := (BX1.out.upd hu3 HNX.out).cell 1; have e2 := (BX1.out.upd hu3 HNX.out).cell 2; have e3 := (BX1.out.upd hu3 HNX.out).cell 3; have j0 := (BA1.out.upd hu3 HNB.out).cell 0; have j1 := (BA1.out.upd hu3 HNB.out).cell 1; have j2 := (BA1.out.upd hu3 HNB.out).cell 2; have j3 := (BA1.out.upd hu3 HNB.out).cell 3; simp only [List.getElem?_cons_zero, List.getElem?_cons_succ] at e0 e1 e2 e3 j0 j1 j2 j3; have hz2 := hu3.size; have HU3 := Lib.hid (HU2.out.then_ hu3 fun i e => .inr (by have := HGE.out i e; omega)); have BA2 := Lib.hid (BA1.out.upd hu3 HNB.out); have HGE2 := Lib.hid (fun i e => (hown3.lt i e).1); have HNB2 := Lib.hid (show ¬ Own (.slice (some ⟨g', 0, none⟩) (xs.length + 1) c') w.heap.size from fun e => by have := HGE2.out _ e; omega); clear hg3 hu3)
              | (refine app1s rfl rfl slt_edges (v := .slice (some ⟨g', 0, none⟩) (xs.length + 1) c') (n := xs.length + 1) (xs := edgesF xs ++ [.int .i64 a.f, .int .i64 a.t, .int .i64 a.k, .int .i64 a.key]) (cells := [.int .i64 x.f, .int .i64 x.t, .int .i64 x.k, .int .i64 x.key]) (by rfl) rfl hown3 rfl rfl (by omega) (by omega) (by omega) ?_; intro g5 c6 w3 hown5 hu5 hg5 hlt5)))
            go_roundg (gk - 1)
            case measure => omega
            case rel =>
              exact ⟨k + 1, true, some ⟨g5, 0, none⟩, c6, xs ++ [a] ++ [x], by omega, by go_num, rfl, by simp, HS, by simp; omega, by simpa [edgesF, Edge.cells] using hown5, HU3.out.then_ hu5 fun i e => .inr (by have := HGE2.out i e; omega), BA2.out.upd hu5 HNB2.out⟩
        · have hxa : ¬ x = a := fun e => ltE_irrN a (e ▸ hr)
          rw [hr, if_neg hxa] at hst
          rw [hr] at HR
          simp only [Bool.not_false, Bool.not_true, Bool.and_false, Bool.or_false] at hst
          rw [if_neg (show ¬ (false = true) by decide)] at hst
          have hb : (x != a) = true := by rw [bne_iff_ne]; exact hxa
          have HS := Lib.hid hst
          clear hst hxa
          unfold Edge.cells at HR
          go_wp2_with fail
          refine (HR.out _).mono ?_
          rintro e w1 ⟨rfl, hu1⟩
          have bX1 := BX.out.upd hu1 id
          have bA1 := BA.out.upd hu1 id
          have f0 := bA1.cell 0
          have f1 := bA1.cell 1
          have f2 := bA1.cell 2
          have f3 := bA1.cell 3
          have e0 := bX1.cell 0
          have e1 := bX1.cell 1
          have e2 := bX1.cell 2
          have e3 := bX1.cell 3
          simp only [List.getElem?_cons_zero, List.getElem?_cons_succ] at e0 e1 e2 e3 f0 f1 f2 f3
          have hown2 := own_upd hown1 hu1 (fun _ _ => id)
          have hz1 := hu1.size
          simp only [World.size_alloc] at hz1
          have HU2 := Lib.hid (Hu1.out.trans hu1)
          have BA1 := Lib.hid bA1
          clear bX1 bA1 hown1 hu1
          go_wp2_with (at_builtin; refine app1s rfl rfl slt_edges (v := .slice A5 xs.length c5) (n := xs.length) (xs := edgesF xs) (cells := [.int .i64 x.f, .int .i64 x.t, .int .i64 x.k, .int .i64 x.key]) (by rfl) rfl hown2 rfl rfl (by omega) (by omega) (by omega) ?_; intro g' c' w2 hown3 hu3 hg3 hlt3)
          go_roundg (gk - 1)
          case measure => omega
          case rel =>
            exact ⟨k + 1, false, some ⟨g', 0, none⟩, c', xs ++ [x], by omega, by go_num, rfl, by simp, HS, by simp; omega, by simpa [edgesF, Edge.cells] using hown3, HU2.out.then_ hu3 fun i e => .inr (by have := HGE.out i e; omega), BA1.out.upd hu3 HNB.out⟩
      · simp only [Bool.not_true, Bool.false_and, Bool.true_or] at hst
        rw [if_neg (show ¬ (false = true) by decide)] at hst
        by_cases hxa : x = a
        · rw [if_pos hxa, List.append_nil] at hst
          have hb : (x != a) = false := by rw [hxa]; simp
          have HS := Lib.hid hst
          clear hst hxa HR
          go_wp2
          go_roundg (gk - 1)
          case measure => omega
          case rel => exact ⟨k + 1, true, A5, c5, xs, by omega, by go_num, rfl, rfl, HS, by omega, hown1, Hu1.out, BA.out⟩
        · rw [if_neg hxa] at hst
          have hb : (x != a) = true := by rw [bne_iff_ne]; exact hxa
          have HS := Lib.hid hst
          clear hst hxa HR
          go_wp2_with (at_builtin; refine app1s rfl rfl slt_edges (base := w.heap.size + 1) (n := xs.length) (xs := edgesF xs) (v := .slice A5 xs.length c5) (cells := [.int .i64 x.f, .int .i64 x.t, .int .i64 x.k, .int .i64 x.key]) (c := 1) (by rfl) (by show Value.slice (some ⟨wr.heap.size + 1, 0, none⟩) 1 1 = _; simp) hown1 rfl rfl (by omega) (by omega) (by simp; omega) ?_; intro g' c' w2 hown3 hu3 hg3 hlt3)
          go_roundg (gk - 1)
          case measure => omega
          case rel =>
            exact ⟨k + 1, true, some ⟨g', 0, none⟩, c', xs ++ [x], by omega, by go_num, rfl, by simp, HS, by simp; omega, by simpa [edgesF, Edge.cells] using hown3, Hu1.out.then_ hu3 fun i e => .inr (by have := HGE.out i e; omega), BA.out.upd hu3 HNB.out⟩
    · obtain rfl : k = l.length := by omega
      have hst := hs.out
      rw [List.drop_length] at hst
      have hz0 := hbl.lt
      have hzz := hu.size
      have HL := Lib.hid (edgesF_len xs)
      have HGE := Lib.hid (fun i e => (hown.lt i e).1)
      have d0 := hbl.cell 0
      have d1 := hbl.cell 1
      have d2 := hbl.cell 2
      have d3 := hbl.cell 3
      simp only [List.getElem?_cons_zero, List.getElem?_cons_succ] at d0 d1 d2 d3
      clear hbl
      cases b
      · have HS := Lib.hid (show xs ++ [a] = putET a false [] l from hst)
        clear hst
        go_wp2_with (at_builtin; refine app1s rfl rfl slt_edges (v := .slice A5 xs.length c5) (n := xs.length) (xs := edgesF xs) (cells := [.int .i64 a.f, .int .i64 a.t, .int .i64 a.k, .int .i64 a.key]) (by rfl) rfl hown rfl rfl (by omega) (by omega) (by omega) ?_; intro g' c' w2 hown3 hu3 hg3 hlt3)
        go_ret
        rw [← HS.out]
        refine ⟨some ⟨g', 0, none⟩, c', by simp, own_base (by simpa [edgesF, Edge.cells] using hown3) (by omega), hu.then_ hu3 fun i e => .inr (by have := HGE.out i e; omega)⟩
      · have HS := Lib.hid (show xs = putET a false [] l from hst)
        clear hst
        go_wp2
        go_ret
        rw [← HS.out]
        exact ⟨A5, c5, rfl, own_base hown (by omega), hu⟩
theorem filtE_no {p : Edge → Bool} {l : List Edge} {k : Nat} {x : Edge} (hk : k < l.length) (hx : l[k] = x) (hr : p x = false) : (l.take (k + 1)).filter p = (l.take k).filter p := by
  subst hx
  rw [List.take_succ_eq_append_getElem hk, List.filter_append, List.filter_cons_of_neg (by rw [hr]; decide)]
  simp
theorem filtE_yes {p : Edge → Bool} {l : List Edge} {k : Nat} {x : Edge} (hk : k < l.length) (hx : l[k] = x) (hr : p x = true) : (l.take (k + 1)).filter p = (l.take k).filter p ++ [x] := by
  subst hx
  rw [List.take_succ_eq_append_getElem hk, List.filter_append, List.filter_cons_of_pos (by rw [hr])]
  rfl
theorem rbit27 (w : World) (mask kind : Int) : Calls Try.prog 135 #[.int .i64 mask, .int .i64 kind] w fun e w' => e = .returned (.bool (bitR mask kind)) ∧ Upd No w w' := by
  have u0 := Lib.hid ((Upd.refl No w).alloc (.cells #[.int .i64 1, .int .i64 2, .int .i64 4, .int .i64 8] 3))
  by_cases h1 : kind < 1
  · have hv : Hid (bitR mask kind = false) := Lib.hid (by unfold bitR; rw [decide_eq_false (show ¬ 1 ≤ kind by omega)]; rfl)
    have d1 : decide (1 ≤ kind) = false := decide_eq_false (by omega)
    go_enter Try.func135, Try.ntmps135
    go_wp2
    go_ret
    exact ⟨by rw [hv.out]; rfl, u0.out⟩
  · have d1 : decide (1 ≤ kind) = true := decide_eq_true (by omega)
    by_cases h2 : 3 < kind
    · have hv : Hid (bitR mask kind = false) := Lib.hid (by unfold bitR; rw [d1, decide_eq_false (show ¬ kind ≤ 3 by omega)]; rfl)
      have d2 : decide (kind ≤ 3) = false := decide_eq_false (by omega)
      go_enter Try.func135, Try.ntmps135
      go_wp2
      go_ret
      exact ⟨by rw [hv.out]; rfl, u0.out⟩
    · have hk : kind = 1 ∨ kind = 2 ∨ kind = 3 := by omega
      clear h1 h2 d1
      rcases hk with rfl | rfl | rfl
      · have hv := Lib.hid (and_bit2 mask)
        go_enter Try.func135, Try.ntmps135
        go_wp2
        go_ret
        exact ⟨congrArg (fun b => Ending.returned (.bool b)) hv.out, u0.out⟩
      · have hv := Lib.hid (and_bit4 mask)
        go_enter Try.func135, Try.ntmps135
        go_wp2
        go_ret
        exact ⟨congrArg (fun b => Ending.returned (.bool b)) hv.out, u0.out⟩
      · have hv := Lib.hid (and_bit8 mask)
        go_enter Try.func135, Try.ntmps135
        go_wp2
        go_ret
        exact ⟨congrArg (fun b => Ending.returned (.bool b)) hv.out, u0.out⟩
set_option maxRecDepth 100000 in
set_option maxHeartbeats 2000000 in
theorem reof (F : Nat → Prop) (w : World) (A : Option Addr) (c : Nat) (l : List Edge) (mask : Int) (h : Walk F w A l) (hl : l.length ≤ 1000000) :
    Calls Try.prog 133 #[.slice A l.length c, .int .i64 mask] w (NewEd w (l.filter fun x => bitR mask x.k)) := by
  have HA := Lib.hid h
  clear h
  go_enter Try.func133, Try.ntmps133
  go_wp2
  go_loopg [5, 10] l.length (fun gk s i wr => ∃ (k : Nat) (A5 : Option Addr) (c5 : Nat) (xs : List Edge), k + gk = l.length ∧ i = .int .i64 k ∧ s = .slice A5 xs.length c5 ∧ Hid (xs = (l.take k).filter fun x => bitR mask x.k) ∧ xs.length ≤ k ∧
    wr.ownsRow w.heap.size 96 4 (.slice A5 xs.length c5) xs.length (edgesF xs) ∧ Upd No w wr)
  case atStart => exact ⟨0, none, 0, [], by omega, rfl, rfl, Lib.hid (by simp), by simp, World.ownsRow_nil _ _ _ _, Upd.refl _ _⟩
  case round =>
    obtain ⟨k, A5, c5, xs, hgk, rfl, rfl, hxs, hxl, hown, hu⟩ := hrel
    by_cases hlt : k < l.length
    · obtain ⟨ax, rfl, q0, q1, q2, q3⟩ := (HA.out.upd hu (fun _ _ => id)).at_ hlt
      obtain ⟨x, hx⟩ : ∃ x, l[k] = x := ⟨_, rfl⟩
      rw [hx] at q0 q1 q2 q3
      have X := Lib.hid hx
      clear hx
      have b1 : (0 : Int) ≤ (k : Int) := Int.natCast_nonneg _
      have b2 : (k : Int) < (l.length : Int) := by omega
      have uA := (Upd.refl No wr).alloc (.cells #[.int .i64 x.f, .int .i64 x.t, .int .i64 x.k, .int .i64 x.key] 96)
      have bo := Blk.new wr 96 [.int .i64 x.f, .int .i64 x.t, .int .i64 x.k, .int .i64 x.key]
      have hown1 := own_upd hown uA (fun _ _ => id)
      have g0 := bo.cell 2
      simp only [List.getElem?_cons_zero, List.getElem?_cons_succ] at g0
      have hof := Lib.hid (fun W => rbit27 W mask x.k)
      cases hr : bitR mask x.k
      · rw [hr] at hof
        have HS := Lib.hid (filtE_no (p := fun x => bitR mask x.k) hlt X.out hr)
        clear hr
        go_wp2_with fail
        refine (hof.out _).mono ?_
        rintro e w1 ⟨rfl, hu1⟩
        have Hu1 := Lib.hid ((hu.trans uA).trans hu1)
        have hown2 := own_upd hown1 hu1 (fun _ _ => id)
        clear hown1 uA hu1
        go_wp2
        go_roundg (gk - 1)
        case measure => omega
        case rel => exact ⟨k + 1, A5, c5, xs, by omega, by go_num, rfl, Lib.hid (by rw [HS.out, hxs.out]), by omega, hown2, Hu1.out⟩
      · rw [hr] at hof
        have HS := Lib.hid (filtE_yes (p := fun x => bitR mask x.k) hlt X.out hr)
        clear hr
        go_wp2_with fail
        refine (hof.out _).mono ?_
        rintro e w1 ⟨rfl, hu1⟩
        have bo1 := bo.upd hu1 id
        have g1 := bo1.cell 0
        have g2 := bo1.cell 1
        have g3 := bo1.cell 2
        have g4 := bo1.cell 3
        simp only [List.getElem?_cons_zero, List.getElem?_cons_succ] at g1 g2 g3 g4
        have hown2 := own_upd hown1 hu1 (fun _ _ => id)
        have hz1 := (uA.trans hu1).size
        have hz0 := hu.size
        have Hu1 := Lib.hid ((hu.trans uA).trans hu1)
        have HL := Lib.hid (edgesF_len xs)
        clear hown1 uA hu1 bo1
        go_wp2_with (at_builtin; refine app1s rfl rfl slt_edges (v := .slice A5 xs.length c5) (cells := [.int .i64 x.f, .int .i64 x.t, .int .i64 x.k, .int .i64 x.key]) (by rfl) rfl hown2 rfl rfl (by omega) (by omega) (by omega) ?_; intro g' c' w2 hown3 hu3 hg3 hlt3)
        go_roundg (gk - 1)
        case measure => omega
        case rel =>
          refine ⟨k + 1, some ⟨g', 0, none⟩, c', xs ++ [x], by omega, by go_num, by simp, Lib.hid (by rw [HS.out, hxs.out]), by simp; omega, by simpa [edgesF, Edge.cells] using hown3, Hu1.out.then_ hu3 fun i e => ?_⟩
          exact .inr (hown2.lt i e).1
    · obtain rfl : k = l.length := by omega
      have Hx := Lib.hid (show (l.filter fun x => bitR mask x.k) = xs by rw [hxs.out, List.take_length])
      clear hxs
      go_wp2
      go_ret
      rw [Hx.out]
      exact ⟨A5, c5, rfl, hown, hu⟩
theorem edPut_arc (a : Edge) : ∀ l : List Edge, (putEd a l).map Edge.arc = putA a.arc (l.map Edge.arc)
  | [] => rfl
  | x :: l => by
    have hf : ∀ m : List Edge, (m.filter fun y => !(y == a)).map Edge.arc = (m.map Edge.arc).filter fun y => !(y == a.arc) := by
      intro m
      induction m with
      | nil => rfl
      | cons y m ih =>
        have hb : (y == a) = (y.arc == a.arc) := by
          rw [Bool.eq_iff_iff, beq_iff_eq, beq_iff_eq]
          exact ⟨fun e => by rw [e], fun e => by rw [← arc_edge y, ← arc_edge a, e]⟩
        rw [List.map_cons, List.filter_cons, List.filter_cons, hb]
        split
        · rw [List.map_cons, ih]
        · exact ih
    show (if ltE x a = true then x :: putEd a l else a :: (x :: l).filter (fun y => !(y == a))).map Edge.arc = (if lessA x.arc a.arc = true then x.arc :: putA a.arc (l.map Edge.arc) else a.arc :: ((x :: l).map Edge.arc).filter (fun y => !(y == a.arc)))
    rw [ltE_less]
    split
    · rw [List.map_cons, edPut_arc a l]
    · rw [List.map_cons, hf]
end Go.Proofs.Ytmnhgdedkniafaa

/- Closed walks: which edges do not count. -/
namespace Go.Proofs.Ytmnhgdedkniafaa
set_option linter.unusedVariables false
open Go.RowKit
/-- an edge that does not count -/
def badE (mask : Int) (e : Edge) : Bool := decide (e.k < 1) || (decide (3 < e.k) || !bitM mask e.k)
set_option maxRecDepth 100000 in
set_option maxHeartbeats 4000000 in
theorem cbad (w : World) (p : Addr) (mask : Int) (hp : w.cell? p = some (.int .i64 mask)) (e : Edge) :
    Calls Try.prog 125 #[.agg e.cells.toArray, .pointer (some p)] w fun x w' => x = .returned (.bool (badE mask e)) ∧ Upd No w w' := by
  obtain ⟨ef, et, ek, ey⟩ := e
  have u0 := (Upd.refl No w).alloc (.cells #[.int .i64 ef, .int .i64 et, .int .i64 ek, .int .i64 ey] 96)
  have hp1 := u0.keepNo hp
  have U0 := Lib.hid u0
  unfold Edge.cells
  clear u0
  by_cases h1 : ek < 1
  · have hv : Hid (badE mask ⟨ef, et, ek, ey⟩ = true) := Lib.hid (by unfold badE; rw [decide_eq_true h1]; rfl)
    have d1 : decide (ek < 1) = true := decide_eq_true h1
    go_enter Try.func125, Try.ntmps125
    go_wp2
    go_ret
    exact ⟨by rw [hv.out]; rfl, U0.out⟩
  · have d1 : decide (ek < 1) = false := decide_eq_false h1
    by_cases h2 : 3 < ek
    · have hv : Hid (badE mask ⟨ef, et, ek, ey⟩ = true) := Lib.hid (by unfold badE; rw [d1, decide_eq_true h2]; rfl)
      have d2 : decide (3 < ek) = true := decide_eq_true h2
      go_enter Try.func125, Try.ntmps125
      go_wp2
      go_ret
      exact ⟨by rw [hv.out]; rfl, U0.out⟩
    · have hk : ek = 1 ∨ ek = 2 ∨ ek = 3 := by omega
      clear d1 h1 h2
      rcases hk with rfl | rfl | rfl
      · have hv : Hid (badE mask ⟨ef, et, 1, ey⟩ = (bits .and .i64 (mask / 2) 1 == 0)) := Lib.hid (by rw [and_one0]; rfl)
        go_enter Try.func125, Try.ntmps125
        go_wp2
        go_ret
        exact ⟨by rw [hv.out]; rfl, U0.out⟩
      · have hv : Hid (badE mask ⟨ef, et, 2, ey⟩ = (bits .and .i64 (mask / 4) 1 == 0)) := Lib.hid (by rw [and_one0]; rfl)
        go_enter Try.func125, Try.ntmps125
        go_wp2
        go_ret
        exact ⟨by rw [hv.out]; rfl, U0.out⟩
      · have hv : Hid (badE mask ⟨ef, et, 3, ey⟩ = (bits .and .i64 (mask / 8) 1 == 0)) := Lib.hid (by rw [and_one0]; rfl)
        go_enter Try.func125, Try.ntmps125
        go_wp2
        go_ret
        exact ⟨by rw [hv.out]; rfl, U0.out⟩
end Go.Proofs.Ytmnhgdedkniafaa
