/- Walks: whether two are one; one begun elsewhere, by the program and by the document. -/
import Derived.Test.YtebjeapnglmokaaProg
import Derived.Lib.AppendZerosOnto
import Derived.Test.YtebjeapnglmokaaMas
import Derived.Test.YtebjeapnglmokaaMav
namespace Go.Proofs.Ytebjeapnglmokaa
set_option linter.unusedVariables false
open Go.RowKit

set_option maxRecDepth 100000 in
theorem sequal (w : World) (F G : Nat → Prop) (A B : Option Addr) (c d : Nat) (xs ys : List Edge) (hx : Walk F w A xs) (hy : Walk G w B ys) (hl : xs.length ≤ 4398046511103) (hl2 : ys.length ≤ 4398046511103) :
    Calls Try.prog 22 #[.slice A xs.length c, .slice B ys.length d] w fun e w' => e = .returned (.bool (xs == ys)) ∧ Upd No w w' := by
  have qN := edge_neq
  have qG : ∀ (op : BinOp) (x y : Operand) (xs ys : Array Value) (w : World), (eqGuard op 29 x y (.agg xs) (.agg ys)).run Try.prog w = .ok () w := fun op x y xs ys w => run_eqGuard_agg w op _ x y xs ys (by kernel_rfl)
  by_cases hne : xs.length = ys.length
  · have hb : ((xs.length : Int) != (ys.length : Int)) = false := by rw [hne]; simp
    go_enter Try.func22, Try.ntmps22
    have Hne := Lib.hid hne
    clear hne
    go_wp2
    go_loopg [5, 13] xs.length (fun gk j i wr => ∃ k : Nat, k + gk = xs.length ∧ i = .int .i64 k ∧ xs.take k = ys.take k ∧ Upd No w wr)
    case atStart => exact ⟨0, by omega, rfl, by simp, Upd.refl _ _⟩
    case round =>
      obtain ⟨k, hgk, rfl, hs, hu⟩ := hrel
      have Hs := Lib.hid hs
      clear hs
      by_cases hlt : k < xs.length
      · have hlt2 : k < ys.length := by have := Hne.out; omega
        obtain ⟨ax, rfl, hc0, hc1, hc2, hc3⟩ := (hx.upd hu (fun _ _ => id)).at_ hlt
        obtain ⟨ay, rfl, hd0, hd1, hd2, hd3⟩ := (hy.upd hu (fun _ _ => id)).at_ hlt2
        have b1 : (0 : Int) ≤ (k : Int) := Int.natCast_nonneg _
        have b2 : (k : Int) < (xs.length : Int) := by omega
        have b3 : (k : Int) < (ys.length : Int) := by omega
        by_cases he : xs[k] = ys[k]
        · have heb : (xs[k] != ys[k]) = false := by rw [he]; simp
          have He := Lib.hid he
          clear he
          go_wp2
          go_quiet (fail)
          go_wp2
          go_roundg (gk - 1)
          case measure => omega
          case rel =>
            refine ⟨k + 1, by omega, by go_num, ?_, hu.drewN _⟩
            rw [List.take_succ_eq_append_getElem hlt, List.take_succ_eq_append_getElem hlt2, Hs.out, He.out]
        · have heb : (xs[k] != ys[k]) = true := by simpa using he
          have He := Lib.hid he
          clear he
          go_wp2
          go_quiet (fail)
          go_wp2
          go_ret
          have hne2 : (xs == ys) = false := by
            rw [beq_eq_false_iff_ne]
            rintro rfl
            exact He.out rfl
          exact ⟨by rw [hne2]; rfl, hu.drewN _⟩
      · obtain rfl : k = xs.length := by omega
        go_wp2
        go_ret
        have h2 := Hs.out
        rw [List.take_length, Hne.out, List.take_length] at h2
        exact ⟨by rw [h2, beq_self_eq_true]; rfl, hu⟩
  · have hb : ((xs.length : Int) != (ys.length : Int)) = true := by rw [bne_iff_ne]; omega
    have hf : (xs == ys) = false := by rw [beq_eq_false_iff_ne]; rintro rfl; exact hne rfl
    have Hf := Lib.hid hf
    clear hf
    go_enter Try.func22, Try.ntmps22
    go_wp2
    go_ret
    exact ⟨by rw [Hf.out]; rfl, Upd.refl _ _⟩
theorem wsameW (w : World) (F G : Nat → Prop) (A B : Option Addr) (c d : Nat) (xs ys : List Edge) (hx : Walk F w A xs) (hy : Walk G w B ys) (hl : xs.length ≤ 4398046511103) (hl2 : ys.length ≤ 4398046511103) :
    Calls Try.prog 9 #[.slice A xs.length c, .slice B ys.length d] w fun e w' => e = .returned (.bool (xs == ys)) ∧ Upd No w w' := by
  go_enter Try.func9, Try.ntmps9
  go_wp2_with fail
  refine (sequal _ F G A B c d xs ys hx hy hl hl2).mono ?_
  rintro e w1 ⟨rfl, hu⟩
  go_wp2
  go_ret
  exact ⟨rfl, hu⟩

theorem own_grown (w : World) (n G : Nat) (hn : n ≤ G) (hG : G ≤ maxLen) : ((w.alloc (.cells (Builtin.zeroCells #[.int .i64 0, .int .i64 0, .int .i64 0, .int .i64 0] n ++ Builtin.zeroCells #[.int .i64 0, .int .i64 0, .int .i64 0, .int .i64 0] (G - n)) 29)).drew).ownsRow w.heap.size 29 4 (.slice (some ⟨w.heap.size, 0, none⟩) 0 G) 0 [] := by
  refine ⟨rfl, .inr ⟨w.heap.size, G, _, rfl, Nat.le_refl _, heap_alloc_new w _, Nat.zero_le _, hG, ?_, by simp⟩⟩
  simp [Builtin.zeroCells]
  omega
theorem appZ {P : Program} {ops : Array Oper} {rest : List Oper} {o : Oper} {a : Act} {Q : Exit → Act → World → Prop} {w w' : World} (hgd : o.guard = none) {s x : Operand} {t tn : TypeId}
    (ho : o.op = .call { callee := .builtin .append, args := #[s, x], argTypes := #[t, tn] }) {sv xv v : Value} (hs : a.eval s = sv) (hx : a.eval x = xv) (hr : ∀ ty, (Builtin.append_ #[t, tn] ty #[sv, xv]).run P w = .ok v w')
    (h : wpList P ops Q rest (a.put o.dst v) w') : wpList P ops Q (o :: rest) a w := by
  refine wpList_plain hgd fun _ hK => ?_
  unfold Oper.wp execOp
  simp only [ho, resolve, invoke, builtin, Sem.run_bind, Sem.run_pure, Result.andThen_ok, List.map_toArray, List.map_cons, List.map_nil, hs, hx, hr]
  exact hK _ _ h
def NewE (w : World) (xs : List Value) (n : Nat) (e : Ending) (w' : World) : Prop := ∃ A c, e = .returned (.slice A n c) ∧ w'.ownsRow w.heap.size 29 4 (.slice A n c) n xs ∧ Upd No w w'
set_option maxRecDepth 100000 in
theorem wgrow (w : World) (n : Nat) (hn : n ≤ 1000000) : Calls Try.prog 39 #[.slice none 0 0, .int .i64 n] w (NewE w [] 0) := by
  by_cases h0 : n = 0
  · subst h0
    go_enter Try.func39, Try.ntmps39
    go_wp2
    go_ret
    exact ⟨none, 0, rfl, World.ownsRow_nil _ _ _ _, Upd.refl _ _⟩
  · obtain ⟨ht, i, z, hi, hz, hsize, hby, hzs, hsz⟩ := slt_edges
    have hzz : z = .agg #[.int .i64 0, .int .i64 0, .int .i64 0, .int .i64 0] := by
      have h1 : (Try.prog.info? 29).map (·.zero) = some (some (.agg #[.int .i64 0, .int .i64 0, .int .i64 0, .int .i64 0])) := by kernel_rfl
      rw [hi] at h1
      simpa [hz] using h1
    subst hzz
    have hpos : (0 : Int) < (n : Int) := by omega
    have hap := fun ty => Lib.run_append_grow_zeros w 22 3 ty 29 i _ .i64 .i64 ht Try.underlying3 hi hz none 0 0 [] (run_firstCells_none w.drew i.size 0 0 0) n (by omega) (by omega) (by omega) (by omega) (by rw [hby]; omega) (growslice_fits (by omega) (by rw [hby]; omega))
    simp only [Nat.zero_add] at hap
    have hge := grownCap_ge w n 0 29
    have hle := grownCap_le_maxLen w n 0 29 (by unfold maxLen; omega)
    have hown := own_grown w n _ hge hle
    have hc1 := fun W => run_cut_h W slt_edges none 0 0 0 (by omega)
    generalize grownCap w n 0 29 = G at *
    have hc2 := fun W => run_cut_h W slt_edges (some ⟨w.heap.size, 0, none⟩) n G 0 (by omega)
    have Hown := Lib.hid hown
    have Hap := Lib.hid hap
    clear hown hge hle hap
    go_enter Try.func39, Try.ntmps39
    go_wp2_with (at_builtin; refine appZ rfl rfl (by rfl) (by rfl) Hap.out ?_)
    go_wp2
    go_ret
    have hA : cutA (some ⟨w.heap.size, 0, none⟩) G 0 4 = some ⟨w.heap.size, 0, none⟩ := by unfold cutA; split <;> simp [Addr.add]
    refine ⟨some ⟨w.heap.size, 0, none⟩, G, ?_, Hown.out, ((Upd.refl No w).alloc _).drew⟩
    rw [← hA]
    rfl

/-- the two parts of a walk begun elsewhere, put together -/
theorem wconcat (F : Nat → Prop) (w : World) (g : Nat) (c0 : Nat) (A1 A2 : Option Addr) (c1 c2 : Nat) (l1 l2 : List Edge) (hb : Blk w g 22 [.slice A1 l1.length c1, .slice A2 l2.length c2]) (h1 : Walk F w A1 l1) (h2 : Walk F w A2 l2) (hl : l1.length + l2.length ≤ 1000000) :
    Calls Try.prog 24 #[.slice (some ⟨g, 0, none⟩) 2 c0] w (NewE w ((l1 ++ l2).map Edge.cells).flatten (l1 ++ l2).length) := by
  have c0' := hb.cell 0
  have c1' := hb.cell 1
  simp only [List.getElem?_cons_zero, List.getElem?_cons_succ] at c0' c1'
  have s1 : Hid (∀ W, Upd No w W → Src W A1 l1.length 4 (l1.map Edge.cells).flatten) := Lib.hid fun W hu => by
    have := (Recs.upd h1 hu (fun _ _ => id)).src edges_len
    rwa [List.length_map] at this
  have s2 : Hid (∀ W, Upd No w W → Src W A2 l2.length 4 (l2.map Edge.cells).flatten) := Lib.hid fun W hu => by
    have := (Recs.upd h2 hu (fun _ _ => id)).src edges_len
    rwa [List.length_map] at this
  have HB : Hid (∀ W, Upd No w W → Blk W g 22 [.slice A1 l1.length c1, .slice A2 l2.length c2]) := Lib.hid fun W hu => hb.upd hu id
  go_enter Try.func24, Try.ntmps24
  go_wp2
  refine wp_loop_rounds 3 ?_
  rw [rounds_succ]
  go_wp2
  rw [rounds_succ]
  go_wp2
  rw [rounds_succ]
  have hgr := wgrow w (l1.length + l2.length) hl
  rw [show ((l1.length + l2.length : Nat) : Int) = (l1.length : Int) + (l2.length : Int) by omega] at hgr
  have Hgr := Lib.hid hgr
  clear hgr
  go_wp2_with fail
  refine Hgr.out.mono ?_
  rintro e w3 ⟨A3, c3, rfl, ho3, hu3⟩
  have d0 := (HB.out w3 hu3).cell 0
  have d1 := (HB.out w3 hu3).cell 1
  simp only [List.getElem?_cons_zero, List.getElem?_cons_succ] at d0 d1
  have hsz := hu3.size
  have tok : True := trivial
  go_wp2
  refine wp_loop_rounds 3 ?_
  rw [rounds_succ]
  go_wp2_with (at_builtin; have _t := tok; refine appN rfl rfl slt_edges (n := 0) (m := l1.length) (xs := []) (by rfl) (by rfl) ho3 (s1.out _ hu3) edges_one (by omega) (by omega) (by omega) ?_; intro v4 w4 hown4 hu4 hg4; clear tok; simp only [Nat.zero_add, List.nil_append] at hown4; obtain ⟨A4, c4, rfl⟩ := own_slice hown4; have uw4 : Upd No w w4 := hu3.then_ hu4 (fun i e => .inr (ho3.lt i e).1); have f0 := (HB.out _ uw4).cell 0; have f1 := (HB.out _ uw4).cell 1; simp only [List.getElem?_cons_zero, List.getElem?_cons_succ] at f0 f1)
  rw [rounds_succ]
  go_wp2_with (at_builtin; refine appN rfl rfl slt_edges (n := l1.length) (m := l2.length) (by rfl) (by rfl) hown4 (s2.out _ uw4) edges_one (by omega) (by omega) (by exact uw4.size) ?_; intro v5 w5 hown5 hu5 hg5; obtain ⟨A5, c5, rfl⟩ := own_slice hown5; have uw5 : Upd No w w5 := uw4.then_ hu5 (fun i e => .inr (hown4.lt i e).1))
  rw [rounds_succ]
  go_wp2
  go_ret
  have hll : (l1 ++ l2).length = l1.length + l2.length := List.length_append
  refine ⟨A5, c5, by rw [hll]; rfl, ?_, uw5⟩
  rw [hll, List.map_append, List.flatten_append]
  exact hown5
end Go.Proofs.Ytebjeapnglmokaa

/- Walks begun elsewhere, and turned, by the program and by the document. -/
namespace Go.Proofs.Ytebjeapnglmokaa
set_option linter.unusedVariables false
open Go.RowKit

theorem Walk.src {F : Nat → Prop} {w : World} {A : Option Addr} {l : List Edge} (h : Walk F w A l) {n : Nat} (hn : n = l.length) : Src w A n 4 (l.map Edge.cells).flatten := by
  subst hn
  have := Recs.src h edges_len
  rwa [List.length_map] at this
theorem Walk.drop {F : Nat → Prop} {w : World} {A : Option Addr} {l : List Edge} (h : Walk F w A l) {i c : Nat} (hc : l.length ≤ c) : Walk F w (cutA A c i 4) (l.drop i) := by
  unfold Walk
  rw [List.map_drop]
  exact Recs.cut h (by simpa using hc)
theorem Walk.take {F : Nat → Prop} {w : World} {A : Option Addr} {l : List Edge} (h : Walk F w A l) {i : Nat} : Walk F w A (l.take i) := by
  unfold Walk
  rw [List.map_take]
  exact Recs.take h
theorem Walk.of_new {w w' : World} {l : List Edge} {A : Option Addr} {c : Nat} (h : w'.ownsRow w.heap.size 29 4 (.slice A l.length c) l.length (l.map Edge.cells).flatten) : Walk (fun i => w.heap.size ≤ i) w' A l :=
  (Recs.of_own edges_len (by omega) h).weak fun i _ e => (h.lt i e).1

/-- where the first one begins, of those begun at the first k places -/
def bestF (l : List Edge) : Nat → Nat
  | 0 => 0
  | k + 1 => if lexB (rot l k) (rot l (bestF l k)) = true then k else bestF l k
theorem bestF_le (l : List Edge) : ∀ k, bestF l k ≤ k
  | 0 => Nat.le_refl _
  | k + 1 => by
    unfold bestF
    have := bestF_le l k
    split <;> omega
def turnOf (l : List Edge) : List Edge := rot l (bestF l l.length)
theorem turn_len (l : List Edge) : (turnOf l).length = l.length := rot_len l (bestF_le l _)
set_option maxRecDepth 100000 in
theorem wturn (F : Nat → Prop) (w : World) (A : Option Addr) (c : Nat) (l : List Edge) (h : Walk F w A l) (hl : l.length ≤ 1000000) (hc : l.length ≤ c) :
    Calls Try.prog 10 #[.slice A l.length c] w (NewE w ((turnOf l).map Edge.cells).flatten l.length) := by
  go_enter Try.func10, Try.ntmps10
  go_wp2
  go_loopg [3, 7] l.length (fun gk b n wr => ∃ k bb : Nat, k + gk = l.length ∧ n = .int .i64 k ∧ b = .int .i64 bb ∧ Hid (bb = bestF l k) ∧ Upd No w wr)
  case atStart => exact ⟨0, 0, by omega, rfl, rfl, Lib.hid rfl, Upd.refl _ _⟩
  case round =>
    obtain ⟨k, bb, hgk, rfl, rfl, hbb, hu⟩ := hrel
    have hbl : bb ≤ k := by rw [hbb.out]; exact bestF_le l k
    by_cases hlt : k < l.length
    · have hw := h.upd hu (fun _ _ => id)
      go_wp2_with fail
      refine (wahead F F _ A A c c l l k bb hw hw hl rfl (by omega) (by omega)).mono ?_
      rintro e w2 ⟨rfl, hu2⟩
      by_cases hx : lexB (rot l k) (rot l bb) = true
      · have H := Lib.hid (show k = bestF l (k + 1) by unfold bestF; rw [← hbb.out, if_pos hx])
        go_wp2
        go_roundg (gk - 1)
        case measure => omega
        case rel => exact ⟨k + 1, k, by omega, by go_num, rfl, H, hu.trans hu2⟩
      · have hx' : lexB (rot l k) (rot l bb) = false := by simpa using hx
        have H := Lib.hid (show bb = bestF l (k + 1) by unfold bestF; rw [← hbb.out, if_neg hx])
        clear hx
        go_wp2
        go_roundg (gk - 1)
        case measure => omega
        case rel => exact ⟨k + 1, bb, by omega, by go_num, rfl, H, hu.trans hu2⟩
    · obtain rfl : k = l.length := by omega
      have k1 := fun W => run_cut_l W slt_edges A l.length c bb hbl
      have k2 := fun W => run_cut_h W slt_edges A l.length c bb (by omega)
      have L1 := Lib.hid (show l.length - bb = (l.drop bb).length by rw [List.length_drop])
      have L2 := Lib.hid (show bb = ((l.drop 0).take bb).length by rw [List.length_take, List.drop_zero]; omega)
      have hiI : (bb : Int) ≤ (l.length : Int) := by omega
      have hiI0 : (0 : Int) ≤ (bb : Int) := Int.natCast_nonneg _
      have hicI : (bb : Int) ≤ (c : Int) := by omega
      have hw := h.upd hu (fun _ _ => id)
      have ua := (Upd.refl No wr).alloc (.cells #[.slice (cutA A c bb 4) (l.drop bb).length (c - bb), .slice (cutA A c 0 4) ((l.drop 0).take bb).length c] 22)
      have hcc := wconcat F (wr.alloc (.cells #[.slice (cutA A c bb 4) (l.drop bb).length (c - bb), .slice (cutA A c 0 4) ((l.drop 0).take bb).length c] 22)).drew wr.heap.size 2 _ _ _ _ _ _ (Blk.new wr 22 [.slice (cutA A c bb 4) (l.drop bb).length (c - bb), .slice (cutA A c 0 4) ((l.drop 0).take bb).length c])
        (Walk.upd (hw.drop hc) ua.drew (fun _ _ => id)) (Walk.upd ((hw.drop (i := 0) hc).take) ua.drew (fun _ _ => id)) (by rw [← L1.out, ← L2.out]; omega)
      rw [← L1.out, ← L2.out] at hcc
      have HC := Lib.hid hcc
      clear hcc
      go_wp2
      go_region_held3 (fun _ => True) (trivial)
        ((go_at_call 24; refine HC.out.mono ?_; rintro e w5 ⟨A5, c5, rfl, ho5, hu5⟩))
      all_goals go_wp2
      go_ret
      have hr : l.drop bb ++ (l.drop 0).take bb = turnOf l := by unfold turnOf rot; rw [← hbb.out, List.drop_zero]
      rw [hr, turn_len] at ho5
      refine ⟨A5, c5, rfl, own_base ho5 (Nat.le_trans hu.size (by simp)), (hu.alloc _).trans hu5.of_drew⟩

end Go.Proofs.Ytebjeapnglmokaa

/- Walks turned: the plain law: the least of all that are begun elsewhere is one, from whichever place it is begun. -/
namespace Go.Proofs.Ytebjeapnglmokaa
set_option linter.unusedVariables false
open Go.RowKit

end Go.Proofs.Ytebjeapnglmokaa
