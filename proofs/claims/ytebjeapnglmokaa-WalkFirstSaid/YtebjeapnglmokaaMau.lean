/- Edges held against one another: by the program and by the document. -/
import Derived.Test.YtebjeapnglmokaaProg
import Derived.Sort.Grow
import Derived.Test.YtebjeapnglmokaaMah
import Derived.Test.YtebjeapnglmokaaMas
namespace Go.Proofs.Ytebjeapnglmokaa
set_option linter.unusedVariables false
open Go.RowKit

def cmpI (a b : Int) : Int := if a < b then -1 else if b < a then 1 else 0
theorem cmpI_self (a : Int) : cmpI a a = 0 := by unfold cmpI; simp
theorem cmpI_ne {a b : Int} (h : a ≠ b) : cmpI a b ≠ 0 ∧ decide (cmpI a b < 0) = decide (a < b) := by
  unfold cmpI
  by_cases h1 : a < b
  · simp [h1]
  · have : b < a := by omega
    simp [h1, this]
def cmpE (a b : Edge) : Int := if a.f ≠ b.f then cmpI a.f b.f else if a.k ≠ b.k then cmpI a.k b.k else if a.key ≠ b.key then cmpI a.key b.key else cmpI a.t b.t
def ltE (a b : Edge) : Bool := if a.f ≠ b.f then decide (a.f < b.f) else if a.k ≠ b.k then decide (a.k < b.k) else if a.key ≠ b.key then decide (a.key < b.key) else decide (a.t < b.t)
theorem cmpE_lt (a b : Edge) : decide (cmpE a b < 0) = ltE a b := by
  unfold cmpE ltE
  by_cases h1 : a.f ≠ b.f
  · rw [if_pos h1, if_pos h1, (cmpI_ne h1).2]
  rw [if_neg h1, if_neg h1]
  by_cases h2 : a.k ≠ b.k
  · rw [if_pos h2, if_pos h2, (cmpI_ne h2).2]
  rw [if_neg h2, if_neg h2]
  by_cases h3 : a.key ≠ b.key
  · rw [if_pos h3, if_pos h3, (cmpI_ne h3).2]
  rw [if_neg h3, if_neg h3]
  by_cases h4 : a.t = b.t
  · rw [h4, cmpI_self]; simp
  · rw [(cmpI_ne h4).2]

theorem isnan (w : World) (n : Int) : Calls Try.prog 88 #[.int .i64 n] w fun e w' => e = .returned (.bool false) ∧ w = w' := by
  have hb : (n != n) = false := by simp
  go_enter Try.func88, Try.ntmps88
  go_wp2
  go_ret
  exact ⟨rfl, rfl⟩
theorem cmpint (w : World) (a b : Int) : Calls Try.prog 74 #[.int .i64 a, .int .i64 b] w fun e w' => e = .returned (.int .i64 (cmpI a b)) ∧ w = w' := by
  by_cases h1 : a < b
  · have H := Lib.hid (show cmpI a b = -1 by unfold cmpI; rw [if_pos h1])
    go_enter Try.func74, Try.ntmps74
    go_wp2_with fail
    refine (isnan _ _).mono ?_
    rintro e w' ⟨rfl, rfl⟩
    go_wp2_with fail
    refine (isnan _ _).mono ?_
    rintro e w' ⟨rfl, rfl⟩
    go_wp2
    go_ret
    exact ⟨by rw [H.out]; rfl, rfl⟩
  · by_cases h2 : b < a
    · have H := Lib.hid (show cmpI a b = 1 by unfold cmpI; rw [if_neg h1, if_pos h2])
      go_enter Try.func74, Try.ntmps74
      go_wp2_with fail
      refine (isnan _ _).mono ?_
      rintro e w' ⟨rfl, rfl⟩
      go_wp2_with fail
      refine (isnan _ _).mono ?_
      rintro e w' ⟨rfl, rfl⟩
      go_wp2
      go_ret
      exact ⟨by rw [H.out]; rfl, rfl⟩
    · have H := Lib.hid (show cmpI a b = 0 by unfold cmpI; rw [if_neg h1, if_neg h2])
      go_enter Try.func74, Try.ntmps74
      go_wp2_with fail
      refine (isnan _ _).mono ?_
      rintro e w' ⟨rfl, rfl⟩
      go_wp2_with fail
      refine (isnan _ _).mono ?_
      rintro e w' ⟨rfl, rfl⟩
      go_wp2
      go_ret
      exact ⟨by rw [H.out]; rfl, rfl⟩

/-- new blocks, and draws, and no more -/
def Grw (w w' : World) : Prop := ∃ q os', w' = Sort.grow (w.drewN q) os'
theorem Grw.refl (w : World) : Grw w w := ⟨0, #[], by unfold Sort.grow World.drewN; simp⟩
theorem Grw.alloc {w w' : World} (h : Grw w w') (o : Obj) : Grw w (w'.alloc o) := by
  obtain ⟨q, os', rfl⟩ := h
  exact ⟨q, os'.push o, by unfold Sort.grow World.drewN World.alloc; simp⟩
theorem Grw.drewN {w w' : World} (h : Grw w w') (n : Nat) : Grw w (w'.drewN n) := by
  obtain ⟨q, os', rfl⟩ := h
  exact ⟨q + n, os', by unfold Sort.grow World.drewN; simp [Nat.add_assoc]⟩
theorem Grw.upd {w w' : World} (h : Grw w w') : Upd No w w' := by
  obtain ⟨q, os', rfl⟩ := h
  exact ⟨rfl, rfl, rfl, by unfold Sort.grow World.drewN; simp, fun k hk _ => by unfold Sort.grow World.drewN; simp [Array.getElem?_append_left hk]⟩
/-- a call that leaves the world alone, in a region behind another one that drew -/
theorem still2 {P : Program} {f : FuncId} {args : Array Value} {w : World} {a n : Nat} {v : Value} (h : Calls P f args (w.drewN (a + n)) fun e w' => e = .returned v ∧ w.drewN (a + n) = w') :
    Calls P f args (w.drewN (a + n)) fun e w' => e = .returned v ∧ ∃ m, w' = w.drewN (a + m) := h.mono fun _ _ h => ⟨h.1, n, h.2.symm⟩
set_option maxRecDepth 100000 in
set_option maxHeartbeats 1000000 in
theorem pcompareG (w : World) (x y : Edge) : Calls Try.prog 58 #[.agg x.cells.toArray, .agg y.cells.toArray] w fun e w' => e = .returned (.int .i64 (cmpE x y)) ∧ Grw w w' := by
  unfold Edge.cells
  have H1 := Lib.hid (show x.f = y.f → cmpI x.f y.f = 0 from fun h => by rw [h, cmpI_self])
  by_cases h1 : x.f = y.f
  · have b1 : (cmpI x.f y.f != 0) = false := by rw [h1, cmpI_self]; rfl
    by_cases h2 : x.k = y.k
    · have b2 : (cmpI x.k y.k != 0) = false := by rw [h2, cmpI_self]; rfl
      by_cases h3 : x.key = y.key
      · have b3 : (cmpI x.key y.key != 0) = false := by rw [h3, cmpI_self]; rfl
        have H := Lib.hid (show cmpE x y = cmpI x.t y.t by unfold cmpE; rw [if_neg (by simpa using h1), if_neg (by simpa using h2), if_neg (by simpa using h3)])
        clear h1 h2 h3
        by_cases h4 : x.t = y.t
        · have b4 : (cmpI x.t y.t != 0) = false := by rw [h4, cmpI_self]; rfl
          have H4 := Lib.hid (show cmpI x.t y.t = 0 by rw [h4, cmpI_self])
          clear h4
          go_enter Try.func58, Try.ntmps58
          go_wp2
          refine wp_loop_rounds 5 ?_
          rw [rounds_succ]
          go_wp2
          go_quiet ((go_at_call 74; exact Calls.quiet_of_same ((cmpint _ _ _).mono fun e w' h => ⟨h.1, h.2.symm⟩)))
          go_wp2
          rw [rounds_succ]
          go_wp2
          go_quiet ((go_at_call 74; exact still2 (cmpint _ _ _)))
          go_wp2
          rw [rounds_succ]
          go_wp2
          go_quiet ((go_at_call 74; exact still2 (cmpint _ _ _)))
          go_wp2
          rw [rounds_succ]
          go_wp2
          go_quiet ((go_at_call 74; exact still2 (cmpint _ _ _)))
          go_wp2
          rw [rounds_succ]
          go_wp2
          go_ret
          exact ⟨by rw [H.out, H4.out]; rfl, (((((Grw.refl _).alloc _).alloc _).alloc _).alloc _).drewN _⟩
        · have b4 : (cmpI x.t y.t != 0) = true := by rw [bne_iff_ne]; exact (cmpI_ne h4).1
          clear h4
          go_enter Try.func58, Try.ntmps58
          go_wp2
          refine wp_loop_rounds 4 ?_
          rw [rounds_succ]
          go_wp2
          go_quiet ((go_at_call 74; exact Calls.quiet_of_same ((cmpint _ _ _).mono fun e w' h => ⟨h.1, h.2.symm⟩)))
          go_wp2
          rw [rounds_succ]
          go_wp2
          go_quiet ((go_at_call 74; exact still2 (cmpint _ _ _)))
          go_wp2
          rw [rounds_succ]
          go_wp2
          go_quiet ((go_at_call 74; exact still2 (cmpint _ _ _)))
          go_wp2
          rw [rounds_succ]
          go_wp2
          go_quiet ((go_at_call 74; exact still2 (cmpint _ _ _)))
          go_wp2
          go_ret
          exact ⟨by rw [H.out]; rfl, (((((Grw.refl _).alloc _).alloc _).alloc _).alloc _).drewN _⟩
      · have b3 : (cmpI x.key y.key != 0) = true := by rw [bne_iff_ne]; exact (cmpI_ne h3).1
        have H := Lib.hid (show cmpE x y = cmpI x.key y.key by unfold cmpE; rw [if_neg (by simpa using h1), if_neg (by simpa using h2), if_pos h3])
        clear h1 h2 h3
        go_enter Try.func58, Try.ntmps58
        go_wp2
        refine wp_loop_rounds 3 ?_
        rw [rounds_succ]
        go_wp2
        go_quiet ((go_at_call 74; exact Calls.quiet_of_same ((cmpint _ _ _).mono fun e w' h => ⟨h.1, h.2.symm⟩)))
        go_wp2
        rw [rounds_succ]
        go_wp2
        go_quiet ((go_at_call 74; exact still2 (cmpint _ _ _)))
        go_wp2
        rw [rounds_succ]
        go_wp2
        go_quiet ((go_at_call 74; exact still2 (cmpint _ _ _)))
        go_wp2
        go_ret
        exact ⟨by rw [H.out]; rfl, (((((Grw.refl _).alloc _).alloc _).alloc _).alloc _).drewN _⟩
    · have b2 : (cmpI x.k y.k != 0) = true := by rw [bne_iff_ne]; exact (cmpI_ne h2).1
      have H := Lib.hid (show cmpE x y = cmpI x.k y.k by unfold cmpE; rw [if_neg (by simpa using h1), if_pos h2])
      clear h1 h2
      go_enter Try.func58, Try.ntmps58
      go_wp2
      refine wp_loop_rounds 2 ?_
      rw [rounds_succ]
      go_wp2
      go_quiet ((go_at_call 74; exact Calls.quiet_of_same ((cmpint _ _ _).mono fun e w' h => ⟨h.1, h.2.symm⟩)))
      go_wp2
      rw [rounds_succ]
      go_wp2
      go_quiet ((go_at_call 74; exact still2 (cmpint _ _ _)))
      go_wp2
      go_ret
      exact ⟨by rw [H.out]; rfl, (((((Grw.refl _).alloc _).alloc _).alloc _).alloc _).drewN _⟩
  · have b1 : (cmpI x.f y.f != 0) = true := by rw [bne_iff_ne]; exact (cmpI_ne h1).1
    have H := Lib.hid (show cmpE x y = cmpI x.f y.f by unfold cmpE; rw [if_pos h1])
    clear h1
    go_enter Try.func58, Try.ntmps58
    go_wp2
    refine wp_loop_rounds 1 ?_
    rw [rounds_succ]
    go_wp2
    go_quiet ((go_at_call 74; exact Calls.quiet_of_same ((cmpint _ _ _).mono fun e w' h => ⟨h.1, h.2.symm⟩)))
    go_wp2
    go_ret
    exact ⟨by rw [H.out]; rfl, (((((Grw.refl _).alloc _).alloc _).alloc _).alloc _).drewN _⟩
theorem pcompare (w : World) (x y : Edge) : Calls Try.prog 58 #[.agg x.cells.toArray, .agg y.cells.toArray] w fun e w' => e = .returned (.int .i64 (cmpE x y)) ∧ Upd No w w' :=
  (pcompareG w x y).mono fun _ _ h => ⟨h.1, h.2.upd⟩
theorem pless (w : World) (x y : Edge) : Calls Try.prog 38 #[.agg x.cells.toArray, .agg y.cells.toArray] w fun e w' => e = .returned (.bool (ltE x y)) ∧ Upd No w w' := by
  have H := Lib.hid (cmpE_lt x y)
  unfold Edge.cells
  go_enter Try.func38, Try.ntmps38
  go_wp2_with fail
  refine (pcompare _ x y).mono ?_
  rintro e w1 ⟨rfl, hu⟩
  by_cases h : cmpE x y < 0
  · have H2 := Lib.hid (show ltE x y = true by rw [← H.out, decide_eq_true_eq]; exact h)
    go_wp2
    go_ret
    exact ⟨by rw [H2.out]; first | rfl | (simp [h]), (((Upd.refl No w).alloc _).alloc _).trans hu⟩
  · have H2 := Lib.hid (show ltE x y = false by rw [← H.out, decide_eq_false_iff_not]; exact h)
    go_wp2
    go_ret
    exact ⟨by rw [H2.out]; first | rfl | (simp [h]), (((Upd.refl No w).alloc _).alloc _).trans hu⟩
end Go.Proofs.Ytebjeapnglmokaa

/- Digraphs: ends held against one another. -/
namespace Go.Proofs.Ytebjeapnglmokaa
set_option linter.unusedVariables false
open Go.RowKit
/-- an arc seen from one of its nodes -/
structure DEnd where
  kind : Int
  label : Int
  node : Int
deriving DecidableEq
def DEnd.cells (e : DEnd) : List Value := [.int .i64 e.kind, .int .i64 e.label, .int .i64 e.node]
/-- the first that is not 0 -/
def orI : List Int → Int
  | [] => 0
  | x :: l => if x = 0 then orI l else x
theorem orI_cons (x : Int) (l : List Int) : orI (x :: l) = if x = 0 then orI l else x := rfl
set_option maxRecDepth 100000 in
theorem cmpor (F : Nat → Prop) (w : World) (A : Option Addr) (c : Nat) (l : List Int) (h : Ints F w A l) (hl : l.length ≤ 1000000) :
    Calls Try.prog 85 #[.slice A l.length c] w fun e w' => e = .returned (.int .i64 (orI l)) ∧ Upd No w w' := by
  go_enter Try.func85, Try.ntmps85
  go_wp2
  go_loopg [8] l.length (fun gk i wr => ∃ k : Nat, k + gk = l.length ∧ i = .int .i64 k ∧ Hid (orI (l.drop k) = orI l) ∧ Upd No w wr)
  case atStart => exact ⟨0, by omega, rfl, Lib.hid rfl, Upd.refl _ _⟩
  case round =>
    obtain ⟨k, hgk, rfl, hs, hu⟩ := hrel
    by_cases hlt : k < l.length
    · obtain ⟨ad, hA, _, _, hc⟩ := (h.upd hu (fun _ _ => id)).at_ hlt
      obtain ⟨y, hy⟩ : ∃ y, l[k] = y := ⟨_, rfl⟩
      rw [hy] at hc
      subst hA
      have X := Lib.hid (show l.drop k = y :: l.drop (k + 1) by rw [← hy]; exact List.drop_eq_getElem_cons hlt)
      clear hy
      have b1 : (0 : Int) ≤ (k : Int) := Int.natCast_nonneg _
      have b2 : (k : Int) < (l.length : Int) := by omega
      have hst := hs.out
      rw [X.out, orI_cons] at hst
      by_cases he : y = 0
      · have heb : (y != 0) = false := by rw [he]; rfl
        rw [if_pos he] at hst
        have HS := Lib.hid hst
        clear hst he
        go_wp2
        go_roundg (gk - 1)
        case measure => omega
        case rel => exact ⟨k + 1, by omega, by go_num, HS, hu⟩
      · have heb : (y != 0) = true := by rw [bne_iff_ne]; exact he
        rw [if_neg he] at hst
        have HS := Lib.hid hst
        clear hst he
        go_wp2
        go_ret
        exact ⟨by rw [← HS.out]; rfl, hu⟩
    · obtain rfl : k = l.length := by omega
      have HS := Lib.hid (show (0 : Int) = orI l by rw [← hs.out, List.drop_length]; rfl)
      go_wp2
      go_ret
      exact ⟨by rw [← HS.out]; rfl, hu⟩
def cmpD (a b : DEnd) : Int := orI [cmpI a.kind b.kind, cmpI a.label b.label, cmpI a.node b.node]
set_option maxRecDepth 100000 in
theorem dcompare (w : World) (a b : DEnd) : Calls Try.prog 63 #[.agg a.cells.toArray, .agg b.cells.toArray] w fun e w' => e = .returned (.int .i64 (cmpD a b)) ∧ Upd No w w' := by
  obtain ⟨ak, al, an⟩ := a
  obtain ⟨bk, bl, bn⟩ := b
  unfold DEnd.cells
  have b1 := (Blk.new w 88 [.int .i64 ak, .int .i64 al, .int .i64 an]).alloc (.cells #[.int .i64 bk, .int .i64 bl, .int .i64 bn] 88)
  have b2 := Blk.new (w.alloc (.cells #[.int .i64 ak, .int .i64 al, .int .i64 an] 88)) 88 [.int .i64 bk, .int .i64 bl, .int .i64 bn]
  simp only [World.size_alloc] at b2
  have uA := ((Upd.refl No w).alloc (.cells #[.int .i64 ak, .int .i64 al, .int .i64 an] 88)).alloc (.cells #[.int .i64 bk, .int .i64 bl, .int .i64 bn] 88)
  obtain ⟨wb, hwb⟩ : ∃ wb, (w.alloc (.cells #[.int .i64 ak, .int .i64 al, .int .i64 an] 88)).alloc (.cells #[.int .i64 bk, .int .i64 bl, .int .i64 bn] 88) = wb := ⟨_, rfl⟩
  rw [hwb] at b1 b2 uA
  have a0 : ∀ W, Upd No wb W → W.cell? ⟨w.heap.size, 0, none⟩ = some (.int .i64 ak) := fun W hW => (b1.upd hW id).cell 0
  have a1 : ∀ W, Upd No wb W → W.cell? ⟨w.heap.size, 1, none⟩ = some (.int .i64 al) := fun W hW => (b1.upd hW id).cell 1
  have a2 : ∀ W, Upd No wb W → W.cell? ⟨w.heap.size, 2, none⟩ = some (.int .i64 an) := fun W hW => (b1.upd hW id).cell 2
  have c0 : ∀ W, Upd No wb W → W.cell? ⟨w.heap.size + 1, 0, none⟩ = some (.int .i64 bk) := fun W hW => (b2.upd hW id).cell 0
  have c1 : ∀ W, Upd No wb W → W.cell? ⟨w.heap.size + 1, 1, none⟩ = some (.int .i64 bl) := fun W hW => (b2.upd hW id).cell 1
  have c2 : ∀ W, Upd No wb W → W.cell? ⟨w.heap.size + 1, 2, none⟩ = some (.int .i64 bn) := fun W hW => (b2.upd hW id).cell 2
  have HWB := Lib.hid hwb
  have UA := Lib.hid uA
  have hor := cmpor (fun i => i = wb.heap.size) ((wb.alloc (.cells #[.int .i64 (cmpI ak bk), .int .i64 (cmpI al bl), .int .i64 (cmpI an bn)] 3)).drew) (some ⟨wb.heap.size, 0, none⟩) 3 [cmpI ak bk, cmpI al bl, cmpI an bn] (Ints.drew (lit_ints (W := wb) [cmpI ak bk, cmpI al bl, cmpI an bn] 3)) (by simp)
  have HOr := Lib.hid hor
  have HV := Lib.hid (show cmpD ⟨ak, al, an⟩ ⟨bk, bl, bn⟩ = orI [cmpI ak bk, cmpI al bl, cmpI an bn] from rfl)
  clear hwb uA b1 b2 hor
  go_enter Try.func63, Try.ntmps63
  go_wp2
  rw [HWB.out]
  refine wp_region_noPanic ?_
  refine wp_region_held_drew (S := (fun w' => Upd No wb w')) (by kernel_rfl) ?_ (fun hHeld => ?_)
  · (first | exact (Upd.refl No _).drew | exact hHeld.trans hu3 | exact hHeld.alloc _)
  refine wpT 0 ⟨some 5, .fieldAddr 88 (.tmp 2) 0, 0, "digraph.go:16", #[], none⟩ ?_ (.inl ⟨by rfl, ?_⟩) ?_
  rotate_left
  · (intro W hSw; (try dsimp only at hSw); go_simp; try (with_reducible rfl))
  try simp only [Act.put]
  try simp only [List.setIfInBounds_toArray]
  try simp only [List.set_cons_succ]
  try simp only [List.set_cons_zero]
  refine wpT 1 ⟨some 6, .load 3 (.tmp 5), 3, "digraph.go:16", #[⟨0, .data⟩], none⟩ ?_ (.inl ⟨by rfl, ?_⟩) ?_
  rotate_left
  · (intro W hSw; (try dsimp only at hSw); go_simp; try (with_reducible rfl))
  try simp only [Act.put]
  try simp only [List.setIfInBounds_toArray]
  try simp only [List.set_cons_succ]
  try simp only [List.set_cons_zero]
  refine wpT 2 ⟨some 7, .fieldAddr 88 (.tmp 3) 0, 0, "digraph.go:16", #[], none⟩ ?_ (.inl ⟨by rfl, ?_⟩) ?_
  rotate_left
  · (intro W hSw; (try dsimp only at hSw); go_simp; try (with_reducible rfl))
  try simp only [Act.put]
  try simp only [List.setIfInBounds_toArray]
  try simp only [List.set_cons_succ]
  try simp only [List.set_cons_zero]
  refine wpT 3 ⟨some 8, .load 3 (.tmp 7), 3, "digraph.go:16", #[⟨2, .data⟩], none⟩ ?_ (.inl ⟨by rfl, ?_⟩) ?_
  rotate_left
  · (intro W hSw; (try dsimp only at hSw); go_simp; try (with_reducible rfl))
  try simp only [Act.put]
  try simp only [List.setIfInBounds_toArray]
  try simp only [List.set_cons_succ]
  try simp only [List.set_cons_zero]
  refine wpT 5 ⟨some 10, .fieldAddr 88 (.tmp 2) 1, 0, "digraph.go:16", #[], none⟩ ?_ (.inl ⟨by rfl, ?_⟩) ?_
  rotate_left
  · (intro W hSw; (try dsimp only at hSw); go_simp; try (with_reducible rfl))
  try simp only [Act.put]
  try simp only [List.setIfInBounds_toArray]
  try simp only [List.set_cons_succ]
  try simp only [List.set_cons_zero]
  refine wpT 6 ⟨some 11, .load 3 (.tmp 10), 3, "digraph.go:16", #[⟨5, .data⟩], none⟩ ?_ (.inl ⟨by rfl, ?_⟩) ?_
  rotate_left
  · (intro W hSw; (try dsimp only at hSw); go_simp; try (with_reducible rfl))
  try simp only [Act.put]
  try simp only [List.setIfInBounds_toArray]
  try simp only [List.set_cons_succ]
  try simp only [List.set_cons_zero]
  refine wpT 7 ⟨some 12, .fieldAddr 88 (.tmp 3) 1, 0, "digraph.go:16", #[], none⟩ ?_ (.inl ⟨by rfl, ?_⟩) ?_
  rotate_left
  · (intro W hSw; (try dsimp only at hSw); go_simp; try (with_reducible rfl))
  try simp only [Act.put]
  try simp only [List.setIfInBounds_toArray]
  try simp only [List.set_cons_succ]
  try simp only [List.set_cons_zero]
  refine wpT 8 ⟨some 13, .load 3 (.tmp 12), 3, "digraph.go:16", #[⟨7, .data⟩], none⟩ ?_ (.inl ⟨by rfl, ?_⟩) ?_
  rotate_left
  · (intro W hSw; (try dsimp only at hSw); go_simp; try (with_reducible rfl))
  try simp only [Act.put]
  try simp only [List.setIfInBounds_toArray]
  try simp only [List.set_cons_succ]
  try simp only [List.set_cons_zero]
  refine wpT 10 ⟨some 15, .fieldAddr 88 (.tmp 2) 2, 0, "digraph.go:16", #[], none⟩ ?_ (.inl ⟨by rfl, ?_⟩) ?_
  rotate_left
  · (intro W hSw; (try dsimp only at hSw); go_simp; try (with_reducible rfl))
  try simp only [Act.put]
  try simp only [List.setIfInBounds_toArray]
  try simp only [List.set_cons_succ]
  try simp only [List.set_cons_zero]
  refine wpT 11 ⟨some 16, .load 3 (.tmp 15), 3, "digraph.go:16", #[⟨10, .data⟩], none⟩ ?_ (.inl ⟨by rfl, ?_⟩) ?_
  rotate_left
  · (intro W hSw; (try dsimp only at hSw); go_simp; try (with_reducible rfl))
  try simp only [Act.put]
  try simp only [List.setIfInBounds_toArray]
  try simp only [List.set_cons_succ]
  try simp only [List.set_cons_zero]
  refine wpT 12 ⟨some 17, .fieldAddr 88 (.tmp 3) 2, 0, "digraph.go:16", #[], none⟩ ?_ (.inl ⟨by rfl, ?_⟩) ?_
  rotate_left
  · (intro W hSw; (try dsimp only at hSw); go_simp; try (with_reducible rfl))
  try simp only [Act.put]
  try simp only [List.setIfInBounds_toArray]
  try simp only [List.set_cons_succ]
  try simp only [List.set_cons_zero]
  refine wpT 13 ⟨some 18, .load 3 (.tmp 17), 3, "digraph.go:16", #[⟨12, .data⟩], none⟩ ?_ (.inl ⟨by rfl, ?_⟩) ?_
  rotate_left
  · (intro W hSw; (try dsimp only at hSw); go_simp; try (with_reducible rfl))
  try simp only [Act.put]
  try simp only [List.setIfInBounds_toArray]
  try simp only [List.set_cons_succ]
  try simp only [List.set_cons_zero]
  refine wpAnyH_ready (rs := [4]) (by kernel_rfl) (by simp) ?_
  refine AllReadyH.cons (o := ⟨some 9, .call { callee := .value (.func 74), args := #[.tmp 6, .tmp 8], argTypes := #[3, 3] }, 3, "digraph.go:16", #[⟨1, .data⟩, ⟨3, .data⟩], none⟩) rfl (fun K hK => ?_) AllReadyH.nil
  go_simp
  (first
    | (go_at_call 74; refine (cmpint _ _ _).mono ?_; rintro e w3 ⟨rfl, rfl⟩; have hu3 := hHeld))
  try (go_wp2_with fail)
  refine hK.out _ _ ?_ (fun hHeld => ?_)
  · (first | exact (Upd.refl No _).drew | exact hHeld.trans hu3 | exact hHeld.alloc _)
  clear hK K
  try simp only [Act.put]
  try simp only [List.setIfInBounds_toArray]
  try simp only [List.set_cons_succ]
  try simp only [List.set_cons_zero]
  refine wpAnyH_ready (rs := [9]) (by kernel_rfl) (by simp) ?_
  refine AllReadyH.cons (o := ⟨some 14, .call { callee := .value (.func 74), args := #[.tmp 11, .tmp 13], argTypes := #[3, 3] }, 3, "digraph.go:16", #[⟨6, .data⟩, ⟨8, .data⟩, ⟨4, .chain⟩], none⟩) rfl (fun K hK => ?_) AllReadyH.nil
  go_simp
  (first
    | (go_at_call 74; refine (cmpint _ _ _).mono ?_; rintro e w3 ⟨rfl, rfl⟩; have hu3 := hHeld))
  try (go_wp2_with fail)
  refine hK.out _ _ ?_ (fun hHeld => ?_)
  · (first | exact (Upd.refl No _).drew | exact hHeld.trans hu3 | exact hHeld.alloc _)
  clear hK K
  try simp only [Act.put]
  try simp only [List.setIfInBounds_toArray]
  try simp only [List.set_cons_succ]
  try simp only [List.set_cons_zero]
  refine wpAnyH_ready (rs := [14]) (by kernel_rfl) (by simp) ?_
  refine AllReadyH.cons (o := ⟨some 19, .call { callee := .value (.func 74), args := #[.tmp 16, .tmp 18], argTypes := #[3, 3] }, 3, "digraph.go:16", #[⟨11, .data⟩, ⟨13, .data⟩, ⟨9, .chain⟩], none⟩) rfl (fun K hK => ?_) AllReadyH.nil
  go_simp
  (first
    | (go_at_call 74; refine (cmpint _ _ _).mono ?_; rintro e w3 ⟨rfl, rfl⟩; have hu3 := hHeld))
  try (go_wp2_with fail)
  refine hK.out _ _ ?_ (fun hHeld => ?_)
  · (first | exact (Upd.refl No _).drew | exact hHeld.trans hu3 | exact hHeld.alloc _)
  clear hK K
  try simp only [Act.put]
  try simp only [List.setIfInBounds_toArray]
  try simp only [List.set_cons_succ]
  try simp only [List.set_cons_zero]
  refine wpAnyH_ready (rs := [15]) (by kernel_rfl) (by simp) ?_
  refine AllReadyH.cons (o := ⟨some 20, .buildSlice 38 3 #[(0, .tmp 9), (1, .tmp 14), (2, .tmp 19)], 38, "digraph.go:16", #[⟨4, .data⟩, ⟨9, .data⟩, ⟨14, .data⟩], none⟩) rfl (fun K hK => ?_) AllReadyH.nil
  go_simp
  refine hK.out _ _ ?_ (fun hHeld => ?_)
  · (first | exact (Upd.refl No _).drew | exact hHeld.trans hu3 | exact hHeld.alloc _)
  clear hK K
  try simp only [Act.put]
  try simp only [List.setIfInBounds_toArray]
  try simp only [List.set_cons_succ]
  try simp only [List.set_cons_zero]
  refine wpAnyH_ready (rs := [16]) (by kernel_rfl) (by simp) ?_
  refine AllReadyH.cons (o := ⟨some 21, .call { callee := .value (.func 85), args := #[.tmp 20], argTypes := #[38] }, 3, "digraph.go:16", #[⟨15, .data⟩, ⟨14, .chain⟩], none⟩) rfl (fun K hK => ?_) AllReadyH.nil
  go_simp
  (first
    | (go_at_call 85; refine (HOr.out).mono ?_; rintro e w3 ⟨rfl, hu3⟩))
  try (go_wp2_with fail)
  refine hK.out _ _ ?_ (fun hHeld => ?_)
  · (first | exact (Upd.refl No _).drew | exact hHeld.trans hu3 | exact hHeld.alloc _)
  clear hK K
  try simp only [Act.put]
  try simp only [List.setIfInBounds_toArray]
  try simp only [List.set_cons_succ]
  try simp only [List.set_cons_zero]
  refine wpT 17 ⟨some 4, .assign (.tmp 21), 3, "digraph.go:16", #[⟨16, .data⟩, ⟨16, .chain⟩, ⟨0, .phase⟩, ⟨1, .phase⟩, ⟨2, .phase⟩, ⟨3, .phase⟩, ⟨4, .phase⟩, ⟨5, .phase⟩, ⟨6, .phase⟩, ⟨7, .phase⟩, ⟨8, .phase⟩, ⟨9, .phase⟩, ⟨10, .phase⟩, ⟨11, .phase⟩, ⟨12, .phase⟩, ⟨13, .phase⟩, ⟨14, .phase⟩, ⟨15, .phase⟩, ⟨16, .phase⟩], none⟩ ?_ (.inl ⟨by rfl, ?_⟩) ?_
  rotate_left
  · (intro W hSw; (try dsimp only at hSw); go_simp; try (with_reducible rfl))
  try simp only [Act.put]
  try simp only [List.setIfInBounds_toArray]
  try simp only [List.set_cons_succ]
  try simp only [List.set_cons_zero]
  refine wpAnyH_done (by kernel_rfl) (NoPanic.normal ?_) _
  have HU := Lib.hid (UA.out.trans hHeld)
  clear hHeld
  go_wp2
  go_ret
  exact ⟨by rw [HV.out]; rfl, HU.out⟩
end Go.Proofs.Ytebjeapnglmokaa
