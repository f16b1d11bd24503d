/- Edges held against one another: by the program and by the document. -/
import Derived.Test.YtaicemjckagcaaaGreatProg
import Derived.Sort.Grow
import Derived.Test.YtaicemjckagcaaaGreatMaf
import Derived.Test.YtaicemjckagcaaaGreatMal
namespace Go.Proofs.YtaicemjckagcaaaGreat
set_option linter.unusedVariables false
open Go.RowKit

def cmpI (a b : Int) : Int := if a < b then -1 else if b < a then 1 else 0
theorem cmpI_self (a : Int) : cmpI a a = 0 := by unfold cmpI; simp
theorem cmpI_ne {a b : Int} (h : a ≠ b) : cmpI a b ≠ 0 ∧ decide (cmpI a b < 0) = decide (a < b) := by
  unfold cmpI
  by_cases h1 : a < b
  · simp [h1]
  · have : b < a := by omega
    simp [h1, this]
def cmpE (a b : Edge) : Int := if a.f ≠ b.f then cmpI a.f b.f else if a.k ≠ b.k then cmpI a.k b.k else if a.key ≠ b.key then cmpI a.key b.key else cmpI a.t b.t
def ltE (a b : Edge) : Bool := if a.f ≠ b.f then decide (a.f < b.f) else if a.k ≠ b.k then decide (a.k < b.k) else if a.key ≠ b.key then decide (a.key < b.key) else decide (a.t < b.t)
theorem cmpE_lt (a b : Edge) : decide (cmpE a b < 0) = ltE a b := by
  unfold cmpE ltE
  by_cases h1 : a.f ≠ b.f
  · rw [if_pos h1, if_pos h1, (cmpI_ne h1).2]
  rw [if_neg h1, if_neg h1]
  by_cases h2 : a.k ≠ b.k
  · rw [if_pos h2, if_pos h2, (cmpI_ne h2).2]
  rw [if_neg h2, if_neg h2]
  by_cases h3 : a.key ≠ b.key
  · rw [if_pos h3, if_pos h3, (cmpI_ne h3).2]
  rw [if_neg h3, if_neg h3]
  by_cases h4 : a.t = b.t
  · rw [h4, cmpI_self]; simp
  · rw [(cmpI_ne h4).2]

theorem isnan (w : World) (n : Int) : Calls Tryz.prog 200 #[.int .i64 n] w fun e w' => e = .returned (.bool false) ∧ w = w' := by
  have hb : (n != n) = false := by simp
  go_enter Tryz.func200, Tryz.ntmps200
  go_wp2
  go_ret
  exact ⟨rfl, rfl⟩
theorem cmpint (w : World) (a b : Int) : Calls Tryz.prog 157 #[.int .i64 a, .int .i64 b] w fun e w' => e = .returned (.int .i64 (cmpI a b)) ∧ w = w' := by
  by_cases h1 : a < b
  · have H := Lib.hid (show cmpI a b = -1 by unfold cmpI; rw [if_pos h1])
    go_enter Tryz.func157, Tryz.ntmps157
    go_wp2_with fail
    refine (isnan _ _).mono ?_
    rintro e w' ⟨rfl, rfl⟩
    go_wp2_with fail
    refine (isnan _ _).mono ?_
    rintro e w' ⟨rfl, rfl⟩
    go_wp2
    go_ret
    exact ⟨by rw [H.out]; rfl, rfl⟩
  · by_cases h2 : b < a
    · have H := Lib.hid (show cmpI a b = 1 by unfold cmpI; rw [if_neg h1, if_pos h2])
      go_enter Tryz.func157, Tryz.ntmps157
      go_wp2_with fail
      refine (isnan _ _).mono ?_
      rintro e w' ⟨rfl, rfl⟩
      go_wp2_with fail
      refine (isnan _ _).mono ?_
      rintro e w' ⟨rfl, rfl⟩
      go_wp2
      go_ret
      exact ⟨by rw [H.out]; rfl, rfl⟩
    · have H := Lib.hid (show cmpI a b = 0 by unfold cmpI; rw [if_neg h1, if_neg h2])
      go_enter Tryz.func157, Tryz.ntmps157
      go_wp2_with fail
      refine (isnan _ _).mono ?_
      rintro e w' ⟨rfl, rfl⟩
      go_wp2_with fail
      refine (isnan _ _).mono ?_
      rintro e w' ⟨rfl, rfl⟩
      go_wp2
      go_ret
      exact ⟨by rw [H.out]; rfl, rfl⟩

/-- new blocks, and draws, and no more -/
def Grw (w w' : World) : Prop := ∃ q os', w' = Sort.grow (w.drewN q) os'
theorem Grw.refl (w : World) : Grw w w := ⟨0, #[], by unfold Sort.grow World.drewN; simp⟩
theorem Grw.alloc {w w' : World} (h : Grw w w') (o : Obj) : Grw w (w'.alloc o) := by
  obtain ⟨q, os', rfl⟩ := h
  exact ⟨q, os'.push o, by unfold Sort.grow World.drewN World.alloc; simp⟩
theorem Grw.drewN {w w' : World} (h : Grw w w') (n : Nat) : Grw w (w'.drewN n) := by
  obtain ⟨q, os', rfl⟩ := h
  exact ⟨q + n, os', by unfold Sort.grow World.drewN; simp [Nat.add_assoc]⟩
theorem Grw.upd {w w' : World} (h : Grw w w') : Upd No w w' := by
  obtain ⟨q, os', rfl⟩ := h
  exact ⟨rfl, rfl, rfl, by unfold Sort.grow World.drewN; simp, fun k hk _ => by unfold Sort.grow World.drewN; simp [Array.getElem?_append_left hk]⟩
/-- a call that leaves the world alone, in a region behind another one that drew -/
theorem still2 {P : Program} {f : FuncId} {args : Array Value} {w : World} {a n : Nat} {v : Value} (h : Calls P f args (w.drewN (a + n)) fun e w' => e = .returned v ∧ w.drewN (a + n) = w') :
    Calls P f args (w.drewN (a + n)) fun e w' => e = .returned v ∧ ∃ m, w' = w.drewN (a + m) := h.mono fun _ _ h => ⟨h.1, n, h.2.symm⟩
set_option maxRecDepth 100000 in
set_option maxHeartbeats 1000000 in
theorem pcompareG (w : World) (x y : Edge) : Calls Tryz.prog 129 #[.agg x.cells.toArray, .agg y.cells.toArray] w fun e w' => e = .returned (.int .i64 (cmpE x y)) ∧ Grw w w' := by
  unfold Edge.cells
  have H1 := Lib.hid (show x.f = y.f → cmpI x.f y.f = 0 from fun h => by rw [h, cmpI_self])
  by_cases h1 : x.f = y.f
  · have b1 : (cmpI x.f y.f != 0) = false := by rw [h1, cmpI_self]; rfl
    by_cases h2 : x.k = y.k
    · have b2 : (cmpI x.k y.k != 0) = false := by rw [h2, cmpI_self]; rfl
      by_cases h3 : x.key = y.key
      · have b3 : (cmpI x.key y.key != 0) = false := by rw [h3, cmpI_self]; rfl
        have H := Lib.hid (show cmpE x y = cmpI x.t y.t by unfold cmpE; rw [if_neg (by simpa using h1), if_neg (by simpa using h2), if_neg (by simpa using h3)])
        clear h1 h2 h3
        by_cases h4 : x.t = y.t
        · have b4 : (cmpI x.t y.t != 0) = false := by rw [h4, cmpI_self]; rfl
          have H4 := Lib.hid (show cmpI x.t y.t = 0 by rw [h4, cmpI_self])
          clear h4
          go_enter Tryz.func129, Tryz.ntmps129
          go_wp2
          refine wp_loop_rounds 5 ?_
          rw [rounds_succ]
          go_wp2
          go_quiet ((go_at_call 157; exact Calls.quiet_of_same ((cmpint _ _ _).mono fun e w' h => ⟨h.1, h.2.symm⟩)))
          go_wp2
          rw [rounds_succ]
          go_wp2
          go_quiet ((go_at_call 157; exact still2 (cmpint _ _ _)))
          go_wp2
          rw [rounds_succ]
          go_wp2
          go_quiet ((go_at_call 157; exact still2 (cmpint _ _ _)))
          go_wp2
          rw [rounds_succ]
          go_wp2
          go_quiet ((go_at_call 157; exact still2 (cmpint _ _ _)))
          go_wp2
          rw [rounds_succ]
          go_wp2
          go_ret
          exact ⟨by rw [H.out, H4.out]; rfl, (((((Grw.refl _).alloc _).alloc _).alloc _).alloc _).drewN _⟩
        · have b4 : (cmpI x.t y.t != 0) = true := by rw [bne_iff_ne]; exact (cmpI_ne h4).1
          clear h4
          go_enter Tryz.func129, Tryz.ntmps129
          go_wp2
          refine wp_loop_rounds 4 ?_
          rw [rounds_succ]
          go_wp2
          go_quiet ((go_at_call 157; exact Calls.quiet_of_same ((cmpint _ _ _).mono fun e w' h => ⟨h.1, h.2.symm⟩)))
          go_wp2
          rw [rounds_succ]
          go_wp2
          go_quiet ((go_at_call 157; exact still2 (cmpint _ _ _)))
          go_wp2
          rw [rounds_succ]
          go_wp2
          go_quiet ((go_at_call 157; exact still2 (cmpint _ _ _)))
          go_wp2
          rw [rounds_succ]
          go_wp2
          go_quiet ((go_at_call 157; exact still2 (cmpint _ _ _)))
          go_wp2
          go_ret
          exact ⟨by rw [H.out]; rfl, (((((Grw.refl _).alloc _).alloc _).alloc _).alloc _).drewN _⟩
      · have b3 : (cmpI x.key y.key != 0) = true := by rw [bne_iff_ne]; exact (cmpI_ne h3).1
        have H := Lib.hid (show cmpE x y = cmpI x.key y.key by unfold cmpE; rw [if_neg (by simpa using h1), if_neg (by simpa using h2), if_pos h3])
        clear h1 h2 h3
        go_enter Tryz.func129, Tryz.ntmps129
        go_wp2
        refine wp_loop_rounds 3 ?_
        rw [rounds_succ]
        go_wp2
        go_quiet ((go_at_call 157; exact Calls.quiet_of_same ((cmpint _ _ _).mono fun e w' h => ⟨h.1, h.2.symm⟩)))
        go_wp2
        rw [rounds_succ]
        go_wp2
        go_quiet ((go_at_call 157; exact still2 (cmpint _ _ _)))
        go_wp2
        rw [rounds_succ]
        go_wp2
        go_quiet ((go_at_call 157; exact still2 (cmpint _ _ _)))
        go_wp2
        go_ret
        exact ⟨by rw [H.out]; rfl, (((((Grw.refl _).alloc _).alloc _).alloc _).alloc _).drewN _⟩
    · have b2 : (cmpI x.k y.k != 0) = true := by rw [bne_iff_ne]; exact (cmpI_ne h2).1
      have H := Lib.hid (show cmpE x y = cmpI x.k y.k by unfold cmpE; rw [if_neg (by simpa using h1), if_pos h2])
      clear h1 h2
      go_enter Tryz.func129, Tryz.ntmps129
      go_wp2
      refine wp_loop_rounds 2 ?_
      rw [rounds_succ]
      go_wp2
      go_quiet ((go_at_call 157; exact Calls.quiet_of_same ((cmpint _ _ _).mono fun e w' h => ⟨h.1, h.2.symm⟩)))
      go_wp2
      rw [rounds_succ]
      go_wp2
      go_quiet ((go_at_call 157; exact still2 (cmpint _ _ _)))
      go_wp2
      go_ret
      exact ⟨by rw [H.out]; rfl, (((((Grw.refl _).alloc _).alloc _).alloc _).alloc _).drewN _⟩
  · have b1 : (cmpI x.f y.f != 0) = true := by rw [bne_iff_ne]; exact (cmpI_ne h1).1
    have H := Lib.hid (show cmpE x y = cmpI x.f y.f by unfold cmpE; rw [if_pos h1])
    clear h1
    go_enter Tryz.func129, Tryz.ntmps129
    go_wp2
    refine wp_loop_rounds 1 ?_
    rw [rounds_succ]
    go_wp2
    go_quiet ((go_at_call 157; exact Calls.quiet_of_same ((cmpint _ _ _).mono fun e w' h => ⟨h.1, h.2.symm⟩)))
    go_wp2
    go_ret
    exact ⟨by rw [H.out]; rfl, (((((Grw.refl _).alloc _).alloc _).alloc _).alloc _).drewN _⟩
end Go.Proofs.YtaicemjckagcaaaGreat
