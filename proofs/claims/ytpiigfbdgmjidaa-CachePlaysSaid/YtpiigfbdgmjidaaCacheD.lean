/- Whether two walks, two witnesses are the same. -/
import Derived.Test.YtpiigfbdgmjidaaProg
import Derived.Test.YtpiigfbdgmjidaaCacheC
import Derived.Laws.StructEq
namespace Go.Proofs.Ytpiigfbdgmjidaa
set_option linter.unusedVariables false
open Go.RowKit

theorem version_eq (w : World) (n : Nat) (a b c a' b' c' : Int) :
    (Op.equalIn (n + 2) 43 (.agg #[.int .i64 a, .int .i64 b, .int .i64 c]) (.agg #[.int .i64 a', .int .i64 b', .int .i64 c'])).run Try.prog w = .ok (decide (a = a' ∧ b = b' ∧ c = c')) w := by
  rw [run_equalIn_struct w _ _ _ _ (by kernel_rfl) (by kernel_rfl)]
  have hI : ∀ (w : World) (d : Nat) (x y : Int), (Op.equalIn (d + 1) 3 (.int .i64 x) (.int .i64 y)).run Try.prog w = .ok (x == y) w := fun w d x y => run_equalIn_int w d _ _ _ x y Try.underlying3
  by_cases h1 : a = a' <;> by_cases h2 : b = b' <;> by_cases h3 : c = c' <;>
    simp [Program.fieldsOf, Try.underlying43, Op.eqFields, part, hI, h1, h2, h3, Result.andThen]
theorem bad_eq (w : World) (a b c d e a' b' c' d' e' : Int) :
    (binOp .eql 45 (.agg #[.int .i64 a, .int .i64 b, .int .i64 c, .int .i64 d, .int .i64 e]) (.agg #[.int .i64 a', .int .i64 b', .int .i64 c', .int .i64 d', .int .i64 e'])).run Try.prog w = .ok (.bool (decide (a = a' ∧ b = b' ∧ c = c' ∧ d = d' ∧ e = e'))) w := by
  rw [run_eql_struct, run_equalIn_struct w _ _ _ _ (by kernel_rfl) (by kernel_rfl)]
  have hI : ∀ (w : World) (d : Nat) (x y : Int), (Op.equalIn (d + 1) 3 (.int .i64 x) (.int .i64 y)).run Try.prog w = .ok (x == y) w := fun w d x y => run_equalIn_int w d _ _ _ x y Try.underlying3
  have hV := fun w a b c a' b' c' => version_eq w 9997 a b c a' b' c'
  by_cases h1 : a = a' <;> by_cases h2 : b = b' <;>
    simp [Program.fieldsOf, Try.underlying45, Op.eqFields, part, hI, hV, h1, h2, Result.andThen]
  by_cases h3 : c = c' <;> by_cases h4 : d = d' <;> by_cases h5 : e = e' <;> simp [h3, h4, h5]
theorem wsame (w : World) (F G : Nat → Prop) (A B : Option Addr) (c d : Nat) (x y : Wit) (hx : Walk F w A x.walk) (hy : Walk G w B y.walk) (hl : x.walk.length ≤ 4398046511103) (hl2 : y.walk.length ≤ 4398046511103) :
    Calls Try.prog 28 #[.agg (x.cells A c).toArray, .agg (y.cells B d).toArray] w fun e w' => e = .returned (.bool (x == y)) ∧ Upd No w w' := by
  have qE := bad_eq
  have qG : ∀ (op : BinOp) (x y : Operand) (xs ys : Array Value) (w : World), (eqGuard op 45 x y (.agg xs) (.agg ys)).run Try.prog w = .ok () w := fun op x y xs ys w => run_eqGuard_agg w op _ x y xs ys (by kernel_rfl)
  have hx' := hx.lt
  have hy' := hy.lt
  obtain ⟨ph, l, r0, r1, r2, r3, r4⟩ := x
  obtain ⟨ph', l', r0', r1', r2', r3', r4'⟩ := y
  unfold Wit.cells
  simp only at hx hy hl hl2 hx' hy'
  by_cases h1 : ph = ph'
  · have h1b : (ph == ph') = true := by simpa using h1
    by_cases h2 : r0 = r0' ∧ r1 = r1' ∧ r2 = r2' ∧ r3 = r3' ∧ r4 = r4'
    · have h2b : decide (r0 = r0' ∧ r1 = r1' ∧ r2 = r2' ∧ r3 = r3' ∧ r4 = r4') = true := decide_eq_true h2
      have H1 := Lib.hid h1
      have H2 := Lib.hid h2
      clear h1 h2
      go_enter Try.func28, Try.ntmps28
      go_wp2_with fail
      refine (sameedges _ _ _ A B c d l l' (hx'.upd (((Upd.refl No w).alloc _).alloc _) (fun _ _ => id)) (hy'.upd (((Upd.refl No w).alloc _).alloc _) (fun _ _ => id)) hl hl2).mono ?_
      rintro e w' ⟨rfl, hu⟩
      go_wp2
      go_ret
      refine ⟨?_, (((Upd.refl No w).alloc _).alloc _).trans hu⟩
      have e1 := H1.out
      obtain ⟨rfl, rfl, rfl, rfl, rfl⟩ := H2.out
      subst e1
      rw [show ((⟨ph, l, r0, r1, r2, r3, r4⟩ : Wit) == ⟨ph, l', r0, r1, r2, r3, r4⟩) = (l == l') by rw [Bool.eq_iff_iff]; simp]
      rfl
    · have h2b : decide (r0 = r0' ∧ r1 = r1' ∧ r2 = r2' ∧ r3 = r3' ∧ r4 = r4') = false := decide_eq_false h2
      have H2 := Lib.hid h2
      clear h1 h2
      go_enter Try.func28, Try.ntmps28
      go_wp2
      go_ret
      refine ⟨?_, ((Upd.refl No w).alloc _).alloc _⟩
      have e2 := H2.out
      rw [show ((⟨ph, l, r0, r1, r2, r3, r4⟩ : Wit) == ⟨ph', l', r0', r1', r2', r3', r4'⟩) = false by
        rw [beq_eq_false_iff_ne]
        intro e
        cases e
        exact e2 ⟨rfl, rfl, rfl, rfl, rfl⟩]
      rfl
  · have h1b : (ph == ph') = false := by simpa using h1
    have H1 := Lib.hid h1
    clear h1
    go_enter Try.func28, Try.ntmps28
    go_wp2
    go_ret
    refine ⟨?_, ((Upd.refl No w).alloc _).alloc _⟩
    have e1 := H1.out
    rw [show ((⟨ph, l, r0, r1, r2, r3, r4⟩ : Wit) == ⟨ph', l', r0', r1', r2', r3', r4'⟩) = false by
      rw [beq_eq_false_iff_ne]
      intro e
      cases e
      exact e1 rfl]
    rfl
end Go.Proofs.Ytpiigfbdgmjidaa
