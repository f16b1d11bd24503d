/- The Go function 'tenter/tenterlaw41.RenderTells' returns true for every input that can be read, and leaves its arguments as they were. No further condition. -/
import Derived.Test.YtdbjokfejmgepaaRows
import Derived.Test.YtdbjokfejmgepaaRabk
import Derived.Test.YtdbjokfejmgepaaRacb
import Derived.Below
import Derived.WalkKit
import Derived.SizedLaws
import Derived.ProofKit
import Derived.OpenShut
import Derived.ShutString
import Derived.ChangeOld
namespace Go.Proofs.Ytdbjokfejmgepaa.renderTells
open Go.Proofs.Ytdbjokfejmgepaa
open Go.ChangeShapes Go.WideShapes Go.ChangeAt Go.RowKit
open Go.ChangeMaps (open_string shut_string)
set_option linter.unusedVariables false

theorem own : ownKnob Try.prog.godebug = none := by kernel_rfl
theorem laidOut : laidOutB Try.prog = true := by kernel_rfl

/-- WHAT THE WALK IS TOLD OF A SLICE OF INTEGERS THAT CAME IN: it is nil; or it leads to a row of 'cap' cells, the numbers 'zs' (the first 'len' are its elements, the rest its spare room), each fitting its kind. -/
def IsRow (k : IntKind) (w : World) (a : Option Addr) (len cap : Nat) (zs : List Int) : Prop :=
  (a = none ∧ len = 0 ∧ cap = 0 ∧ zs = []) ∨
  ∃ x, a = some x ∧ len ≤ cap ∧ cap ≤ maxLen ∧ zs.length = cap ∧ (∀ i, i < zs.length → w.cell? (x.add i) = some (.int k (zs.getD i 0))) ∧ ∀ n ∈ zs, (Lit.int k n).wf = true

/-! ### STEP 1: THE WALK: the Go text returns true, AND WRITES NOTHING THAT WAS THERE: 'Below w.heap.size w w'' (Derived/Below.lean: '.refl', '.alloc', '.drew', '.setCell' at a new block, '.trans'). Open each 'IsRow' by 'rcases' AHEAD of 'go_enter'; part every test ahead of the walk. -/
theorem walk {H : Type} {enc : TypeId × Value → H} (a0 : Int) (s1 : Array Value) (a2 : Int) (s3 : Array Value) (a4 : Bool) (s5 : Array Value) (s6 : Array Value) (a7 : Int) (a8 : Option Addr) (len8 cap8 : Nat) (w : World) (w0 : (Lit.int .i64 a0).wf = true) (w1 : Rdz enc Try.prog w 0 (fun _ => true) true 25 s1.toList) (w2 : (Lit.int .i64 a2).wf = true) (w3 : Rdz enc Try.prog w 0 (fun _ => true) true 32 s3.toList) (w5 : Rdz enc Try.prog w 0 (fun _ => true) true 35 s5.toList) (w6 : Rdz enc Try.prog w 0 (fun _ => true) true 39 s6.toList) (w7 : (Lit.int .i64 a7).wf = true) (w8 : Rdz enc Try.prog w 0 (fun _ => true) true 40 [.slice a8 len8 cap8]) :
    Calls Try.prog 3 #[.int .i64 a0, .agg s1, .int .i64 a2, .agg s3, .bool a4, .agg s5, .agg s6, .int .i64 a7, .slice a8 len8 cap8] w fun e w' => e = .returned (.bool true) ∧ Below w.heap.size w w' := by
  have L := Lib.hid ZlA
  obtain ⟨b0, b1, b2, b3, b4, b5, lv, e1, _⟩ := Zma w1
  obtain ⟨q, X, xc, wl, tx, pl, vt, vk, vn, e3, hw, _, hwl, hwok, i1, i2, i3, i4, i5⟩ := Zm6 w3
  obtain ⟨⟨t0, td, ops, TA, tc⟩, e5, ho, _, hfo, it, hook⟩ := Zmj w5
  obtain ⟨⟨txs, ords, A, c, B, d⟩, e6, H⟩ := Zng w6
  obtain ⟨S, sc, l, e8, hs, _, hl⟩ := Zmb w8
  obtain ⟨s1⟩ := s1
  obtain ⟨s3⟩ := s3
  obtain ⟨s5⟩ := s5
  obtain ⟨s6⟩ := s6
  cases e1
  cases e3
  cases e5
  cases e6
  cases e8
  exact (Zlh w a0 b0 b1 b2 b3 b4 b5 lv a2 q X xc wl tx pl vt vk vn a4 t0 td TA tc ops txs ords A c B d a7 _ _ l hw hwok i1 i2 ⟨i4, i3, i5⟩ it ho hook (ZgZ w2) (ZgZ w7) H hs hwl hfo hl L).mono fun e w' h => ⟨h.1, h.2.below (Nat.le_refl _) fun _ => False.elim⟩

/-! ### THE ROW's STEP: WRITTEN OUT: LEAVE IT -/
set_option maxRecDepth 100000 in
theorem lifted (os : Os) (started : os.Started) (H : Type) (enc : TypeId × Value → H) :
    ReturnsInHanded {} Try.checked os 3 .any (Rows.renderTellsSpec.pre6 enc Try.prog Try.f3 Rows.renderTellsRow.domain false) (Rows.renderTellsSpec.post enc Try.prog Try.f3 false true false false) := by
  refine returnsInHanded_of_change_sized (C := Try.checked) own started (by kernel_rfl) Try.func3
    (ChangeSpec.witness6 (enc := enc) (C := Try.checked) false ⟨#[], #[.int .i64 0, .agg #[.bool false, .bool false, .bool false, .bool false, .bool false, .bool false, .int .i64 0], .int .i64 0, .agg #[.int .i64 0, .slice none 0 0, .int .i64 0, .int .i64 0, .int .i64 0, .int .i64 0, .int .i64 0], .bool false, .agg #[.int .i64 0, .bool false, .slice none 0 0], .agg #[.slice none 0 0, .slice none 0 0], .int .i64 0, .slice none 0 0], []⟩ 8 (by kernel_rfl) (by kernel_rfl) (by kernel_rfl) (by kernel_rfl)) ?_
  intro W base args ds gs before hval0 hW hcnd hsz _
  have hval : ∀ (j : Nat) t v, Try.f3.params[j]? = some t → args[j]? = some v → Value.okWide Try.prog W .any base t v := hval0
  have hW' := hW
  obtain ⟨p, q, hA0, hV, rfl, hfz, hnd⟩ := hW
  have hA : DataW.TrodAll enc Try.prog W 0 (fun _ => true) true Try.f3.params.toList args.toList ds p := hA0
  rw [Try.params3] at hA hval hsz
  obtain ⟨v0, vs0, d0, ds0, p0, q0, hargs, rfl, rfl, h0, r0⟩ := trodAll_cons hA
  obtain ⟨v1, vs1, d1, ds1, p1, q1, rfl, rfl, rfl, h1, r1⟩ := trodAll_cons r0
  obtain ⟨v2, vs2, d2, ds2, p2, q2, rfl, rfl, rfl, h2, r2⟩ := trodAll_cons r1
  obtain ⟨v3, vs3, d3, ds3, p3, q3, rfl, rfl, rfl, h3, r3⟩ := trodAll_cons r2
  obtain ⟨v4, vs4, d4, ds4, p4, q4, rfl, rfl, rfl, h4, r4⟩ := trodAll_cons r3
  obtain ⟨v5, vs5, d5, ds5, p5, q5, rfl, rfl, rfl, h5, r5⟩ := trodAll_cons r4
  obtain ⟨v6, vs6, d6, ds6, p6, q6, rfl, rfl, rfl, h6, r6⟩ := trodAll_cons r5
  obtain ⟨v7, vs7, d7, ds7, p7, q7, rfl, rfl, rfl, h7, r7⟩ := trodAll_cons r6
  obtain ⟨v8, vs8, d8, ds8, p8, q8, rfl, rfl, rfl, h8, r8⟩ := trodAll_cons r7
  obtain ⟨rfl, rfl, rfl⟩ := trodAll_nil r8
  obtain rfl : args = #[v0, v1, v2, v3, v4, v5, v6, v7, v8] := by cases args; simp_all
  obtain ⟨rfl, rfl⟩ := trodVars_none hV
  obtain ⟨a0, rfl, rfl, rfl, w0⟩ := open_int Try.underlying22 (hval 0 22 v0 rfl rfl) h0
  obtain ⟨s1, rfl, hs1⟩ := okWide_struct Try.underlying25 (hval 1 25 v1 rfl rfl)
  have k1 := h1
  have lt1 : ∀ x ∈ p1, x.block < W.heap.size := by obtain ⟨m, hm⟩ := k1; exact DataW.trod_lt m _ _ _ hm
  have w1 : Rdz enc Try.prog W 0 (fun _ => true) true 25 s1.toList := by
    obtain ⟨fuel, hf⟩ := k1
    exact ⟨fuel, _, hf, fun z hz => of_decide_eq_true (List.all_eq_true.1 hsz z (DataW.weights_mem_each (j := 1) rfl rfl z hz))⟩
  obtain ⟨a2, rfl, rfl, rfl, w2⟩ := open_int Try.underlying3 (hval 2 3 v2 rfl rfl) h2
  obtain ⟨s3, rfl, hs3⟩ := okWide_struct Try.underlying32 (hval 3 32 v3 rfl rfl)
  have k3 := h3
  have lt3 : ∀ x ∈ p3, x.block < W.heap.size := by obtain ⟨m, hm⟩ := k3; exact DataW.trod_lt m _ _ _ hm
  have w3 : Rdz enc Try.prog W 0 (fun _ => true) true 32 s3.toList := by
    obtain ⟨fuel, hf⟩ := k3
    exact ⟨fuel, _, hf, fun z hz => of_decide_eq_true (List.all_eq_true.1 hsz z (DataW.weights_mem_each (j := 3) rfl rfl z hz))⟩
  obtain ⟨a4, rfl, rfl, rfl⟩ := open_bool Try.underlying4 (hval 4 4 v4 rfl rfl) h4
  obtain ⟨s5, rfl, hs5⟩ := okWide_struct Try.underlying35 (hval 5 35 v5 rfl rfl)
  have k5 := h5
  have lt5 : ∀ x ∈ p5, x.block < W.heap.size := by obtain ⟨m, hm⟩ := k5; exact DataW.trod_lt m _ _ _ hm
  have w5 : Rdz enc Try.prog W 0 (fun _ => true) true 35 s5.toList := by
    obtain ⟨fuel, hf⟩ := k5
    exact ⟨fuel, _, hf, fun z hz => of_decide_eq_true (List.all_eq_true.1 hsz z (DataW.weights_mem_each (j := 5) rfl rfl z hz))⟩
  obtain ⟨s6, rfl, hs6⟩ := okWide_struct Try.underlying39 (hval 6 39 v6 rfl rfl)
  have k6 := h6
  have lt6 : ∀ x ∈ p6, x.block < W.heap.size := by obtain ⟨m, hm⟩ := k6; exact DataW.trod_lt m _ _ _ hm
  have w6 : Rdz enc Try.prog W 0 (fun _ => true) true 39 s6.toList := by
    obtain ⟨fuel, hf⟩ := k6
    exact ⟨fuel, _, hf, fun z hz => of_decide_eq_true (List.all_eq_true.1 hsz z (DataW.weights_mem_each (j := 6) rfl rfl z hz))⟩
  obtain ⟨a7, rfl, rfl, rfl, w7⟩ := open_int Try.underlying3 (hval 7 3 v7 rfl rfl) h7
  obtain ⟨a8, len8, cap8, rfl⟩ := okWide_slice Try.underlying40 (hval 8 40 v8 rfl rfl)
  have k8 := h8
  have lt8 : ∀ x ∈ p8, x.block < W.heap.size := by obtain ⟨m, hm⟩ := k8; exact DataW.trod_lt m _ _ _ hm
  have w8 : Rdz enc Try.prog W 0 (fun _ => true) true 40 [.slice a8 len8 cap8] := by
    obtain ⟨fuel, hf⟩ := k8
    exact ⟨fuel, _, hf, fun z hz => of_decide_eq_true (List.all_eq_true.1 hsz z (DataW.weights_mem_each (j := 8) rfl rfl z hz))⟩
  clear hA0 hval0
  refine (walk a0 s1 a2 s3 a4 s5 s6 a7 a8 len8 cap8 W w0 w1 w2 w3 w5 w6 w7 w8).mono fun e W' ⟨he, bel⟩ => ?_
  subst he
  exact ⟨_, rfl, _, _, _, [], _, [], hW', trodAll_mk1 (shut_bool Try.underlying4 _), (trodAll_cons_mk (shut_int Try.underlying22 w0) (trodAll_cons_mk (Below.trod laidOut (by kernel_rfl) (of_decide_eq_true (by kernel_rfl)) k1 bel lt1) (trodAll_cons_mk (shut_int Try.underlying3 w2) (trodAll_cons_mk (Below.trod laidOut (by kernel_rfl) (of_decide_eq_true (by kernel_rfl)) k3 bel lt3) (trodAll_cons_mk (shut_bool Try.underlying4 _) (trodAll_cons_mk (Below.trod laidOut (by kernel_rfl) (of_decide_eq_true (by kernel_rfl)) k5 bel lt5) (trodAll_cons_mk (Below.trod laidOut (by kernel_rfl) (of_decide_eq_true (by kernel_rfl)) k6 bel lt6) (trodAll_cons_mk (shut_int Try.underlying3 w7) (trodAll_cons_mk (Below.trod laidOut (by kernel_rfl) (of_decide_eq_true (by kernel_rfl)) k8 bel lt8) trodAll_mk0))))))))), rfl, bel.frame _, fun h => by cases h⟩

set_option maxHeartbeats 16000000 in
theorem over : Rows.renderTellsRow.holds Try.pinned (OpenSpec.ofChange Rows.renderTellsSpec) :=
  OpenClaim.holds_of_wide 3 Try.f3 rfl rfl rfl rfl rfl rfl rfl ⟨rfl, rfl, rfl, rfl, rfl⟩ rfl rfl rfl rfl rfl (by as_aux_lemma => kernel_rfl) Try.func3 (by as_aux_lemma => kernel_rfl)
    (of_decide_eq_true (by as_aux_lemma => kernel_rfl)) (by unfold Func.isWrapper; first | (rw [if_pos (by decide +kernel)]; kernel_rfl) | (rw [if_neg (by decide +kernel)]; exact ⟨rfl, rfl⟩))
    (fun os started H enc _ => lifted os started H enc)

/-- ████ THE STATEMENT ████ -/
theorem proved : Rows.RenderTellsSaid := over
end Go.Proofs.Ytdbjokfejmgepaa.renderTells
