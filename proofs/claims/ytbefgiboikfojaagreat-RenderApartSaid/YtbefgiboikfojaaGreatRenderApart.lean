/- The Go function 'tenter/tenterlaw41.RenderApart' returns true for every input that can be read, and leaves its arguments as they were. No further condition. -/
import Derived.Test.YtbefgiboikfojaaGreatRows
import Derived.Test.YtbefgiboikfojaaGreatRcay
import Derived.Test.YtbefgiboikfojaaGreatRcbr
import Derived.ShutString
namespace Go.Proofs.YtbefgiboikfojaaGreat.renderApart
open Go.Proofs.YtbefgiboikfojaaGreat
open Go.ChangeShapes Go.WideShapes Go.ChangeAt Go.RowKit
open Go.ChangeMaps (open_string shut_string)
set_option linter.unusedVariables false

theorem own : ownKnob Tryz.prog.godebug = none := by kernel_rfl
theorem laidOut : laidOutB Tryz.prog = true := by kernel_rfl

/-- WHAT THE WALK IS TOLD OF A SLICE OF INTEGERS THAT CAME IN: it is nil; or it leads to a row of 'cap' cells, the numbers 'zs' (the first 'len' are its elements, the rest its spare room), each fitting its kind. -/
def IsRow (k : IntKind) (w : World) (a : Option Addr) (len cap : Nat) (zs : List Int) : Prop :=
  (a = none ∧ len = 0 ∧ cap = 0 ∧ zs = []) ∨
  ∃ x, a = some x ∧ len ≤ cap ∧ cap ≤ maxLen ∧ zs.length = cap ∧ (∀ i, i < zs.length → w.cell? (x.add i) = some (.int k (zs.getD i 0))) ∧ ∀ n ∈ zs, (Lit.int k n).wf = true

/-! ### STEP 1: THE WALK: the Go text returns true, AND WRITES NOTHING THAT WAS THERE: 'Below w.heap.size w w'' (Derived/Below.lean: '.refl', '.alloc', '.drew', '.setCell' at a new block, '.trans'). Open each 'IsRow' by 'rcases' AHEAD of 'go_enter'; part every test ahead of the walk. -/
theorem walk {H : Type} {enc : TypeId × Value → H} (s0 : Array Value) (s1 : Array Value) (a2 : Int) (a3 : Int) (s4 : Array Value) (s5 : Array Value) (w : World) (w0 : Rdz enc Tryz.prog w 0 (fun _ => true) true 24 s0.toList) (w1 : Rdz enc Tryz.prog w 0 (fun _ => true) true 24 s1.toList) (w2 : (Lit.int .i64 a2).wf = true) (w3 : (Lit.int .i64 a3).wf = true) (w4 : Rdz enc Tryz.prog w 0 (fun _ => true) true 29 s4.toList) (w5 : Rdz enc Tryz.prog w 0 (fun _ => true) true 29 s5.toList) :
    Calls Tryz.prog 3 #[.agg s0, .agg s1, .int .i64 a2, .int .i64 a3, .agg s4, .agg s5] w fun e w' => e = .returned (.bool true) ∧ Below w.heap.size w w' := by
  have L : Hid ZsE := Lib.hid Zs9
  obtain ⟨p0, p1, p2, p3, p4, p5, la, e0, _⟩ := Zpc w0
  obtain ⟨q0, q1, q2, q3, q4, q5, lb, e1, _⟩ := Zpc w1
  obtain ⟨⟨ta, oa, A, c, B, d⟩, e4, H0⟩ := Zsl w4
  obtain ⟨⟨tb, ob, A', c', B', d'⟩, e5, H1⟩ := Zsl w5
  obtain ⟨s0⟩ := s0
  obtain ⟨s1⟩ := s1
  obtain ⟨s4⟩ := s4
  obtain ⟨s5⟩ := s5
  cases e0
  cases e1
  cases e4
  cases e5
  exact (ZtD w p0 p1 p2 p3 p4 p5 la q0 q1 q2 q3 q4 q5 lb _ _ ta oa A c B d tb ob A' c' B' d' H0 H1 L).mono fun e w' h => ⟨h.1, h.2.below (Nat.le_refl _) fun _ => False.elim⟩

/-! ### THE ROW's STEP: WRITTEN OUT: LEAVE IT -/
set_option maxRecDepth 100000 in
theorem lifted (os : Os) (started : os.Started) (H : Type) (enc : TypeId × Value → H) :
    ReturnsInHanded {} Tryz.checked os 3 .any (Rows.renderApartSpec.pre6 enc Tryz.prog Tryz.f3 Rows.renderApartRow.domain false) (Rows.renderApartSpec.post enc Tryz.prog Tryz.f3 false true false false) := by
  refine returnsInHanded_of_change_sized (C := Tryz.checked) own started (by kernel_rfl) Tryz.func3
    (ChangeSpec.witness6 (enc := enc) (C := Tryz.checked) false ⟨#[], #[.agg #[.bool false, .bool false, .bool false, .bool false, .bool false, .bool false, .int .i64 0], .agg #[.bool false, .bool false, .bool false, .bool false, .bool false, .bool false, .int .i64 0], .int .i64 0, .int .i64 0, .agg #[.slice none 0 0, .slice none 0 0], .agg #[.slice none 0 0, .slice none 0 0]], []⟩ 8 (by kernel_rfl) (by kernel_rfl) (by kernel_rfl) (by kernel_rfl)) ?_
  intro W base args ds gs before hval0 hW hcnd hsz _
  have hval : ∀ (j : Nat) t v, Tryz.f3.params[j]? = some t → args[j]? = some v → Value.okWide Tryz.prog W .any base t v := hval0
  have hW' := hW
  obtain ⟨p, q, hA0, hV, rfl, hfz, hnd⟩ := hW
  have hA : DataW.TrodAll enc Tryz.prog W 0 (fun _ => true) true Tryz.f3.params.toList args.toList ds p := hA0
  rw [Tryz.params3] at hA hval hsz
  obtain ⟨v0, vs0, d0, ds0, p0, q0, hargs, rfl, rfl, h0, r0⟩ := trodAll_cons hA
  obtain ⟨v1, vs1, d1, ds1, p1, q1, rfl, rfl, rfl, h1, r1⟩ := trodAll_cons r0
  obtain ⟨v2, vs2, d2, ds2, p2, q2, rfl, rfl, rfl, h2, r2⟩ := trodAll_cons r1
  obtain ⟨v3, vs3, d3, ds3, p3, q3, rfl, rfl, rfl, h3, r3⟩ := trodAll_cons r2
  obtain ⟨v4, vs4, d4, ds4, p4, q4, rfl, rfl, rfl, h4, r4⟩ := trodAll_cons r3
  obtain ⟨v5, vs5, d5, ds5, p5, q5, rfl, rfl, rfl, h5, r5⟩ := trodAll_cons r4
  obtain ⟨rfl, rfl, rfl⟩ := trodAll_nil r5
  obtain rfl : args = #[v0, v1, v2, v3, v4, v5] := by cases args; simp_all
  obtain ⟨rfl, rfl⟩ := trodVars_none hV
  obtain ⟨s0, rfl, hs0⟩ := okWide_struct Tryz.underlying24 (hval 0 24 v0 rfl rfl)
  have k0 := h0
  have lt0 : ∀ x ∈ p0, x.block < W.heap.size := by obtain ⟨m, hm⟩ := k0; exact DataW.trod_lt m _ _ _ hm
  have w0 : Rdz enc Tryz.prog W 0 (fun _ => true) true 24 s0.toList := by
    obtain ⟨fuel, hf⟩ := k0
    exact ⟨fuel, _, hf, fun z hz => of_decide_eq_true (List.all_eq_true.1 hsz z (DataW.weights_mem_each (j := 0) rfl rfl z hz))⟩
  obtain ⟨s1, rfl, hs1⟩ := okWide_struct Tryz.underlying24 (hval 1 24 v1 rfl rfl)
  have k1 := h1
  have lt1 : ∀ x ∈ p1, x.block < W.heap.size := by obtain ⟨m, hm⟩ := k1; exact DataW.trod_lt m _ _ _ hm
  have w1 : Rdz enc Tryz.prog W 0 (fun _ => true) true 24 s1.toList := by
    obtain ⟨fuel, hf⟩ := k1
    exact ⟨fuel, _, hf, fun z hz => of_decide_eq_true (List.all_eq_true.1 hsz z (DataW.weights_mem_each (j := 1) rfl rfl z hz))⟩
  obtain ⟨a2, rfl, rfl, rfl, w2⟩ := open_int Tryz.underlying25 (hval 2 25 v2 rfl rfl) h2
  obtain ⟨a3, rfl, rfl, rfl, w3⟩ := open_int Tryz.underlying25 (hval 3 25 v3 rfl rfl) h3
  obtain ⟨s4, rfl, hs4⟩ := okWide_struct Tryz.underlying29 (hval 4 29 v4 rfl rfl)
  have k4 := h4
  have lt4 : ∀ x ∈ p4, x.block < W.heap.size := by obtain ⟨m, hm⟩ := k4; exact DataW.trod_lt m _ _ _ hm
  have w4 : Rdz enc Tryz.prog W 0 (fun _ => true) true 29 s4.toList := by
    obtain ⟨fuel, hf⟩ := k4
    exact ⟨fuel, _, hf, fun z hz => of_decide_eq_true (List.all_eq_true.1 hsz z (DataW.weights_mem_each (j := 4) rfl rfl z hz))⟩
  obtain ⟨s5, rfl, hs5⟩ := okWide_struct Tryz.underlying29 (hval 5 29 v5 rfl rfl)
  have k5 := h5
  have lt5 : ∀ x ∈ p5, x.block < W.heap.size := by obtain ⟨m, hm⟩ := k5; exact DataW.trod_lt m _ _ _ hm
  have w5 : Rdz enc Tryz.prog W 0 (fun _ => true) true 29 s5.toList := by
    obtain ⟨fuel, hf⟩ := k5
    exact ⟨fuel, _, hf, fun z hz => of_decide_eq_true (List.all_eq_true.1 hsz z (DataW.weights_mem_each (j := 5) rfl rfl z hz))⟩
  clear hA0 hval0
  refine (walk s0 s1 a2 a3 s4 s5 W w0 w1 w2 w3 w4 w5).mono fun e W' ⟨he, bel⟩ => ?_
  subst he
  exact ⟨_, rfl, _, _, _, [], _, [], hW', trodAll_mk1 (shut_bool Tryz.underlying4 _), (trodAll_cons_mk (Below.trod laidOut (by kernel_rfl) (of_decide_eq_true (by kernel_rfl)) k0 bel lt0) (trodAll_cons_mk (Below.trod laidOut (by kernel_rfl) (of_decide_eq_true (by kernel_rfl)) k1 bel lt1) (trodAll_cons_mk (shut_int Tryz.underlying25 w2) (trodAll_cons_mk (shut_int Tryz.underlying25 w3) (trodAll_cons_mk (Below.trod laidOut (by kernel_rfl) (of_decide_eq_true (by kernel_rfl)) k4 bel lt4) (trodAll_cons_mk (Below.trod laidOut (by kernel_rfl) (of_decide_eq_true (by kernel_rfl)) k5 bel lt5) trodAll_mk0)))))), rfl, bel.frame _, fun h => by cases h⟩

set_option maxHeartbeats 16000000 in
theorem over : Rows.renderApartRow.holds Tryz.pinned (OpenSpec.ofChange Rows.renderApartSpec) :=
  OpenClaim.holds_of_wide 3 Tryz.f3 rfl rfl rfl rfl rfl rfl rfl ⟨rfl, rfl, rfl, rfl, rfl⟩ rfl rfl rfl rfl rfl (by as_aux_lemma => kernel_rfl) Tryz.func3 (by as_aux_lemma => kernel_rfl)
    (of_decide_eq_true (by as_aux_lemma => kernel_rfl)) (by unfold Func.isWrapper; first | (rw [if_pos (by decide +kernel)]; kernel_rfl) | (rw [if_neg (by decide +kernel)]; exact ⟨rfl, rfl⟩))
    (fun os started H enc _ => lifted os started H enc)

/-- ████ THE STATEMENT ████ -/
theorem proved : Rows.RenderApartSaid := over
end Go.Proofs.YtbefgiboikfojaaGreat.renderApart
