/- Walks: the law's asking for some answers. -/
import Derived.Test.YtebjeapnglmokaaMak
import Derived.Test.YtebjeapnglmokaaMbg
namespace Go.Proofs.Ytebjeapnglmokaa
set_option linter.unusedVariables false
open Go.RowKit
def eA : Edge := ⟨1, 2, 1, 5⟩
def eB : Edge := ⟨2, 1, 3, 4⟩
/-- what the region holds: two edges, a walk of the two -/
def Liv (w W : World) : Prop := Upd No w W ∧ Walk (fun i => i = w.heap.size + 1 + 1) W (some ⟨w.heap.size + 1 + 1, 0, none⟩) [eB, eA] ∧ Blk W w.heap.size 29 eA.cells ∧ Blk W (w.heap.size + 1) 29 eB.cells
theorem Liv.upd {w W W' : World} (h : Liv w W) (k : Upd No W W') : Liv w W' := ⟨h.1.trans k, Recs.upd h.2.1 k (fun _ _ => id), h.2.2.1.upd k id, h.2.2.2.upd k id⟩
theorem Liv.wk {w W : World} (h : Liv w W) : Walk (fun i => i = w.heap.size + 1 + 1) W (some ⟨w.heap.size + 1 + 1, 0, none⟩) [eB, eA] := h.2.1
theorem Liv.all {w W : World} (h : Liv w W) : Liv w W ∧ W.cell? ⟨w.heap.size, 0, none⟩ = some (.int .i64 1) ∧ W.cell? ⟨w.heap.size, 1, none⟩ = some (.int .i64 2) ∧ W.cell? ⟨w.heap.size, 2, none⟩ = some (.int .i64 1) ∧ W.cell? ⟨w.heap.size, 3, none⟩ = some (.int .i64 5) ∧
    W.cell? ⟨w.heap.size + 1, 0, none⟩ = some (.int .i64 2) ∧ W.cell? ⟨w.heap.size + 1, 1, none⟩ = some (.int .i64 1) ∧ W.cell? ⟨w.heap.size + 1, 2, none⟩ = some (.int .i64 3) ∧ W.cell? ⟨w.heap.size + 1, 3, none⟩ = some (.int .i64 4) :=
  ⟨h, h.2.2.1.cell 0, h.2.2.1.cell 1, h.2.2.1.cell 2, h.2.2.1.cell 3, h.2.2.2.cell 0, h.2.2.2.cell 1, h.2.2.2.cell 2, h.2.2.2.cell 3⟩
theorem Liv.wx {w W : World} (h : Liv w W) : WalkX W (some ⟨w.heap.size + 1 + 1, 0, none⟩) [eB, eA] := ⟨_, h.2.1⟩
theorem okAB : ∀ e ∈ [eA, eB], e.ok := by
  intro e he
  simp only [List.mem_cons, List.not_mem_nil, or_false] at he
  rcases he with rfl | rfl <;> (unfold Edge.ok; decide)
theorem okN : ∀ e ∈ ([] : List Edge), e.ok := fun e he => by simp at he
theorem ok9 : ∀ e ∈ [(⟨0, 0, 9, 0⟩ : Edge)], e.ok := by
  intro e he
  simp only [List.mem_cons, List.not_mem_nil, or_false] at he
  rcases he with rfl
  unfold Edge.ok; decide
theorem tx1 : (⟨(textF [eA, eB] [eA, eB].length).toArray⟩ : ByteArray) = ⟨#[49, 32, 119, 119, 53, 32, 50, 32, 114, 119, 52, 32, 49]⟩ := by kernel_rfl
theorem tx2 : (⟨(textF [] ([] : List Edge).length).toArray⟩ : ByteArray) = ⟨#[]⟩ := by kernel_rfl
theorem tx3 : (⟨(textF [⟨0, 0, 9, 0⟩] [(⟨0, 0, 9, 0⟩ : Edge)].length).toArray⟩ : ByteArray) = ⟨#[48, 32, 120, 48, 32, 48]⟩ := by kernel_rfl
theorem vBA : turnOf [eB, eA] = [eA, eB] := by decide
theorem litA (W : World) : WalkX (W.alloc (.cells #[.int .i64 1, .int .i64 2, .int .i64 1, .int .i64 5] 29)) (some ⟨W.heap.size, 0, none⟩) [eA] := ⟨_, walk_lit W [eA]⟩
theorem litB (W : World) : WalkX (W.alloc (.cells #[.int .i64 2, .int .i64 1, .int .i64 3, .int .i64 4] 29)) (some ⟨W.heap.size, 0, none⟩) [eB] := ⟨_, walk_lit W [eB]⟩
theorem litAA (W : World) : WalkX (W.alloc (.cells #[.int .i64 1, .int .i64 2, .int .i64 1, .int .i64 5, .int .i64 1, .int .i64 2, .int .i64 1, .int .i64 5] 29)) (some ⟨W.heap.size, 0, none⟩) [eA, eA] := ⟨_, walk_lit W [eA, eA]⟩
theorem litAB (W : World) : WalkX (W.alloc (.cells #[.int .i64 1, .int .i64 2, .int .i64 1, .int .i64 5, .int .i64 2, .int .i64 1, .int .i64 3, .int .i64 4] 29)) (some ⟨W.heap.size, 0, none⟩) [eA, eB] := ⟨_, walk_lit W [eA, eB]⟩
theorem litK (W : World) : WalkX (W.alloc (.cells #[.int .i64 0, .int .i64 0, .int .i64 4, .int .i64 0, .int .i64 0, .int .i64 0, .int .i64 (-1), .int .i64 0] 29)) (some ⟨W.heap.size, 0, none⟩) [⟨0, 0, 4, 0⟩, ⟨0, 0, -1, 0⟩] := ⟨_, walk_lit W [⟨0, 0, 4, 0⟩, ⟨0, 0, -1, 0⟩]⟩
theorem lit9 (W : World) : WalkX (W.alloc (.cells #[.int .i64 0, .int .i64 0, .int .i64 9, .int .i64 0] 29)) (some ⟨W.heap.size, 0, none⟩) [⟨0, 0, 9, 0⟩] := ⟨_, walk_lit W [⟨0, 0, 9, 0⟩]⟩
theorem vC1 : closedB [eB, eA] = true := by decide
theorem vC2 : closedB [eA] = false := by decide
theorem vC3 : closedB [] = false := by decide
theorem vS1 : simpleB [eB, eA] = true := by decide
theorem vS2 : simpleB [eA, eA] = false := by decide
theorem vM1 : maskOf [eB, eA] = 10 := by decide
theorem vM2 : maskOf [⟨0, 0, 4, 0⟩, ⟨0, 0, -1, 0⟩] = 0 := by decide
theorem vT2 : turnOf [] = [] := by decide
theorem vE1 : ([eA, eB] == [eA, eB]) = true := by decide
theorem vE2 : ([eB, eA] == [eA, eB]) = false := by decide
theorem vL1 : lessB [eB] [eB, eA] = true := by decide
theorem vL2 : lessB [eA, eB] [eB, eA] = true := by decide
theorem vL3 : lessB [eB, eA] [eB, eA] = false := by decide
set_option maxRecDepth 100000 in
set_option maxHeartbeats 4000000 in
theorem lives28 (w : World) : Calls Try.prog 4 #[] w fun e w' => e = .returned (.bool true) ∧ Upd No w w' := by
  have t0 : Liv w (((w.alloc (.cells #[.int .i64 1, .int .i64 2, .int .i64 1, .int .i64 5] 29)).alloc (.cells #[.int .i64 2, .int .i64 1, .int .i64 3, .int .i64 4] 29)).alloc (.cells #[.int .i64 2, .int .i64 1, .int .i64 3, .int .i64 4, .int .i64 1, .int .i64 2, .int .i64 1, .int .i64 5] 29)).drew := by
    have b1 := Blk.new w 29 eA.cells
    have b2 := Blk.new (w.alloc (.cells eA.cells.toArray 29)) 29 eB.cells
    have b3 := walk_lit ((w.alloc (.cells eA.cells.toArray 29)).alloc (.cells eB.cells.toArray 29)) [eB, eA]
    simp only [World.size_alloc] at b2 b3
    exact ⟨(((upd_alloc _ _).alloc _).alloc _).drew, b3, (b1.alloc _).alloc _, b2.alloc _⟩
  go_enter Try.func4, Try.ntmps4
  go_wp2_with fail
  simp only [List.append]
  have hHeld := Liv.all t0
  refine wp_region_noPanic ?_
  refine peel_start (by kernel_rfl) ?_
  refine peelQ 3 (by kernel_rfl) (by kernel_rfl) 89 rfl (fun _ _ _ _ _ h => h) (fun QQ hq hdone => ?_)
  simp only [partOps_lit, partL, shiftO_mk, shiftA, shiftG]
  refine wpAny_of_held (S := (fun W => Liv w W ∧ W.cell? ⟨w.heap.size, 0, none⟩ = some (.int .i64 1) ∧ W.cell? ⟨w.heap.size, 1, none⟩ = some (.int .i64 2) ∧ W.cell? ⟨w.heap.size, 2, none⟩ = some (.int .i64 1) ∧ W.cell? ⟨w.heap.size, 3, none⟩ = some (.int .i64 5) ∧ W.cell? ⟨w.heap.size + 1, 0, none⟩ = some (.int .i64 2) ∧ W.cell? ⟨w.heap.size + 1, 1, none⟩ = some (.int .i64 1) ∧ W.cell? ⟨w.heap.size + 1, 2, none⟩ = some (.int .i64 3) ∧ W.cell? ⟨w.heap.size + 1, 3, none⟩ = some (.int .i64 4))) _ _ _ _ ?_
  refine wpAnyH_take (i := 0) (v := ?_) rfl (by kernel_rfl) (by kernel_rfl) (by kernel_rfl) (fun c a w h => hq c a _ _ w h) (Or.inl ⟨by rfl, ?_⟩) (by assumption) ?_
  rotate_left
  · (intro W hSw; (try dsimp only at hSw); go_simp; try (with_reducible rfl))
  try simp only [Act.put]
  try simp only [List.setIfInBounds_toArray]
  try simp only [List.set_cons_succ]
  try simp only [List.set_cons_zero]
  refine wpAnyH_ready (rs := [1]) (by kernel_rfl) (by simp) ?_
  refine AllReadyH.cons rfl (fun K hK => ?_) AllReadyH.nil
  go_simp
  (first
      | (go_at_call 6; refine (closedV (l := [eB, eA]) (v := true) ?_ (by decide) ?_ vC1).mono ?_; (first | ((with_reducible exact Liv.wx ‹_›)) | ((with_reducible refine Liv.wx ?_); go_split_ands; assumption)); rfl; rintro e w2 ⟨rfl, hu2⟩)
      | (go_at_call 6; refine (closedV (l := [eA]) (v := false) ?_ (by decide) ?_ vC2).mono ?_; (with_reducible exact litA _); rfl; rintro e w2 ⟨rfl, hu2⟩)
      | (go_at_call 6; refine (closedV (l := []) (v := false) ?_ (by decide) ?_ vC3).mono ?_; (with_reducible exact walkx_nil); rfl; rintro e w2 ⟨rfl, hu2⟩))
  try (go_wp2_with fail)
  refine hK.out _ _ ?_ (fun hHeld => ?_)
  · (first | (with_reducible exact Liv.all (Liv.upd (by go_split_ands; assumption) hu2)) | (with_reducible exact Liv.all (Liv.upd (by go_split_ands; assumption) (upd_alloc _ _))))
  clear hK K
  try simp only [Act.put]
  try simp only [List.setIfInBounds_toArray]
  try simp only [List.set_cons_succ]
  try simp only [List.set_cons_zero]
  refine wpAnyH_take (i := 2) (v := ?_) rfl (by kernel_rfl) (by kernel_rfl) (by kernel_rfl) (fun c a w h => hq c a _ _ w h) (Or.inl ⟨by rfl, ?_⟩) (by assumption) ?_
  rotate_left
  · (intro W hSw; (try dsimp only at hSw); go_simp; try (with_reducible rfl))
  try simp only [Act.put]
  try simp only [List.setIfInBounds_toArray]
  try simp only [List.set_cons_succ]
  try simp only [List.set_cons_zero]
  refine wpAnyH_done (by kernel_rfl) (hdone.out _ _ ?_) _
  clear hdone hq QQ
  refine peelQ 6 (by kernel_rfl) (by kernel_rfl) 83 rfl (fun _ _ _ _ _ h => h) (fun QQ hq hdone => ?_)
  simp only [partOps_lit, partL, shiftO_mk, shiftA, shiftG]
  refine wpAny_of_held (S := (fun W => Liv w W ∧ W.cell? ⟨w.heap.size, 0, none⟩ = some (.int .i64 1) ∧ W.cell? ⟨w.heap.size, 1, none⟩ = some (.int .i64 2) ∧ W.cell? ⟨w.heap.size, 2, none⟩ = some (.int .i64 1) ∧ W.cell? ⟨w.heap.size, 3, none⟩ = some (.int .i64 5) ∧ W.cell? ⟨w.heap.size + 1, 0, none⟩ = some (.int .i64 2) ∧ W.cell? ⟨w.heap.size + 1, 1, none⟩ = some (.int .i64 1) ∧ W.cell? ⟨w.heap.size + 1, 2, none⟩ = some (.int .i64 3) ∧ W.cell? ⟨w.heap.size + 1, 3, none⟩ = some (.int .i64 4))) _ _ _ _ ?_
  refine wpAnyH_take (i := 0) (v := ?_) rfl (by kernel_rfl) (by kernel_rfl) (by kernel_rfl) (fun c a w h => hq c a _ _ w h) (Or.inl ⟨by rfl, ?_⟩) (by assumption) ?_
  rotate_left
  · (intro W hSw; (try dsimp only at hSw); go_simp; try (with_reducible rfl))
  try simp only [Act.put]
  try simp only [List.setIfInBounds_toArray]
  try simp only [List.set_cons_succ]
  try simp only [List.set_cons_zero]
  refine wpAnyH_ready (rs := [1]) (by kernel_rfl) (by simp) ?_
  refine AllReadyH.cons rfl (fun K hK => ?_) AllReadyH.nil
  go_simp
  refine hK.out _ _ ?_ (fun hHeld => ?_)
  · (first | (with_reducible exact Liv.all (Liv.upd (by go_split_ands; assumption) hu2)) | (with_reducible exact Liv.all (Liv.upd (by go_split_ands; assumption) (upd_alloc _ _))))
  clear hK K
  try simp only [Act.put]
  try simp only [List.setIfInBounds_toArray]
  try simp only [List.set_cons_succ]
  try simp only [List.set_cons_zero]
  refine wpAnyH_ready (rs := [2]) (by kernel_rfl) (by simp) ?_
  refine AllReadyH.cons rfl (fun K hK => ?_) AllReadyH.nil
  go_simp
  (first
      | (go_at_call 6; refine (closedV (l := [eB, eA]) (v := true) ?_ (by decide) ?_ vC1).mono ?_; (first | ((with_reducible exact Liv.wx ‹_›)) | ((with_reducible refine Liv.wx ?_); go_split_ands; assumption)); rfl; rintro e w2 ⟨rfl, hu2⟩)
      | (go_at_call 6; refine (closedV (l := [eA]) (v := false) ?_ (by decide) ?_ vC2).mono ?_; (with_reducible exact litA _); rfl; rintro e w2 ⟨rfl, hu2⟩)
      | (go_at_call 6; refine (closedV (l := []) (v := false) ?_ (by decide) ?_ vC3).mono ?_; (with_reducible exact walkx_nil); rfl; rintro e w2 ⟨rfl, hu2⟩))
  try (go_wp2_with fail)
  refine hK.out _ _ ?_ (fun hHeld => ?_)
  · (first | (with_reducible exact Liv.all (Liv.upd (by go_split_ands; assumption) hu2)) | (with_reducible exact Liv.all (Liv.upd (by go_split_ands; assumption) (upd_alloc _ _))))
  clear hK K
  try simp only [Act.put]
  try simp only [List.setIfInBounds_toArray]
  try simp only [List.set_cons_succ]
  try simp only [List.set_cons_zero]
  refine wpAnyH_take (i := 3) (v := ?_) rfl (by kernel_rfl) (by kernel_rfl) (by kernel_rfl) (fun c a w h => hq c a _ _ w h) (Or.inl ⟨by rfl, ?_⟩) (by assumption) ?_
  rotate_left
  · (intro W hSw; (try dsimp only at hSw); go_simp; try (with_reducible rfl))
  try simp only [Act.put]
  try simp only [List.setIfInBounds_toArray]
  try simp only [List.set_cons_succ]
  try simp only [List.set_cons_zero]
  refine wpAnyH_take (i := 4) (v := ?_) rfl (by kernel_rfl) (by kernel_rfl) (by kernel_rfl) (fun c a w h => hq c a _ _ w h) (Or.inl ⟨by rfl, ?_⟩) (by assumption) ?_
  rotate_left
  · (intro W hSw; (try dsimp only at hSw); go_simp; try (with_reducible rfl))
  try simp only [Act.put]
  try simp only [List.setIfInBounds_toArray]
  try simp only [List.set_cons_succ]
  try simp only [List.set_cons_zero]
  refine wpAnyH_take (i := 5) (v := ?_) rfl (by kernel_rfl) (by kernel_rfl) (by kernel_rfl) (fun c a w h => hq c a _ _ w h) (Or.inl ⟨by rfl, ?_⟩) (by assumption) ?_
  rotate_left
  · (intro W hSw; (try dsimp only at hSw); go_simp; try (with_reducible rfl))
  try simp only [Act.put]
  try simp only [List.setIfInBounds_toArray]
  try simp only [List.set_cons_succ]
  try simp only [List.set_cons_zero]
  refine wpAnyH_done (by kernel_rfl) (hdone.out _ _ ?_) _
  clear hdone hq QQ
  refine peelQ 4 (by kernel_rfl) (by kernel_rfl) 79 rfl (fun _ _ _ _ _ h => h) (fun QQ hq hdone => ?_)
  simp only [partOps_lit, partL, shiftO_mk, shiftA, shiftG]
  refine wpAny_of_held (S := (fun W => Liv w W ∧ W.cell? ⟨w.heap.size, 0, none⟩ = some (.int .i64 1) ∧ W.cell? ⟨w.heap.size, 1, none⟩ = some (.int .i64 2) ∧ W.cell? ⟨w.heap.size, 2, none⟩ = some (.int .i64 1) ∧ W.cell? ⟨w.heap.size, 3, none⟩ = some (.int .i64 5) ∧ W.cell? ⟨w.heap.size + 1, 0, none⟩ = some (.int .i64 2) ∧ W.cell? ⟨w.heap.size + 1, 1, none⟩ = some (.int .i64 1) ∧ W.cell? ⟨w.heap.size + 1, 2, none⟩ = some (.int .i64 3) ∧ W.cell? ⟨w.heap.size + 1, 3, none⟩ = some (.int .i64 4))) _ _ _ _ ?_
  refine wpAnyH_ready (rs := [0]) (by kernel_rfl) (by simp) ?_
  refine AllReadyH.cons rfl (fun K hK => ?_) AllReadyH.nil
  go_simp
  (first
      | (go_at_call 6; refine (closedV (l := [eB, eA]) (v := true) ?_ (by decide) ?_ vC1).mono ?_; (first | ((with_reducible exact Liv.wx ‹_›)) | ((with_reducible refine Liv.wx ?_); go_split_ands; assumption)); rfl; rintro e w2 ⟨rfl, hu2⟩)
      | (go_at_call 6; refine (closedV (l := [eA]) (v := false) ?_ (by decide) ?_ vC2).mono ?_; (with_reducible exact litA _); rfl; rintro e w2 ⟨rfl, hu2⟩)
      | (go_at_call 6; refine (closedV (l := []) (v := false) ?_ (by decide) ?_ vC3).mono ?_; (with_reducible exact walkx_nil); rfl; rintro e w2 ⟨rfl, hu2⟩))
  try (go_wp2_with fail)
  refine hK.out _ _ ?_ (fun hHeld => ?_)
  · (first | (with_reducible exact Liv.all (Liv.upd (by go_split_ands; assumption) hu2)) | (with_reducible exact Liv.all (Liv.upd (by go_split_ands; assumption) (upd_alloc _ _))))
  clear hK K
  try simp only [Act.put]
  try simp only [List.setIfInBounds_toArray]
  try simp only [List.set_cons_succ]
  try simp only [List.set_cons_zero]
  refine wpAnyH_take (i := 1) (v := ?_) rfl (by kernel_rfl) (by kernel_rfl) (by kernel_rfl) (fun c a w h => hq c a _ _ w h) (Or.inl ⟨by rfl, ?_⟩) (by assumption) ?_
  rotate_left
  · (intro W hSw; (try dsimp only at hSw); go_simp; try (with_reducible rfl))
  try simp only [Act.put]
  try simp only [List.setIfInBounds_toArray]
  try simp only [List.set_cons_succ]
  try simp only [List.set_cons_zero]
  refine wpAnyH_take (i := 2) (v := ?_) rfl (by kernel_rfl) (by kernel_rfl) (by kernel_rfl) (fun c a w h => hq c a _ _ w h) (Or.inl ⟨by rfl, ?_⟩) (by assumption) ?_
  rotate_left
  · (intro W hSw; (try dsimp only at hSw); go_simp; try (with_reducible rfl))
  try simp only [Act.put]
  try simp only [List.setIfInBounds_toArray]
  try simp only [List.set_cons_succ]
  try simp only [List.set_cons_zero]
  refine wpAnyH_take (i := 3) (v := ?_) rfl (by kernel_rfl) (by kernel_rfl) (by kernel_rfl) (fun c a w h => hq c a _ _ w h) (Or.inl ⟨by rfl, ?_⟩) (by assumption) ?_
  rotate_left
  · (intro W hSw; (try dsimp only at hSw); go_simp; try (with_reducible rfl))
  try simp only [Act.put]
  try simp only [List.setIfInBounds_toArray]
  try simp only [List.set_cons_succ]
  try simp only [List.set_cons_zero]
  refine wpAnyH_done (by kernel_rfl) (hdone.out _ _ ?_) _
  clear hdone hq QQ
  refine peelQ 4 (by kernel_rfl) (by kernel_rfl) 75 rfl (fun _ _ _ _ _ h => h) (fun QQ hq hdone => ?_)
  simp only [partOps_lit, partL, shiftO_mk, shiftA, shiftG]
  refine wpAny_of_held (S := (fun W => Liv w W ∧ W.cell? ⟨w.heap.size, 0, none⟩ = some (.int .i64 1) ∧ W.cell? ⟨w.heap.size, 1, none⟩ = some (.int .i64 2) ∧ W.cell? ⟨w.heap.size, 2, none⟩ = some (.int .i64 1) ∧ W.cell? ⟨w.heap.size, 3, none⟩ = some (.int .i64 5) ∧ W.cell? ⟨w.heap.size + 1, 0, none⟩ = some (.int .i64 2) ∧ W.cell? ⟨w.heap.size + 1, 1, none⟩ = some (.int .i64 1) ∧ W.cell? ⟨w.heap.size + 1, 2, none⟩ = some (.int .i64 3) ∧ W.cell? ⟨w.heap.size + 1, 3, none⟩ = some (.int .i64 4))) _ _ _ _ ?_
  refine wpAnyH_take (i := 0) (v := ?_) rfl (by kernel_rfl) (by kernel_rfl) (by kernel_rfl) (fun c a w h => hq c a _ _ w h) (Or.inl ⟨by rfl, ?_⟩) (by assumption) ?_
  rotate_left
  · (intro W hSw; (try dsimp only at hSw); go_simp; try (with_reducible rfl))
  try simp only [Act.put]
  try simp only [List.setIfInBounds_toArray]
  try simp only [List.set_cons_succ]
  try simp only [List.set_cons_zero]
  refine wpAnyH_ready (rs := [1]) (by kernel_rfl) (by simp) ?_
  refine AllReadyH.cons rfl (fun K hK => ?_) AllReadyH.nil
  go_simp
  (first
      | (go_at_call 8; refine (simpleV (l := [eB, eA]) (v := true) ?_ (by decide) ?_ vS1).mono ?_; (first | ((with_reducible exact Liv.wx ‹_›)) | ((with_reducible refine Liv.wx ?_); go_split_ands; assumption)); rfl; rintro e w2 ⟨rfl, hu2⟩)
      | (go_at_call 8; refine (simpleV (l := [eA, eA]) (v := false) ?_ (by decide) ?_ vS2).mono ?_; (with_reducible exact litAA _); rfl; rintro e w2 ⟨rfl, hu2⟩))
  try (go_wp2_with fail)
  refine hK.out _ _ ?_ (fun hHeld => ?_)
  · (first | (with_reducible exact Liv.all (Liv.upd (by go_split_ands; assumption) hu2)) | (with_reducible exact Liv.all (Liv.upd (by go_split_ands; assumption) (upd_alloc _ _))))
  clear hK K
  try simp only [Act.put]
  try simp only [List.setIfInBounds_toArray]
  try simp only [List.set_cons_succ]
  try simp only [List.set_cons_zero]
  refine wpAnyH_take (i := 2) (v := ?_) rfl (by kernel_rfl) (by kernel_rfl) (by kernel_rfl) (fun c a w h => hq c a _ _ w h) (Or.inl ⟨by rfl, ?_⟩) (by assumption) ?_
  rotate_left
  · (intro W hSw; (try dsimp only at hSw); go_simp; try (with_reducible rfl))
  try simp only [Act.put]
  try simp only [List.setIfInBounds_toArray]
  try simp only [List.set_cons_succ]
  try simp only [List.set_cons_zero]
  refine wpAnyH_take (i := 3) (v := ?_) rfl (by kernel_rfl) (by kernel_rfl) (by kernel_rfl) (fun c a w h => hq c a _ _ w h) (Or.inl ⟨by rfl, ?_⟩) (by assumption) ?_
  rotate_left
  · (intro W hSw; (try dsimp only at hSw); go_simp; try (with_reducible rfl))
  try simp only [Act.put]
  try simp only [List.setIfInBounds_toArray]
  try simp only [List.set_cons_succ]
  try simp only [List.set_cons_zero]
  refine wpAnyH_done (by kernel_rfl) (hdone.out _ _ ?_) _
  clear hdone hq QQ
  refine peelQ 7 (by kernel_rfl) (by kernel_rfl) 68 rfl (fun _ _ _ _ _ h => h) (fun QQ hq hdone => ?_)
  simp only [partOps_lit, partL, shiftO_mk, shiftA, shiftG]
  refine wpAny_of_held (S := (fun W => Liv w W ∧ W.cell? ⟨w.heap.size, 0, none⟩ = some (.int .i64 1) ∧ W.cell? ⟨w.heap.size, 1, none⟩ = some (.int .i64 2) ∧ W.cell? ⟨w.heap.size, 2, none⟩ = some (.int .i64 1) ∧ W.cell? ⟨w.heap.size, 3, none⟩ = some (.int .i64 5) ∧ W.cell? ⟨w.heap.size + 1, 0, none⟩ = some (.int .i64 2) ∧ W.cell? ⟨w.heap.size + 1, 1, none⟩ = some (.int .i64 1) ∧ W.cell? ⟨w.heap.size + 1, 2, none⟩ = some (.int .i64 3) ∧ W.cell? ⟨w.heap.size + 1, 3, none⟩ = some (.int .i64 4))) _ _ _ _ ?_
  refine wpAnyH_take (i := 0) (v := ?_) rfl (by kernel_rfl) (by kernel_rfl) (by kernel_rfl) (fun c a w h => hq c a _ _ w h) (Or.inl ⟨by rfl, ?_⟩) (by assumption) ?_
  rotate_left
  · (intro W hSw; (try dsimp only at hSw); go_simp; try (with_reducible rfl))
  try simp only [Act.put]
  try simp only [List.setIfInBounds_toArray]
  try simp only [List.set_cons_succ]
  try simp only [List.set_cons_zero]
  refine wpAnyH_take (i := 1) (v := ?_) rfl (by kernel_rfl) (by kernel_rfl) (by kernel_rfl) (fun c a w h => hq c a _ _ w h) (Or.inl ⟨by rfl, ?_⟩) (by assumption) ?_
  rotate_left
  · (intro W hSw; (try dsimp only at hSw); go_simp; try (with_reducible rfl))
  try simp only [Act.put]
  try simp only [List.setIfInBounds_toArray]
  try simp only [List.set_cons_succ]
  try simp only [List.set_cons_zero]
  refine wpAnyH_ready (rs := [2]) (by kernel_rfl) (by simp) ?_
  refine AllReadyH.cons rfl (fun K hK => ?_) AllReadyH.nil
  go_simp
  refine hK.out _ _ ?_ (fun hHeld => ?_)
  · (first | (with_reducible exact Liv.all (Liv.upd (by go_split_ands; assumption) hu2)) | (with_reducible exact Liv.all (Liv.upd (by go_split_ands; assumption) (upd_alloc _ _))))
  clear hK K
  try simp only [Act.put]
  try simp only [List.setIfInBounds_toArray]
  try simp only [List.set_cons_succ]
  try simp only [List.set_cons_zero]
  refine wpAnyH_ready (rs := [3]) (by kernel_rfl) (by simp) ?_
  refine AllReadyH.cons rfl (fun K hK => ?_) AllReadyH.nil
  go_simp
  (first
      | (go_at_call 8; refine (simpleV (l := [eB, eA]) (v := true) ?_ (by decide) ?_ vS1).mono ?_; (first | ((with_reducible exact Liv.wx ‹_›)) | ((with_reducible refine Liv.wx ?_); go_split_ands; assumption)); rfl; rintro e w2 ⟨rfl, hu2⟩)
      | (go_at_call 8; refine (simpleV (l := [eA, eA]) (v := false) ?_ (by decide) ?_ vS2).mono ?_; (with_reducible exact litAA _); rfl; rintro e w2 ⟨rfl, hu2⟩))
  try (go_wp2_with fail)
  refine hK.out _ _ ?_ (fun hHeld => ?_)
  · (first | (with_reducible exact Liv.all (Liv.upd (by go_split_ands; assumption) hu2)) | (with_reducible exact Liv.all (Liv.upd (by go_split_ands; assumption) (upd_alloc _ _))))
  clear hK K
  try simp only [Act.put]
  try simp only [List.setIfInBounds_toArray]
  try simp only [List.set_cons_succ]
  try simp only [List.set_cons_zero]
  refine wpAnyH_take (i := 4) (v := ?_) rfl (by kernel_rfl) (by kernel_rfl) (by kernel_rfl) (fun c a w h => hq c a _ _ w h) (Or.inl ⟨by rfl, ?_⟩) (by assumption) ?_
  rotate_left
  · (intro W hSw; (try dsimp only at hSw); go_simp; try (with_reducible rfl))
  try simp only [Act.put]
  try simp only [List.setIfInBounds_toArray]
  try simp only [List.set_cons_succ]
  try simp only [List.set_cons_zero]
  refine wpAnyH_take (i := 5) (v := ?_) rfl (by kernel_rfl) (by kernel_rfl) (by kernel_rfl) (fun c a w h => hq c a _ _ w h) (Or.inl ⟨by rfl, ?_⟩) (by assumption) ?_
  rotate_left
  · (intro W hSw; (try dsimp only at hSw); go_simp; try (with_reducible rfl))
  try simp only [Act.put]
  try simp only [List.setIfInBounds_toArray]
  try simp only [List.set_cons_succ]
  try simp only [List.set_cons_zero]
  refine wpAnyH_take (i := 6) (v := ?_) rfl (by kernel_rfl) (by kernel_rfl) (by kernel_rfl) (fun c a w h => hq c a _ _ w h) (Or.inl ⟨by rfl, ?_⟩) (by assumption) ?_
  rotate_left
  · (intro W hSw; (try dsimp only at hSw); go_simp; try (with_reducible rfl))
  try simp only [Act.put]
  try simp only [List.setIfInBounds_toArray]
  try simp only [List.set_cons_succ]
  try simp only [List.set_cons_zero]
  refine wpAnyH_done (by kernel_rfl) (hdone.out _ _ ?_) _
  clear hdone hq QQ
  refine peelQ 5 (by kernel_rfl) (by kernel_rfl) 63 rfl (fun _ _ _ _ _ h => h) (fun QQ hq hdone => ?_)
  simp only [partOps_lit, partL, shiftO_mk, shiftA, shiftG]
  refine wpAny_of_held (S := (fun W => Liv w W ∧ W.cell? ⟨w.heap.size, 0, none⟩ = some (.int .i64 1) ∧ W.cell? ⟨w.heap.size, 1, none⟩ = some (.int .i64 2) ∧ W.cell? ⟨w.heap.size, 2, none⟩ = some (.int .i64 1) ∧ W.cell? ⟨w.heap.size, 3, none⟩ = some (.int .i64 5) ∧ W.cell? ⟨w.heap.size + 1, 0, none⟩ = some (.int .i64 2) ∧ W.cell? ⟨w.heap.size + 1, 1, none⟩ = some (.int .i64 1) ∧ W.cell? ⟨w.heap.size + 1, 2, none⟩ = some (.int .i64 3) ∧ W.cell? ⟨w.heap.size + 1, 3, none⟩ = some (.int .i64 4))) _ _ _ _ ?_
  refine wpAnyH_take (i := 0) (v := ?_) rfl (by kernel_rfl) (by kernel_rfl) (by kernel_rfl) (fun c a w h => hq c a _ _ w h) (Or.inl ⟨by rfl, ?_⟩) (by assumption) ?_
  rotate_left
  · (intro W hSw; (try dsimp only at hSw); go_simp; try (with_reducible rfl))
  try simp only [Act.put]
  try simp only [List.setIfInBounds_toArray]
  try simp only [List.set_cons_succ]
  try simp only [List.set_cons_zero]
  refine wpAnyH_ready (rs := [1]) (by kernel_rfl) (by simp) ?_
  refine AllReadyH.cons rfl (fun K hK => ?_) AllReadyH.nil
  go_simp
  (first
      | (go_at_call 7; refine (maskV (l := [eB, eA]) (v := 10) ?_ (by decide) ?_ vM1).mono ?_; (first | ((with_reducible exact Liv.wx ‹_›)) | ((with_reducible refine Liv.wx ?_); go_split_ands; assumption)); rfl; rintro e w2 ⟨rfl, hu2⟩)
      | (go_at_call 7; refine (maskV (l := [⟨0, 0, 4, 0⟩, ⟨0, 0, -1, 0⟩]) (v := 0) ?_ (by decide) ?_ vM2).mono ?_; (with_reducible exact litK _); rfl; rintro e w2 ⟨rfl, hu2⟩))
  try (go_wp2_with fail)
  refine hK.out _ _ ?_ (fun hHeld => ?_)
  · (first | (with_reducible exact Liv.all (Liv.upd (by go_split_ands; assumption) hu2)) | (with_reducible exact Liv.all (Liv.upd (by go_split_ands; assumption) (upd_alloc _ _))))
  clear hK K
  try simp only [Act.put]
  try simp only [List.setIfInBounds_toArray]
  try simp only [List.set_cons_succ]
  try simp only [List.set_cons_zero]
  refine wpAnyH_take (i := 2) (v := ?_) rfl (by kernel_rfl) (by kernel_rfl) (by kernel_rfl) (fun c a w h => hq c a _ _ w h) (Or.inl ⟨by rfl, ?_⟩) (by assumption) ?_
  rotate_left
  · (intro W hSw; (try dsimp only at hSw); go_simp; try (with_reducible rfl))
  try simp only [Act.put]
  try simp only [List.setIfInBounds_toArray]
  try simp only [List.set_cons_succ]
  try simp only [List.set_cons_zero]
  refine wpAnyH_take (i := 3) (v := ?_) rfl (by kernel_rfl) (by kernel_rfl) (by kernel_rfl) (fun c a w h => hq c a _ _ w h) (Or.inl ⟨by rfl, ?_⟩) (by assumption) ?_
  rotate_left
  · (intro W hSw; (try dsimp only at hSw); go_simp; try (with_reducible rfl))
  try simp only [Act.put]
  try simp only [List.setIfInBounds_toArray]
  try simp only [List.set_cons_succ]
  try simp only [List.set_cons_zero]
  refine wpAnyH_take (i := 4) (v := ?_) rfl (by kernel_rfl) (by kernel_rfl) (by kernel_rfl) (fun c a w h => hq c a _ _ w h) (Or.inl ⟨by rfl, ?_⟩) (by assumption) ?_
  rotate_left
  · (intro W hSw; (try dsimp only at hSw); go_simp; try (with_reducible rfl))
  try simp only [Act.put]
  try simp only [List.setIfInBounds_toArray]
  try simp only [List.set_cons_succ]
  try simp only [List.set_cons_zero]
  refine wpAnyH_done (by kernel_rfl) (hdone.out _ _ ?_) _
  clear hdone hq QQ
  refine peelQ 7 (by kernel_rfl) (by kernel_rfl) 56 rfl (fun _ _ _ _ _ h => h) (fun QQ hq hdone => ?_)
  simp only [partOps_lit, partL, shiftO_mk, shiftA, shiftG]
  refine wpAny_of_held (S := (fun W => Liv w W ∧ W.cell? ⟨w.heap.size, 0, none⟩ = some (.int .i64 1) ∧ W.cell? ⟨w.heap.size, 1, none⟩ = some (.int .i64 2) ∧ W.cell? ⟨w.heap.size, 2, none⟩ = some (.int .i64 1) ∧ W.cell? ⟨w.heap.size, 3, none⟩ = some (.int .i64 5) ∧ W.cell? ⟨w.heap.size + 1, 0, none⟩ = some (.int .i64 2) ∧ W.cell? ⟨w.heap.size + 1, 1, none⟩ = some (.int .i64 1) ∧ W.cell? ⟨w.heap.size + 1, 2, none⟩ = some (.int .i64 3) ∧ W.cell? ⟨w.heap.size + 1, 3, none⟩ = some (.int .i64 4))) _ _ _ _ ?_
  refine wpAnyH_take (i := 0) (v := ?_) rfl (by kernel_rfl) (by kernel_rfl) (by kernel_rfl) (fun c a w h => hq c a _ _ w h) (Or.inl ⟨by rfl, ?_⟩) (by assumption) ?_
  rotate_left
  · (intro W hSw; (try dsimp only at hSw); go_simp; try (with_reducible rfl))
  try simp only [Act.put]
  try simp only [List.setIfInBounds_toArray]
  try simp only [List.set_cons_succ]
  try simp only [List.set_cons_zero]
  refine wpAnyH_take (i := 1) (v := ?_) rfl (by kernel_rfl) (by kernel_rfl) (by kernel_rfl) (fun c a w h => hq c a _ _ w h) (Or.inl ⟨by rfl, ?_⟩) (by assumption) ?_
  rotate_left
  · (intro W hSw; (try dsimp only at hSw); go_simp; try (with_reducible rfl))
  try simp only [Act.put]
  try simp only [List.setIfInBounds_toArray]
  try simp only [List.set_cons_succ]
  try simp only [List.set_cons_zero]
  refine wpAnyH_ready (rs := [2]) (by kernel_rfl) (by simp) ?_
  refine AllReadyH.cons rfl (fun K hK => ?_) AllReadyH.nil
  go_simp
  refine hK.out _ _ ?_ (fun hHeld => ?_)
  · (first | (with_reducible exact Liv.all (Liv.upd (by go_split_ands; assumption) hu2)) | (with_reducible exact Liv.all (Liv.upd (by go_split_ands; assumption) (upd_alloc _ _))))
  clear hK K
  try simp only [Act.put]
  try simp only [List.setIfInBounds_toArray]
  try simp only [List.set_cons_succ]
  try simp only [List.set_cons_zero]
  refine wpAnyH_ready (rs := [3]) (by kernel_rfl) (by simp) ?_
  refine AllReadyH.cons rfl (fun K hK => ?_) AllReadyH.nil
  go_simp
  (first
      | (go_at_call 7; refine (maskV (l := [eB, eA]) (v := 10) ?_ (by decide) ?_ vM1).mono ?_; (first | ((with_reducible exact Liv.wx ‹_›)) | ((with_reducible refine Liv.wx ?_); go_split_ands; assumption)); rfl; rintro e w2 ⟨rfl, hu2⟩)
      | (go_at_call 7; refine (maskV (l := [⟨0, 0, 4, 0⟩, ⟨0, 0, -1, 0⟩]) (v := 0) ?_ (by decide) ?_ vM2).mono ?_; (with_reducible exact litK _); rfl; rintro e w2 ⟨rfl, hu2⟩))
  try (go_wp2_with fail)
  refine hK.out _ _ ?_ (fun hHeld => ?_)
  · (first | (with_reducible exact Liv.all (Liv.upd (by go_split_ands; assumption) hu2)) | (with_reducible exact Liv.all (Liv.upd (by go_split_ands; assumption) (upd_alloc _ _))))
  clear hK K
  try simp only [Act.put]
  try simp only [List.setIfInBounds_toArray]
  try simp only [List.set_cons_succ]
  try simp only [List.set_cons_zero]
  refine wpAnyH_take (i := 4) (v := ?_) rfl (by kernel_rfl) (by kernel_rfl) (by kernel_rfl) (fun c a w h => hq c a _ _ w h) (Or.inl ⟨by rfl, ?_⟩) (by assumption) ?_
  rotate_left
  · (intro W hSw; (try dsimp only at hSw); go_simp; try (with_reducible rfl))
  try simp only [Act.put]
  try simp only [List.setIfInBounds_toArray]
  try simp only [List.set_cons_succ]
  try simp only [List.set_cons_zero]
  refine wpAnyH_take (i := 5) (v := ?_) rfl (by kernel_rfl) (by kernel_rfl) (by kernel_rfl) (fun c a w h => hq c a _ _ w h) (Or.inl ⟨by rfl, ?_⟩) (by assumption) ?_
  rotate_left
  · (intro W hSw; (try dsimp only at hSw); go_simp; try (with_reducible rfl))
  try simp only [Act.put]
  try simp only [List.setIfInBounds_toArray]
  try simp only [List.set_cons_succ]
  try simp only [List.set_cons_zero]
  refine wpAnyH_take (i := 6) (v := ?_) rfl (by kernel_rfl) (by kernel_rfl) (by kernel_rfl) (fun c a w h => hq c a _ _ w h) (Or.inl ⟨by rfl, ?_⟩) (by assumption) ?_
  rotate_left
  · (intro W hSw; (try dsimp only at hSw); go_simp; try (with_reducible rfl))
  try simp only [Act.put]
  try simp only [List.setIfInBounds_toArray]
  try simp only [List.set_cons_succ]
  try simp only [List.set_cons_zero]
  refine wpAnyH_done (by kernel_rfl) (hdone.out _ _ ?_) _
  clear hdone hq QQ
  refine peelQ 8 (by kernel_rfl) (by kernel_rfl) 48 rfl (fun _ _ _ _ _ h => h) (fun QQ hq hdone => ?_)
  simp only [partOps_lit, partL, shiftO_mk, shiftA, shiftG]
  refine wpAny_of_held (S := (fun W => Liv w W ∧ W.cell? ⟨w.heap.size, 0, none⟩ = some (.int .i64 1) ∧ W.cell? ⟨w.heap.size, 1, none⟩ = some (.int .i64 2) ∧ W.cell? ⟨w.heap.size, 2, none⟩ = some (.int .i64 1) ∧ W.cell? ⟨w.heap.size, 3, none⟩ = some (.int .i64 5) ∧ W.cell? ⟨w.heap.size + 1, 0, none⟩ = some (.int .i64 2) ∧ W.cell? ⟨w.heap.size + 1, 1, none⟩ = some (.int .i64 1) ∧ W.cell? ⟨w.heap.size + 1, 2, none⟩ = some (.int .i64 3) ∧ W.cell? ⟨w.heap.size + 1, 3, none⟩ = some (.int .i64 4))) _ _ _ _ ?_
  refine wpAnyH_take (i := 0) (v := ?_) rfl (by kernel_rfl) (by kernel_rfl) (by kernel_rfl) (fun c a w h => hq c a _ _ w h) (Or.inl ⟨by rfl, ?_⟩) (by assumption) ?_
  rotate_left
  · (intro W hSw; (try dsimp only at hSw); go_simp; try (with_reducible rfl))
  try simp only [Act.put]
  try simp only [List.setIfInBounds_toArray]
  try simp only [List.set_cons_succ]
  try simp only [List.set_cons_zero]
  refine wpAnyH_take (i := 2) (v := ?_) rfl (by kernel_rfl) (by kernel_rfl) (by kernel_rfl) (fun c a w h => hq c a _ _ w h) (Or.inl ⟨by rfl, ?_⟩) (by assumption) ?_
  rotate_left
  · (intro W hSw; (try dsimp only at hSw); go_simp; try (with_reducible rfl))
  try simp only [Act.put]
  try simp only [List.setIfInBounds_toArray]
  try simp only [List.set_cons_succ]
  try simp only [List.set_cons_zero]
  refine wpAnyH_take (i := 3) (v := ?_) rfl (by kernel_rfl) (by kernel_rfl) (by kernel_rfl) (fun c a w h => hq c a _ _ w h) (Or.inl ⟨by rfl, ?_⟩) (by assumption) ?_
  rotate_left
  · (intro W hSw; (try dsimp only at hSw); go_simp; try (with_reducible rfl))
  try simp only [Act.put]
  try simp only [List.setIfInBounds_toArray]
  try simp only [List.set_cons_succ]
  try simp only [List.set_cons_zero]
  refine wpAnyH_ready (rs := [1, 4]) (by kernel_rfl) (by simp) ?_
  refine AllReadyH.cons rfl (fun K hK => ?_) ?_
  · go_simp
    (first
        | (go_at_call 10; refine (turnV (l := [eB, eA]) (t := [eA, eB]) ?_ (by decide) ?_ ?_ vBA).mono ?_; (first | ((with_reducible exact Liv.wx ‹_›)) | ((with_reducible refine Liv.wx ?_); go_split_ands; assumption)); decide; rfl; rintro e w2 ⟨A5, c5, rfl, hw5, hu2⟩; (first | (with_reducible have hx5 := WalkX.upd (litAB _) hu2) | skip))
        | (go_at_call 10; refine (turnV (l := []) (t := []) ?_ (by decide) ?_ ?_ vT2).mono ?_; (with_reducible exact walkx_nil); decide; rfl; rintro e w2 ⟨A5, c5, rfl, hw5, hu2⟩))
    try (go_wp2_with fail)
    refine hK.out _ _ ?_ (fun hHeld => ?_)
    · (first | (with_reducible exact Liv.all (Liv.upd (by go_split_ands; assumption) hu2)) | (with_reducible exact Liv.all (Liv.upd (by go_split_ands; assumption) (upd_alloc _ _))))
    clear hK K
    try simp only [Act.put]
    try simp only [List.setIfInBounds_toArray]
    try simp only [List.set_cons_succ]
    try simp only [List.set_cons_zero]
    refine wpAnyH_ready (rs := [4]) (by kernel_rfl) (by simp) ?_
    refine AllReadyH.cons rfl (fun K hK => ?_) AllReadyH.nil
    go_simp
    refine hK.out _ _ ?_ (fun hHeld => ?_)
    · (first | (with_reducible exact Liv.all (Liv.upd (by go_split_ands; assumption) hu2)) | (with_reducible exact Liv.all (Liv.upd (by go_split_ands; assumption) (upd_alloc _ _))))
    clear hK K
    try simp only [Act.put]
    try simp only [List.setIfInBounds_toArray]
    try simp only [List.set_cons_succ]
    try simp only [List.set_cons_zero]
    refine wpAnyH_ready (rs := [5]) (by kernel_rfl) (by simp) ?_
    refine AllReadyH.cons rfl (fun K hK => ?_) AllReadyH.nil
    go_simp
    (first
        | (go_at_call 9; refine (sameV (l := [eA, eB]) (k := [eA, eB]) (v := true) ?_ ?_ (by decide) (by decide) ?_ ?_ vE1).mono ?_; (first | (with_reducible exact hw5) | (with_reducible exact hw5.upd (upd_alloc _ _))); (first | (with_reducible exact litAB _) | (with_reducible exact hx5)); rfl; rfl; rintro e w2 ⟨rfl, hu2⟩)
        | (go_at_call 9; refine (sameV (l := [eB, eA]) (k := [eA, eB]) (v := false) ?_ ?_ (by decide) (by decide) ?_ ?_ vE2).mono ?_; (first | ((with_reducible exact Liv.wx ‹_›)) | ((with_reducible refine Liv.wx ?_); go_split_ands; assumption)); (with_reducible exact litAB _); rfl; rfl; rintro e w2 ⟨rfl, hu2⟩))
    try (go_wp2_with fail)
    refine hK.out _ _ ?_ (fun hHeld => ?_)
    · (first | (with_reducible exact Liv.all (Liv.upd (by go_split_ands; assumption) hu2)) | (with_reducible exact Liv.all (Liv.upd (by go_split_ands; assumption) (upd_alloc _ _))))
    clear hK K
    try simp only [Act.put]
    try simp only [List.setIfInBounds_toArray]
    try simp only [List.set_cons_succ]
    try simp only [List.set_cons_zero]
    refine wpAnyH_take (i := 6) (v := ?_) rfl (by kernel_rfl) (by kernel_rfl) (by kernel_rfl) (fun c a w h => hq c a _ _ w h) (Or.inl ⟨by rfl, ?_⟩) (by assumption) ?_
    rotate_left
    · (intro W hSw; (try dsimp only at hSw); go_simp; try (with_reducible rfl))
    try simp only [Act.put]
    try simp only [List.setIfInBounds_toArray]
    try simp only [List.set_cons_succ]
    try simp only [List.set_cons_zero]
    refine wpAnyH_take (i := 7) (v := ?_) rfl (by kernel_rfl) (by kernel_rfl) (by kernel_rfl) (fun c a w h => hq c a _ _ w h) (Or.inl ⟨by rfl, ?_⟩) (by assumption) ?_
    rotate_left
    · (intro W hSw; (try dsimp only at hSw); go_simp; try (with_reducible rfl))
    try simp only [Act.put]
    try simp only [List.setIfInBounds_toArray]
    try simp only [List.set_cons_succ]
    try simp only [List.set_cons_zero]
    refine wpAnyH_done (by kernel_rfl) (hdone.out _ _ ?_) _
    clear hdone hq QQ
    refine peelQ 5 (by kernel_rfl) (by kernel_rfl) 43 rfl (fun _ _ _ _ _ h => h) (fun QQ hq hdone => ?_)
    simp only [partOps_lit, partL, shiftO_mk, shiftA, shiftG]
    refine wpAny_of_held (S := (fun W => Liv w W ∧ W.cell? ⟨w.heap.size, 0, none⟩ = some (.int .i64 1) ∧ W.cell? ⟨w.heap.size, 1, none⟩ = some (.int .i64 2) ∧ W.cell? ⟨w.heap.size, 2, none⟩ = some (.int .i64 1) ∧ W.cell? ⟨w.heap.size, 3, none⟩ = some (.int .i64 5) ∧ W.cell? ⟨w.heap.size + 1, 0, none⟩ = some (.int .i64 2) ∧ W.cell? ⟨w.heap.size + 1, 1, none⟩ = some (.int .i64 1) ∧ W.cell? ⟨w.heap.size + 1, 2, none⟩ = some (.int .i64 3) ∧ W.cell? ⟨w.heap.size + 1, 3, none⟩ = some (.int .i64 4))) _ _ _ _ ?_
    refine wpAnyH_ready (rs := [0]) (by kernel_rfl) (by simp) ?_
    refine AllReadyH.cons rfl (fun K hK => ?_) AllReadyH.nil
    go_simp
    (first
        | (go_at_call 10; refine (turnV (l := [eB, eA]) (t := [eA, eB]) ?_ (by decide) ?_ ?_ vBA).mono ?_; (first | ((with_reducible exact Liv.wx ‹_›)) | ((with_reducible refine Liv.wx ?_); go_split_ands; assumption)); decide; rfl; rintro e w2 ⟨A5, c5, rfl, hw5, hu2⟩; (first | (with_reducible have hx5 := WalkX.upd (litAB _) hu2) | skip))
        | (go_at_call 10; refine (turnV (l := []) (t := []) ?_ (by decide) ?_ ?_ vT2).mono ?_; (with_reducible exact walkx_nil); decide; rfl; rintro e w2 ⟨A5, c5, rfl, hw5, hu2⟩))
    try (go_wp2_with fail)
    refine hK.out _ _ ?_ (fun hHeld => ?_)
    · (first | (with_reducible exact Liv.all (Liv.upd (by go_split_ands; assumption) hu2)) | (with_reducible exact Liv.all (Liv.upd (by go_split_ands; assumption) (upd_alloc _ _))))
    clear hK K
    try simp only [Act.put]
    try simp only [List.setIfInBounds_toArray]
    try simp only [List.set_cons_succ]
    try simp only [List.set_cons_zero]
    refine wpAnyH_take (i := 1) (v := ?_) rfl (by kernel_rfl) (by kernel_rfl) (by kernel_rfl) (fun c a w h => hq c a _ _ w h) (Or.inl ⟨by rfl, ?_⟩) (by assumption) ?_
    rotate_left
    · (intro W hSw; (try dsimp only at hSw); go_simp; try (with_reducible rfl))
    try simp only [Act.put]
    try simp only [List.setIfInBounds_toArray]
    try simp only [List.set_cons_succ]
    try simp only [List.set_cons_zero]
    refine wpAnyH_take (i := 2) (v := ?_) rfl (by kernel_rfl) (by kernel_rfl) (by kernel_rfl) (fun c a w h => hq c a _ _ w h) (Or.inl ⟨by rfl, ?_⟩) (by assumption) ?_
    rotate_left
    · (intro W hSw; (try dsimp only at hSw); go_simp; try (with_reducible rfl))
    try simp only [Act.put]
    try simp only [List.setIfInBounds_toArray]
    try simp only [List.set_cons_succ]
    try simp only [List.set_cons_zero]
    refine wpAnyH_take (i := 3) (v := ?_) rfl (by kernel_rfl) (by kernel_rfl) (by kernel_rfl) (fun c a w h => hq c a _ _ w h) (Or.inl ⟨by rfl, ?_⟩) (by assumption) ?_
    rotate_left
    · (intro W hSw; (try dsimp only at hSw); go_simp; try (with_reducible rfl))
    try simp only [Act.put]
    try simp only [List.setIfInBounds_toArray]
    try simp only [List.set_cons_succ]
    try simp only [List.set_cons_zero]
    refine wpAnyH_take (i := 4) (v := ?_) rfl (by kernel_rfl) (by kernel_rfl) (by kernel_rfl) (fun c a w h => hq c a _ _ w h) (Or.inl ⟨by rfl, ?_⟩) (by assumption) ?_
    rotate_left
    · (intro W hSw; (try dsimp only at hSw); go_simp; try (with_reducible rfl))
    try simp only [Act.put]
    try simp only [List.setIfInBounds_toArray]
    try simp only [List.set_cons_succ]
    try simp only [List.set_cons_zero]
    refine wpAnyH_done (by kernel_rfl) (hdone.out _ _ ?_) _
    clear hdone hq QQ
    refine peelQ 6 (by kernel_rfl) (by kernel_rfl) 37 rfl (fun _ _ _ _ _ h => h) (fun QQ hq hdone => ?_)
    simp only [partOps_lit, partL, shiftO_mk, shiftA, shiftG]
    refine wpAny_of_held (S := (fun W => Liv w W ∧ W.cell? ⟨w.heap.size, 0, none⟩ = some (.int .i64 1) ∧ W.cell? ⟨w.heap.size, 1, none⟩ = some (.int .i64 2) ∧ W.cell? ⟨w.heap.size, 2, none⟩ = some (.int .i64 1) ∧ W.cell? ⟨w.heap.size, 3, none⟩ = some (.int .i64 5) ∧ W.cell? ⟨w.heap.size + 1, 0, none⟩ = some (.int .i64 2) ∧ W.cell? ⟨w.heap.size + 1, 1, none⟩ = some (.int .i64 1) ∧ W.cell? ⟨w.heap.size + 1, 2, none⟩ = some (.int .i64 3) ∧ W.cell? ⟨w.heap.size + 1, 3, none⟩ = some (.int .i64 4))) _ _ _ _ ?_
    refine wpAnyH_take (i := 0) (v := ?_) rfl (by kernel_rfl) (by kernel_rfl) (by kernel_rfl) (fun c a w h => hq c a _ _ w h) (Or.inl ⟨by rfl, ?_⟩) (by assumption) ?_
    rotate_left
    · (intro W hSw; (try dsimp only at hSw); go_simp; try (with_reducible rfl))
    try simp only [Act.put]
    try simp only [List.setIfInBounds_toArray]
    try simp only [List.set_cons_succ]
    try simp only [List.set_cons_zero]
    refine wpAnyH_ready (rs := [1]) (by kernel_rfl) (by simp) ?_
    refine AllReadyH.cons rfl (fun K hK => ?_) AllReadyH.nil
    go_simp
    (first
        | (go_at_call 10; refine (turnV (l := [eB, eA]) (t := [eA, eB]) ?_ (by decide) ?_ ?_ vBA).mono ?_; (first | ((with_reducible exact Liv.wx ‹_›)) | ((with_reducible refine Liv.wx ?_); go_split_ands; assumption)); decide; rfl; rintro e w2 ⟨A5, c5, rfl, hw5, hu2⟩; (first | (with_reducible have hx5 := WalkX.upd (litAB _) hu2) | skip))
        | (go_at_call 10; refine (turnV (l := []) (t := []) ?_ (by decide) ?_ ?_ vT2).mono ?_; (with_reducible exact walkx_nil); decide; rfl; rintro e w2 ⟨A5, c5, rfl, hw5, hu2⟩))
    try (go_wp2_with fail)
    refine hK.out _ _ ?_ (fun hHeld => ?_)
    · (first | (with_reducible exact Liv.all (Liv.upd (by go_split_ands; assumption) hu2)) | (with_reducible exact Liv.all (Liv.upd (by go_split_ands; assumption) (upd_alloc _ _))))
    clear hK K
    try simp only [Act.put]
    try simp only [List.setIfInBounds_toArray]
    try simp only [List.set_cons_succ]
    try simp only [List.set_cons_zero]
    refine wpAnyH_ready (rs := [2]) (by kernel_rfl) (by simp) ?_
    refine AllReadyH.cons rfl (fun K hK => ?_) AllReadyH.nil
    go_simp
    (first
        | (go_at_call 12; refine (textV (l := [eA, eB]) (v := ⟨#[49, 32, 119, 119, 53, 32, 50, 32, 114, 119, 52, 32, 49]⟩) ?_ (by decide) okAB ?_ tx1).mono ?_; (first | (with_reducible exact hw5) | (with_reducible exact hw5.upd (upd_alloc _ _))); rfl; rintro e w2 ⟨rfl, hu2⟩)
        | (go_at_call 12; refine (textV (l := []) (v := ⟨#[]⟩) ?_ (by decide) okN ?_ tx2).mono ?_; (with_reducible exact walkx_nil); rfl; rintro e w2 ⟨rfl, hu2⟩)
        | (go_at_call 12; refine (textV (l := [⟨0, 0, 9, 0⟩]) (v := ⟨#[48, 32, 120, 48, 32, 48]⟩) ?_ (by decide) ok9 ?_ tx3).mono ?_; (with_reducible exact lit9 _); rfl; rintro e w2 ⟨rfl, hu2⟩))
    try (go_wp2_with fail)
    refine hK.out _ _ ?_ (fun hHeld => ?_)
    · (first | (with_reducible exact Liv.all (Liv.upd (by go_split_ands; assumption) hu2)) | (with_reducible exact Liv.all (Liv.upd (by go_split_ands; assumption) (upd_alloc _ _))))
    clear hK K
    try simp only [Act.put]
    try simp only [List.setIfInBounds_toArray]
    try simp only [List.set_cons_succ]
    try simp only [List.set_cons_zero]
    refine wpAnyH_take (i := 3) (v := ?_) rfl (by kernel_rfl) (by kernel_rfl) (by kernel_rfl) (fun c a w h => hq c a _ _ w h) (Or.inl ⟨by rfl, ?_⟩) (by assumption) ?_
    rotate_left
    · (intro W hSw; (try dsimp only at hSw); go_simp; try (with_reducible rfl))
    try simp only [Act.put]
    try simp only [List.setIfInBounds_toArray]
    try simp only [List.set_cons_succ]
    try simp only [List.set_cons_zero]
    refine wpAnyH_take (i := 4) (v := ?_) rfl (by kernel_rfl) (by kernel_rfl) (by kernel_rfl) (fun c a w h => hq c a _ _ w h) (Or.inl ⟨by rfl, ?_⟩) (by assumption) ?_
    rotate_left
    · (intro W hSw; (try dsimp only at hSw); go_simp; try (with_reducible rfl))
    try simp only [Act.put]
    try simp only [List.setIfInBounds_toArray]
    try simp only [List.set_cons_succ]
    try simp only [List.set_cons_zero]
    refine wpAnyH_take (i := 5) (v := ?_) rfl (by kernel_rfl) (by kernel_rfl) (by kernel_rfl) (fun c a w h => hq c a _ _ w h) (Or.inl ⟨by rfl, ?_⟩) (by assumption) ?_
    rotate_left
    · (intro W hSw; (try dsimp only at hSw); go_simp; try (with_reducible rfl))
    try simp only [Act.put]
    try simp only [List.setIfInBounds_toArray]
    try simp only [List.set_cons_succ]
    try simp only [List.set_cons_zero]
    refine wpAnyH_done (by kernel_rfl) (hdone.out _ _ ?_) _
    clear hdone hq QQ
    refine peelQ 4 (by kernel_rfl) (by kernel_rfl) 33 rfl (fun _ _ _ _ _ h => h) (fun QQ hq hdone => ?_)
    simp only [partOps_lit, partL, shiftO_mk, shiftA, shiftG]
    refine wpAny_of_held (S := (fun W => Liv w W ∧ W.cell? ⟨w.heap.size, 0, none⟩ = some (.int .i64 1) ∧ W.cell? ⟨w.heap.size, 1, none⟩ = some (.int .i64 2) ∧ W.cell? ⟨w.heap.size, 2, none⟩ = some (.int .i64 1) ∧ W.cell? ⟨w.heap.size, 3, none⟩ = some (.int .i64 5) ∧ W.cell? ⟨w.heap.size + 1, 0, none⟩ = some (.int .i64 2) ∧ W.cell? ⟨w.heap.size + 1, 1, none⟩ = some (.int .i64 1) ∧ W.cell? ⟨w.heap.size + 1, 2, none⟩ = some (.int .i64 3) ∧ W.cell? ⟨w.heap.size + 1, 3, none⟩ = some (.int .i64 4))) _ _ _ _ ?_
    refine wpAnyH_ready (rs := [0]) (by kernel_rfl) (by simp) ?_
    refine AllReadyH.cons rfl (fun K hK => ?_) AllReadyH.nil
    go_simp
    (first
        | (go_at_call 12; refine (textV (l := [eA, eB]) (v := ⟨#[49, 32, 119, 119, 53, 32, 50, 32, 114, 119, 52, 32, 49]⟩) ?_ (by decide) okAB ?_ tx1).mono ?_; (first | (with_reducible exact hw5) | (with_reducible exact hw5.upd (upd_alloc _ _))); rfl; rintro e w2 ⟨rfl, hu2⟩)
        | (go_at_call 12; refine (textV (l := []) (v := ⟨#[]⟩) ?_ (by decide) okN ?_ tx2).mono ?_; (with_reducible exact walkx_nil); rfl; rintro e w2 ⟨rfl, hu2⟩)
        | (go_at_call 12; refine (textV (l := [⟨0, 0, 9, 0⟩]) (v := ⟨#[48, 32, 120, 48, 32, 48]⟩) ?_ (by decide) ok9 ?_ tx3).mono ?_; (with_reducible exact lit9 _); rfl; rintro e w2 ⟨rfl, hu2⟩))
    try (go_wp2_with fail)
    refine hK.out _ _ ?_ (fun hHeld => ?_)
    · (first | (with_reducible exact Liv.all (Liv.upd (by go_split_ands; assumption) hu2)) | (with_reducible exact Liv.all (Liv.upd (by go_split_ands; assumption) (upd_alloc _ _))))
    clear hK K
    try simp only [Act.put]
    try simp only [List.setIfInBounds_toArray]
    try simp only [List.set_cons_succ]
    try simp only [List.set_cons_zero]
    refine wpAnyH_take (i := 1) (v := ?_) rfl (by kernel_rfl) (by kernel_rfl) (by kernel_rfl) (fun c a w h => hq c a _ _ w h) (Or.inl ⟨by rfl, ?_⟩) (by assumption) ?_
    rotate_left
    · (intro W hSw; (try dsimp only at hSw); go_simp; try (with_reducible rfl))
    try simp only [Act.put]
    try simp only [List.setIfInBounds_toArray]
    try simp only [List.set_cons_succ]
    try simp only [List.set_cons_zero]
    refine wpAnyH_take (i := 2) (v := ?_) rfl (by kernel_rfl) (by kernel_rfl) (by kernel_rfl) (fun c a w h => hq c a _ _ w h) (Or.inl ⟨by rfl, ?_⟩) (by assumption) ?_
    rotate_left
    · (intro W hSw; (try dsimp only at hSw); go_simp; try (with_reducible rfl))
    try simp only [Act.put]
    try simp only [List.setIfInBounds_toArray]
    try simp only [List.set_cons_succ]
    try simp only [List.set_cons_zero]
    refine wpAnyH_take (i := 3) (v := ?_) rfl (by kernel_rfl) (by kernel_rfl) (by kernel_rfl) (fun c a w h => hq c a _ _ w h) (Or.inl ⟨by rfl, ?_⟩) (by assumption) ?_
    rotate_left
    · (intro W hSw; (try dsimp only at hSw); go_simp; try (with_reducible rfl))
    try simp only [Act.put]
    try simp only [List.setIfInBounds_toArray]
    try simp only [List.set_cons_succ]
    try simp only [List.set_cons_zero]
    refine wpAnyH_done (by kernel_rfl) (hdone.out _ _ ?_) _
    clear hdone hq QQ
    refine peelQ 6 (by kernel_rfl) (by kernel_rfl) 27 rfl (fun _ _ _ _ _ h => h) (fun QQ hq hdone => ?_)
    simp only [partOps_lit, partL, shiftO_mk, shiftA, shiftG]
    refine wpAny_of_held (S := (fun W => Liv w W ∧ W.cell? ⟨w.heap.size, 0, none⟩ = some (.int .i64 1) ∧ W.cell? ⟨w.heap.size, 1, none⟩ = some (.int .i64 2) ∧ W.cell? ⟨w.heap.size, 2, none⟩ = some (.int .i64 1) ∧ W.cell? ⟨w.heap.size, 3, none⟩ = some (.int .i64 5) ∧ W.cell? ⟨w.heap.size + 1, 0, none⟩ = some (.int .i64 2) ∧ W.cell? ⟨w.heap.size + 1, 1, none⟩ = some (.int .i64 1) ∧ W.cell? ⟨w.heap.size + 1, 2, none⟩ = some (.int .i64 3) ∧ W.cell? ⟨w.heap.size + 1, 3, none⟩ = some (.int .i64 4))) _ _ _ _ ?_
    refine wpAnyH_take (i := 0) (v := ?_) rfl (by kernel_rfl) (by kernel_rfl) (by kernel_rfl) (fun c a w h => hq c a _ _ w h) (Or.inl ⟨by rfl, ?_⟩) (by assumption) ?_
    rotate_left
    · (intro W hSw; (try dsimp only at hSw); go_simp; try (with_reducible rfl))
    try simp only [Act.put]
    try simp only [List.setIfInBounds_toArray]
    try simp only [List.set_cons_succ]
    try simp only [List.set_cons_zero]
    refine wpAnyH_ready (rs := [1]) (by kernel_rfl) (by simp) ?_
    refine AllReadyH.cons rfl (fun K hK => ?_) AllReadyH.nil
    go_simp
    refine hK.out _ _ ?_ (fun hHeld => ?_)
    · (first | (with_reducible exact Liv.all (Liv.upd (by go_split_ands; assumption) hu2)) | (with_reducible exact Liv.all (Liv.upd (by go_split_ands; assumption) (upd_alloc _ _))))
    clear hK K
    try simp only [Act.put]
    try simp only [List.setIfInBounds_toArray]
    try simp only [List.set_cons_succ]
    try simp only [List.set_cons_zero]
    refine wpAnyH_ready (rs := [2]) (by kernel_rfl) (by simp) ?_
    refine AllReadyH.cons rfl (fun K hK => ?_) AllReadyH.nil
    go_simp
    (first
        | (go_at_call 12; refine (textV (l := [eA, eB]) (v := ⟨#[49, 32, 119, 119, 53, 32, 50, 32, 114, 119, 52, 32, 49]⟩) ?_ (by decide) okAB ?_ tx1).mono ?_; (first | (with_reducible exact hw5) | (with_reducible exact hw5.upd (upd_alloc _ _))); rfl; rintro e w2 ⟨rfl, hu2⟩)
        | (go_at_call 12; refine (textV (l := []) (v := ⟨#[]⟩) ?_ (by decide) okN ?_ tx2).mono ?_; (with_reducible exact walkx_nil); rfl; rintro e w2 ⟨rfl, hu2⟩)
        | (go_at_call 12; refine (textV (l := [⟨0, 0, 9, 0⟩]) (v := ⟨#[48, 32, 120, 48, 32, 48]⟩) ?_ (by decide) ok9 ?_ tx3).mono ?_; (with_reducible exact lit9 _); rfl; rintro e w2 ⟨rfl, hu2⟩))
    try (go_wp2_with fail)
    refine hK.out _ _ ?_ (fun hHeld => ?_)
    · (first | (with_reducible exact Liv.all (Liv.upd (by go_split_ands; assumption) hu2)) | (with_reducible exact Liv.all (Liv.upd (by go_split_ands; assumption) (upd_alloc _ _))))
    clear hK K
    try simp only [Act.put]
    try simp only [List.setIfInBounds_toArray]
    try simp only [List.set_cons_succ]
    try simp only [List.set_cons_zero]
    refine wpAnyH_take (i := 3) (v := ?_) rfl (by kernel_rfl) (by kernel_rfl) (by kernel_rfl) (fun c a w h => hq c a _ _ w h) (Or.inl ⟨by rfl, ?_⟩) (by assumption) ?_
    rotate_left
    · (intro W hSw; (try dsimp only at hSw); go_simp; try (with_reducible rfl))
    try simp only [Act.put]
    try simp only [List.setIfInBounds_toArray]
    try simp only [List.set_cons_succ]
    try simp only [List.set_cons_zero]
    refine wpAnyH_take (i := 4) (v := ?_) rfl (by kernel_rfl) (by kernel_rfl) (by kernel_rfl) (fun c a w h => hq c a _ _ w h) (Or.inl ⟨by rfl, ?_⟩) (by assumption) ?_
    rotate_left
    · (intro W hSw; (try dsimp only at hSw); go_simp; try (with_reducible rfl))
    try simp only [Act.put]
    try simp only [List.setIfInBounds_toArray]
    try simp only [List.set_cons_succ]
    try simp only [List.set_cons_zero]
    refine wpAnyH_take (i := 5) (v := ?_) rfl (by kernel_rfl) (by kernel_rfl) (by kernel_rfl) (fun c a w h => hq c a _ _ w h) (Or.inl ⟨by rfl, ?_⟩) (by assumption) ?_
    rotate_left
    · (intro W hSw; (try dsimp only at hSw); go_simp; try (with_reducible rfl))
    try simp only [Act.put]
    try simp only [List.setIfInBounds_toArray]
    try simp only [List.set_cons_succ]
    try simp only [List.set_cons_zero]
    refine wpAnyH_done (by kernel_rfl) (hdone.out _ _ ?_) _
    clear hdone hq QQ
    refine peelQ 6 (by kernel_rfl) (by kernel_rfl) 21 rfl (fun _ _ _ _ _ h => h) (fun QQ hq hdone => ?_)
    simp only [partOps_lit, partL, shiftO_mk, shiftA, shiftG]
    refine wpAny_of_held (S := (fun W => Liv w W ∧ W.cell? ⟨w.heap.size, 0, none⟩ = some (.int .i64 1) ∧ W.cell? ⟨w.heap.size, 1, none⟩ = some (.int .i64 2) ∧ W.cell? ⟨w.heap.size, 2, none⟩ = some (.int .i64 1) ∧ W.cell? ⟨w.heap.size, 3, none⟩ = some (.int .i64 5) ∧ W.cell? ⟨w.heap.size + 1, 0, none⟩ = some (.int .i64 2) ∧ W.cell? ⟨w.heap.size + 1, 1, none⟩ = some (.int .i64 1) ∧ W.cell? ⟨w.heap.size + 1, 2, none⟩ = some (.int .i64 3) ∧ W.cell? ⟨w.heap.size + 1, 3, none⟩ = some (.int .i64 4))) _ _ _ _ ?_
    refine wpAnyH_take (i := 0) (v := ?_) rfl (by kernel_rfl) (by kernel_rfl) (by kernel_rfl) (fun c a w h => hq c a _ _ w h) (Or.inl ⟨by rfl, ?_⟩) (by assumption) ?_
    rotate_left
    · (intro W hSw; (try dsimp only at hSw); go_simp; try (with_reducible rfl))
    try simp only [Act.put]
    try simp only [List.setIfInBounds_toArray]
    try simp only [List.set_cons_succ]
    try simp only [List.set_cons_zero]
    refine wpAnyH_take (i := 2) (v := ?_) rfl (by kernel_rfl) (by kernel_rfl) (by kernel_rfl) (fun c a w h => hq c a _ _ w h) (Or.inl ⟨by rfl, ?_⟩) (by assumption) ?_
    rotate_left
    · (intro W hSw; (try dsimp only at hSw); go_simp; try (with_reducible rfl))
    try simp only [Act.put]
    try simp only [List.setIfInBounds_toArray]
    try simp only [List.set_cons_succ]
    try simp only [List.set_cons_zero]
    refine wpAnyH_ready (rs := [1]) (by kernel_rfl) (by simp) ?_
    refine AllReadyH.cons rfl (fun K hK => ?_) AllReadyH.nil
    go_simp
    refine hK.out _ _ ?_ (fun hHeld => ?_)
    · (first | (with_reducible exact Liv.all (Liv.upd (by go_split_ands; assumption) hu2)) | (with_reducible exact Liv.all (Liv.upd (by go_split_ands; assumption) (upd_alloc _ _))))
    clear hK K
    try simp only [Act.put]
    try simp only [List.setIfInBounds_toArray]
    try simp only [List.set_cons_succ]
    try simp only [List.set_cons_zero]
    refine wpAnyH_ready (rs := [3]) (by kernel_rfl) (by simp) ?_
    refine AllReadyH.cons rfl (fun K hK => ?_) AllReadyH.nil
    go_simp
    (first
        | (go_at_call 11; refine (lessV (l := [eB]) (k := [eB, eA]) (v := true) ?_ ?_ (by decide) ?_ ?_ vL1).mono ?_; (with_reducible exact litB _); (first | ((with_reducible exact Liv.wx ‹_›)) | ((with_reducible refine Liv.wx ?_); go_split_ands; assumption)); rfl; rfl; rintro e w2 ⟨rfl, hu2⟩)
        | (go_at_call 11; refine (lessV (l := [eA, eB]) (k := [eB, eA]) (v := true) ?_ ?_ (by decide) ?_ ?_ vL2).mono ?_; (with_reducible exact litAB _); (first | ((with_reducible exact Liv.wx ‹_›)) | ((with_reducible refine Liv.wx ?_); go_split_ands; assumption)); rfl; rfl; rintro e w2 ⟨rfl, hu2⟩)
        | (go_at_call 11; refine (lessV (l := [eB, eA]) (k := [eB, eA]) (v := false) ?_ ?_ (by decide) ?_ ?_ vL3).mono ?_; (first | ((with_reducible exact Liv.wx ‹_›)) | ((with_reducible refine Liv.wx ?_); go_split_ands; assumption)); (first | ((with_reducible exact Liv.wx ‹_›)) | ((with_reducible refine Liv.wx ?_); go_split_ands; assumption)); rfl; rfl; rintro e w2 ⟨rfl, hu2⟩))
    try (go_wp2_with fail)
    refine hK.out _ _ ?_ (fun hHeld => ?_)
    · (first | (with_reducible exact Liv.all (Liv.upd (by go_split_ands; assumption) hu2)) | (with_reducible exact Liv.all (Liv.upd (by go_split_ands; assumption) (upd_alloc _ _))))
    clear hK K
    try simp only [Act.put]
    try simp only [List.setIfInBounds_toArray]
    try simp only [List.set_cons_succ]
    try simp only [List.set_cons_zero]
    refine wpAnyH_take (i := 4) (v := ?_) rfl (by kernel_rfl) (by kernel_rfl) (by kernel_rfl) (fun c a w h => hq c a _ _ w h) (Or.inl ⟨by rfl, ?_⟩) (by assumption) ?_
    rotate_left
    · (intro W hSw; (try dsimp only at hSw); go_simp; try (with_reducible rfl))
    try simp only [Act.put]
    try simp only [List.setIfInBounds_toArray]
    try simp only [List.set_cons_succ]
    try simp only [List.set_cons_zero]
    refine wpAnyH_take (i := 5) (v := ?_) rfl (by kernel_rfl) (by kernel_rfl) (by kernel_rfl) (fun c a w h => hq c a _ _ w h) (Or.inl ⟨by rfl, ?_⟩) (by assumption) ?_
    rotate_left
    · (intro W hSw; (try dsimp only at hSw); go_simp; try (with_reducible rfl))
    try simp only [Act.put]
    try simp only [List.setIfInBounds_toArray]
    try simp only [List.set_cons_succ]
    try simp only [List.set_cons_zero]
    refine wpAnyH_done (by kernel_rfl) (hdone.out _ _ ?_) _
    clear hdone hq QQ
    refine peelQ 7 (by kernel_rfl) (by kernel_rfl) 14 rfl (fun _ _ _ _ _ h => h) (fun QQ hq hdone => ?_)
    simp only [partOps_lit, partL, shiftO_mk, shiftA, shiftG]
    refine wpAny_of_held (S := (fun W => Liv w W ∧ W.cell? ⟨w.heap.size, 0, none⟩ = some (.int .i64 1) ∧ W.cell? ⟨w.heap.size, 1, none⟩ = some (.int .i64 2) ∧ W.cell? ⟨w.heap.size, 2, none⟩ = some (.int .i64 1) ∧ W.cell? ⟨w.heap.size, 3, none⟩ = some (.int .i64 5) ∧ W.cell? ⟨w.heap.size + 1, 0, none⟩ = some (.int .i64 2) ∧ W.cell? ⟨w.heap.size + 1, 1, none⟩ = some (.int .i64 1) ∧ W.cell? ⟨w.heap.size + 1, 2, none⟩ = some (.int .i64 3) ∧ W.cell? ⟨w.heap.size + 1, 3, none⟩ = some (.int .i64 4))) _ _ _ _ ?_
    refine wpAnyH_take (i := 0) (v := ?_) rfl (by kernel_rfl) (by kernel_rfl) (by kernel_rfl) (fun c a w h => hq c a _ _ w h) (Or.inl ⟨by rfl, ?_⟩) (by assumption) ?_
    rotate_left
    · (intro W hSw; (try dsimp only at hSw); go_simp; try (with_reducible rfl))
    try simp only [Act.put]
    try simp only [List.setIfInBounds_toArray]
    try simp only [List.set_cons_succ]
    try simp only [List.set_cons_zero]
    refine wpAnyH_take (i := 1) (v := ?_) rfl (by kernel_rfl) (by kernel_rfl) (by kernel_rfl) (fun c a w h => hq c a _ _ w h) (Or.inl ⟨by rfl, ?_⟩) (by assumption) ?_
    rotate_left
    · (intro W hSw; (try dsimp only at hSw); go_simp; try (with_reducible rfl))
    try simp only [Act.put]
    try simp only [List.setIfInBounds_toArray]
    try simp only [List.set_cons_succ]
    try simp only [List.set_cons_zero]
    refine wpAnyH_take (i := 3) (v := ?_) rfl (by kernel_rfl) (by kernel_rfl) (by kernel_rfl) (fun c a w h => hq c a _ _ w h) (Or.inl ⟨by rfl, ?_⟩) (by assumption) ?_
    rotate_left
    · (intro W hSw; (try dsimp only at hSw); go_simp; try (with_reducible rfl))
    try simp only [Act.put]
    try simp only [List.setIfInBounds_toArray]
    try simp only [List.set_cons_succ]
    try simp only [List.set_cons_zero]
    refine wpAnyH_ready (rs := [2]) (by kernel_rfl) (by simp) ?_
    refine AllReadyH.cons rfl (fun K hK => ?_) AllReadyH.nil
    go_simp
    refine hK.out _ _ ?_ (fun hHeld => ?_)
    · (first | (with_reducible exact Liv.all (Liv.upd (by go_split_ands; assumption) hu2)) | (with_reducible exact Liv.all (Liv.upd (by go_split_ands; assumption) (upd_alloc _ _))))
    clear hK K
    try simp only [Act.put]
    try simp only [List.setIfInBounds_toArray]
    try simp only [List.set_cons_succ]
    try simp only [List.set_cons_zero]
    refine wpAnyH_ready (rs := [4]) (by kernel_rfl) (by simp) ?_
    refine AllReadyH.cons rfl (fun K hK => ?_) AllReadyH.nil
    go_simp
    (first
        | (go_at_call 11; refine (lessV (l := [eB]) (k := [eB, eA]) (v := true) ?_ ?_ (by decide) ?_ ?_ vL1).mono ?_; (with_reducible exact litB _); (first | ((with_reducible exact Liv.wx ‹_›)) | ((with_reducible refine Liv.wx ?_); go_split_ands; assumption)); rfl; rfl; rintro e w2 ⟨rfl, hu2⟩)
        | (go_at_call 11; refine (lessV (l := [eA, eB]) (k := [eB, eA]) (v := true) ?_ ?_ (by decide) ?_ ?_ vL2).mono ?_; (with_reducible exact litAB _); (first | ((with_reducible exact Liv.wx ‹_›)) | ((with_reducible refine Liv.wx ?_); go_split_ands; assumption)); rfl; rfl; rintro e w2 ⟨rfl, hu2⟩)
        | (go_at_call 11; refine (lessV (l := [eB, eA]) (k := [eB, eA]) (v := false) ?_ ?_ (by decide) ?_ ?_ vL3).mono ?_; (first | ((with_reducible exact Liv.wx ‹_›)) | ((with_reducible refine Liv.wx ?_); go_split_ands; assumption)); (first | ((with_reducible exact Liv.wx ‹_›)) | ((with_reducible refine Liv.wx ?_); go_split_ands; assumption)); rfl; rfl; rintro e w2 ⟨rfl, hu2⟩))
    try (go_wp2_with fail)
    refine hK.out _ _ ?_ (fun hHeld => ?_)
    · (first | (with_reducible exact Liv.all (Liv.upd (by go_split_ands; assumption) hu2)) | (with_reducible exact Liv.all (Liv.upd (by go_split_ands; assumption) (upd_alloc _ _))))
    clear hK K
    try simp only [Act.put]
    try simp only [List.setIfInBounds_toArray]
    try simp only [List.set_cons_succ]
    try simp only [List.set_cons_zero]
    refine wpAnyH_take (i := 5) (v := ?_) rfl (by kernel_rfl) (by kernel_rfl) (by kernel_rfl) (fun c a w h => hq c a _ _ w h) (Or.inl ⟨by rfl, ?_⟩) (by assumption) ?_
    rotate_left
    · (intro W hSw; (try dsimp only at hSw); go_simp; try (with_reducible rfl))
    try simp only [Act.put]
    try simp only [List.setIfInBounds_toArray]
    try simp only [List.set_cons_succ]
    try simp only [List.set_cons_zero]
    refine wpAnyH_take (i := 6) (v := ?_) rfl (by kernel_rfl) (by kernel_rfl) (by kernel_rfl) (fun c a w h => hq c a _ _ w h) (Or.inl ⟨by rfl, ?_⟩) (by assumption) ?_
    rotate_left
    · (intro W hSw; (try dsimp only at hSw); go_simp; try (with_reducible rfl))
    try simp only [Act.put]
    try simp only [List.setIfInBounds_toArray]
    try simp only [List.set_cons_succ]
    try simp only [List.set_cons_zero]
    refine wpAnyH_done (by kernel_rfl) (hdone.out _ _ ?_) _
    clear hdone hq QQ
    refine peelQ 6 (by kernel_rfl) (by kernel_rfl) 8 rfl (fun _ _ _ _ _ h => h) (fun QQ hq hdone => ?_)
    simp only [partOps_lit, partL, shiftO_mk, shiftA, shiftG]
    refine wpAny_of_held (S := (fun W => Liv w W ∧ W.cell? ⟨w.heap.size, 0, none⟩ = some (.int .i64 1) ∧ W.cell? ⟨w.heap.size, 1, none⟩ = some (.int .i64 2) ∧ W.cell? ⟨w.heap.size, 2, none⟩ = some (.int .i64 1) ∧ W.cell? ⟨w.heap.size, 3, none⟩ = some (.int .i64 5) ∧ W.cell? ⟨w.heap.size + 1, 0, none⟩ = some (.int .i64 2) ∧ W.cell? ⟨w.heap.size + 1, 1, none⟩ = some (.int .i64 1) ∧ W.cell? ⟨w.heap.size + 1, 2, none⟩ = some (.int .i64 3) ∧ W.cell? ⟨w.heap.size + 1, 3, none⟩ = some (.int .i64 4))) _ _ _ _ ?_
    refine wpAnyH_take (i := 0) (v := ?_) rfl (by kernel_rfl) (by kernel_rfl) (by kernel_rfl) (fun c a w h => hq c a _ _ w h) (Or.inl ⟨by rfl, ?_⟩) (by assumption) ?_
    rotate_left
    · (intro W hSw; (try dsimp only at hSw); go_simp; try (with_reducible rfl))
    try simp only [Act.put]
    try simp only [List.setIfInBounds_toArray]
    try simp only [List.set_cons_succ]
    try simp only [List.set_cons_zero]
    refine wpAnyH_take (i := 1) (v := ?_) rfl (by kernel_rfl) (by kernel_rfl) (by kernel_rfl) (fun c a w h => hq c a _ _ w h) (Or.inl ⟨by rfl, ?_⟩) (by assumption) ?_
    rotate_left
    · (intro W hSw; (try dsimp only at hSw); go_simp; try (with_reducible rfl))
    try simp only [Act.put]
    try simp only [List.setIfInBounds_toArray]
    try simp only [List.set_cons_succ]
    try simp only [List.set_cons_zero]
    refine wpAnyH_ready (rs := [2]) (by kernel_rfl) (by simp) ?_
    refine AllReadyH.cons rfl (fun K hK => ?_) AllReadyH.nil
    go_simp
    (first
        | (go_at_call 11; refine (lessV (l := [eB]) (k := [eB, eA]) (v := true) ?_ ?_ (by decide) ?_ ?_ vL1).mono ?_; (with_reducible exact litB _); (first | ((with_reducible exact Liv.wx ‹_›)) | ((with_reducible refine Liv.wx ?_); go_split_ands; assumption)); rfl; rfl; rintro e w2 ⟨rfl, hu2⟩)
        | (go_at_call 11; refine (lessV (l := [eA, eB]) (k := [eB, eA]) (v := true) ?_ ?_ (by decide) ?_ ?_ vL2).mono ?_; (with_reducible exact litAB _); (first | ((with_reducible exact Liv.wx ‹_›)) | ((with_reducible refine Liv.wx ?_); go_split_ands; assumption)); rfl; rfl; rintro e w2 ⟨rfl, hu2⟩)
        | (go_at_call 11; refine (lessV (l := [eB, eA]) (k := [eB, eA]) (v := false) ?_ ?_ (by decide) ?_ ?_ vL3).mono ?_; (first | ((with_reducible exact Liv.wx ‹_›)) | ((with_reducible refine Liv.wx ?_); go_split_ands; assumption)); (first | ((with_reducible exact Liv.wx ‹_›)) | ((with_reducible refine Liv.wx ?_); go_split_ands; assumption)); rfl; rfl; rintro e w2 ⟨rfl, hu2⟩))
    try (go_wp2_with fail)
    refine hK.out _ _ ?_ (fun hHeld => ?_)
    · (first | (with_reducible exact Liv.all (Liv.upd (by go_split_ands; assumption) hu2)) | (with_reducible exact Liv.all (Liv.upd (by go_split_ands; assumption) (upd_alloc _ _))))
    clear hK K
    try simp only [Act.put]
    try simp only [List.setIfInBounds_toArray]
    try simp only [List.set_cons_succ]
    try simp only [List.set_cons_zero]
    refine wpAnyH_take (i := 3) (v := ?_) rfl (by kernel_rfl) (by kernel_rfl) (by kernel_rfl) (fun c a w h => hq c a _ _ w h) (Or.inl ⟨by rfl, ?_⟩) (by assumption) ?_
    rotate_left
    · (intro W hSw; (try dsimp only at hSw); go_simp; try (with_reducible rfl))
    try simp only [Act.put]
    try simp only [List.setIfInBounds_toArray]
    try simp only [List.set_cons_succ]
    try simp only [List.set_cons_zero]
    refine wpAnyH_take (i := 4) (v := ?_) rfl (by kernel_rfl) (by kernel_rfl) (by kernel_rfl) (fun c a w h => hq c a _ _ w h) (Or.inl ⟨by rfl, ?_⟩) (by assumption) ?_
    rotate_left
    · (intro W hSw; (try dsimp only at hSw); go_simp; try (with_reducible rfl))
    try simp only [Act.put]
    try simp only [List.setIfInBounds_toArray]
    try simp only [List.set_cons_succ]
    try simp only [List.set_cons_zero]
    refine wpAnyH_take (i := 5) (v := ?_) rfl (by kernel_rfl) (by kernel_rfl) (by kernel_rfl) (fun c a w h => hq c a _ _ w h) (Or.inl ⟨by rfl, ?_⟩) (by assumption) ?_
    rotate_left
    · (intro W hSw; (try dsimp only at hSw); go_simp; try (with_reducible rfl))
    try simp only [Act.put]
    try simp only [List.setIfInBounds_toArray]
    try simp only [List.set_cons_succ]
    try simp only [List.set_cons_zero]
    refine wpAnyH_done (by kernel_rfl) (hdone.out _ _ ?_) _
    clear hdone hq QQ
    refine peelQ 8 (by kernel_rfl) (by kernel_rfl) 0 rfl (fun _ _ _ _ _ h => h) (fun QQ hq hdone => ?_)
    simp only [partOps_lit, partL, shiftO_mk, shiftA, shiftG]
    refine wpAny_of_held (S := (fun W => Liv w W ∧ W.cell? ⟨w.heap.size, 0, none⟩ = some (.int .i64 1) ∧ W.cell? ⟨w.heap.size, 1, none⟩ = some (.int .i64 2) ∧ W.cell? ⟨w.heap.size, 2, none⟩ = some (.int .i64 1) ∧ W.cell? ⟨w.heap.size, 3, none⟩ = some (.int .i64 5) ∧ W.cell? ⟨w.heap.size + 1, 0, none⟩ = some (.int .i64 2) ∧ W.cell? ⟨w.heap.size + 1, 1, none⟩ = some (.int .i64 1) ∧ W.cell? ⟨w.heap.size + 1, 2, none⟩ = some (.int .i64 3) ∧ W.cell? ⟨w.heap.size + 1, 3, none⟩ = some (.int .i64 4))) _ _ _ _ ?_
    refine wpAnyH_take (i := 0) (v := ?_) rfl (by kernel_rfl) (by kernel_rfl) (by kernel_rfl) (fun c a w h => hq c a _ _ w h) (Or.inl ⟨by rfl, ?_⟩) (by assumption) ?_
    rotate_left
    · (intro W hSw; (try dsimp only at hSw); go_simp; try (with_reducible rfl))
    try simp only [Act.put]
    try simp only [List.setIfInBounds_toArray]
    try simp only [List.set_cons_succ]
    try simp only [List.set_cons_zero]
    refine wpAnyH_take (i := 1) (v := ?_) rfl (by kernel_rfl) (by kernel_rfl) (by kernel_rfl) (fun c a w h => hq c a _ _ w h) (Or.inl ⟨by rfl, ?_⟩) (by assumption) ?_
    rotate_left
    · (intro W hSw; (try dsimp only at hSw); go_simp; try (with_reducible rfl))
    try simp only [Act.put]
    try simp only [List.setIfInBounds_toArray]
    try simp only [List.set_cons_succ]
    try simp only [List.set_cons_zero]
    refine wpAnyH_take (i := 2) (v := ?_) rfl (by kernel_rfl) (by kernel_rfl) (by kernel_rfl) (fun c a w h => hq c a _ _ w h) (Or.inl ⟨by rfl, ?_⟩) (by assumption) ?_
    rotate_left
    · (intro W hSw; (try dsimp only at hSw); go_simp; try (with_reducible rfl))
    try simp only [Act.put]
    try simp only [List.setIfInBounds_toArray]
    try simp only [List.set_cons_succ]
    try simp only [List.set_cons_zero]
    refine wpAnyH_ready (rs := [3]) (by kernel_rfl) (by simp) ?_
    refine AllReadyH.cons rfl (fun K hK => ?_) AllReadyH.nil
    go_simp
    refine hK.out _ _ ?_ (fun hHeld => ?_)
    · (first | (with_reducible exact Liv.all (Liv.upd (by go_split_ands; assumption) hu2)) | (with_reducible exact Liv.all (Liv.upd (by go_split_ands; assumption) (upd_alloc _ _))))
    clear hK K
    try simp only [Act.put]
    try simp only [List.setIfInBounds_toArray]
    try simp only [List.set_cons_succ]
    try simp only [List.set_cons_zero]
    refine wpAnyH_ready (rs := [4]) (by kernel_rfl) (by simp) ?_
    refine AllReadyH.cons rfl (fun K hK => ?_) AllReadyH.nil
    go_simp
    (first
        | (go_at_call 9; refine (sameV (l := [eA, eB]) (k := [eA, eB]) (v := true) ?_ ?_ (by decide) (by decide) ?_ ?_ vE1).mono ?_; (first | (with_reducible exact hw5) | (with_reducible exact hw5.upd (upd_alloc _ _))); (first | (with_reducible exact litAB _) | (with_reducible exact hx5)); rfl; rfl; rintro e w2 ⟨rfl, hu2⟩)
        | (go_at_call 9; refine (sameV (l := [eB, eA]) (k := [eA, eB]) (v := false) ?_ ?_ (by decide) (by decide) ?_ ?_ vE2).mono ?_; (first | ((with_reducible exact Liv.wx ‹_›)) | ((with_reducible refine Liv.wx ?_); go_split_ands; assumption)); (with_reducible exact litAB _); rfl; rfl; rintro e w2 ⟨rfl, hu2⟩))
    try (go_wp2_with fail)
    refine hK.out _ _ ?_ (fun hHeld => ?_)
    · (first | (with_reducible exact Liv.all (Liv.upd (by go_split_ands; assumption) hu2)) | (with_reducible exact Liv.all (Liv.upd (by go_split_ands; assumption) (upd_alloc _ _))))
    clear hK K
    try simp only [Act.put]
    try simp only [List.setIfInBounds_toArray]
    try simp only [List.set_cons_succ]
    try simp only [List.set_cons_zero]
    refine wpAnyH_take (i := 5) (v := ?_) rfl (by kernel_rfl) (by kernel_rfl) (by kernel_rfl) (fun c a w h => hq c a _ _ w h) (Or.inl ⟨by rfl, ?_⟩) (by assumption) ?_
    rotate_left
    · (intro W hSw; (try dsimp only at hSw); go_simp; try (with_reducible rfl))
    try simp only [Act.put]
    try simp only [List.setIfInBounds_toArray]
    try simp only [List.set_cons_succ]
    try simp only [List.set_cons_zero]
    refine wpAnyH_take (i := 6) (v := ?_) rfl (by kernel_rfl) (by kernel_rfl) (by kernel_rfl) (fun c a w h => hq c a _ _ w h) (Or.inl ⟨by rfl, ?_⟩) (by assumption) ?_
    rotate_left
    · (intro W hSw; (try dsimp only at hSw); go_simp; try (with_reducible rfl))
    try simp only [Act.put]
    try simp only [List.setIfInBounds_toArray]
    try simp only [List.set_cons_succ]
    try simp only [List.set_cons_zero]
    refine wpAnyH_take (i := 7) (v := ?_) rfl (by kernel_rfl) (by kernel_rfl) (by kernel_rfl) (fun c a w h => hq c a _ _ w h) (Or.inl ⟨by rfl, ?_⟩) (by assumption) ?_
    rotate_left
    · (intro W hSw; (try dsimp only at hSw); go_simp; try (with_reducible rfl))
    try simp only [Act.put]
    try simp only [List.setIfInBounds_toArray]
    try simp only [List.set_cons_succ]
    try simp only [List.set_cons_zero]
    refine wpAnyH_done (by kernel_rfl) (hdone.out _ _ ?_) _
    clear hdone hq QQ
    refine peel_end (NoPanic.normal ?_)
    try go_wp2
    go_ret
    exact ⟨rfl, hHeld.1.1⟩
  refine AllReadyH.cons rfl (fun K hK => ?_) AllReadyH.nil
  go_simp
  refine hK.out _ _ ?_ (fun hHeld => ?_)
  · (first | (with_reducible exact Liv.all (Liv.upd (by go_split_ands; assumption) hu2)) | (with_reducible exact Liv.all (Liv.upd (by go_split_ands; assumption) (upd_alloc _ _))))
  clear hK K
  try simp only [Act.put]
  try simp only [List.setIfInBounds_toArray]
  try simp only [List.set_cons_succ]
  try simp only [List.set_cons_zero]
  refine wpAnyH_ready (rs := [1]) (by kernel_rfl) (by simp) ?_
  refine AllReadyH.cons rfl (fun K hK => ?_) AllReadyH.nil
  go_simp
  (first
      | (go_at_call 10; refine (turnV (l := [eB, eA]) (t := [eA, eB]) ?_ (by decide) ?_ ?_ vBA).mono ?_; (first | ((with_reducible exact Liv.wx ‹_›)) | ((with_reducible refine Liv.wx ?_); go_split_ands; assumption)); decide; rfl; rintro e w2 ⟨A5, c5, rfl, hw5, hu2⟩; (first | (with_reducible have hx5 := WalkX.upd (litAB _) hu2) | skip))
      | (go_at_call 10; refine (turnV (l := []) (t := []) ?_ (by decide) ?_ ?_ vT2).mono ?_; (with_reducible exact walkx_nil); decide; rfl; rintro e w2 ⟨A5, c5, rfl, hw5, hu2⟩))
  try (go_wp2_with fail)
  refine hK.out _ _ ?_ (fun hHeld => ?_)
  · (first | (with_reducible exact Liv.all (Liv.upd (by go_split_ands; assumption) hu2)) | (with_reducible exact Liv.all (Liv.upd (by go_split_ands; assumption) (upd_alloc _ _))))
  clear hK K
  try simp only [Act.put]
  try simp only [List.setIfInBounds_toArray]
  try simp only [List.set_cons_succ]
  try simp only [List.set_cons_zero]
  refine wpAnyH_ready (rs := [5]) (by kernel_rfl) (by simp) ?_
  refine AllReadyH.cons rfl (fun K hK => ?_) AllReadyH.nil
  go_simp
  (first
      | (go_at_call 9; refine (sameV (l := [eA, eB]) (k := [eA, eB]) (v := true) ?_ ?_ (by decide) (by decide) ?_ ?_ vE1).mono ?_; (first | (with_reducible exact hw5) | (with_reducible exact hw5.upd (upd_alloc _ _))); (first | (with_reducible exact litAB _) | (with_reducible exact hx5)); rfl; rfl; rintro e w2 ⟨rfl, hu2⟩)
      | (go_at_call 9; refine (sameV (l := [eB, eA]) (k := [eA, eB]) (v := false) ?_ ?_ (by decide) (by decide) ?_ ?_ vE2).mono ?_; (first | ((with_reducible exact Liv.wx ‹_›)) | ((with_reducible refine Liv.wx ?_); go_split_ands; assumption)); (with_reducible exact litAB _); rfl; rfl; rintro e w2 ⟨rfl, hu2⟩))
  try (go_wp2_with fail)
  refine hK.out _ _ ?_ (fun hHeld => ?_)
  · (first | (with_reducible exact Liv.all (Liv.upd (by go_split_ands; assumption) hu2)) | (with_reducible exact Liv.all (Liv.upd (by go_split_ands; assumption) (upd_alloc _ _))))
  clear hK K
  try simp only [Act.put]
  try simp only [List.setIfInBounds_toArray]
  try simp only [List.set_cons_succ]
  try simp only [List.set_cons_zero]
  refine wpAnyH_take (i := 6) (v := ?_) rfl (by kernel_rfl) (by kernel_rfl) (by kernel_rfl) (fun c a w h => hq c a _ _ w h) (Or.inl ⟨by rfl, ?_⟩) (by assumption) ?_
  rotate_left
  · (intro W hSw; (try dsimp only at hSw); go_simp; try (with_reducible rfl))
  try simp only [Act.put]
  try simp only [List.setIfInBounds_toArray]
  try simp only [List.set_cons_succ]
  try simp only [List.set_cons_zero]
  refine wpAnyH_take (i := 7) (v := ?_) rfl (by kernel_rfl) (by kernel_rfl) (by kernel_rfl) (fun c a w h => hq c a _ _ w h) (Or.inl ⟨by rfl, ?_⟩) (by assumption) ?_
  rotate_left
  · (intro W hSw; (try dsimp only at hSw); go_simp; try (with_reducible rfl))
  try simp only [Act.put]
  try simp only [List.setIfInBounds_toArray]
  try simp only [List.set_cons_succ]
  try simp only [List.set_cons_zero]
  refine wpAnyH_done (by kernel_rfl) (hdone.out _ _ ?_) _
  clear hdone hq QQ
  refine peelQ 5 (by kernel_rfl) (by kernel_rfl) 43 rfl (fun _ _ _ _ _ h => h) (fun QQ hq hdone => ?_)
  simp only [partOps_lit, partL, shiftO_mk, shiftA, shiftG]
  refine wpAny_of_held (S := (fun W => Liv w W ∧ W.cell? ⟨w.heap.size, 0, none⟩ = some (.int .i64 1) ∧ W.cell? ⟨w.heap.size, 1, none⟩ = some (.int .i64 2) ∧ W.cell? ⟨w.heap.size, 2, none⟩ = some (.int .i64 1) ∧ W.cell? ⟨w.heap.size, 3, none⟩ = some (.int .i64 5) ∧ W.cell? ⟨w.heap.size + 1, 0, none⟩ = some (.int .i64 2) ∧ W.cell? ⟨w.heap.size + 1, 1, none⟩ = some (.int .i64 1) ∧ W.cell? ⟨w.heap.size + 1, 2, none⟩ = some (.int .i64 3) ∧ W.cell? ⟨w.heap.size + 1, 3, none⟩ = some (.int .i64 4))) _ _ _ _ ?_
  refine wpAnyH_ready (rs := [0]) (by kernel_rfl) (by simp) ?_
  refine AllReadyH.cons rfl (fun K hK => ?_) AllReadyH.nil
  go_simp
  (first
      | (go_at_call 10; refine (turnV (l := [eB, eA]) (t := [eA, eB]) ?_ (by decide) ?_ ?_ vBA).mono ?_; (first | ((with_reducible exact Liv.wx ‹_›)) | ((with_reducible refine Liv.wx ?_); go_split_ands; assumption)); decide; rfl; rintro e w2 ⟨A5, c5, rfl, hw5, hu2⟩; (first | (with_reducible have hx5 := WalkX.upd (litAB _) hu2) | skip))
      | (go_at_call 10; refine (turnV (l := []) (t := []) ?_ (by decide) ?_ ?_ vT2).mono ?_; (with_reducible exact walkx_nil); decide; rfl; rintro e w2 ⟨A5, c5, rfl, hw5, hu2⟩))
  try (go_wp2_with fail)
  refine hK.out _ _ ?_ (fun hHeld => ?_)
  · (first | (with_reducible exact Liv.all (Liv.upd (by go_split_ands; assumption) hu2)) | (with_reducible exact Liv.all (Liv.upd (by go_split_ands; assumption) (upd_alloc _ _))))
  clear hK K
  try simp only [Act.put]
  try simp only [List.setIfInBounds_toArray]
  try simp only [List.set_cons_succ]
  try simp only [List.set_cons_zero]
  refine wpAnyH_take (i := 1) (v := ?_) rfl (by kernel_rfl) (by kernel_rfl) (by kernel_rfl) (fun c a w h => hq c a _ _ w h) (Or.inl ⟨by rfl, ?_⟩) (by assumption) ?_
  rotate_left
  · (intro W hSw; (try dsimp only at hSw); go_simp; try (with_reducible rfl))
  try simp only [Act.put]
  try simp only [List.setIfInBounds_toArray]
  try simp only [List.set_cons_succ]
  try simp only [List.set_cons_zero]
  refine wpAnyH_take (i := 2) (v := ?_) rfl (by kernel_rfl) (by kernel_rfl) (by kernel_rfl) (fun c a w h => hq c a _ _ w h) (Or.inl ⟨by rfl, ?_⟩) (by assumption) ?_
  rotate_left
  · (intro W hSw; (try dsimp only at hSw); go_simp; try (with_reducible rfl))
  try simp only [Act.put]
  try simp only [List.setIfInBounds_toArray]
  try simp only [List.set_cons_succ]
  try simp only [List.set_cons_zero]
  refine wpAnyH_take (i := 3) (v := ?_) rfl (by kernel_rfl) (by kernel_rfl) (by kernel_rfl) (fun c a w h => hq c a _ _ w h) (Or.inl ⟨by rfl, ?_⟩) (by assumption) ?_
  rotate_left
  · (intro W hSw; (try dsimp only at hSw); go_simp; try (with_reducible rfl))
  try simp only [Act.put]
  try simp only [List.setIfInBounds_toArray]
  try simp only [List.set_cons_succ]
  try simp only [List.set_cons_zero]
  refine wpAnyH_take (i := 4) (v := ?_) rfl (by kernel_rfl) (by kernel_rfl) (by kernel_rfl) (fun c a w h => hq c a _ _ w h) (Or.inl ⟨by rfl, ?_⟩) (by assumption) ?_
  rotate_left
  · (intro W hSw; (try dsimp only at hSw); go_simp; try (with_reducible rfl))
  try simp only [Act.put]
  try simp only [List.setIfInBounds_toArray]
  try simp only [List.set_cons_succ]
  try simp only [List.set_cons_zero]
  refine wpAnyH_done (by kernel_rfl) (hdone.out _ _ ?_) _
  clear hdone hq QQ
  refine peelQ 6 (by kernel_rfl) (by kernel_rfl) 37 rfl (fun _ _ _ _ _ h => h) (fun QQ hq hdone => ?_)
  simp only [partOps_lit, partL, shiftO_mk, shiftA, shiftG]
  refine wpAny_of_held (S := (fun W => Liv w W ∧ W.cell? ⟨w.heap.size, 0, none⟩ = some (.int .i64 1) ∧ W.cell? ⟨w.heap.size, 1, none⟩ = some (.int .i64 2) ∧ W.cell? ⟨w.heap.size, 2, none⟩ = some (.int .i64 1) ∧ W.cell? ⟨w.heap.size, 3, none⟩ = some (.int .i64 5) ∧ W.cell? ⟨w.heap.size + 1, 0, none⟩ = some (.int .i64 2) ∧ W.cell? ⟨w.heap.size + 1, 1, none⟩ = some (.int .i64 1) ∧ W.cell? ⟨w.heap.size + 1, 2, none⟩ = some (.int .i64 3) ∧ W.cell? ⟨w.heap.size + 1, 3, none⟩ = some (.int .i64 4))) _ _ _ _ ?_
  refine wpAnyH_take (i := 0) (v := ?_) rfl (by kernel_rfl) (by kernel_rfl) (by kernel_rfl) (fun c a w h => hq c a _ _ w h) (Or.inl ⟨by rfl, ?_⟩) (by assumption) ?_
  rotate_left
  · (intro W hSw; (try dsimp only at hSw); go_simp; try (with_reducible rfl))
  try simp only [Act.put]
  try simp only [List.setIfInBounds_toArray]
  try simp only [List.set_cons_succ]
  try simp only [List.set_cons_zero]
  refine wpAnyH_ready (rs := [1]) (by kernel_rfl) (by simp) ?_
  refine AllReadyH.cons rfl (fun K hK => ?_) AllReadyH.nil
  go_simp
  (first
      | (go_at_call 10; refine (turnV (l := [eB, eA]) (t := [eA, eB]) ?_ (by decide) ?_ ?_ vBA).mono ?_; (first | ((with_reducible exact Liv.wx ‹_›)) | ((with_reducible refine Liv.wx ?_); go_split_ands; assumption)); decide; rfl; rintro e w2 ⟨A5, c5, rfl, hw5, hu2⟩; (first | (with_reducible have hx5 := WalkX.upd (litAB _) hu2) | skip))
      | (go_at_call 10; refine (turnV (l := []) (t := []) ?_ (by decide) ?_ ?_ vT2).mono ?_; (with_reducible exact walkx_nil); decide; rfl; rintro e w2 ⟨A5, c5, rfl, hw5, hu2⟩))
  try (go_wp2_with fail)
  refine hK.out _ _ ?_ (fun hHeld => ?_)
  · (first | (with_reducible exact Liv.all (Liv.upd (by go_split_ands; assumption) hu2)) | (with_reducible exact Liv.all (Liv.upd (by go_split_ands; assumption) (upd_alloc _ _))))
  clear hK K
  try simp only [Act.put]
  try simp only [List.setIfInBounds_toArray]
  try simp only [List.set_cons_succ]
  try simp only [List.set_cons_zero]
  refine wpAnyH_ready (rs := [2]) (by kernel_rfl) (by simp) ?_
  refine AllReadyH.cons rfl (fun K hK => ?_) AllReadyH.nil
  go_simp
  (first
      | (go_at_call 12; refine (textV (l := [eA, eB]) (v := ⟨#[49, 32, 119, 119, 53, 32, 50, 32, 114, 119, 52, 32, 49]⟩) ?_ (by decide) okAB ?_ tx1).mono ?_; (first | (with_reducible exact hw5) | (with_reducible exact hw5.upd (upd_alloc _ _))); rfl; rintro e w2 ⟨rfl, hu2⟩)
      | (go_at_call 12; refine (textV (l := []) (v := ⟨#[]⟩) ?_ (by decide) okN ?_ tx2).mono ?_; (with_reducible exact walkx_nil); rfl; rintro e w2 ⟨rfl, hu2⟩)
      | (go_at_call 12; refine (textV (l := [⟨0, 0, 9, 0⟩]) (v := ⟨#[48, 32, 120, 48, 32, 48]⟩) ?_ (by decide) ok9 ?_ tx3).mono ?_; (with_reducible exact lit9 _); rfl; rintro e w2 ⟨rfl, hu2⟩))
  try (go_wp2_with fail)
  refine hK.out _ _ ?_ (fun hHeld => ?_)
  · (first | (with_reducible exact Liv.all (Liv.upd (by go_split_ands; assumption) hu2)) | (with_reducible exact Liv.all (Liv.upd (by go_split_ands; assumption) (upd_alloc _ _))))
  clear hK K
  try simp only [Act.put]
  try simp only [List.setIfInBounds_toArray]
  try simp only [List.set_cons_succ]
  try simp only [List.set_cons_zero]
  refine wpAnyH_take (i := 3) (v := ?_) rfl (by kernel_rfl) (by kernel_rfl) (by kernel_rfl) (fun c a w h => hq c a _ _ w h) (Or.inl ⟨by rfl, ?_⟩) (by assumption) ?_
  rotate_left
  · (intro W hSw; (try dsimp only at hSw); go_simp; try (with_reducible rfl))
  try simp only [Act.put]
  try simp only [List.setIfInBounds_toArray]
  try simp only [List.set_cons_succ]
  try simp only [List.set_cons_zero]
  refine wpAnyH_take (i := 4) (v := ?_) rfl (by kernel_rfl) (by kernel_rfl) (by kernel_rfl) (fun c a w h => hq c a _ _ w h) (Or.inl ⟨by rfl, ?_⟩) (by assumption) ?_
  rotate_left
  · (intro W hSw; (try dsimp only at hSw); go_simp; try (with_reducible rfl))
  try simp only [Act.put]
  try simp only [List.setIfInBounds_toArray]
  try simp only [List.set_cons_succ]
  try simp only [List.set_cons_zero]
  refine wpAnyH_take (i := 5) (v := ?_) rfl (by kernel_rfl) (by kernel_rfl) (by kernel_rfl) (fun c a w h => hq c a _ _ w h) (Or.inl ⟨by rfl, ?_⟩) (by assumption) ?_
  rotate_left
  · (intro W hSw; (try dsimp only at hSw); go_simp; try (with_reducible rfl))
  try simp only [Act.put]
  try simp only [List.setIfInBounds_toArray]
  try simp only [List.set_cons_succ]
  try simp only [List.set_cons_zero]
  refine wpAnyH_done (by kernel_rfl) (hdone.out _ _ ?_) _
  clear hdone hq QQ
  refine peelQ 4 (by kernel_rfl) (by kernel_rfl) 33 rfl (fun _ _ _ _ _ h => h) (fun QQ hq hdone => ?_)
  simp only [partOps_lit, partL, shiftO_mk, shiftA, shiftG]
  refine wpAny_of_held (S := (fun W => Liv w W ∧ W.cell? ⟨w.heap.size, 0, none⟩ = some (.int .i64 1) ∧ W.cell? ⟨w.heap.size, 1, none⟩ = some (.int .i64 2) ∧ W.cell? ⟨w.heap.size, 2, none⟩ = some (.int .i64 1) ∧ W.cell? ⟨w.heap.size, 3, none⟩ = some (.int .i64 5) ∧ W.cell? ⟨w.heap.size + 1, 0, none⟩ = some (.int .i64 2) ∧ W.cell? ⟨w.heap.size + 1, 1, none⟩ = some (.int .i64 1) ∧ W.cell? ⟨w.heap.size + 1, 2, none⟩ = some (.int .i64 3) ∧ W.cell? ⟨w.heap.size + 1, 3, none⟩ = some (.int .i64 4))) _ _ _ _ ?_
  refine wpAnyH_ready (rs := [0]) (by kernel_rfl) (by simp) ?_
  refine AllReadyH.cons rfl (fun K hK => ?_) AllReadyH.nil
  go_simp
  (first
      | (go_at_call 12; refine (textV (l := [eA, eB]) (v := ⟨#[49, 32, 119, 119, 53, 32, 50, 32, 114, 119, 52, 32, 49]⟩) ?_ (by decide) okAB ?_ tx1).mono ?_; (first | (with_reducible exact hw5) | (with_reducible exact hw5.upd (upd_alloc _ _))); rfl; rintro e w2 ⟨rfl, hu2⟩)
      | (go_at_call 12; refine (textV (l := []) (v := ⟨#[]⟩) ?_ (by decide) okN ?_ tx2).mono ?_; (with_reducible exact walkx_nil); rfl; rintro e w2 ⟨rfl, hu2⟩)
      | (go_at_call 12; refine (textV (l := [⟨0, 0, 9, 0⟩]) (v := ⟨#[48, 32, 120, 48, 32, 48]⟩) ?_ (by decide) ok9 ?_ tx3).mono ?_; (with_reducible exact lit9 _); rfl; rintro e w2 ⟨rfl, hu2⟩))
  try (go_wp2_with fail)
  refine hK.out _ _ ?_ (fun hHeld => ?_)
  · (first | (with_reducible exact Liv.all (Liv.upd (by go_split_ands; assumption) hu2)) | (with_reducible exact Liv.all (Liv.upd (by go_split_ands; assumption) (upd_alloc _ _))))
  clear hK K
  try simp only [Act.put]
  try simp only [List.setIfInBounds_toArray]
  try simp only [List.set_cons_succ]
  try simp only [List.set_cons_zero]
  refine wpAnyH_take (i := 1) (v := ?_) rfl (by kernel_rfl) (by kernel_rfl) (by kernel_rfl) (fun c a w h => hq c a _ _ w h) (Or.inl ⟨by rfl, ?_⟩) (by assumption) ?_
  rotate_left
  · (intro W hSw; (try dsimp only at hSw); go_simp; try (with_reducible rfl))
  try simp only [Act.put]
  try simp only [List.setIfInBounds_toArray]
  try simp only [List.set_cons_succ]
  try simp only [List.set_cons_zero]
  refine wpAnyH_take (i := 2) (v := ?_) rfl (by kernel_rfl) (by kernel_rfl) (by kernel_rfl) (fun c a w h => hq c a _ _ w h) (Or.inl ⟨by rfl, ?_⟩) (by assumption) ?_
  rotate_left
  · (intro W hSw; (try dsimp only at hSw); go_simp; try (with_reducible rfl))
  try simp only [Act.put]
  try simp only [List.setIfInBounds_toArray]
  try simp only [List.set_cons_succ]
  try simp only [List.set_cons_zero]
  refine wpAnyH_take (i := 3) (v := ?_) rfl (by kernel_rfl) (by kernel_rfl) (by kernel_rfl) (fun c a w h => hq c a _ _ w h) (Or.inl ⟨by rfl, ?_⟩) (by assumption) ?_
  rotate_left
  · (intro W hSw; (try dsimp only at hSw); go_simp; try (with_reducible rfl))
  try simp only [Act.put]
  try simp only [List.setIfInBounds_toArray]
  try simp only [List.set_cons_succ]
  try simp only [List.set_cons_zero]
  refine wpAnyH_done (by kernel_rfl) (hdone.out _ _ ?_) _
  clear hdone hq QQ
  refine peelQ 6 (by kernel_rfl) (by kernel_rfl) 27 rfl (fun _ _ _ _ _ h => h) (fun QQ hq hdone => ?_)
  simp only [partOps_lit, partL, shiftO_mk, shiftA, shiftG]
  refine wpAny_of_held (S := (fun W => Liv w W ∧ W.cell? ⟨w.heap.size, 0, none⟩ = some (.int .i64 1) ∧ W.cell? ⟨w.heap.size, 1, none⟩ = some (.int .i64 2) ∧ W.cell? ⟨w.heap.size, 2, none⟩ = some (.int .i64 1) ∧ W.cell? ⟨w.heap.size, 3, none⟩ = some (.int .i64 5) ∧ W.cell? ⟨w.heap.size + 1, 0, none⟩ = some (.int .i64 2) ∧ W.cell? ⟨w.heap.size + 1, 1, none⟩ = some (.int .i64 1) ∧ W.cell? ⟨w.heap.size + 1, 2, none⟩ = some (.int .i64 3) ∧ W.cell? ⟨w.heap.size + 1, 3, none⟩ = some (.int .i64 4))) _ _ _ _ ?_
  refine wpAnyH_take (i := 0) (v := ?_) rfl (by kernel_rfl) (by kernel_rfl) (by kernel_rfl) (fun c a w h => hq c a _ _ w h) (Or.inl ⟨by rfl, ?_⟩) (by assumption) ?_
  rotate_left
  · (intro W hSw; (try dsimp only at hSw); go_simp; try (with_reducible rfl))
  try simp only [Act.put]
  try simp only [List.setIfInBounds_toArray]
  try simp only [List.set_cons_succ]
  try simp only [List.set_cons_zero]
  refine wpAnyH_ready (rs := [1]) (by kernel_rfl) (by simp) ?_
  refine AllReadyH.cons rfl (fun K hK => ?_) AllReadyH.nil
  go_simp
  refine hK.out _ _ ?_ (fun hHeld => ?_)
  · (first | (with_reducible exact Liv.all (Liv.upd (by go_split_ands; assumption) hu2)) | (with_reducible exact Liv.all (Liv.upd (by go_split_ands; assumption) (upd_alloc _ _))))
  clear hK K
  try simp only [Act.put]
  try simp only [List.setIfInBounds_toArray]
  try simp only [List.set_cons_succ]
  try simp only [List.set_cons_zero]
  refine wpAnyH_ready (rs := [2]) (by kernel_rfl) (by simp) ?_
  refine AllReadyH.cons rfl (fun K hK => ?_) AllReadyH.nil
  go_simp
  (first
      | (go_at_call 12; refine (textV (l := [eA, eB]) (v := ⟨#[49, 32, 119, 119, 53, 32, 50, 32, 114, 119, 52, 32, 49]⟩) ?_ (by decide) okAB ?_ tx1).mono ?_; (first | (with_reducible exact hw5) | (with_reducible exact hw5.upd (upd_alloc _ _))); rfl; rintro e w2 ⟨rfl, hu2⟩)
      | (go_at_call 12; refine (textV (l := []) (v := ⟨#[]⟩) ?_ (by decide) okN ?_ tx2).mono ?_; (with_reducible exact walkx_nil); rfl; rintro e w2 ⟨rfl, hu2⟩)
      | (go_at_call 12; refine (textV (l := [⟨0, 0, 9, 0⟩]) (v := ⟨#[48, 32, 120, 48, 32, 48]⟩) ?_ (by decide) ok9 ?_ tx3).mono ?_; (with_reducible exact lit9 _); rfl; rintro e w2 ⟨rfl, hu2⟩))
  try (go_wp2_with fail)
  refine hK.out _ _ ?_ (fun hHeld => ?_)
  · (first | (with_reducible exact Liv.all (Liv.upd (by go_split_ands; assumption) hu2)) | (with_reducible exact Liv.all (Liv.upd (by go_split_ands; assumption) (upd_alloc _ _))))
  clear hK K
  try simp only [Act.put]
  try simp only [List.setIfInBounds_toArray]
  try simp only [List.set_cons_succ]
  try simp only [List.set_cons_zero]
  refine wpAnyH_take (i := 3) (v := ?_) rfl (by kernel_rfl) (by kernel_rfl) (by kernel_rfl) (fun c a w h => hq c a _ _ w h) (Or.inl ⟨by rfl, ?_⟩) (by assumption) ?_
  rotate_left
  · (intro W hSw; (try dsimp only at hSw); go_simp; try (with_reducible rfl))
  try simp only [Act.put]
  try simp only [List.setIfInBounds_toArray]
  try simp only [List.set_cons_succ]
  try simp only [List.set_cons_zero]
  refine wpAnyH_take (i := 4) (v := ?_) rfl (by kernel_rfl) (by kernel_rfl) (by kernel_rfl) (fun c a w h => hq c a _ _ w h) (Or.inl ⟨by rfl, ?_⟩) (by assumption) ?_
  rotate_left
  · (intro W hSw; (try dsimp only at hSw); go_simp; try (with_reducible rfl))
  try simp only [Act.put]
  try simp only [List.setIfInBounds_toArray]
  try simp only [List.set_cons_succ]
  try simp only [List.set_cons_zero]
  refine wpAnyH_take (i := 5) (v := ?_) rfl (by kernel_rfl) (by kernel_rfl) (by kernel_rfl) (fun c a w h => hq c a _ _ w h) (Or.inl ⟨by rfl, ?_⟩) (by assumption) ?_
  rotate_left
  · (intro W hSw; (try dsimp only at hSw); go_simp; try (with_reducible rfl))
  try simp only [Act.put]
  try simp only [List.setIfInBounds_toArray]
  try simp only [List.set_cons_succ]
  try simp only [List.set_cons_zero]
  refine wpAnyH_done (by kernel_rfl) (hdone.out _ _ ?_) _
  clear hdone hq QQ
  refine peelQ 6 (by kernel_rfl) (by kernel_rfl) 21 rfl (fun _ _ _ _ _ h => h) (fun QQ hq hdone => ?_)
  simp only [partOps_lit, partL, shiftO_mk, shiftA, shiftG]
  refine wpAny_of_held (S := (fun W => Liv w W ∧ W.cell? ⟨w.heap.size, 0, none⟩ = some (.int .i64 1) ∧ W.cell? ⟨w.heap.size, 1, none⟩ = some (.int .i64 2) ∧ W.cell? ⟨w.heap.size, 2, none⟩ = some (.int .i64 1) ∧ W.cell? ⟨w.heap.size, 3, none⟩ = some (.int .i64 5) ∧ W.cell? ⟨w.heap.size + 1, 0, none⟩ = some (.int .i64 2) ∧ W.cell? ⟨w.heap.size + 1, 1, none⟩ = some (.int .i64 1) ∧ W.cell? ⟨w.heap.size + 1, 2, none⟩ = some (.int .i64 3) ∧ W.cell? ⟨w.heap.size + 1, 3, none⟩ = some (.int .i64 4))) _ _ _ _ ?_
  refine wpAnyH_take (i := 0) (v := ?_) rfl (by kernel_rfl) (by kernel_rfl) (by kernel_rfl) (fun c a w h => hq c a _ _ w h) (Or.inl ⟨by rfl, ?_⟩) (by assumption) ?_
  rotate_left
  · (intro W hSw; (try dsimp only at hSw); go_simp; try (with_reducible rfl))
  try simp only [Act.put]
  try simp only [List.setIfInBounds_toArray]
  try simp only [List.set_cons_succ]
  try simp only [List.set_cons_zero]
  refine wpAnyH_take (i := 2) (v := ?_) rfl (by kernel_rfl) (by kernel_rfl) (by kernel_rfl) (fun c a w h => hq c a _ _ w h) (Or.inl ⟨by rfl, ?_⟩) (by assumption) ?_
  rotate_left
  · (intro W hSw; (try dsimp only at hSw); go_simp; try (with_reducible rfl))
  try simp only [Act.put]
  try simp only [List.setIfInBounds_toArray]
  try simp only [List.set_cons_succ]
  try simp only [List.set_cons_zero]
  refine wpAnyH_ready (rs := [1]) (by kernel_rfl) (by simp) ?_
  refine AllReadyH.cons rfl (fun K hK => ?_) AllReadyH.nil
  go_simp
  refine hK.out _ _ ?_ (fun hHeld => ?_)
  · (first | (with_reducible exact Liv.all (Liv.upd (by go_split_ands; assumption) hu2)) | (with_reducible exact Liv.all (Liv.upd (by go_split_ands; assumption) (upd_alloc _ _))))
  clear hK K
  try simp only [Act.put]
  try simp only [List.setIfInBounds_toArray]
  try simp only [List.set_cons_succ]
  try simp only [List.set_cons_zero]
  refine wpAnyH_ready (rs := [3]) (by kernel_rfl) (by simp) ?_
  refine AllReadyH.cons rfl (fun K hK => ?_) AllReadyH.nil
  go_simp
  (first
      | (go_at_call 11; refine (lessV (l := [eB]) (k := [eB, eA]) (v := true) ?_ ?_ (by decide) ?_ ?_ vL1).mono ?_; (with_reducible exact litB _); (first | ((with_reducible exact Liv.wx ‹_›)) | ((with_reducible refine Liv.wx ?_); go_split_ands; assumption)); rfl; rfl; rintro e w2 ⟨rfl, hu2⟩)
      | (go_at_call 11; refine (lessV (l := [eA, eB]) (k := [eB, eA]) (v := true) ?_ ?_ (by decide) ?_ ?_ vL2).mono ?_; (with_reducible exact litAB _); (first | ((with_reducible exact Liv.wx ‹_›)) | ((with_reducible refine Liv.wx ?_); go_split_ands; assumption)); rfl; rfl; rintro e w2 ⟨rfl, hu2⟩)
      | (go_at_call 11; refine (lessV (l := [eB, eA]) (k := [eB, eA]) (v := false) ?_ ?_ (by decide) ?_ ?_ vL3).mono ?_; (first | ((with_reducible exact Liv.wx ‹_›)) | ((with_reducible refine Liv.wx ?_); go_split_ands; assumption)); (first | ((with_reducible exact Liv.wx ‹_›)) | ((with_reducible refine Liv.wx ?_); go_split_ands; assumption)); rfl; rfl; rintro e w2 ⟨rfl, hu2⟩))
  try (go_wp2_with fail)
  refine hK.out _ _ ?_ (fun hHeld => ?_)
  · (first | (with_reducible exact Liv.all (Liv.upd (by go_split_ands; assumption) hu2)) | (with_reducible exact Liv.all (Liv.upd (by go_split_ands; assumption) (upd_alloc _ _))))
  clear hK K
  try simp only [Act.put]
  try simp only [List.setIfInBounds_toArray]
  try simp only [List.set_cons_succ]
  try simp only [List.set_cons_zero]
  refine wpAnyH_take (i := 4) (v := ?_) rfl (by kernel_rfl) (by kernel_rfl) (by kernel_rfl) (fun c a w h => hq c a _ _ w h) (Or.inl ⟨by rfl, ?_⟩) (by assumption) ?_
  rotate_left
  · (intro W hSw; (try dsimp only at hSw); go_simp; try (with_reducible rfl))
  try simp only [Act.put]
  try simp only [List.setIfInBounds_toArray]
  try simp only [List.set_cons_succ]
  try simp only [List.set_cons_zero]
  refine wpAnyH_take (i := 5) (v := ?_) rfl (by kernel_rfl) (by kernel_rfl) (by kernel_rfl) (fun c a w h => hq c a _ _ w h) (Or.inl ⟨by rfl, ?_⟩) (by assumption) ?_
  rotate_left
  · (intro W hSw; (try dsimp only at hSw); go_simp; try (with_reducible rfl))
  try simp only [Act.put]
  try simp only [List.setIfInBounds_toArray]
  try simp only [List.set_cons_succ]
  try simp only [List.set_cons_zero]
  refine wpAnyH_done (by kernel_rfl) (hdone.out _ _ ?_) _
  clear hdone hq QQ
  refine peelQ 7 (by kernel_rfl) (by kernel_rfl) 14 rfl (fun _ _ _ _ _ h => h) (fun QQ hq hdone => ?_)
  simp only [partOps_lit, partL, shiftO_mk, shiftA, shiftG]
  refine wpAny_of_held (S := (fun W => Liv w W ∧ W.cell? ⟨w.heap.size, 0, none⟩ = some (.int .i64 1) ∧ W.cell? ⟨w.heap.size, 1, none⟩ = some (.int .i64 2) ∧ W.cell? ⟨w.heap.size, 2, none⟩ = some (.int .i64 1) ∧ W.cell? ⟨w.heap.size, 3, none⟩ = some (.int .i64 5) ∧ W.cell? ⟨w.heap.size + 1, 0, none⟩ = some (.int .i64 2) ∧ W.cell? ⟨w.heap.size + 1, 1, none⟩ = some (.int .i64 1) ∧ W.cell? ⟨w.heap.size + 1, 2, none⟩ = some (.int .i64 3) ∧ W.cell? ⟨w.heap.size + 1, 3, none⟩ = some (.int .i64 4))) _ _ _ _ ?_
  refine wpAnyH_take (i := 0) (v := ?_) rfl (by kernel_rfl) (by kernel_rfl) (by kernel_rfl) (fun c a w h => hq c a _ _ w h) (Or.inl ⟨by rfl, ?_⟩) (by assumption) ?_
  rotate_left
  · (intro W hSw; (try dsimp only at hSw); go_simp; try (with_reducible rfl))
  try simp only [Act.put]
  try simp only [List.setIfInBounds_toArray]
  try simp only [List.set_cons_succ]
  try simp only [List.set_cons_zero]
  refine wpAnyH_take (i := 1) (v := ?_) rfl (by kernel_rfl) (by kernel_rfl) (by kernel_rfl) (fun c a w h => hq c a _ _ w h) (Or.inl ⟨by rfl, ?_⟩) (by assumption) ?_
  rotate_left
  · (intro W hSw; (try dsimp only at hSw); go_simp; try (with_reducible rfl))
  try simp only [Act.put]
  try simp only [List.setIfInBounds_toArray]
  try simp only [List.set_cons_succ]
  try simp only [List.set_cons_zero]
  refine wpAnyH_take (i := 3) (v := ?_) rfl (by kernel_rfl) (by kernel_rfl) (by kernel_rfl) (fun c a w h => hq c a _ _ w h) (Or.inl ⟨by rfl, ?_⟩) (by assumption) ?_
  rotate_left
  · (intro W hSw; (try dsimp only at hSw); go_simp; try (with_reducible rfl))
  try simp only [Act.put]
  try simp only [List.setIfInBounds_toArray]
  try simp only [List.set_cons_succ]
  try simp only [List.set_cons_zero]
  refine wpAnyH_ready (rs := [2]) (by kernel_rfl) (by simp) ?_
  refine AllReadyH.cons rfl (fun K hK => ?_) AllReadyH.nil
  go_simp
  refine hK.out _ _ ?_ (fun hHeld => ?_)
  · (first | (with_reducible exact Liv.all (Liv.upd (by go_split_ands; assumption) hu2)) | (with_reducible exact Liv.all (Liv.upd (by go_split_ands; assumption) (upd_alloc _ _))))
  clear hK K
  try simp only [Act.put]
  try simp only [List.setIfInBounds_toArray]
  try simp only [List.set_cons_succ]
  try simp only [List.set_cons_zero]
  refine wpAnyH_ready (rs := [4]) (by kernel_rfl) (by simp) ?_
  refine AllReadyH.cons rfl (fun K hK => ?_) AllReadyH.nil
  go_simp
  (first
      | (go_at_call 11; refine (lessV (l := [eB]) (k := [eB, eA]) (v := true) ?_ ?_ (by decide) ?_ ?_ vL1).mono ?_; (with_reducible exact litB _); (first | ((with_reducible exact Liv.wx ‹_›)) | ((with_reducible refine Liv.wx ?_); go_split_ands; assumption)); rfl; rfl; rintro e w2 ⟨rfl, hu2⟩)
      | (go_at_call 11; refine (lessV (l := [eA, eB]) (k := [eB, eA]) (v := true) ?_ ?_ (by decide) ?_ ?_ vL2).mono ?_; (with_reducible exact litAB _); (first | ((with_reducible exact Liv.wx ‹_›)) | ((with_reducible refine Liv.wx ?_); go_split_ands; assumption)); rfl; rfl; rintro e w2 ⟨rfl, hu2⟩)
      | (go_at_call 11; refine (lessV (l := [eB, eA]) (k := [eB, eA]) (v := false) ?_ ?_ (by decide) ?_ ?_ vL3).mono ?_; (first | ((with_reducible exact Liv.wx ‹_›)) | ((with_reducible refine Liv.wx ?_); go_split_ands; assumption)); (first | ((with_reducible exact Liv.wx ‹_›)) | ((with_reducible refine Liv.wx ?_); go_split_ands; assumption)); rfl; rfl; rintro e w2 ⟨rfl, hu2⟩))
  try (go_wp2_with fail)
  refine hK.out _ _ ?_ (fun hHeld => ?_)
  · (first | (with_reducible exact Liv.all (Liv.upd (by go_split_ands; assumption) hu2)) | (with_reducible exact Liv.all (Liv.upd (by go_split_ands; assumption) (upd_alloc _ _))))
  clear hK K
  try simp only [Act.put]
  try simp only [List.setIfInBounds_toArray]
  try simp only [List.set_cons_succ]
  try simp only [List.set_cons_zero]
  refine wpAnyH_take (i := 5) (v := ?_) rfl (by kernel_rfl) (by kernel_rfl) (by kernel_rfl) (fun c a w h => hq c a _ _ w h) (Or.inl ⟨by rfl, ?_⟩) (by assumption) ?_
  rotate_left
  · (intro W hSw; (try dsimp only at hSw); go_simp; try (with_reducible rfl))
  try simp only [Act.put]
  try simp only [List.setIfInBounds_toArray]
  try simp only [List.set_cons_succ]
  try simp only [List.set_cons_zero]
  refine wpAnyH_take (i := 6) (v := ?_) rfl (by kernel_rfl) (by kernel_rfl) (by kernel_rfl) (fun c a w h => hq c a _ _ w h) (Or.inl ⟨by rfl, ?_⟩) (by assumption) ?_
  rotate_left
  · (intro W hSw; (try dsimp only at hSw); go_simp; try (with_reducible rfl))
  try simp only [Act.put]
  try simp only [List.setIfInBounds_toArray]
  try simp only [List.set_cons_succ]
  try simp only [List.set_cons_zero]
  refine wpAnyH_done (by kernel_rfl) (hdone.out _ _ ?_) _
  clear hdone hq QQ
  refine peelQ 6 (by kernel_rfl) (by kernel_rfl) 8 rfl (fun _ _ _ _ _ h => h) (fun QQ hq hdone => ?_)
  simp only [partOps_lit, partL, shiftO_mk, shiftA, shiftG]
  refine wpAny_of_held (S := (fun W => Liv w W ∧ W.cell? ⟨w.heap.size, 0, none⟩ = some (.int .i64 1) ∧ W.cell? ⟨w.heap.size, 1, none⟩ = some (.int .i64 2) ∧ W.cell? ⟨w.heap.size, 2, none⟩ = some (.int .i64 1) ∧ W.cell? ⟨w.heap.size, 3, none⟩ = some (.int .i64 5) ∧ W.cell? ⟨w.heap.size + 1, 0, none⟩ = some (.int .i64 2) ∧ W.cell? ⟨w.heap.size + 1, 1, none⟩ = some (.int .i64 1) ∧ W.cell? ⟨w.heap.size + 1, 2, none⟩ = some (.int .i64 3) ∧ W.cell? ⟨w.heap.size + 1, 3, none⟩ = some (.int .i64 4))) _ _ _ _ ?_
  refine wpAnyH_take (i := 0) (v := ?_) rfl (by kernel_rfl) (by kernel_rfl) (by kernel_rfl) (fun c a w h => hq c a _ _ w h) (Or.inl ⟨by rfl, ?_⟩) (by assumption) ?_
  rotate_left
  · (intro W hSw; (try dsimp only at hSw); go_simp; try (with_reducible rfl))
  try simp only [Act.put]
  try simp only [List.setIfInBounds_toArray]
  try simp only [List.set_cons_succ]
  try simp only [List.set_cons_zero]
  refine wpAnyH_take (i := 1) (v := ?_) rfl (by kernel_rfl) (by kernel_rfl) (by kernel_rfl) (fun c a w h => hq c a _ _ w h) (Or.inl ⟨by rfl, ?_⟩) (by assumption) ?_
  rotate_left
  · (intro W hSw; (try dsimp only at hSw); go_simp; try (with_reducible rfl))
  try simp only [Act.put]
  try simp only [List.setIfInBounds_toArray]
  try simp only [List.set_cons_succ]
  try simp only [List.set_cons_zero]
  refine wpAnyH_ready (rs := [2]) (by kernel_rfl) (by simp) ?_
  refine AllReadyH.cons rfl (fun K hK => ?_) AllReadyH.nil
  go_simp
  (first
      | (go_at_call 11; refine (lessV (l := [eB]) (k := [eB, eA]) (v := true) ?_ ?_ (by decide) ?_ ?_ vL1).mono ?_; (with_reducible exact litB _); (first | ((with_reducible exact Liv.wx ‹_›)) | ((with_reducible refine Liv.wx ?_); go_split_ands; assumption)); rfl; rfl; rintro e w2 ⟨rfl, hu2⟩)
      | (go_at_call 11; refine (lessV (l := [eA, eB]) (k := [eB, eA]) (v := true) ?_ ?_ (by decide) ?_ ?_ vL2).mono ?_; (with_reducible exact litAB _); (first | ((with_reducible exact Liv.wx ‹_›)) | ((with_reducible refine Liv.wx ?_); go_split_ands; assumption)); rfl; rfl; rintro e w2 ⟨rfl, hu2⟩)
      | (go_at_call 11; refine (lessV (l := [eB, eA]) (k := [eB, eA]) (v := false) ?_ ?_ (by decide) ?_ ?_ vL3).mono ?_; (first | ((with_reducible exact Liv.wx ‹_›)) | ((with_reducible refine Liv.wx ?_); go_split_ands; assumption)); (first | ((with_reducible exact Liv.wx ‹_›)) | ((with_reducible refine Liv.wx ?_); go_split_ands; assumption)); rfl; rfl; rintro e w2 ⟨rfl, hu2⟩))
  try (go_wp2_with fail)
  refine hK.out _ _ ?_ (fun hHeld => ?_)
  · (first | (with_reducible exact Liv.all (Liv.upd (by go_split_ands; assumption) hu2)) | (with_reducible exact Liv.all (Liv.upd (by go_split_ands; assumption) (upd_alloc _ _))))
  clear hK K
  try simp only [Act.put]
  try simp only [List.setIfInBounds_toArray]
  try simp only [List.set_cons_succ]
  try simp only [List.set_cons_zero]
  refine wpAnyH_take (i := 3) (v := ?_) rfl (by kernel_rfl) (by kernel_rfl) (by kernel_rfl) (fun c a w h => hq c a _ _ w h) (Or.inl ⟨by rfl, ?_⟩) (by assumption) ?_
  rotate_left
  · (intro W hSw; (try dsimp only at hSw); go_simp; try (with_reducible rfl))
  try simp only [Act.put]
  try simp only [List.setIfInBounds_toArray]
  try simp only [List.set_cons_succ]
  try simp only [List.set_cons_zero]
  refine wpAnyH_take (i := 4) (v := ?_) rfl (by kernel_rfl) (by kernel_rfl) (by kernel_rfl) (fun c a w h => hq c a _ _ w h) (Or.inl ⟨by rfl, ?_⟩) (by assumption) ?_
  rotate_left
  · (intro W hSw; (try dsimp only at hSw); go_simp; try (with_reducible rfl))
  try simp only [Act.put]
  try simp only [List.setIfInBounds_toArray]
  try simp only [List.set_cons_succ]
  try simp only [List.set_cons_zero]
  refine wpAnyH_take (i := 5) (v := ?_) rfl (by kernel_rfl) (by kernel_rfl) (by kernel_rfl) (fun c a w h => hq c a _ _ w h) (Or.inl ⟨by rfl, ?_⟩) (by assumption) ?_
  rotate_left
  · (intro W hSw; (try dsimp only at hSw); go_simp; try (with_reducible rfl))
  try simp only [Act.put]
  try simp only [List.setIfInBounds_toArray]
  try simp only [List.set_cons_succ]
  try simp only [List.set_cons_zero]
  refine wpAnyH_done (by kernel_rfl) (hdone.out _ _ ?_) _
  clear hdone hq QQ
  refine peelQ 8 (by kernel_rfl) (by kernel_rfl) 0 rfl (fun _ _ _ _ _ h => h) (fun QQ hq hdone => ?_)
  simp only [partOps_lit, partL, shiftO_mk, shiftA, shiftG]
  refine wpAny_of_held (S := (fun W => Liv w W ∧ W.cell? ⟨w.heap.size, 0, none⟩ = some (.int .i64 1) ∧ W.cell? ⟨w.heap.size, 1, none⟩ = some (.int .i64 2) ∧ W.cell? ⟨w.heap.size, 2, none⟩ = some (.int .i64 1) ∧ W.cell? ⟨w.heap.size, 3, none⟩ = some (.int .i64 5) ∧ W.cell? ⟨w.heap.size + 1, 0, none⟩ = some (.int .i64 2) ∧ W.cell? ⟨w.heap.size + 1, 1, none⟩ = some (.int .i64 1) ∧ W.cell? ⟨w.heap.size + 1, 2, none⟩ = some (.int .i64 3) ∧ W.cell? ⟨w.heap.size + 1, 3, none⟩ = some (.int .i64 4))) _ _ _ _ ?_
  refine wpAnyH_take (i := 0) (v := ?_) rfl (by kernel_rfl) (by kernel_rfl) (by kernel_rfl) (fun c a w h => hq c a _ _ w h) (Or.inl ⟨by rfl, ?_⟩) (by assumption) ?_
  rotate_left
  · (intro W hSw; (try dsimp only at hSw); go_simp; try (with_reducible rfl))
  try simp only [Act.put]
  try simp only [List.setIfInBounds_toArray]
  try simp only [List.set_cons_succ]
  try simp only [List.set_cons_zero]
  refine wpAnyH_take (i := 1) (v := ?_) rfl (by kernel_rfl) (by kernel_rfl) (by kernel_rfl) (fun c a w h => hq c a _ _ w h) (Or.inl ⟨by rfl, ?_⟩) (by assumption) ?_
  rotate_left
  · (intro W hSw; (try dsimp only at hSw); go_simp; try (with_reducible rfl))
  try simp only [Act.put]
  try simp only [List.setIfInBounds_toArray]
  try simp only [List.set_cons_succ]
  try simp only [List.set_cons_zero]
  refine wpAnyH_take (i := 2) (v := ?_) rfl (by kernel_rfl) (by kernel_rfl) (by kernel_rfl) (fun c a w h => hq c a _ _ w h) (Or.inl ⟨by rfl, ?_⟩) (by assumption) ?_
  rotate_left
  · (intro W hSw; (try dsimp only at hSw); go_simp; try (with_reducible rfl))
  try simp only [Act.put]
  try simp only [List.setIfInBounds_toArray]
  try simp only [List.set_cons_succ]
  try simp only [List.set_cons_zero]
  refine wpAnyH_ready (rs := [3]) (by kernel_rfl) (by simp) ?_
  refine AllReadyH.cons rfl (fun K hK => ?_) AllReadyH.nil
  go_simp
  refine hK.out _ _ ?_ (fun hHeld => ?_)
  · (first | (with_reducible exact Liv.all (Liv.upd (by go_split_ands; assumption) hu2)) | (with_reducible exact Liv.all (Liv.upd (by go_split_ands; assumption) (upd_alloc _ _))))
  clear hK K
  try simp only [Act.put]
  try simp only [List.setIfInBounds_toArray]
  try simp only [List.set_cons_succ]
  try simp only [List.set_cons_zero]
  refine wpAnyH_ready (rs := [4]) (by kernel_rfl) (by simp) ?_
  refine AllReadyH.cons rfl (fun K hK => ?_) AllReadyH.nil
  go_simp
  (first
      | (go_at_call 9; refine (sameV (l := [eA, eB]) (k := [eA, eB]) (v := true) ?_ ?_ (by decide) (by decide) ?_ ?_ vE1).mono ?_; (first | (with_reducible exact hw5) | (with_reducible exact hw5.upd (upd_alloc _ _))); (first | (with_reducible exact litAB _) | (with_reducible exact hx5)); rfl; rfl; rintro e w2 ⟨rfl, hu2⟩)
      | (go_at_call 9; refine (sameV (l := [eB, eA]) (k := [eA, eB]) (v := false) ?_ ?_ (by decide) (by decide) ?_ ?_ vE2).mono ?_; (first | ((with_reducible exact Liv.wx ‹_›)) | ((with_reducible refine Liv.wx ?_); go_split_ands; assumption)); (with_reducible exact litAB _); rfl; rfl; rintro e w2 ⟨rfl, hu2⟩))
  try (go_wp2_with fail)
  refine hK.out _ _ ?_ (fun hHeld => ?_)
  · (first | (with_reducible exact Liv.all (Liv.upd (by go_split_ands; assumption) hu2)) | (with_reducible exact Liv.all (Liv.upd (by go_split_ands; assumption) (upd_alloc _ _))))
  clear hK K
  try simp only [Act.put]
  try simp only [List.setIfInBounds_toArray]
  try simp only [List.set_cons_succ]
  try simp only [List.set_cons_zero]
  refine wpAnyH_take (i := 5) (v := ?_) rfl (by kernel_rfl) (by kernel_rfl) (by kernel_rfl) (fun c a w h => hq c a _ _ w h) (Or.inl ⟨by rfl, ?_⟩) (by assumption) ?_
  rotate_left
  · (intro W hSw; (try dsimp only at hSw); go_simp; try (with_reducible rfl))
  try simp only [Act.put]
  try simp only [List.setIfInBounds_toArray]
  try simp only [List.set_cons_succ]
  try simp only [List.set_cons_zero]
  refine wpAnyH_take (i := 6) (v := ?_) rfl (by kernel_rfl) (by kernel_rfl) (by kernel_rfl) (fun c a w h => hq c a _ _ w h) (Or.inl ⟨by rfl, ?_⟩) (by assumption) ?_
  rotate_left
  · (intro W hSw; (try dsimp only at hSw); go_simp; try (with_reducible rfl))
  try simp only [Act.put]
  try simp only [List.setIfInBounds_toArray]
  try simp only [List.set_cons_succ]
  try simp only [List.set_cons_zero]
  refine wpAnyH_take (i := 7) (v := ?_) rfl (by kernel_rfl) (by kernel_rfl) (by kernel_rfl) (fun c a w h => hq c a _ _ w h) (Or.inl ⟨by rfl, ?_⟩) (by assumption) ?_
  rotate_left
  · (intro W hSw; (try dsimp only at hSw); go_simp; try (with_reducible rfl))
  try simp only [Act.put]
  try simp only [List.setIfInBounds_toArray]
  try simp only [List.set_cons_succ]
  try simp only [List.set_cons_zero]
  refine wpAnyH_done (by kernel_rfl) (hdone.out _ _ ?_) _
  clear hdone hq QQ
  refine peel_end (NoPanic.normal ?_)
  try go_wp2
  go_ret
  exact ⟨rfl, hHeld.1.1⟩
end Go.Proofs.Ytebjeapnglmokaa
