/- Orders: the heap in memory, and what its methods do. -/
import Derived.Test.YtaicemjckagcaaaMaz
import Derived.Test.YtaicemjckagcaaaMbo
namespace Go.Proofs.Ytaicemjckagcaaa
set_option linter.unusedVariables false
open Go.RowKit
/-! what an interface's method is -/
theorem load_rdy (a : Addr) (w : World) (A : Option Addr) (n c : Nat) (h : w.cell? a = some (.slice A n c)) : (loadVar 95 a).run Try.prog w = .ok (.slice A n c) w := by
  simp [loadVar, Try.sizeOf95, h, go_sem]
theorem m_push (a : Option Addr) (w : World) : (method 412 97 (.pointer a) "Push").run Try.prog w = .ok (268, .pointer a) w := by kernel_rfl
theorem m_pop (a : Option Addr) (w : World) : (method 412 97 (.pointer a) "Pop").run Try.prog w = .ok (267, .pointer a) w := by kernel_rfl
theorem m_gen (f : Nat) (name : String) (hf : (((Try.prog.info? 97).getD default).methods.find? (·.name == name)).map (fun m => (m.path.isEmpty, m.func)) = some (true, some (f, false)))
    (hp : (((Try.prog.info? 97).getD default).methods.find? (·.name == name)).map (fun m => m.path.toList.length) = some 0)
    (a : Addr) (A : Option Addr) (n c : Nat) (w : World) (h : w.cell? a = some (.slice A n c)) : (method 412 97 (.pointer (some a)) name).run Try.prog w = .ok (f, .slice A n c) w := by
  have hi : (typeInfo 97).run Try.prog w = .ok ((Try.prog.info? 97).getD default) w := by kernel_rfl
  have hu : ∀ w, (underlying 97).run Try.prog w = .ok (TypeDesc.pointer 95) w := fun w => by kernel_rfl
  have hw : ∀ (s : String) w, (Builtin.ssaWrapNilChk_ #[97] 97 #[.pointer (some a), strVal "", strVal s]).run Try.prog w = .ok (.pointer (some a)) w := fun s w => rfl
  cases hm : ((Try.prog.info? 97).getD default).methods.find? (·.name == name) with
  | none => rw [hm] at hf; cases hf
  | some m =>
    rw [hm] at hf hp
    have hpp : m.path.toList = [] := List.eq_nil_of_length_eq_zero (by simpa using hp)
    simp only [Option.map_some, Option.some.injEq, Prod.mk.injEq] at hf
    unfold method
    simp only [Sem.run_bind, hi, Result.andThen_ok, hm, hpp, hf.1, hf.2]
    simp [follow, receiverAt, hu, Place.get, hw, asAddr, load_rdy a w A n c h]
theorem m_len (a : Addr) (A : Option Addr) (n c : Nat) (w : World) (h : w.cell? a = some (.slice A n c)) : (method 412 97 (.pointer (some a)) "Len").run Try.prog w = .ok (57, .slice A n c) w := m_gen 57 "Len" (by kernel_rfl) (by kernel_rfl) a A n c w h
theorem m_less (a : Addr) (A : Option Addr) (n c : Nat) (w : World) (h : w.cell? a = some (.slice A n c)) : (method 412 97 (.pointer (some a)) "Less").run Try.prog w = .ok (265, .slice A n c) w := m_gen 265 "Less" (by kernel_rfl) (by kernel_rfl) a A n c w h
theorem m_swap (a : Addr) (A : Option Addr) (n c : Nat) (w : World) (h : w.cell? a = some (.slice A n c)) : (method 412 97 (.pointer (some a)) "Swap").run Try.prog w = .ok (266, .slice A n c) w := m_gen 266 "Swap" (by kernel_rfl) (by kernel_rfl) a A n c w h
theorem slt_ready : SlT Try.prog 95 3 1 8 := SlT.mk_ Try.underlying95 (z := .int .i64 0) (by kernel_rfl) rfl (by omega)
/-! the methods themselves -/
set_option maxRecDepth 100000 in
theorem rdlen (w : World) (A : Option Addr) (n c : Nat) : Calls Try.prog 57 #[.slice A n c] w fun e w' => e = .returned (.int .i64 (n : Int)) ∧ w = w' := by
  go_enter Try.func57, Try.ntmps57
  go_wp2
  go_ret
  exact ⟨rfl, rfl⟩
set_option maxRecDepth 100000 in
theorem rdless (F : Nat → Prop) (w : World) (A : Option Addr) (c : Nat) (xs : List Int) (i j : Nat) (h : Ints F w A xs) (hi : i < xs.length) (hj : j < xs.length) (hl : xs.length ≤ 1000000) :
    Calls Try.prog 265 #[.slice A xs.length c, .int .i64 (i : Int), .int .i64 (j : Int)] w fun e w' => e = .returned (.bool (decide (xs[i] < xs[j]))) ∧ Upd No w w' := by
  obtain ⟨ad, rfl, _, _, c0⟩ := h.at_ hi
  obtain ⟨ad', e', _, _, c1⟩ := h.at_ hj
  cases e'
  have i1 : (0 : Int) ≤ (i : Int) := Int.natCast_nonneg _
  have i2 : (i : Int) < (xs.length : Int) := by omega
  have j1 : (0 : Int) ≤ (j : Int) := Int.natCast_nonneg _
  have j2 : (j : Int) < (xs.length : Int) := by omega
  obtain ⟨x, hx⟩ : ∃ x, xs[i] = x := ⟨_, rfl⟩
  obtain ⟨y, hy⟩ : ∃ y, xs[j] = y := ⟨_, rfl⟩
  rw [hx] at c0 ⊢
  rw [hy] at c1 ⊢
  clear hx hy h
  go_enter Try.func265, Try.ntmps265
  go_wp2
  go_quiet (fail)
  go_wp2
  go_ret
  exact ⟨rfl, (Upd.refl _ _).drewN _⟩
/-- two places changed -/
def swapL (xs : List Int) (i j : Nat) : List Int := (xs.set i (xs.getD j 0)).set j (xs.getD i 0)
theorem swapL_len (xs : List Int) (i j : Nat) : (swapL xs i j).length = xs.length := by unfold swapL; rw [List.length_set, List.length_set]
theorem swap_row {cur : List Value} {xs : List Int} {i j : Nat} {x y : Int} (h : cur.take xs.length = xs.map (Value.int .i64)) : ((cur.set i (.int .i64 y)).set j (.int .i64 x)).take (xs.length * 1) = ((xs.set i y).set j x).map (Value.int .i64) := by
  rw [Nat.mul_one, List.take_set, List.take_set, h, List.map_set, List.map_set]
set_option maxRecDepth 100000 in
set_option maxHeartbeats 2000000 in
theorem rdswap (w : World) (base : Nat) (A : Option Addr) (c : Nat) (xs : List Int) (i j : Nat) (h : w.ownsRow base 3 1 (.slice A xs.length c) xs.length (xs.map (Value.int .i64))) (hi : i < xs.length) (hj : j < xs.length) (hl : xs.length ≤ 1000000) :
    Calls Try.prog 266 #[.slice A xs.length c, .int .i64 (i : Int), .int .i64 (j : Int)] w fun e w' => e = .returned (.tuple #[]) ∧ w'.ownsRow base 3 1 (.slice A xs.length c) xs.length ((swapL xs i j).map (Value.int .i64)) ∧ Upd (Own (.slice A xs.length c)) w w' := by
  obtain ⟨g, cur, rfl, hgb, hB, hnc, hcl, hct, hcm⟩ := own_blk h (by omega)
  have i1 : (0 : Int) ≤ (i : Int) := Int.natCast_nonneg _
  have i2 : (i : Int) < (xs.length : Int) := by omega
  have j1 : (0 : Int) ≤ (j : Int) := Int.natCast_nonneg _
  have j2 : (j : Int) < (xs.length : Int) := by omega
  have hcur : ∀ k, k < xs.length → cur[k]? = some (.int .i64 (xs.getD k 0)) := fun k hk => by
    have h1 : (cur.take (xs.length * 1))[k]? = some (.int .i64 (xs.getD k 0)) := by
      rw [hct, List.getElem?_map, List.getElem?_eq_getElem hk, List.getD_eq_getElem?_getD, List.getElem?_eq_getElem hk]
      rfl
    rw [List.getElem?_take] at h1
    split at h1
    · exact h1
    · cases h1
  have c0 : w.cell? ⟨g, i, none⟩ = some (.int .i64 (xs.getD i 0)) := by rw [hB.cell]; exact hcur i hi
  have c1 : w.cell? ⟨g, j, none⟩ = some (.int .i64 (xs.getD j 0)) := by rw [hB.cell]; exact hcur j hj
  have HB := Lib.hid hB
  have HC := Lib.hid hcl
  have HT := Lib.hid hct
  have HM := Lib.hid hcm
  generalize hxi : xs.getD i 0 = x at c0
  generalize hyj : xs.getD j 0 = y at c1
  have HX := Lib.hid hxi
  have HY := Lib.hid hyj
  clear hcur hB hcl hct hcm h hxi hyj
  go_enter Try.func266, Try.ntmps266
  go_wp2
  refine wp_region_noPanic ?_
  refine wp_region_held_drew (S := (fun w' => Upd (One g) w w')) (by kernel_rfl) ?_ (fun hHeld => ?_)
  · (first | exact (Upd.refl _ _).drew | exact hHeld | exact hHeld.trans hq)
  refine wpT 0 ⟨some 6, .move (.tmp 0), 95, "topo.go:16", #[], none⟩ ?_ (.inl ⟨by rfl, ?_⟩) ?_
  rotate_left
  · (intro W hSw; (try dsimp only at hSw); go_simp; try (with_reducible rfl))
  try simp only [Act.put]
  try simp only [List.setIfInBounds_toArray]
  try simp only [List.set_cons_succ]
  try simp only [List.set_cons_zero]
  refine wpT 1 ⟨some 7, .move (.tmp 1), 3, "topo.go:16", #[], none⟩ ?_ (.inl ⟨by rfl, ?_⟩) ?_
  rotate_left
  · (intro W hSw; (try dsimp only at hSw); go_simp; try (with_reducible rfl))
  try simp only [Act.put]
  try simp only [List.setIfInBounds_toArray]
  try simp only [List.set_cons_succ]
  try simp only [List.set_cons_zero]
  refine wpT 2 ⟨some 8, .move (.tmp 0), 95, "topo.go:16", #[{ on := 13, ground := Go.Ground.gcOnly Go.Departure.lateStores }], none⟩ ?_ (.inl ⟨by rfl, ?_⟩) ?_
  rotate_left
  · (intro W hSw; (try dsimp only at hSw); go_simp; try (with_reducible rfl))
  try simp only [Act.put]
  try simp only [List.setIfInBounds_toArray]
  try simp only [List.set_cons_succ]
  try simp only [List.set_cons_zero]
  refine wpT 3 ⟨some 9, .move (.tmp 2), 3, "topo.go:16", #[{ on := 13, ground := Go.Ground.gcOnly Go.Departure.lateStores }], none⟩ ?_ (.inl ⟨by rfl, ?_⟩) ?_
  rotate_left
  · (intro W hSw; (try dsimp only at hSw); go_simp; try (with_reducible rfl))
  try simp only [Act.put]
  try simp only [List.setIfInBounds_toArray]
  try simp only [List.set_cons_succ]
  try simp only [List.set_cons_zero]
  refine wpT 4 ⟨some 10, .move (.tmp 0), 95, "topo.go:16", #[], none⟩ ?_ (.inl ⟨by rfl, ?_⟩) ?_
  rotate_left
  · (intro W hSw; (try dsimp only at hSw); go_simp; try (with_reducible rfl))
  try simp only [Act.put]
  try simp only [List.setIfInBounds_toArray]
  try simp only [List.set_cons_succ]
  try simp only [List.set_cons_zero]
  refine wpT 5 ⟨some 11, .move (.tmp 2), 3, "topo.go:16", #[], none⟩ ?_ (.inl ⟨by rfl, ?_⟩) ?_
  rotate_left
  · (intro W hSw; (try dsimp only at hSw); go_simp; try (with_reducible rfl))
  try simp only [Act.put]
  try simp only [List.setIfInBounds_toArray]
  try simp only [List.set_cons_succ]
  try simp only [List.set_cons_zero]
  refine wpT 6 ⟨some 12, .indexAddr 95 (.tmp 10) (.tmp 11), 0, "topo.go:16", #[⟨4, .data⟩, ⟨5, .data⟩], none⟩ ?_ (.inl ⟨by rfl, ?_⟩) ?_
  rotate_left
  · (intro W hSw; (try dsimp only at hSw); go_simp; try (with_reducible rfl))
  try simp only [Act.put]
  try simp only [List.setIfInBounds_toArray]
  try simp only [List.set_cons_succ]
  try simp only [List.set_cons_zero]
  refine wpT 8 ⟨some 14, .move (.tmp 0), 95, "topo.go:16", #[], none⟩ ?_ (.inl ⟨by rfl, ?_⟩) ?_
  rotate_left
  · (intro W hSw; (try dsimp only at hSw); go_simp; try (with_reducible rfl))
  try simp only [Act.put]
  try simp only [List.setIfInBounds_toArray]
  try simp only [List.set_cons_succ]
  try simp only [List.set_cons_zero]
  refine wpT 9 ⟨some 15, .move (.tmp 1), 3, "topo.go:16", #[], none⟩ ?_ (.inl ⟨by rfl, ?_⟩) ?_
  rotate_left
  · (intro W hSw; (try dsimp only at hSw); go_simp; try (with_reducible rfl))
  try simp only [Act.put]
  try simp only [List.setIfInBounds_toArray]
  try simp only [List.set_cons_succ]
  try simp only [List.set_cons_zero]
  refine wpT 10 ⟨some 16, .indexAddr 95 (.tmp 14) (.tmp 15), 0, "topo.go:16", #[⟨8, .data⟩, ⟨9, .data⟩], none⟩ ?_ (.inl ⟨by rfl, ?_⟩) ?_
  rotate_left
  · (intro W hSw; (try dsimp only at hSw); go_simp; try (with_reducible rfl))
  try simp only [Act.put]
  try simp only [List.setIfInBounds_toArray]
  try simp only [List.set_cons_succ]
  try simp only [List.set_cons_zero]
  refine wpAnyH_ready (rs := [7, 11]) (by kernel_rfl) (by simp) ?_
  refine AllReadyH.cons (o := ⟨some 13, .load 3 (.tmp 12), 3, "topo.go:16", #[⟨6, .data⟩], none⟩) rfl (fun K hK => ?_) ?_
  · go_simp
    refine hK.out _ _ ?_ (fun hHeld => ?_)
    · (first | exact (Upd.refl _ _).drew | exact hHeld | exact hHeld.trans hq)
    clear hK K
    try simp only [Act.put]
    try simp only [List.setIfInBounds_toArray]
    try simp only [List.set_cons_succ]
    try simp only [List.set_cons_zero]
    refine wpAnyH_ready (rs := [11]) (by kernel_rfl) (by simp) ?_
    refine AllReadyH.cons (o := ⟨some 17, .load 3 (.tmp 16), 3, "topo.go:16", #[⟨10, .data⟩], none⟩) rfl (fun K hK => ?_) AllReadyH.nil
    go_simp
    refine hK.out _ _ ?_ (fun hHeld => ?_)
    · (first | exact (Upd.refl _ _).drew | exact hHeld | exact hHeld.trans hq)
    clear hK K
    try simp only [Act.put]
    try simp only [List.setIfInBounds_toArray]
    try simp only [List.set_cons_succ]
    try simp only [List.set_cons_zero]
    refine wpT 12 ⟨some 18, .indexAddr 95 (.tmp 6) (.tmp 7), 0, "topo.go:16", #[⟨0, .data⟩, ⟨1, .data⟩, ⟨0, .phase⟩, ⟨1, .phase⟩, { on := 2, ground := Go.Ground.textOnly Go.Departure.lateStores }, { on := 3, ground := Go.Ground.textOnly Go.Departure.lateStores }, ⟨4, .phase⟩, ⟨5, .phase⟩, ⟨6, .phase⟩, ⟨7, .phase⟩, { on := 8, ground := Go.Ground.textOnly Go.Departure.lateStores }, { on := 9, ground := Go.Ground.textOnly Go.Departure.lateStores }, { on := 10, ground := Go.Ground.textOnly Go.Departure.lateStoresUnsure }, ⟨11, .phase⟩], none⟩ ?_ (.inl ⟨by rfl, ?_⟩) ?_
    rotate_left
    · (intro W hSw; (try dsimp only at hSw); go_simp; try (with_reducible rfl))
    try simp only [Act.put]
    try simp only [List.setIfInBounds_toArray]
    try simp only [List.set_cons_succ]
    try simp only [List.set_cons_zero]
    refine wpAnyH_ready (rs := [13]) (by kernel_rfl) (by simp) ?_
    refine AllReadyH.cons (o := ⟨none, .store 3 (.tmp 18) (.tmp 13), 0, "topo.go:16", #[⟨12, .data⟩, ⟨7, .data⟩, ⟨0, .phase⟩, ⟨1, .phase⟩, { on := 2, ground := Go.Ground.textOnly Go.Departure.lateStores }, { on := 3, ground := Go.Ground.textOnly Go.Departure.lateStores }, ⟨4, .phase⟩, ⟨5, .phase⟩, ⟨6, .phase⟩, ⟨7, .phase⟩, { on := 8, ground := Go.Ground.textOnly Go.Departure.lateStores }, { on := 9, ground := Go.Ground.textOnly Go.Departure.lateStores }, { on := 10, ground := Go.Ground.textOnly Go.Departure.lateStoresUnsure }, ⟨11, .phase⟩], none⟩) rfl (fun K hK => ?_) AllReadyH.nil
    (first
      | (refine step_put1 rfl rfl (g := g) (i := i) (v := .int .i64 y) rfl rfl (show Blk _ g 3 _ from HB.out) (by kernel_rfl) (by have := HC.out; omega) rfl ?_; intro w5 hb5 hu5; have HB5 := Lib.hid hb5; have hq : Upd (One g) _ w5 := hu5)
      | (refine step_put1 rfl rfl (g := g) (i := j) (v := .int .i64 x) rfl rfl (show Blk _ g 3 _ from HB.out) (by kernel_rfl) (by have := HC.out; omega) rfl ?_; intro w5 hb5 hu5; have HB5 := Lib.hid hb5; have hq : Upd (One g) _ w5 := hu5)
      | (refine step_put1 rfl rfl (g := g) (i := j) (v := .int .i64 x) rfl rfl HB5.out (by kernel_rfl) (by have := HC.out; rw [List.length_set]; omega) rfl ?_; intro w6 hb6 hu6; have HB6 := Lib.hid hb6; have hq : Upd (One g) _ w6 := hu6)
      | (refine step_put1 rfl rfl (g := g) (i := i) (v := .int .i64 y) rfl rfl HB5.out (by kernel_rfl) (by have := HC.out; rw [List.length_set]; omega) rfl ?_; intro w6 hb6 hu6; have HB6 := Lib.hid hb6; have hq : Upd (One g) _ w6 := hu6))
    refine hK.out _ _ ?_ (fun hHeld => ?_)
    · (first | exact (Upd.refl _ _).drew | exact hHeld | exact hHeld.trans hq)
    clear hK K
    try simp only [Act.put]
    try simp only [List.setIfInBounds_toArray]
    try simp only [List.set_cons_succ]
    try simp only [List.set_cons_zero]
    refine wpT 14 ⟨some 19, .indexAddr 95 (.tmp 8) (.tmp 9), 0, "topo.go:16", #[⟨2, .data⟩, ⟨3, .data⟩, ⟨0, .phase⟩, ⟨1, .phase⟩, ⟨2, .phase⟩, ⟨3, .phase⟩, ⟨4, .phase⟩, ⟨5, .phase⟩, ⟨6, .phase⟩, ⟨7, .phase⟩, ⟨8, .phase⟩, ⟨9, .phase⟩, ⟨10, .phase⟩, ⟨11, .phase⟩, ⟨12, .phase⟩, ⟨13, .phase⟩], none⟩ ?_ (.inl ⟨by rfl, ?_⟩) ?_
    rotate_left
    · (intro W hSw; (try dsimp only at hSw); go_simp; try (with_reducible rfl))
    try simp only [Act.put]
    try simp only [List.setIfInBounds_toArray]
    try simp only [List.set_cons_succ]
    try simp only [List.set_cons_zero]
    refine wpAnyH_ready (rs := [15]) (by kernel_rfl) (by simp) ?_
    refine AllReadyH.cons (o := ⟨none, .store 3 (.tmp 19) (.tmp 17), 0, "topo.go:16", #[⟨14, .data⟩, ⟨11, .data⟩, ⟨13, .chain⟩, ⟨0, .phase⟩, ⟨1, .phase⟩, ⟨2, .phase⟩, ⟨3, .phase⟩, ⟨4, .phase⟩, ⟨5, .phase⟩, ⟨6, .phase⟩, ⟨7, .phase⟩, ⟨8, .phase⟩, ⟨9, .phase⟩, ⟨10, .phase⟩, ⟨11, .phase⟩, ⟨12, .phase⟩, ⟨13, .phase⟩], none⟩) rfl (fun K hK => ?_) AllReadyH.nil
    (first
      | (refine step_put1 rfl rfl (g := g) (i := i) (v := .int .i64 y) rfl rfl (show Blk _ g 3 _ from HB.out) (by kernel_rfl) (by have := HC.out; omega) rfl ?_; intro w5 hb5 hu5; have HB5 := Lib.hid hb5; have hq : Upd (One g) _ w5 := hu5)
      | (refine step_put1 rfl rfl (g := g) (i := j) (v := .int .i64 x) rfl rfl (show Blk _ g 3 _ from HB.out) (by kernel_rfl) (by have := HC.out; omega) rfl ?_; intro w5 hb5 hu5; have HB5 := Lib.hid hb5; have hq : Upd (One g) _ w5 := hu5)
      | (refine step_put1 rfl rfl (g := g) (i := j) (v := .int .i64 x) rfl rfl HB5.out (by kernel_rfl) (by have := HC.out; rw [List.length_set]; omega) rfl ?_; intro w6 hb6 hu6; have HB6 := Lib.hid hb6; have hq : Upd (One g) _ w6 := hu6)
      | (refine step_put1 rfl rfl (g := g) (i := i) (v := .int .i64 y) rfl rfl HB5.out (by kernel_rfl) (by have := HC.out; rw [List.length_set]; omega) rfl ?_; intro w6 hb6 hu6; have HB6 := Lib.hid hb6; have hq : Upd (One g) _ w6 := hu6))
    refine hK.out _ _ ?_ (fun hHeld => ?_)
    · (first | exact (Upd.refl _ _).drew | exact hHeld | exact hHeld.trans hq)
    clear hK K
    try simp only [Act.put]
    try simp only [List.setIfInBounds_toArray]
    try simp only [List.set_cons_succ]
    try simp only [List.set_cons_zero]
    refine wpAnyH_done (by kernel_rfl) (NoPanic.normal ?_) _
    go_wp2
    have hsw : swapL xs i j = (xs.set i y).set j x := by unfold swapL; rw [HX.out, HY.out]
    refine bodyPost_end (results_none rfl _ _ _) rfl ⟨rfl, ?_, hHeld.mono (fun k _ e => by cases e; rfl)⟩
    rw [hsw]
    exact own_of_blk HB6.out hgb hnc (by rw [List.length_set, List.length_set]; exact HC.out) (swap_row (by simpa using HT.out)) HM.out (by simp)
  refine AllReadyH.cons (o := ⟨some 17, .load 3 (.tmp 16), 3, "topo.go:16", #[⟨10, .data⟩], none⟩) rfl (fun K hK => ?_) AllReadyH.nil
  go_simp
  refine hK.out _ _ ?_ (fun hHeld => ?_)
  · (first | exact (Upd.refl _ _).drew | exact hHeld | exact hHeld.trans hq)
  clear hK K
  try simp only [Act.put]
  try simp only [List.setIfInBounds_toArray]
  try simp only [List.set_cons_succ]
  try simp only [List.set_cons_zero]
  refine wpAnyH_ready (rs := [7]) (by kernel_rfl) (by simp) ?_
  refine AllReadyH.cons (o := ⟨some 13, .load 3 (.tmp 12), 3, "topo.go:16", #[⟨6, .data⟩], none⟩) rfl (fun K hK => ?_) AllReadyH.nil
  go_simp
  refine hK.out _ _ ?_ (fun hHeld => ?_)
  · (first | exact (Upd.refl _ _).drew | exact hHeld | exact hHeld.trans hq)
  clear hK K
  try simp only [Act.put]
  try simp only [List.setIfInBounds_toArray]
  try simp only [List.set_cons_succ]
  try simp only [List.set_cons_zero]
  refine wpT 12 ⟨some 18, .indexAddr 95 (.tmp 6) (.tmp 7), 0, "topo.go:16", #[⟨0, .data⟩, ⟨1, .data⟩, ⟨0, .phase⟩, ⟨1, .phase⟩, { on := 2, ground := Go.Ground.textOnly Go.Departure.lateStores }, { on := 3, ground := Go.Ground.textOnly Go.Departure.lateStores }, ⟨4, .phase⟩, ⟨5, .phase⟩, ⟨6, .phase⟩, ⟨7, .phase⟩, { on := 8, ground := Go.Ground.textOnly Go.Departure.lateStores }, { on := 9, ground := Go.Ground.textOnly Go.Departure.lateStores }, { on := 10, ground := Go.Ground.textOnly Go.Departure.lateStoresUnsure }, ⟨11, .phase⟩], none⟩ ?_ (.inl ⟨by rfl, ?_⟩) ?_
  rotate_left
  · (intro W hSw; (try dsimp only at hSw); go_simp; try (with_reducible rfl))
  try simp only [Act.put]
  try simp only [List.setIfInBounds_toArray]
  try simp only [List.set_cons_succ]
  try simp only [List.set_cons_zero]
  refine wpAnyH_ready (rs := [13]) (by kernel_rfl) (by simp) ?_
  refine AllReadyH.cons (o := ⟨none, .store 3 (.tmp 18) (.tmp 13), 0, "topo.go:16", #[⟨12, .data⟩, ⟨7, .data⟩, ⟨0, .phase⟩, ⟨1, .phase⟩, { on := 2, ground := Go.Ground.textOnly Go.Departure.lateStores }, { on := 3, ground := Go.Ground.textOnly Go.Departure.lateStores }, ⟨4, .phase⟩, ⟨5, .phase⟩, ⟨6, .phase⟩, ⟨7, .phase⟩, { on := 8, ground := Go.Ground.textOnly Go.Departure.lateStores }, { on := 9, ground := Go.Ground.textOnly Go.Departure.lateStores }, { on := 10, ground := Go.Ground.textOnly Go.Departure.lateStoresUnsure }, ⟨11, .phase⟩], none⟩) rfl (fun K hK => ?_) AllReadyH.nil
  (first
    | (refine step_put1 rfl rfl (g := g) (i := i) (v := .int .i64 y) rfl rfl (show Blk _ g 3 _ from HB.out) (by kernel_rfl) (by have := HC.out; omega) rfl ?_; intro w5 hb5 hu5; have HB5 := Lib.hid hb5; have hq : Upd (One g) _ w5 := hu5)
    | (refine step_put1 rfl rfl (g := g) (i := j) (v := .int .i64 x) rfl rfl (show Blk _ g 3 _ from HB.out) (by kernel_rfl) (by have := HC.out; omega) rfl ?_; intro w5 hb5 hu5; have HB5 := Lib.hid hb5; have hq : Upd (One g) _ w5 := hu5)
    | (refine step_put1 rfl rfl (g := g) (i := j) (v := .int .i64 x) rfl rfl HB5.out (by kernel_rfl) (by have := HC.out; rw [List.length_set]; omega) rfl ?_; intro w6 hb6 hu6; have HB6 := Lib.hid hb6; have hq : Upd (One g) _ w6 := hu6)
    | (refine step_put1 rfl rfl (g := g) (i := i) (v := .int .i64 y) rfl rfl HB5.out (by kernel_rfl) (by have := HC.out; rw [List.length_set]; omega) rfl ?_; intro w6 hb6 hu6; have HB6 := Lib.hid hb6; have hq : Upd (One g) _ w6 := hu6))
  refine hK.out _ _ ?_ (fun hHeld => ?_)
  · (first | exact (Upd.refl _ _).drew | exact hHeld | exact hHeld.trans hq)
  clear hK K
  try simp only [Act.put]
  try simp only [List.setIfInBounds_toArray]
  try simp only [List.set_cons_succ]
  try simp only [List.set_cons_zero]
  refine wpT 14 ⟨some 19, .indexAddr 95 (.tmp 8) (.tmp 9), 0, "topo.go:16", #[⟨2, .data⟩, ⟨3, .data⟩, ⟨0, .phase⟩, ⟨1, .phase⟩, ⟨2, .phase⟩, ⟨3, .phase⟩, ⟨4, .phase⟩, ⟨5, .phase⟩, ⟨6, .phase⟩, ⟨7, .phase⟩, ⟨8, .phase⟩, ⟨9, .phase⟩, ⟨10, .phase⟩, ⟨11, .phase⟩, ⟨12, .phase⟩, ⟨13, .phase⟩], none⟩ ?_ (.inl ⟨by rfl, ?_⟩) ?_
  rotate_left
  · (intro W hSw; (try dsimp only at hSw); go_simp; try (with_reducible rfl))
  try simp only [Act.put]
  try simp only [List.setIfInBounds_toArray]
  try simp only [List.set_cons_succ]
  try simp only [List.set_cons_zero]
  refine wpAnyH_ready (rs := [15]) (by kernel_rfl) (by simp) ?_
  refine AllReadyH.cons (o := ⟨none, .store 3 (.tmp 19) (.tmp 17), 0, "topo.go:16", #[⟨14, .data⟩, ⟨11, .data⟩, ⟨13, .chain⟩, ⟨0, .phase⟩, ⟨1, .phase⟩, ⟨2, .phase⟩, ⟨3, .phase⟩, ⟨4, .phase⟩, ⟨5, .phase⟩, ⟨6, .phase⟩, ⟨7, .phase⟩, ⟨8, .phase⟩, ⟨9, .phase⟩, ⟨10, .phase⟩, ⟨11, .phase⟩, ⟨12, .phase⟩, ⟨13, .phase⟩], none⟩) rfl (fun K hK => ?_) AllReadyH.nil
  (first
    | (refine step_put1 rfl rfl (g := g) (i := i) (v := .int .i64 y) rfl rfl (show Blk _ g 3 _ from HB.out) (by kernel_rfl) (by have := HC.out; omega) rfl ?_; intro w5 hb5 hu5; have HB5 := Lib.hid hb5; have hq : Upd (One g) _ w5 := hu5)
    | (refine step_put1 rfl rfl (g := g) (i := j) (v := .int .i64 x) rfl rfl (show Blk _ g 3 _ from HB.out) (by kernel_rfl) (by have := HC.out; omega) rfl ?_; intro w5 hb5 hu5; have HB5 := Lib.hid hb5; have hq : Upd (One g) _ w5 := hu5)
    | (refine step_put1 rfl rfl (g := g) (i := j) (v := .int .i64 x) rfl rfl HB5.out (by kernel_rfl) (by have := HC.out; rw [List.length_set]; omega) rfl ?_; intro w6 hb6 hu6; have HB6 := Lib.hid hb6; have hq : Upd (One g) _ w6 := hu6)
    | (refine step_put1 rfl rfl (g := g) (i := i) (v := .int .i64 y) rfl rfl HB5.out (by kernel_rfl) (by have := HC.out; rw [List.length_set]; omega) rfl ?_; intro w6 hb6 hu6; have HB6 := Lib.hid hb6; have hq : Upd (One g) _ w6 := hu6))
  refine hK.out _ _ ?_ (fun hHeld => ?_)
  · (first | exact (Upd.refl _ _).drew | exact hHeld | exact hHeld.trans hq)
  clear hK K
  try simp only [Act.put]
  try simp only [List.setIfInBounds_toArray]
  try simp only [List.set_cons_succ]
  try simp only [List.set_cons_zero]
  refine wpAnyH_done (by kernel_rfl) (NoPanic.normal ?_) _
  go_wp2
  have hsw : swapL xs i j = (xs.set i y).set j x := by unfold swapL; rw [HX.out, HY.out]
  refine bodyPost_end (results_none rfl _ _ _) rfl ⟨rfl, ?_, hHeld.mono (fun k _ e => by cases e; rfl)⟩
  rw [hsw]
  exact own_of_blk HB6.out hgb hnc (by rw [List.length_set, List.length_set]; exact HC.out) (swap_row (by simpa using HT.out)) HM.out (by simp)
end Go.Proofs.Ytaicemjckagcaaa
