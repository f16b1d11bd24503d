/- Orders: the heap in memory, and what its methods do. -/
import Derived.Test.YtaicemjckagcaaaMax
import Derived.Test.YtaicemjckagcaaaMbr
namespace Go.Proofs.Ytaicemjckagcaaa
set_option linter.unusedVariables false
open Go.RowKit
/-! what an interface's method is -/
theorem load_rdy (a : Addr) (w : World) (A : Option Addr) (n c : Nat) (h : w.cell? a = some (.slice A n c)) : (loadVar 95 a).run Try.prog w = .ok (.slice A n c) w := by
  simp [loadVar, Try.sizeOf95, h, go_sem]
theorem m_push (a : Option Addr) (w : World) : (method 412 97 (.pointer a) "Push").run Try.prog w = .ok (268, .pointer a) w := by kernel_rfl
theorem m_pop (a : Option Addr) (w : World) : (method 412 97 (.pointer a) "Pop").run Try.prog w = .ok (267, .pointer a) w := by kernel_rfl
theorem m_gen (f : Nat) (name : String) (hf : (((Try.prog.info? 97).getD default).methods.find? (·.name == name)).map (fun m => (m.path.isEmpty, m.func)) = some (true, some (f, false)))
    (hp : (((Try.prog.info? 97).getD default).methods.find? (·.name == name)).map (fun m => m.path.toList.length) = some 0)
    (a : Addr) (A : Option Addr) (n c : Nat) (w : World) (h : w.cell? a = some (.slice A n c)) : (method 412 97 (.pointer (some a)) name).run Try.prog w = .ok (f, .slice A n c) w := by
  have hi : (typeInfo 97).run Try.prog w = .ok ((Try.prog.info? 97).getD default) w := by kernel_rfl
  have hu : ∀ w, (underlying 97).run Try.prog w = .ok (TypeDesc.pointer 95) w := fun w => by kernel_rfl
  have hw : ∀ (s : String) w, (Builtin.ssaWrapNilChk_ #[97] 97 #[.pointer (some a), strVal "", strVal s]).run Try.prog w = .ok (.pointer (some a)) w := fun s w => rfl
  cases hm : ((Try.prog.info? 97).getD default).methods.find? (·.name == name) with
  | none => rw [hm] at hf; cases hf
  | some m =>
    rw [hm] at hf hp
    have hpp : m.path.toList = [] := List.eq_nil_of_length_eq_zero (by simpa using hp)
    simp only [Option.map_some, Option.some.injEq, Prod.mk.injEq] at hf
    unfold method
    simp only [Sem.run_bind, hi, Result.andThen_ok, hm, hpp, hf.1, hf.2]
    simp [follow, receiverAt, hu, Place.get, hw, asAddr, load_rdy a w A n c h]
theorem m_len (a : Addr) (A : Option Addr) (n c : Nat) (w : World) (h : w.cell? a = some (.slice A n c)) : (method 412 97 (.pointer (some a)) "Len").run Try.prog w = .ok (57, .slice A n c) w := m_gen 57 "Len" (by kernel_rfl) (by kernel_rfl) a A n c w h
theorem m_less (a : Addr) (A : Option Addr) (n c : Nat) (w : World) (h : w.cell? a = some (.slice A n c)) : (method 412 97 (.pointer (some a)) "Less").run Try.prog w = .ok (265, .slice A n c) w := m_gen 265 "Less" (by kernel_rfl) (by kernel_rfl) a A n c w h
theorem m_swap (a : Addr) (A : Option Addr) (n c : Nat) (w : World) (h : w.cell? a = some (.slice A n c)) : (method 412 97 (.pointer (some a)) "Swap").run Try.prog w = .ok (266, .slice A n c) w := m_gen 266 "Swap" (by kernel_rfl) (by kernel_rfl) a A n c w h
theorem slt_ready : SlT Try.prog 95 3 1 8 := SlT.mk_ Try.underlying95 (z := .int .i64 0) (by kernel_rfl) rfl (by omega)
/-! the methods themselves -/
set_option maxRecDepth 100000 in
theorem rdlen (w : World) (A : Option Addr) (n c : Nat) : Calls Try.prog 57 #[.slice A n c] w fun e w' => e = .returned (.int .i64 (n : Int)) ∧ w = w' := by
  go_enter Try.func57, Try.ntmps57
  go_wp2
  go_ret
  exact ⟨rfl, rfl⟩
set_option maxRecDepth 100000 in
theorem rdless (F : Nat → Prop) (w : World) (A : Option Addr) (c : Nat) (xs : List Int) (i j : Nat) (h : Ints F w A xs) (hi : i < xs.length) (hj : j < xs.length) (hl : xs.length ≤ 1000000) :
    Calls Try.prog 265 #[.slice A xs.length c, .int .i64 (i : Int), .int .i64 (j : Int)] w fun e w' => e = .returned (.bool (decide (xs[i] < xs[j]))) ∧ Upd No w w' := by
  obtain ⟨ad, rfl, _, _, c0⟩ := h.at_ hi
  obtain ⟨ad', e', _, _, c1⟩ := h.at_ hj
  cases e'
  have i1 : (0 : Int) ≤ (i : Int) := Int.natCast_nonneg _
  have i2 : (i : Int) < (xs.length : Int) := by omega
  have j1 : (0 : Int) ≤ (j : Int) := Int.natCast_nonneg _
  have j2 : (j : Int) < (xs.length : Int) := by omega
  obtain ⟨x, hx⟩ : ∃ x, xs[i] = x := ⟨_, rfl⟩
  obtain ⟨y, hy⟩ : ∃ y, xs[j] = y := ⟨_, rfl⟩
  rw [hx] at c0 ⊢
  rw [hy] at c1 ⊢
  clear hx hy h
  go_enter Try.func265, Try.ntmps265
  go_wp2
  go_quiet (fail)
  go_wp2
  go_ret
  exact ⟨rfl, (Upd.refl _ _).drewN _⟩
/-- two places changed -/
def swapL (xs : List Int) (i j : Nat) : List Int := (xs.set i (xs.getD j 0)).set j (xs.getD i 0)
theorem swapL_len (xs : List Int) (i j : Nat) : (swapL xs i j).length = xs.length := by unfold swapL; rw [List.length_set, List.length_set]
theorem swap_row {cur : List Value} {xs : List Int} {i j : Nat} {x y : Int} (h : cur.take xs.length = xs.map (Value.int .i64)) : ((cur.set i (.int .i64 y)).set j (.int .i64 x)).take (xs.length * 1) = ((xs.set i y).set j x).map (Value.int .i64) := by
  rw [Nat.mul_one, List.take_set, List.take_set, h, List.map_set, List.map_set]
set_option maxRecDepth 100000 in
set_option maxHeartbeats 2000000 in
theorem rdswap (w : World) (base : Nat) (A : Option Addr) (c : Nat) (xs : List Int) (i j : Nat) (h : w.ownsRow base 3 1 (.slice A xs.length c) xs.length (xs.map (Value.int .i64))) (hi : i < xs.length) (hj : j < xs.length) (hl : xs.length ≤ 1000000) :
    Calls Try.prog 266 #[.slice A xs.length c, .int .i64 (i : Int), .int .i64 (j : Int)] w fun e w' => e = .returned (.tuple #[]) ∧ w'.ownsRow base 3 1 (.slice A xs.length c) xs.length ((swapL xs i j).map (Value.int .i64)) ∧ Upd (Own (.slice A xs.length c)) w w' := by
  obtain ⟨g, cur, rfl, hgb, hB, hnc, hcl, hct, hcm⟩ := own_blk h (by omega)
  have i1 : (0 : Int) ≤ (i : Int) := Int.natCast_nonneg _
  have i2 : (i : Int) < (xs.length : Int) := by omega
  have j1 : (0 : Int) ≤ (j : Int) := Int.natCast_nonneg _
  have j2 : (j : Int) < (xs.length : Int) := by omega
  have hcur : ∀ k, k < xs.length → cur[k]? = some (.int .i64 (xs.getD k 0)) := fun k hk => by
    have h1 : (cur.take (xs.length * 1))[k]? = some (.int .i64 (xs.getD k 0)) := by
      rw [hct, List.getElem?_map, List.getElem?_eq_getElem hk, List.getD_eq_getElem?_getD, List.getElem?_eq_getElem hk]
      rfl
    rw [List.getElem?_take] at h1
    split at h1
    · exact h1
    · cases h1
  have c0 : w.cell? ⟨g, i, none⟩ = some (.int .i64 (xs.getD i 0)) := by rw [hB.cell]; exact hcur i hi
  have c1 : w.cell? ⟨g, j, none⟩ = some (.int .i64 (xs.getD j 0)) := by rw [hB.cell]; exact hcur j hj
  have HB := Lib.hid hB
  have HC := Lib.hid hcl
  have HT := Lib.hid hct
  have HM := Lib.hid hcm
  generalize hxi : xs.getD i 0 = x at c0
  generalize hyj : xs.getD j 0 = y at c1
  have HX := Lib.hid hxi
  have HY := Lib.hid hyj
  clear hcur hB hcl hct hcm h hxi hyj
  go_enter Try.func266, Try.ntmps266
  go_wp2
  refine wp_region_noPanic ?_
  refine wp_region_held_drew (S := (fun w' => Upd (One g) w w')) (by kernel_rfl) ?_ (fun hHeld => ?_)
  · (first | exact (Upd.refl _ _).drew | exact hHeld | exact hHeld.trans hq)
  refine wpT 0 ⟨some 6, .move (.tmp 0), 95, "topo.go:16", #[], none⟩ ?_ (.inl ⟨by rfl, ?_⟩) ?_
  rotate_left
  · (intro W hSw; (try dsimp only at hSw); go_simp; try (with_reducible rfl))
  try simp only [Act.put]
  try simp only [List.setIfInBounds_toArray]
  try simp only [List.set_cons_succ]
  try simp only [List.set_cons_zero]
  refine wpT 1 ⟨some 7, .move (.tmp 1), 3, "topo.go:16", #[], none⟩ ?_ (.inl ⟨by rfl, ?_⟩) ?_
  rotate_left
  · (intro W hSw; (try dsimp only at hSw); go_simp; try (with_reducible rfl))
  try simp only [Act.put]
  try simp only [List.setIfInBounds_toArray]
  try simp only [List.set_cons_succ]
  try simp only [List.set_cons_zero]
  refine wpT 2 ⟨some 8, .move (.tmp 0), 95, "topo.go:16", #[{ on := 13, ground := Go.Ground.gcOnly Go.Departure.lateStores }], none⟩ ?_ (.inl ⟨by rfl, ?_⟩) ?_
  rotate_left
  · (intro W hSw; (try dsimp only at hSw); go_simp; try (with_reducible rfl))
  try simp only [Act.put]
  try simp only [List.setIfInBounds_toArray]
  try simp only [List.set_cons_succ]
  try simp only [List.set_cons_zero]
  refine wpT 3 ⟨some 9, .move (.tmp 2), 3, "topo.go:16", #[{ on := 13, ground := Go.Ground.gcOnly Go.Departure.lateStores }], none⟩ ?_ (.inl ⟨by rfl, ?_⟩) ?_
  rotate_left
  · (intro W hSw; (try dsimp only at hSw); go_simp; try (with_reducible rfl))
  try simp only [Act.put]
  try simp only [List.setIfInBounds_toArray]
  try simp only [List.set_cons_succ]
  try simp only [List.set_cons_zero]
  refine wpT 4 ⟨some 10, .move (.tmp 0), 95, "topo.go:16", #[], none⟩ ?_ (.inl ⟨by rfl, ?_⟩) ?_
  rotate_left
  · (intro W hSw; (try dsimp only at hSw); go_simp; try (with_reducible rfl))
  try simp only [Act.put]
  try simp only [List.setIfInBounds_toArray]
  try simp only [List.set_cons_succ]
  try simp only [List.set_cons_zero]
  refine wpT 5 ⟨some 11, .move (.tmp 2), 3, "topo.go:16", #[], none⟩ ?_ (.inl ⟨by rfl, ?_⟩) ?_
  rotate_left
  · (intro W hSw; (try dsimp only at hSw); go_simp; try (with_reducible rfl))
  try simp only [Act.put]
  try simp only [List.setIfInBounds_toArray]
  try simp only [List.set_cons_succ]
  try simp only [List.set_cons_zero]
  refine wpT 6 ⟨some 12, .indexAddr 95 (.tmp 10) (.tmp 11), 0, "topo.go:16", #[⟨4, .data⟩, ⟨5, .data⟩], none⟩ ?_ (.inl ⟨by rfl, ?_⟩) ?_
  rotate_left
  · (intro W hSw; (try dsimp only at hSw); go_simp; try (with_reducible rfl))
  try simp only [Act.put]
  try simp only [List.setIfInBounds_toArray]
  try simp only [List.set_cons_succ]
  try simp only [List.set_cons_zero]
  refine wpT 8 ⟨some 14, .move (.tmp 0), 95, "topo.go:16", #[], none⟩ ?_ (.inl ⟨by rfl, ?_⟩) ?_
  rotate_left
  · (intro W hSw; (try dsimp only at hSw); go_simp; try (with_reducible rfl))
  try simp only [Act.put]
  try simp only [List.setIfInBounds_toArray]
  try simp only [List.set_cons_succ]
  try simp only [List.set_cons_zero]
  refine wpT 9 ⟨some 15, .move (.tmp 1), 3, "topo.go:16", #[], none⟩ ?_ (.inl ⟨by rfl, ?_⟩) ?_
  rotate_left
  · (intro W hSw; (try dsimp only at hSw); go_simp; try (with_reducible rfl))
  try simp only [Act.put]
  try simp only [List.setIfInBounds_toArray]
  try simp only [List.set_cons_succ]
  try simp only [List.set_cons_zero]
  refine wpT 10 ⟨some 16, .indexAddr 95 (.tmp 14) (.tmp 15), 0, "topo.go:16", #[⟨8, .data⟩, ⟨9, .data⟩], none⟩ ?_ (.inl ⟨by rfl, ?_⟩) ?_
  rotate_left
  · (intro W hSw; (try dsimp only at hSw); go_simp; try (with_reducible rfl))
  try simp only [Act.put]
  try simp only [List.setIfInBounds_toArray]
  try simp only [List.set_cons_succ]
  try simp only [List.set_cons_zero]
  refine wpAnyH_ready (rs := [7, 11]) (by kernel_rfl) (by simp) ?_
  refine AllReadyH.cons (o := ⟨some 13, .load 3 (.tmp 12), 3, "topo.go:16", #[⟨6, .data⟩], none⟩) rfl (fun K hK => ?_) ?_
  · go_simp
    refine hK.out _ _ ?_ (fun hHeld => ?_)
    · (first | exact (Upd.refl _ _).drew | exact hHeld | exact hHeld.trans hq)
    clear hK K
    try simp only [Act.put]
    try simp only [List.setIfInBounds_toArray]
    try simp only [List.set_cons_succ]
    try simp only [List.set_cons_zero]
    refine wpAnyH_ready (rs := [11]) (by kernel_rfl) (by simp) ?_
    refine AllReadyH.cons (o := ⟨some 17, .load 3 (.tmp 16), 3, "topo.go:16", #[⟨10, .data⟩], none⟩) rfl (fun K hK => ?_) AllReadyH.nil
    go_simp
    refine hK.out _ _ ?_ (fun hHeld => ?_)
    · (first | exact (Upd.refl _ _).drew | exact hHeld | exact hHeld.trans hq)
    clear hK K
    try simp only [Act.put]
    try simp only [List.setIfInBounds_toArray]
    try simp only [List.set_cons_succ]
    try simp only [List.set_cons_zero]
    refine wpT 12 ⟨some 18, .indexAddr 95 (.tmp 6) (.tmp 7), 0, "topo.go:16", #[⟨0, .data⟩, ⟨1, .data⟩, ⟨0, .phase⟩, ⟨1, .phase⟩, { on := 2, ground := Go.Ground.textOnly Go.Departure.lateStores }, { on := 3, ground := Go.Ground.textOnly Go.Departure.lateStores }, ⟨4, .phase⟩, ⟨5, .phase⟩, ⟨6, .phase⟩, ⟨7, .phase⟩, { on := 8, ground := Go.Ground.textOnly Go.Departure.lateStores }, { on := 9, ground := Go.Ground.textOnly Go.Departure.lateStores }, { on := 10, ground := Go.Ground.textOnly Go.Departure.lateStoresUnsure }, ⟨11, .phase⟩], none⟩ ?_ (.inl ⟨by rfl, ?_⟩) ?_
    rotate_left
    · (intro W hSw; (try dsimp only at hSw); go_simp; try (with_reducible rfl))
    try simp only [Act.put]
    try simp only [List.setIfInBounds_toArray]
    try simp only [List.set_cons_succ]
    try simp only [List.set_cons_zero]
    refine wpAnyH_ready (rs := [13]) (by kernel_rfl) (by simp) ?_
    refine AllReadyH.cons (o := ⟨none, .store 3 (.tmp 18) (.tmp 13), 0, "topo.go:16", #[⟨12, .data⟩, ⟨7, .data⟩, ⟨0, .phase⟩, ⟨1, .phase⟩, { on := 2, ground := Go.Ground.textOnly Go.Departure.lateStores }, { on := 3, ground := Go.Ground.textOnly Go.Departure.lateStores }, ⟨4, .phase⟩, ⟨5, .phase⟩, ⟨6, .phase⟩, ⟨7, .phase⟩, { on := 8, ground := Go.Ground.textOnly Go.Departure.lateStores }, { on := 9, ground := Go.Ground.textOnly Go.Departure.lateStores }, { on := 10, ground := Go.Ground.textOnly Go.Departure.lateStoresUnsure }, ⟨11, .phase⟩], none⟩) rfl (fun K hK => ?_) AllReadyH.nil
    (first
      | (refine step_put1 rfl rfl (g := g) (i := i) (v := .int .i64 y) rfl rfl (show Blk _ g 3 _ from HB.out) (by kernel_rfl) (by have := HC.out; omega) rfl ?_; intro w5 hb5 hu5; have HB5 := Lib.hid hb5; have hq : Upd (One g) _ w5 := hu5)
      | (refine step_put1 rfl rfl (g := g) (i := j) (v := .int .i64 x) rfl rfl (show Blk _ g 3 _ from HB.out) (by kernel_rfl) (by have := HC.out; omega) rfl ?_; intro w5 hb5 hu5; have HB5 := Lib.hid hb5; have hq : Upd (One g) _ w5 := hu5)
      | (refine step_put1 rfl rfl (g := g) (i := j) (v := .int .i64 x) rfl rfl HB5.out (by kernel_rfl) (by have := HC.out; rw [List.length_set]; omega) rfl ?_; intro w6 hb6 hu6; have HB6 := Lib.hid hb6; have hq : Upd (One g) _ w6 := hu6)
      | (refine step_put1 rfl rfl (g := g) (i := i) (v := .int .i64 y) rfl rfl HB5.out (by kernel_rfl) (by have := HC.out; rw [List.length_set]; omega) rfl ?_; intro w6 hb6 hu6; have HB6 := Lib.hid hb6; have hq : Upd (One g) _ w6 := hu6))
    refine hK.out _ _ ?_ (fun hHeld => ?_)
    · (first | exact (Upd.refl _ _).drew | exact hHeld | exact hHeld.trans hq)
    clear hK K
    try simp only [Act.put]
    try simp only [List.setIfInBounds_toArray]
    try simp only [List.set_cons_succ]
    try simp only [List.set_cons_zero]
    refine wpT 14 ⟨some 19, .indexAddr 95 (.tmp 8) (.tmp 9), 0, "topo.go:16", #[⟨2, .data⟩, ⟨3, .data⟩, ⟨0, .phase⟩, ⟨1, .phase⟩, ⟨2, .phase⟩, ⟨3, .phase⟩, ⟨4, .phase⟩, ⟨5, .phase⟩, ⟨6, .phase⟩, ⟨7, .phase⟩, ⟨8, .phase⟩, ⟨9, .phase⟩, ⟨10, .phase⟩, ⟨11, .phase⟩, ⟨12, .phase⟩, ⟨13, .phase⟩], none⟩ ?_ (.inl ⟨by rfl, ?_⟩) ?_
    rotate_left
    · (intro W hSw; (try dsimp only at hSw); go_simp; try (with_reducible rfl))
    try simp only [Act.put]
    try simp only [List.setIfInBounds_toArray]
    try simp only [List.set_cons_succ]
    try simp only [List.set_cons_zero]
    refine wpAnyH_ready (rs := [15]) (by kernel_rfl) (by simp) ?_
    refine AllReadyH.cons (o := ⟨none, .store 3 (.tmp 19) (.tmp 17), 0, "topo.go:16", #[⟨14, .data⟩, ⟨11, .data⟩, ⟨13, .chain⟩, ⟨0, .phase⟩, ⟨1, .phase⟩, ⟨2, .phase⟩, ⟨3, .phase⟩, ⟨4, .phase⟩, ⟨5, .phase⟩, ⟨6, .phase⟩, ⟨7, .phase⟩, ⟨8, .phase⟩, ⟨9, .phase⟩, ⟨10, .phase⟩, ⟨11, .phase⟩, ⟨12, .phase⟩, ⟨13, .phase⟩], none⟩) rfl (fun K hK => ?_) AllReadyH.nil
    (first
      | (refine step_put1 rfl rfl (g := g) (i := i) (v := .int .i64 y) rfl rfl (show Blk _ g 3 _ from HB.out) (by kernel_rfl) (by have := HC.out; omega) rfl ?_; intro w5 hb5 hu5; have HB5 := Lib.hid hb5; have hq : Upd (One g) _ w5 := hu5)
      | (refine step_put1 rfl rfl (g := g) (i := j) (v := .int .i64 x) rfl rfl (show Blk _ g 3 _ from HB.out) (by kernel_rfl) (by have := HC.out; omega) rfl ?_; intro w5 hb5 hu5; have HB5 := Lib.hid hb5; have hq : Upd (One g) _ w5 := hu5)
      | (refine step_put1 rfl rfl (g := g) (i := j) (v := .int .i64 x) rfl rfl HB5.out (by kernel_rfl) (by have := HC.out; rw [List.length_set]; omega) rfl ?_; intro w6 hb6 hu6; have HB6 := Lib.hid hb6; have hq : Upd (One g) _ w6 := hu6)
      | (refine step_put1 rfl rfl (g := g) (i := i) (v := .int .i64 y) rfl rfl HB5.out (by kernel_rfl) (by have := HC.out; rw [List.length_set]; omega) rfl ?_; intro w6 hb6 hu6; have HB6 := Lib.hid hb6; have hq : Upd (One g) _ w6 := hu6))
    refine hK.out _ _ ?_ (fun hHeld => ?_)
    · (first | exact (Upd.refl _ _).drew | exact hHeld | exact hHeld.trans hq)
    clear hK K
    try simp only [Act.put]
    try simp only [List.setIfInBounds_toArray]
    try simp only [List.set_cons_succ]
    try simp only [List.set_cons_zero]
    refine wpAnyH_done (by kernel_rfl) (NoPanic.normal ?_) _
    go_wp2
    have hsw : swapL xs i j = (xs.set i y).set j x := by unfold swapL; rw [HX.out, HY.out]
    refine bodyPost_end (results_none rfl _ _ _) rfl ⟨rfl, ?_, hHeld.mono (fun k _ e => by cases e; rfl)⟩
    rw [hsw]
    exact own_of_blk HB6.out hgb hnc (by rw [List.length_set, List.length_set]; exact HC.out) (swap_row (by simpa using HT.out)) HM.out (by simp)
  refine AllReadyH.cons (o := ⟨some 17, .load 3 (.tmp 16), 3, "topo.go:16", #[⟨10, .data⟩], none⟩) rfl (fun K hK => ?_) AllReadyH.nil
  go_simp
  refine hK.out _ _ ?_ (fun hHeld => ?_)
  · (first | exact (Upd.refl _ _).drew | exact hHeld | exact hHeld.trans hq)
  clear hK K
  try simp only [Act.put]
  try simp only [List.setIfInBounds_toArray]
  try simp only [List.set_cons_succ]
  try simp only [List.set_cons_zero]
  refine wpAnyH_ready (rs := [7]) (by kernel_rfl) (by simp) ?_
  refine AllReadyH.cons (o := ⟨some 13, .load 3 (.tmp 12), 3, "topo.go:16", #[⟨6, .data⟩], none⟩) rfl (fun K hK => ?_) AllReadyH.nil
  go_simp
  refine hK.out _ _ ?_ (fun hHeld => ?_)
  · (first | exact (Upd.refl _ _).drew | exact hHeld | exact hHeld.trans hq)
  clear hK K
  try simp only [Act.put]
  try simp only [List.setIfInBounds_toArray]
  try simp only [List.set_cons_succ]
  try simp only [List.set_cons_zero]
  refine wpT 12 ⟨some 18, .indexAddr 95 (.tmp 6) (.tmp 7), 0, "topo.go:16", #[⟨0, .data⟩, ⟨1, .data⟩, ⟨0, .phase⟩, ⟨1, .phase⟩, { on := 2, ground := Go.Ground.textOnly Go.Departure.lateStores }, { on := 3, ground := Go.Ground.textOnly Go.Departure.lateStores }, ⟨4, .phase⟩, ⟨5, .phase⟩, ⟨6, .phase⟩, ⟨7, .phase⟩, { on := 8, ground := Go.Ground.textOnly Go.Departure.lateStores }, { on := 9, ground := Go.Ground.textOnly Go.Departure.lateStores }, { on := 10, ground := Go.Ground.textOnly Go.Departure.lateStoresUnsure }, ⟨11, .phase⟩], none⟩ ?_ (.inl ⟨by rfl, ?_⟩) ?_
  rotate_left
  · (intro W hSw; (try dsimp only at hSw); go_simp; try (with_reducible rfl))
  try simp only [Act.put]
  try simp only [List.setIfInBounds_toArray]
  try simp only [List.set_cons_succ]
  try simp only [List.set_cons_zero]
  refine wpAnyH_ready (rs := [13]) (by kernel_rfl) (by simp) ?_
  refine AllReadyH.cons (o := ⟨none, .store 3 (.tmp 18) (.tmp 13), 0, "topo.go:16", #[⟨12, .data⟩, ⟨7, .data⟩, ⟨0, .phase⟩, ⟨1, .phase⟩, { on := 2, ground := Go.Ground.textOnly Go.Departure.lateStores }, { on := 3, ground := Go.Ground.textOnly Go.Departure.lateStores }, ⟨4, .phase⟩, ⟨5, .phase⟩, ⟨6, .phase⟩, ⟨7, .phase⟩, { on := 8, ground := Go.Ground.textOnly Go.Departure.lateStores }, { on := 9, ground := Go.Ground.textOnly Go.Departure.lateStores }, { on := 10, ground := Go.Ground.textOnly Go.Departure.lateStoresUnsure }, ⟨11, .phase⟩], none⟩) rfl (fun K hK => ?_) AllReadyH.nil
  (first
    | (refine step_put1 rfl rfl (g := g) (i := i) (v := .int .i64 y) rfl rfl (show Blk _ g 3 _ from HB.out) (by kernel_rfl) (by have := HC.out; omega) rfl ?_; intro w5 hb5 hu5; have HB5 := Lib.hid hb5; have hq : Upd (One g) _ w5 := hu5)
    | (refine step_put1 rfl rfl (g := g) (i := j) (v := .int .i64 x) rfl rfl (show Blk _ g 3 _ from HB.out) (by kernel_rfl) (by have := HC.out; omega) rfl ?_; intro w5 hb5 hu5; have HB5 := Lib.hid hb5; have hq : Upd (One g) _ w5 := hu5)
    | (refine step_put1 rfl rfl (g := g) (i := j) (v := .int .i64 x) rfl rfl HB5.out (by kernel_rfl) (by have := HC.out; rw [List.length_set]; omega) rfl ?_; intro w6 hb6 hu6; have HB6 := Lib.hid hb6; have hq : Upd (One g) _ w6 := hu6)
    | (refine step_put1 rfl rfl (g := g) (i := i) (v := .int .i64 y) rfl rfl HB5.out (by kernel_rfl) (by have := HC.out; rw [List.length_set]; omega) rfl ?_; intro w6 hb6 hu6; have HB6 := Lib.hid hb6; have hq : Upd (One g) _ w6 := hu6))
  refine hK.out _ _ ?_ (fun hHeld => ?_)
  · (first | exact (Upd.refl _ _).drew | exact hHeld | exact hHeld.trans hq)
  clear hK K
  try simp only [Act.put]
  try simp only [List.setIfInBounds_toArray]
  try simp only [List.set_cons_succ]
  try simp only [List.set_cons_zero]
  refine wpT 14 ⟨some 19, .indexAddr 95 (.tmp 8) (.tmp 9), 0, "topo.go:16", #[⟨2, .data⟩, ⟨3, .data⟩, ⟨0, .phase⟩, ⟨1, .phase⟩, ⟨2, .phase⟩, ⟨3, .phase⟩, ⟨4, .phase⟩, ⟨5, .phase⟩, ⟨6, .phase⟩, ⟨7, .phase⟩, ⟨8, .phase⟩, ⟨9, .phase⟩, ⟨10, .phase⟩, ⟨11, .phase⟩, ⟨12, .phase⟩, ⟨13, .phase⟩], none⟩ ?_ (.inl ⟨by rfl, ?_⟩) ?_
  rotate_left
  · (intro W hSw; (try dsimp only at hSw); go_simp; try (with_reducible rfl))
  try simp only [Act.put]
  try simp only [List.setIfInBounds_toArray]
  try simp only [List.set_cons_succ]
  try simp only [List.set_cons_zero]
  refine wpAnyH_ready (rs := [15]) (by kernel_rfl) (by simp) ?_
  refine AllReadyH.cons (o := ⟨none, .store 3 (.tmp 19) (.tmp 17), 0, "topo.go:16", #[⟨14, .data⟩, ⟨11, .data⟩, ⟨13, .chain⟩, ⟨0, .phase⟩, ⟨1, .phase⟩, ⟨2, .phase⟩, ⟨3, .phase⟩, ⟨4, .phase⟩, ⟨5, .phase⟩, ⟨6, .phase⟩, ⟨7, .phase⟩, ⟨8, .phase⟩, ⟨9, .phase⟩, ⟨10, .phase⟩, ⟨11, .phase⟩, ⟨12, .phase⟩, ⟨13, .phase⟩], none⟩) rfl (fun K hK => ?_) AllReadyH.nil
  (first
    | (refine step_put1 rfl rfl (g := g) (i := i) (v := .int .i64 y) rfl rfl (show Blk _ g 3 _ from HB.out) (by kernel_rfl) (by have := HC.out; omega) rfl ?_; intro w5 hb5 hu5; have HB5 := Lib.hid hb5; have hq : Upd (One g) _ w5 := hu5)
    | (refine step_put1 rfl rfl (g := g) (i := j) (v := .int .i64 x) rfl rfl (show Blk _ g 3 _ from HB.out) (by kernel_rfl) (by have := HC.out; omega) rfl ?_; intro w5 hb5 hu5; have HB5 := Lib.hid hb5; have hq : Upd (One g) _ w5 := hu5)
    | (refine step_put1 rfl rfl (g := g) (i := j) (v := .int .i64 x) rfl rfl HB5.out (by kernel_rfl) (by have := HC.out; rw [List.length_set]; omega) rfl ?_; intro w6 hb6 hu6; have HB6 := Lib.hid hb6; have hq : Upd (One g) _ w6 := hu6)
    | (refine step_put1 rfl rfl (g := g) (i := i) (v := .int .i64 y) rfl rfl HB5.out (by kernel_rfl) (by have := HC.out; rw [List.length_set]; omega) rfl ?_; intro w6 hb6 hu6; have HB6 := Lib.hid hb6; have hq : Upd (One g) _ w6 := hu6))
  refine hK.out _ _ ?_ (fun hHeld => ?_)
  · (first | exact (Upd.refl _ _).drew | exact hHeld | exact hHeld.trans hq)
  clear hK K
  try simp only [Act.put]
  try simp only [List.setIfInBounds_toArray]
  try simp only [List.set_cons_succ]
  try simp only [List.set_cons_zero]
  refine wpAnyH_done (by kernel_rfl) (NoPanic.normal ?_) _
  go_wp2
  have hsw : swapL xs i j = (xs.set i y).set j x := by unfold swapL; rw [HX.out, HY.out]
  refine bodyPost_end (results_none rfl _ _ _) rfl ⟨rfl, ?_, hHeld.mono (fun k _ e => by cases e; rfl)⟩
  rw [hsw]
  exact own_of_blk HB6.out hgb hnc (by rw [List.length_set, List.length_set]; exact HC.out) (swap_row (by simpa using HT.out)) HM.out (by simp)
end Go.Proofs.Ytaicemjckagcaaa

/- Orders: the heap's own functions. -/
namespace Go.Proofs.Ytaicemjckagcaaa
set_option linter.unusedVariables false
open Go.RowKit
/-- the heap's handle -/
def hif (hb : Nat) : Value := .iface 97 (.pointer (some ⟨hb, 0, none⟩))
/-- a heap in memory: its handle's one cell, and its row -/
def HeapM (w : World) (base hb : Nat) (A : Option Addr) (xs : List Int) (c : Nat) : Prop :=
  Blk w hb 95 [.slice A xs.length c] ∧ w.ownsRow base 3 1 (.slice A xs.length c) xs.length (xs.map (Value.int .i64)) ∧ ¬ Own (.slice A xs.length c) hb
theorem HeapM.ints {w : World} {base hb : Nat} {A : Option Addr} {xs : List Int} {c : Nat} (h : HeapM w base hb A xs c) : Ints (fun i => base ≤ i) w A xs := Ints.of_own h.2.1
theorem HeapM.cell {w : World} {base hb : Nat} {A : Option Addr} {xs : List Int} {c : Nat} (h : HeapM w base hb A xs c) : w.cell? ⟨hb, 0, none⟩ = some (.slice A xs.length c) := by simpa using h.1.cell 0
theorem HeapM.upd {w w' : World} {base hb : Nat} {A : Option Addr} {xs : List Int} {c : Nat} (h : HeapM w base hb A xs c) (u : Upd No w w') : HeapM w' base hb A xs c := ⟨h.1.upd u id, own_upd h.2.1 u (fun _ _ => id), h.2.2⟩
theorem HeapM.mLen {w : World} {base hb : Nat} {A : Option Addr} {xs : List Int} {c : Nat} (h : HeapM w base hb A xs c) : (method 412 97 (.pointer (some ⟨hb, 0, none⟩)) "Len").run Try.prog w = .ok (57, .slice A xs.length c) w := m_len _ _ _ _ _ h.cell
theorem HeapM.mLess {w : World} {base hb : Nat} {A : Option Addr} {xs : List Int} {c : Nat} (h : HeapM w base hb A xs c) : (method 412 97 (.pointer (some ⟨hb, 0, none⟩)) "Less").run Try.prog w = .ok (265, .slice A xs.length c) w := m_less _ _ _ _ _ h.cell
theorem HeapM.mSwap {w : World} {base hb : Nat} {A : Option Addr} {xs : List Int} {c : Nat} (h : HeapM w base hb A xs c) : (method 412 97 (.pointer (some ⟨hb, 0, none⟩)) "Swap").run Try.prog w = .ok (266, .slice A xs.length c) w := m_swap _ _ _ _ _ h.cell
theorem HeapM.swap {w : World} {base hb : Nat} {A : Option Addr} {xs : List Int} {c : Nat} (h : HeapM w base hb A xs c) (hl : xs.length ≤ 1000000) {i j : Nat} (hi : i < xs.length) (hj : j < xs.length) :
    Calls Try.prog 266 #[.slice A xs.length c, .int .i64 (i : Int), .int .i64 (j : Int)] w fun e w' => e = .returned (.tuple #[]) ∧ HeapM w' base hb A (swapL xs i j) c ∧ Upd (Own (.slice A xs.length c)) w w' := by
  refine Calls.mono (rdswap w base A c xs i j h.2.1 hi hj hl) ?_
  rintro e w' ⟨rfl, ho, hu⟩
  have hs := swapL_len xs i j
  refine ⟨rfl, ⟨?_, ?_, ?_⟩, hu⟩
  · rw [hs]; exact h.1.upd hu h.2.2
  · rw [hs]; exact ho
  · rw [hs]; exact h.2.2
theorem HeapM.less {w : World} {base hb : Nat} {A : Option Addr} {xs : List Int} {c : Nat} (h : HeapM w base hb A xs c) (hl : xs.length ≤ 1000000) {i j : Nat} (hi : i < xs.length) (hj : j < xs.length) :
    Calls Try.prog 265 #[.slice A xs.length c, .int .i64 (i : Int), .int .i64 (j : Int)] w fun e w' => e = .returned (.bool (decide (xs.getD i 0 < xs.getD j 0))) ∧ HeapM w' base hb A xs c ∧ Upd No w w' := by
  refine Calls.mono (rdless _ w A c xs i j h.ints hi hj hl) ?_
  rintro e w' ⟨rfl, hu⟩
  refine ⟨?_, h.upd hu, hu⟩
  simp [List.getD, hi, hj]
/-- each place but the one is not less than the one ahead of it, and what is behind that one not less than what is ahead of it -/
def UpI (xs : List Int) (j : Nat) : Prop :=
  (∀ k, 1 ≤ k → k < xs.length → k ≠ j → xs.getD ((k - 1) / 2) 0 ≤ xs.getD k 0) ∧ (∀ k, 1 ≤ k → k < xs.length → (k - 1) / 2 = j → 1 ≤ j → xs.getD ((j - 1) / 2) 0 ≤ xs.getD k 0)
/-- a heap from a place on, of so many -/
def HpF (xs : List Int) (lo n : Nat) : Prop := ∀ k, 1 ≤ k → k < n → lo ≤ (k - 1) / 2 → xs.getD ((k - 1) / 2) 0 ≤ xs.getD k 0
theorem swapL_get (xs : List Int) (i j k : Nat) (hi : i < xs.length) (hj : j < xs.length) : (swapL xs i j).getD k 0 = if k = j then xs.getD i 0 else if k = i then xs.getD j 0 else xs.getD k 0 := by
  unfold swapL
  simp only [List.getD_eq_getElem?_getD, List.getElem?_set, List.length_set]
  grind
theorem swapL_perm (xs : List Int) (i j : Nat) (hi : i < xs.length) (hj : j < xs.length) : (swapL xs i j).Perm xs := by
  rw [List.perm_iff_count]
  intro a
  unfold swapL
  rw [List.count_set, List.count_set] <;> grind
theorem up_end (xs : List Int) (j : Nat) (h : UpI xs j) (hs : j = 0 ∨ xs.getD ((j - 1) / 2) 0 ≤ xs.getD j 0) : HpF xs 0 xs.length := by
  intro k h1 h2 _
  by_cases e : k = j
  · subst e
    rcases hs with hs | hs
    · omega
    · exact hs
  · exact h.1 k h1 h2 e
theorem up_step (xs : List Int) (j : Nat) (hj : j < xs.length) (h : UpI xs j) (h0 : 0 < j) (hs : xs.getD j 0 < xs.getD ((j - 1) / 2) 0) : UpI (swapL xs ((j - 1) / 2) j) ((j - 1) / 2) := by
  have hp : (j - 1) / 2 < xs.length := by omega
  constructor
  · intro k h1 h2 h3
    rw [swapL_len] at h2
    rw [swapL_get _ _ _ _ hp hj, swapL_get _ _ _ _ hp hj]
    by_cases e : k = j
    · subst e
      have : (k - 1) / 2 ≠ k := by omega
      simp only [if_true, if_neg this]
      omega
    · rw [if_neg e, if_neg h3]
      by_cases e2 : (k - 1) / 2 = j
      · rw [if_pos e2]
        exact h.2 k h1 h2 e2 (by omega)
      · rw [if_neg e2]
        by_cases e3 : (k - 1) / 2 = (j - 1) / 2
        · rw [if_pos e3]
          have := h.1 k h1 h2 e
          rw [e3] at this
          omega
        · rw [if_neg e3]
          exact h.1 k h1 h2 e
  · intro k h1 h2 h3 h4
    rw [swapL_len] at h2
    rw [swapL_get _ _ _ _ hp hj, swapL_get _ _ _ _ hp hj]
    have a1 : ((j - 1) / 2 - 1) / 2 ≠ j := by omega
    have a2 : ((j - 1) / 2 - 1) / 2 ≠ (j - 1) / 2 := by omega
    have a3 : k ≠ (j - 1) / 2 := by omega
    rw [if_neg a1, if_neg a2, if_neg a3]
    have hpp := h.1 ((j - 1) / 2) h4 hp (by omega)
    by_cases e : k = j
    · rw [if_pos e]; exact hpp
    · rw [if_neg e]
      have := h.1 k h1 h2 e
      rw [h3] at this
      omega
set_option maxRecDepth 100000 in
set_option maxHeartbeats 4000000 in
theorem hup (w : World) (base hb : Nat) (A : Option Addr) (xs : List Int) (c : Nat) (j : Nat) (hj : j < xs.length) (hl : xs.length ≤ 1000000) (h : HeapM w base hb A xs c) (hU : UpI xs j) :
    Calls Try.prog 120 #[hif hb, .int .i64 (j : Int)] w fun e w' => e = .returned (.tuple #[]) ∧ ∃ ys, ys.Perm xs ∧ HpF ys 0 ys.length ∧ HeapM w' base hb A ys c ∧ Upd (Own (.slice A xs.length c)) w w' := by
  unfold hif
  go_enter Try.func120, Try.ntmps120
  go_wp2
  go_loopg [1] j (fun gk vj wr => ∃ ys, vj = .int .i64 (gk : Int) ∧ gk < xs.length ∧ Hid (ys.length = xs.length ∧ ys.Perm xs ∧ UpI ys gk) ∧ HeapM wr base hb A ys c ∧ Upd (Own (.slice A xs.length c)) w wr)
  case atStart => exact ⟨xs, rfl, hj, Lib.hid ⟨rfl, List.Perm.refl _, hU⟩, h, Upd.refl _ _⟩
  case round =>
    obtain ⟨ys, rfl, hg, hY, hH, hu⟩ := hrel
    have hm := hH.mLess
    rcases Nat.eq_zero_or_pos gk with rfl | hpos
    · go_wp2
      go_end0
      exact ⟨rfl, ys, hY.out.2.1, up_end ys 0 hY.out.2.2 (Or.inl rfl), hH, hu⟩
    · obtain ⟨p, hp⟩ : ∃ p, (gk - 1) / 2 = p := ⟨_, rfl⟩
      have hq : ((gk : Int) - 1).tdiv 2 = (p : Int) := by rw [Int.tdiv_eq_ediv_of_nonneg (by omega)]; omega
      have hpi : (((p : Nat) : Int) == (gk : Int)) = false := by rw [beq_eq_false_iff_ne]; omega
      have hw : RowKit.wrap64 (p : Int) = (p : Int) := IntWalk.wrap64_in _ (by omega)
      have hyl := hY.out.1
      have hpl : p < ys.length := by omega
      have hgl : gk < ys.length := by omega
      have HL := Lib.hid (hH.less (by omega) hgl hpl)
      have HP := Lib.hid hp
      clear hp hpl hyl
      go_wp2_with fail
      obtain ⟨b, hb⟩ : ∃ b, decide (ys.getD gk 0 < ys.getD p 0) = b := ⟨_, rfl⟩
      rw [hb] at HL
      have HB := Lib.hid hb
      clear hb
      refine Calls.mono HL.out ?_
      rintro e w2 ⟨rfl, hH2, hu2⟩
      have hm2 := hH2.mSwap
      have HY := Lib.hid hY.out.1
      have HS := Lib.hid (hH2.swap (by have := HY.out; omega) (i := p) (j := gk) (by have := HP.out; have := HY.out; omega) hgl)
      cases b with
      | true =>
        go_wp2_with fail
        refine Calls.mono HS.out ?_
        rintro e w3 ⟨rfl, hH3, hu3⟩
        go_wp2
        trace_state
        go_roundg p
        case measure => have := HP.out; omega
        case rel =>
          have hlt : ys.getD gk 0 < ys.getD p 0 := of_decide_eq_true HB.out
          have hpg : p < gk := by have := HP.out; omega
          have hpe := HP.out
          refine ⟨swapL ys p gk, rfl, by omega, Lib.hid ⟨by rw [swapL_len]; exact HY.out, (swapL_perm ys p gk (by omega) hgl).trans hY.out.2.1, ?_⟩, hH3, (hu.trans (hu2.mono (fun _ _ e => e.elim))).trans (hu3.mono (fun _ _ e => ?_))⟩
          · rw [← hpe] at hlt ⊢
            exact up_step ys gk hgl hY.out.2.2 hpos hlt
          · rw [HY.out] at e
            exact e
      | false =>
        go_wp2
        go_end0
        exact ⟨rfl, ys, hY.out.2.1, up_end ys gk hY.out.2.2 (Or.inr (by rw [HP.out]; have := of_decide_eq_false HB.out; omega)), hH2, hu.trans (hu2.mono (fun _ _ e => e.elim))⟩
end Go.Proofs.Ytaicemjckagcaaa

/- Orders: heap.down. -/
namespace Go.Proofs.Ytaicemjckagcaaa
set_option linter.unusedVariables false
open Go.RowKit
/-- the same from a place on -/
def SameFrom (ys xs : List Int) (n : Nat) : Prop := ∀ k, n ≤ k → ys.getD k 0 = xs.getD k 0
/-- all but at one place -/
def DownI (xs : List Int) (lo n i : Nat) : Prop :=
  (∀ k, 1 ≤ k → k < n → lo ≤ (k - 1) / 2 → (k - 1) / 2 ≠ i → xs.getD ((k - 1) / 2) 0 ≤ xs.getD k 0) ∧ (∀ k, 1 ≤ k → k < n → (k - 1) / 2 = i → 1 ≤ i → lo ≤ (i - 1) / 2 → xs.getD ((i - 1) / 2) 0 ≤ xs.getD k 0)
theorem down_end (xs : List Int) (lo n i : Nat) (h : DownI xs lo n i) (hs : ∀ k, 1 ≤ k → k < n → (k - 1) / 2 = i → xs.getD i 0 ≤ xs.getD k 0) : HpF xs lo n := by
  intro k h1 h2 h3
  by_cases e : (k - 1) / 2 = i
  · rw [e]; exact hs k h1 h2 e
  · exact h.1 k h1 h2 h3 e
theorem down_step (xs : List Int) (lo n i j : Nat) (hn : n ≤ xs.length) (hj : j < n) (h : DownI xs lo n i) (h1j : 1 ≤ j) (hij : (j - 1) / 2 = i) (hlt : xs.getD j 0 < xs.getD i 0) (hle : ∀ k, 1 ≤ k → k < n → (k - 1) / 2 = i → xs.getD j 0 ≤ xs.getD k 0) : DownI (swapL xs i j) lo n j := by
  have hi : i < xs.length := by omega
  have hjl : j < xs.length := by omega
  have hne : i ≠ j := by omega
  constructor
  · intro k h1 h2 h3 h4
    rw [swapL_get _ _ _ _ hi hjl, swapL_get _ _ _ _ hi hjl, if_neg h4]
    by_cases e : k = j
    · subst e
      rw [if_pos hij, if_pos rfl]; omega
    · rw [if_neg e]
      by_cases e2 : (k - 1) / 2 = i
      · have e3 : k ≠ i := by omega
        rw [if_pos e2, if_neg e3]
        exact hle k h1 h2 e2
      · rw [if_neg e2]
        by_cases e3 : k = i
        · subst e3
          rw [if_pos rfl]
          exact h.2 j h1j hj hij h1 h3
        · rw [if_neg e3]
          exact h.1 k h1 h2 h3 e2
  · intro k h1 h2 h3 h4 h5
    rw [swapL_get _ _ _ _ hi hjl, swapL_get _ _ _ _ hi hjl, hij]
    have e1 : k ≠ j := by omega
    have e2 : k ≠ i := by omega
    rw [if_neg hne, if_pos rfl, if_neg e1, if_neg e2]
    have := h.1 k h1 h2 (by omega) (by omega)
    rw [h3] at this
    exact this
set_option maxRecDepth 100000 in
set_option maxHeartbeats 4000000 in
theorem hdown (w : World) (base hb : Nat) (A : Option Addr) (xs : List Int) (c : Nat) (lo n : Nat) (hn : n ≤ xs.length) (hlo : lo ≤ 1000000) (hl : xs.length ≤ 1000000) (h : HeapM w base hb A xs c) (hD : DownI xs lo n lo) :
    Calls Try.prog 119 #[hif hb, .int .i64 (lo : Int), .int .i64 (n : Int)] w fun e w' => ∃ b ys, e = .returned (.bool b) ∧ ys.Perm xs ∧ HpF ys lo n ∧ SameFrom ys xs n ∧ HeapM w' base hb A ys c ∧ Upd (Own (.slice A xs.length c)) w w' := by
  unfold hif
  go_enter Try.func119, Try.ntmps119
  go_wp2
  go_loopg [7] n (fun gk vi wr => ∃ i ys, vi = .int .i64 (i : Nat) ∧ gk + i = lo + n ∧ lo ≤ i ∧ (i = lo ∨ i < n) ∧ Hid (ys.length = xs.length ∧ ys.Perm xs ∧ DownI ys lo n i ∧ SameFrom ys xs n) ∧ HeapM wr base hb A ys c ∧ Upd (Own (.slice A xs.length c)) w wr)
  case atStart => exact ⟨lo, xs, rfl, by omega, Nat.le_refl _, Or.inl rfl, Lib.hid ⟨rfl, List.Perm.refl _, hD, fun _ _ => rfl⟩, h, Upd.refl _ _⟩
  case round =>
    obtain ⟨i, ys, rfl, hgk, hloi, hin, HY, hH, hu⟩ := hrel
    obtain ⟨p, hp⟩ : ∃ p : Nat, p = 2 * i + 1 := ⟨_, rfl⟩
    obtain ⟨q, hq⟩ : ∃ q : Nat, q = 2 * i + 2 := ⟨_, rfl⟩
    have ep : Hid ((p : Int) = 2 * (i : Int) + 1) := Lib.hid (by omega)
    have eq : Hid ((q : Int) = 2 * (i : Int) + 1 + 1) := Lib.hid (by omega)
    have i1 : (0 : Int) ≤ (i : Int) := Int.natCast_nonneg _
    have i2 : (i : Int) ≤ 1000000 := by omega
    have HU := Lib.hid hu
    clear hu
    by_cases hpn : p < n
    · have c1 : 2 * (i : Int) + 1 < (n : Int) := by omega
      by_cases hqn : q < n
      · have c2 : 2 * (i : Int) + 1 + 1 < (n : Int) := by omega
        obtain ⟨b1, hb1⟩ : ∃ b, decide (ys.getD q 0 < ys.getD p 0) = b := ⟨_, rfl⟩
        have HL := Lib.hid (hH.less (by have := HY.out.1; omega) (i := q) (j := p) (by have := HY.out.1; omega) (by have := HY.out.1; omega))
        rw [hb1, ep.out, eq.out] at HL
        have HB1 := Lib.hid hb1
        have hm := hH.mLess
        clear hb1
        go_wp2_with fail
        refine Calls.mono HL.out ?_
        rintro e w2 ⟨rfl, hH2, hu2⟩
        have HU2 := Lib.hid (HU.out.trans (show Upd (Own (.slice A xs.length c)) wr w2 from hu2.mono (fun _ _ e => e.elim)))
        cases b1 with
        | true =>
          have HLE : Hid (∀ k, 1 ≤ k → k < n → (k - 1) / 2 = i → ys.getD q 0 ≤ ys.getD k 0) := Lib.hid (fun k h1 h2 h3 => by
            have := of_decide_eq_true HB1.out
            rcases (show k = p ∨ k = q by omega) with rfl | rfl <;> omega)
          obtain ⟨b, hb⟩ : ∃ b, decide (ys.getD q 0 < ys.getD i 0) = b := ⟨_, rfl⟩
          have HL2 := Lib.hid (hH2.less (by have := HY.out.1; omega) (i := q) (j := i) (by have := HY.out.1; omega) (by have := HY.out.1; omega))
          rw [hb, eq.out] at HL2
          have HB := Lib.hid hb
          have hm2 := hH2.mLess
          clear hb
          go_wp2_with fail
          refine Calls.mono HL2.out ?_
          rintro e w3 ⟨rfl, hH3, hu3⟩
          have HU3 := Lib.hid (HU2.out.trans (show Upd (Own (.slice A xs.length c)) _ w3 from hu3.mono (fun _ _ e => e.elim)))
          cases b with
          | false =>
            go_wp2
            go_ret
            exact ⟨_, ys, rfl, HY.out.2.1, down_end ys lo n i HY.out.2.2.1 (fun k h1 h2 h3 => by have a1 := HLE.out k h1 h2 h3; have := of_decide_eq_false HB.out; omega), HY.out.2.2.2, hH3, HU3.out⟩
          | true =>
            have HS := Lib.hid (hH3.swap (by have := HY.out.1; omega) (i := i) (j := q) (by have := HY.out.1; omega) (by have := HY.out.1; omega))
            rw [eq.out] at HS
            have hm3 := hH3.mSwap
            go_wp2_with fail
            refine Calls.mono HS.out ?_
            rintro e w4 ⟨rfl, hH4, hu4⟩
            go_wp2
            go_roundg (lo + n - q)
            case measure => omega
            case rel =>
              have hlt := of_decide_eq_true HB.out
              have hyl := HY.out.1
              refine ⟨q, swapL ys i q, by rw [eq.out], by omega, by omega, Or.inr (by omega), Lib.hid ⟨by rw [swapL_len]; exact hyl, (swapL_perm ys i q (by omega) (by omega)).trans HY.out.2.1, down_step ys lo n i q (by omega) (by omega) HY.out.2.2.1 (by omega) (by omega) hlt HLE.out, fun k hk => ?_⟩, hH4, HU3.out.trans (hu4.mono (fun _ _ e => ?_))⟩
              · rw [swapL_get _ _ _ _ (by omega) (by omega), if_neg (by omega), if_neg (by omega)]
                exact HY.out.2.2.2 k hk
              · rw [hyl] at e
                exact e
        | false =>
          have HLE : Hid (∀ k, 1 ≤ k → k < n → (k - 1) / 2 = i → ys.getD p 0 ≤ ys.getD k 0) := Lib.hid (fun k h1 h2 h3 => by
            have := of_decide_eq_false HB1.out
            rcases (show k = p ∨ k = q by omega) with rfl | rfl <;> omega)
          obtain ⟨b, hb⟩ : ∃ b, decide (ys.getD p 0 < ys.getD i 0) = b := ⟨_, rfl⟩
          have HL2 := Lib.hid (hH2.less (by have := HY.out.1; omega) (i := p) (j := i) (by have := HY.out.1; omega) (by have := HY.out.1; omega))
          rw [hb, ep.out] at HL2
          have HB := Lib.hid hb
          have hm2 := hH2.mLess
          clear hb
          go_wp2_with fail
          refine Calls.mono HL2.out ?_
          rintro e w3 ⟨rfl, hH3, hu3⟩
          have HU3 := Lib.hid (HU2.out.trans (show Upd (Own (.slice A xs.length c)) _ w3 from hu3.mono (fun _ _ e => e.elim)))
          cases b with
          | false =>
            go_wp2
            go_ret
            exact ⟨_, ys, rfl, HY.out.2.1, down_end ys lo n i HY.out.2.2.1 (fun k h1 h2 h3 => by have a1 := HLE.out k h1 h2 h3; have := of_decide_eq_false HB.out; omega), HY.out.2.2.2, hH3, HU3.out⟩
          | true =>
            have HS := Lib.hid (hH3.swap (by have := HY.out.1; omega) (i := i) (j := p) (by have := HY.out.1; omega) (by have := HY.out.1; omega))
            rw [ep.out] at HS
            have hm3 := hH3.mSwap
            go_wp2_with fail
            refine Calls.mono HS.out ?_
            rintro e w4 ⟨rfl, hH4, hu4⟩
            go_wp2
            go_roundg (lo + n - p)
            case measure => omega
            case rel =>
              have hlt := of_decide_eq_true HB.out
              have hyl := HY.out.1
              refine ⟨p, swapL ys i p, by rw [ep.out], by omega, by omega, Or.inr (by omega), Lib.hid ⟨by rw [swapL_len]; exact hyl, (swapL_perm ys i p (by omega) (by omega)).trans HY.out.2.1, down_step ys lo n i p (by omega) (by omega) HY.out.2.2.1 (by omega) (by omega) hlt HLE.out, fun k hk => ?_⟩, hH4, HU3.out.trans (hu4.mono (fun _ _ e => ?_))⟩
              · rw [swapL_get _ _ _ _ (by omega) (by omega), if_neg (by omega), if_neg (by omega)]
                exact HY.out.2.2.2 k hk
              · rw [hyl] at e
                exact e
      · have c2 : ¬ 2 * (i : Int) + 1 + 1 < (n : Int) := by omega
        have HLE : Hid (∀ k, 1 ≤ k → k < n → (k - 1) / 2 = i → ys.getD p 0 ≤ ys.getD k 0) := Lib.hid (fun k h1 h2 h3 => by
          obtain rfl : k = p := by omega
          omega)
        obtain ⟨b, hb⟩ : ∃ b, decide (ys.getD p 0 < ys.getD i 0) = b := ⟨_, rfl⟩
        have HL2 := Lib.hid (hH.less (by have := HY.out.1; omega) (i := p) (j := i) (by have := HY.out.1; omega) (by have := HY.out.1; omega))
        rw [hb, ep.out] at HL2
        have HB := Lib.hid hb
        have hm2 := hH.mLess
        clear hb
        go_wp2_with fail
        refine Calls.mono HL2.out ?_
        rintro e w3 ⟨rfl, hH3, hu3⟩
        have HU3 := Lib.hid (HU.out.trans (show Upd (Own (.slice A xs.length c)) _ w3 from hu3.mono (fun _ _ e => e.elim)))
        cases b with
        | false =>
          go_wp2
          go_ret
          exact ⟨_, ys, rfl, HY.out.2.1, down_end ys lo n i HY.out.2.2.1 (fun k h1 h2 h3 => by have a1 := HLE.out k h1 h2 h3; have := of_decide_eq_false HB.out; omega), HY.out.2.2.2, hH3, HU3.out⟩
        | true =>
          have HS := Lib.hid (hH3.swap (by have := HY.out.1; omega) (i := i) (j := p) (by have := HY.out.1; omega) (by have := HY.out.1; omega))
          rw [ep.out] at HS
          have hm3 := hH3.mSwap
          go_wp2_with fail
          refine Calls.mono HS.out ?_
          rintro e w4 ⟨rfl, hH4, hu4⟩
          go_wp2
          go_roundg (lo + n - p)
          case measure => omega
          case rel =>
            have hlt := of_decide_eq_true HB.out
            have hyl := HY.out.1
            refine ⟨p, swapL ys i p, by rw [ep.out], by omega, by omega, Or.inr (by omega), Lib.hid ⟨by rw [swapL_len]; exact hyl, (swapL_perm ys i p (by omega) (by omega)).trans HY.out.2.1, down_step ys lo n i p (by omega) (by omega) HY.out.2.2.1 (by omega) (by omega) hlt HLE.out, fun k hk => ?_⟩, hH4, HU3.out.trans (hu4.mono (fun _ _ e => ?_))⟩
            · rw [swapL_get _ _ _ _ (by omega) (by omega), if_neg (by omega), if_neg (by omega)]
              exact HY.out.2.2.2 k hk
            · rw [hyl] at e
              exact e
    · have c1 : ¬ 2 * (i : Int) + 1 < (n : Int) := by omega
      go_wp2
      go_ret
      refine ⟨?_, ys, HY.out.2.1, down_end ys lo n i HY.out.2.2.1 (fun k h1 h2 h3 => by omega), HY.out.2.2.2, hH, HU.out⟩
      show Ending.returned (.bool (decide (lo < i))) = _ ∨ Ending.returned (.bool (decide (lo < i))) = _
      cases decide (lo < i) <;> simp
end Go.Proofs.Ytaicemjckagcaaa
