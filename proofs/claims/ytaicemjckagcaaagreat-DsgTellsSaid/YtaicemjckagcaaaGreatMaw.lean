/- The document on histories: what is there, orders, writers. -/
import Derived.Test.YtaicemjckagcaaaGreatMan
import Derived.Test.YtaicemjckagcaaaGreatMav
namespace Go.Proofs.YtaicemjckagcaaaGreat
set_option linter.unusedVariables false
open Go.RowKit
/-- is a version there, by the document -/
def hasR (txs : List HTx) (v : Ver) : Bool :=
  if v.tx = 0 ∧ v.nth = 0 then idB v.key
  else match findT txs v.tx with
    | some t => decide (1 ≤ v.nth) && decide (v.nth ≤ (writesN t.ops v.key : Int))
    | none => false
section
variable {F : Nat → Prop} {w : World} {txs : List HTx} {ords : List HOrd} {A : Option Addr} {c : Nat} {B : Option Addr} {d : Nat} {i : Int}
theorem rfind_none (H : Hist.lies F w ⟨txs, ords, A, c, B, d⟩) (hf : findT txs i = none) : Calls Tryz.prog 66 #[.agg #[.slice A txs.length c, .slice B ords.length d], .int .i64 i] w fun e w' =>
    e = .returned (.tuple #[.agg #[.int .i64 0, .bool false, .slice none 0 0], .bool false]) ∧ Upd No w w' := by
  have h := rfind F w ⟨txs, ords, A, c, B, d⟩ i H
  refine h.mono ?_
  intro e w' hq
  unfold Found at hq
  rw [show findT (Hist.txs ⟨txs, ords, A, c, B, d⟩) i = none from hf] at hq
  exact hq
theorem rfind_some {t : HTx} (H : Hist.lies F w ⟨txs, ords, A, c, B, d⟩) (hf : findT txs i = some t) : Calls Tryz.prog 66 #[.agg #[.slice A txs.length c, .slice B ords.length d], .int .i64 i] w fun e w' =>
    ∃ A' c', e = .returned (.tuple #[.agg #[.int .i64 t.id, .bool t.done, .slice A' t.ops.length c'], .bool true]) ∧ t.ops.length ≤ c' ∧ HOps F w' A' t.ops ∧ Upd No w w' := by
  have h := rfind F w ⟨txs, ords, A, c, B, d⟩ i H
  refine h.mono ?_
  intro e w' hq
  unfold Found at hq
  rw [show findT (Hist.txs ⟨txs, ords, A, c, B, d⟩) i = some t from hf] at hq
  obtain ⟨⟨A', c', h1, h2, h3⟩, h4⟩ := hq
  exact ⟨A', c', h1, h2, h3, h4⟩
end
theorem hasR_none {txs : List HTx} {v : Ver} (h : ¬ (v.tx = 0 ∧ v.nth = 0)) (hf : findT txs v.tx = none) : hasR txs v = false := by unfold hasR; rw [if_neg h, hf]
theorem hasR_some {txs : List HTx} {v : Ver} {t : HTx} (h : ¬ (v.tx = 0 ∧ v.nth = 0)) (hf : findT txs v.tx = some t) : hasR txs v = (decide (1 ≤ v.nth) && decide (v.nth ≤ (writesN t.ops v.key : Int))) := by unfold hasR; rw [if_neg h, hf]
theorem find_mem {txs : List HTx} {i : Int} {t : HTx} (h : findT txs i = some t) : t ∈ txs := List.mem_of_find?_eq_some h
set_option maxRecDepth 100000 in
set_option maxHeartbeats 1000000 in
theorem rHas (F : Nat → Prop) (w : World) (txs : List HTx) (ords : List HOrd) (A : Option Addr) (c : Nat) (B : Option Addr) (d : Nat) (v : Ver) (H : Hist.lies F w ⟨txs, ords, A, c, B, d⟩) :
    Calls Tryz.prog 124 #[.agg #[.slice A txs.length c, .slice B ords.length d], .agg v.cells.toArray] w fun e w' => e = .returned (.bool (hasR txs v)) ∧ Upd No w w' := by
  obtain ⟨tx, key, nth⟩ := v
  unfold Ver.cells
  have u0 := ((Upd.refl No w).alloc (.cells #[.slice A txs.length c, .slice B ords.length d] 25)).alloc (.cells #[.int .i64 tx, .int .i64 key, .int .i64 nth] 42)
  have b1 := Blk.new (w.alloc (.cells #[.slice A txs.length c, .slice B ords.length d] 25)) 42 [.int .i64 tx, .int .i64 key, .int .i64 nth]
  simp only [World.size_alloc] at b1
  have B1 := Lib.hid b1
  have U0 := Lib.hid u0
  have HH := Lib.hid (H.upd u0 (fun _ _ => id))
  clear b1 u0
  by_cases h0 : tx = 0 ∧ nth = 0
  · have HV := Lib.hid (show hasR txs ⟨tx, key, nth⟩ = idB key by unfold hasR; rw [if_pos h0])
    obtain ⟨rfl, rfl⟩ := h0
    obtain ⟨b, hb⟩ : ∃ b, idB key = b := ⟨_, rfl⟩
    rw [hb] at HV
    have Hb := Lib.hid hb
    clear hb
    go_enter Tryz.func124, Tryz.ntmps124
    go_wp2_with fail
    refine (ridV Hb.out).mono ?_
    rintro e w1 ⟨rfl, rfl⟩
    go_wp2
    go_ret
    exact ⟨by rw [HV.out]; rfl, U0.out⟩
  · cases hf : findT txs tx with
    | none =>
      have HV := Lib.hid (hasR_none (v := ⟨tx, key, nth⟩) h0 hf)
      have HF := Lib.hid hf
      by_cases htx : tx = 0
      · have hb1 : (tx == 0) = true := by simpa using htx
        have hb2 : (nth == 0) = false := by simpa using fun e => h0 ⟨htx, e⟩
        clear hf h0 htx
        go_enter Tryz.func124, Tryz.ntmps124
        go_wp2_with fail
        refine (rfind_none HH.out HF.out).mono ?_
        rintro e w1 ⟨rfl, hu1⟩
        have uT := hu1.alloc (.cells #[.int .i64 0, .bool false, .slice none 0 0] 47)
        have hT : ∀ W, Upd No (w1.alloc (.cells #[.int .i64 0, .bool false, .slice none 0 0] 47)) W → True := fun W hW => trivial
        clear hu1
        go_wp2
        refine wp_region_noPanic ?_
        refine wp_region_held_drew (S := (fun w' => Upd No (w1.alloc (.cells #[.int .i64 0, .bool false, .slice none 0 0] 47)) w')) (by kernel_rfl) ?_ (fun hHeld => ?_)
        · (first | exact (Upd.refl No _).drew | exact hHeld.trans hu3)
        refine wpT 0 ⟨some 25, .move (.tmp 6), 4, "ref.go:41", #[], none⟩ ?_ (.inl ⟨by rfl, ?_⟩) ?_
        rotate_left
        · (intro W hSw; (try dsimp only at hSw); go_simp; try (with_reducible rfl))
        try simp only [Act.put]
        try simp only [List.setIfInBounds_toArray]
        try simp only [List.set_cons_succ]
        try simp only [List.set_cons_zero]
        refine wpT 1 ⟨some 26, .move (.tmp 25), 4, "ref.go:41", #[⟨0, .data⟩], none⟩ ?_ (.inl ⟨by rfl, ?_⟩) ?_
        rotate_left
        · (intro W hSw; (try dsimp only at hSw); go_simp; try (with_reducible rfl))
        try simp only [Act.put]
        try simp only [List.setIfInBounds_toArray]
        try simp only [List.set_cons_succ]
        try simp only [List.set_cons_zero]
        refine wpT 2 ⟨some 27, .fieldAddr 42 (.tmp 3) 2, 0, "ref.go:41", #[⟨1, .guard⟩], some (1, true)⟩ undef (.inr ⟨by rfl, rfl⟩) ?_
        try simp only [Act.put]
        try simp only [List.setIfInBounds_toArray]
        try simp only [List.set_cons_succ]
        try simp only [List.set_cons_zero]
        refine wpT 3 ⟨some 28, .load 3 (.tmp 27), 3, "ref.go:41", #[⟨2, .data⟩, ⟨1, .guard⟩], some (1, true)⟩ undef (.inr ⟨by rfl, rfl⟩) ?_
        try simp only [Act.put]
        try simp only [List.setIfInBounds_toArray]
        try simp only [List.set_cons_succ]
        try simp only [List.set_cons_zero]
        refine wpT 4 ⟨some 29, .binOp .geq 3 (.tmp 28) (.const (.int .i64 1)) 3, 4, "ref.go:41", #[⟨3, .data⟩, ⟨1, .guard⟩], some (1, true)⟩ undef (.inr ⟨by rfl, rfl⟩) ?_
        try simp only [Act.put]
        try simp only [List.setIfInBounds_toArray]
        try simp only [List.set_cons_succ]
        try simp only [List.set_cons_zero]
        refine wpT 5 ⟨some 30, .pick (.tmp 26) (.tmp 29) (.const (.bool false)), 4, "ref.go:41", #[⟨1, .data⟩, ⟨4, .data⟩], none⟩ ?_ (.inl ⟨by rfl, ?_⟩) ?_
        rotate_left
        · (intro W hSw; (try dsimp only at hSw); go_simp; try (with_reducible rfl))
        try simp only [Act.put]
        try simp only [List.setIfInBounds_toArray]
        try simp only [List.set_cons_succ]
        try simp only [List.set_cons_zero]
        refine wpT 6 ⟨some 31, .move (.tmp 30), 4, "ref.go:41", #[⟨5, .data⟩, ⟨1, .chain⟩], none⟩ ?_ (.inl ⟨by rfl, ?_⟩) ?_
        rotate_left
        · (intro W hSw; (try dsimp only at hSw); go_simp; try (with_reducible rfl))
        try simp only [Act.put]
        try simp only [List.setIfInBounds_toArray]
        try simp only [List.set_cons_succ]
        try simp only [List.set_cons_zero]
        refine wpT 7 ⟨some 32, .fieldAddr 47 (.tmp 5) 2, 0, "ref.go:41", #[⟨6, .guard⟩], some (6, true)⟩ undef (.inr ⟨by rfl, rfl⟩) ?_
        try simp only [Act.put]
        try simp only [List.setIfInBounds_toArray]
        try simp only [List.set_cons_succ]
        try simp only [List.set_cons_zero]
        refine wpT 8 ⟨some 33, .load 45 (.tmp 32), 45, "ref.go:41", #[⟨7, .data⟩, ⟨6, .guard⟩], some (6, true)⟩ undef (.inr ⟨by rfl, rfl⟩) ?_
        try simp only [Act.put]
        try simp only [List.setIfInBounds_toArray]
        try simp only [List.set_cons_succ]
        try simp only [List.set_cons_zero]
        refine wpT 9 ⟨some 34, .fieldAddr 42 (.tmp 3) 1, 0, "ref.go:41", #[⟨6, .guard⟩], some (6, true)⟩ undef (.inr ⟨by rfl, rfl⟩) ?_
        try simp only [Act.put]
        try simp only [List.setIfInBounds_toArray]
        try simp only [List.set_cons_succ]
        try simp only [List.set_cons_zero]
        refine wpT 10 ⟨some 35, .load 3 (.tmp 34), 3, "ref.go:41", #[⟨9, .data⟩, ⟨6, .guard⟩], some (6, true)⟩ undef (.inr ⟨by rfl, rfl⟩) ?_
        try simp only [Act.put]
        try simp only [List.setIfInBounds_toArray]
        try simp only [List.set_cons_succ]
        try simp only [List.set_cons_zero]
        refine wpT 12 ⟨some 37, .fieldAddr 42 (.tmp 3) 2, 0, "ref.go:41", #[⟨6, .guard⟩], some (6, true)⟩ undef (.inr ⟨by rfl, rfl⟩) ?_
        try simp only [Act.put]
        try simp only [List.setIfInBounds_toArray]
        try simp only [List.set_cons_succ]
        try simp only [List.set_cons_zero]
        refine wpT 13 ⟨some 38, .load 3 (.tmp 37), 3, "ref.go:41", #[⟨12, .data⟩, ⟨6, .guard⟩], some (6, true)⟩ undef (.inr ⟨by rfl, rfl⟩) ?_
        try simp only [Act.put]
        try simp only [List.setIfInBounds_toArray]
        try simp only [List.set_cons_succ]
        try simp only [List.set_cons_zero]
        refine wpAnyH_ready (rs := [11]) (by kernel_rfl) (by simp) ?_
        refine AllReadyH.cons (o := ⟨some 36, .call { callee := .value (.func 57), args := #[.tmp 33, .tmp 35], argTypes := #[45, 3] }, 3, "ref.go:41", #[⟨8, .data⟩, ⟨10, .data⟩, ⟨6, .chain⟩, ⟨6, .guard⟩], some (6, true)⟩) rfl (fun K hK => ?_) AllReadyH.nil
        go_simp
        refine hK.out _ _ ?_ (fun hHeld => ?_)
        · exact hHeld
        clear hK K
        try simp only [Act.put]
        try simp only [List.setIfInBounds_toArray]
        try simp only [List.set_cons_succ]
        try simp only [List.set_cons_zero]
        refine wpT 14 ⟨some 39, .binOp .geq 3 (.tmp 36) (.tmp 38) 3, 4, "ref.go:41", #[⟨11, .data⟩, ⟨13, .data⟩, ⟨6, .guard⟩], some (6, true)⟩ undef (.inr ⟨by rfl, rfl⟩) ?_
        try simp only [Act.put]
        try simp only [List.setIfInBounds_toArray]
        try simp only [List.set_cons_succ]
        try simp only [List.set_cons_zero]
        refine wpT 15 ⟨some 40, .pick (.tmp 31) (.tmp 39) (.const (.bool false)), 4, "ref.go:41", #[⟨6, .data⟩, ⟨14, .data⟩], none⟩ ?_ (.inl ⟨by rfl, ?_⟩) ?_
        rotate_left
        · (intro W hSw; (try dsimp only at hSw); go_simp; try (with_reducible rfl))
        try simp only [Act.put]
        try simp only [List.setIfInBounds_toArray]
        try simp only [List.set_cons_succ]
        try simp only [List.set_cons_zero]
        refine wpT 16 ⟨some 4, .assign (.tmp 40), 4, "ref.go:41", #[⟨15, .data⟩, ⟨11, .chain⟩, ⟨0, .phase⟩, ⟨1, .phase⟩, ⟨2, .phase⟩, ⟨3, .phase⟩, ⟨4, .phase⟩, ⟨5, .phase⟩, ⟨6, .phase⟩, ⟨7, .phase⟩, ⟨8, .phase⟩, ⟨9, .phase⟩, ⟨10, .phase⟩, ⟨11, .phase⟩, ⟨12, .phase⟩, ⟨13, .phase⟩, ⟨14, .phase⟩, ⟨15, .phase⟩], none⟩ ?_ (.inl ⟨by rfl, ?_⟩) ?_
        rotate_left
        · (intro W hSw; (try dsimp only at hSw); go_simp; try (with_reducible rfl))
        try simp only [Act.put]
        try simp only [List.setIfInBounds_toArray]
        try simp only [List.set_cons_succ]
        try simp only [List.set_cons_zero]
        refine wpAnyH_done (by kernel_rfl) (NoPanic.normal ?_) _
        have HU := Lib.hid (U0.out.trans (uT.trans hHeld))
        clear hHeld
        go_wp2
        go_ret
        exact ⟨by rw [HV.out]; rfl, HU.out⟩
      · have hb1 : (tx == 0) = false := by simpa using htx
        clear hf h0 htx
        go_enter Tryz.func124, Tryz.ntmps124
        go_wp2_with fail
        refine (rfind_none HH.out HF.out).mono ?_
        rintro e w1 ⟨rfl, hu1⟩
        have uT := hu1.alloc (.cells #[.int .i64 0, .bool false, .slice none 0 0] 47)
        have hT : ∀ W, Upd No (w1.alloc (.cells #[.int .i64 0, .bool false, .slice none 0 0] 47)) W → True := fun W hW => trivial
        clear hu1
        go_wp2
        refine wp_region_noPanic ?_
        refine wp_region_held_drew (S := (fun w' => Upd No (w1.alloc (.cells #[.int .i64 0, .bool false, .slice none 0 0] 47)) w')) (by kernel_rfl) ?_ (fun hHeld => ?_)
        · (first | exact (Upd.refl No _).drew | exact hHeld.trans hu3)
        refine wpT 0 ⟨some 25, .move (.tmp 6), 4, "ref.go:41", #[], none⟩ ?_ (.inl ⟨by rfl, ?_⟩) ?_
        rotate_left
        · (intro W hSw; (try dsimp only at hSw); go_simp; try (with_reducible rfl))
        try simp only [Act.put]
        try simp only [List.setIfInBounds_toArray]
        try simp only [List.set_cons_succ]
        try simp only [List.set_cons_zero]
        refine wpT 1 ⟨some 26, .move (.tmp 25), 4, "ref.go:41", #[⟨0, .data⟩], none⟩ ?_ (.inl ⟨by rfl, ?_⟩) ?_
        rotate_left
        · (intro W hSw; (try dsimp only at hSw); go_simp; try (with_reducible rfl))
        try simp only [Act.put]
        try simp only [List.setIfInBounds_toArray]
        try simp only [List.set_cons_succ]
        try simp only [List.set_cons_zero]
        refine wpT 2 ⟨some 27, .fieldAddr 42 (.tmp 3) 2, 0, "ref.go:41", #[⟨1, .guard⟩], some (1, true)⟩ undef (.inr ⟨by rfl, rfl⟩) ?_
        try simp only [Act.put]
        try simp only [List.setIfInBounds_toArray]
        try simp only [List.set_cons_succ]
        try simp only [List.set_cons_zero]
        refine wpT 3 ⟨some 28, .load 3 (.tmp 27), 3, "ref.go:41", #[⟨2, .data⟩, ⟨1, .guard⟩], some (1, true)⟩ undef (.inr ⟨by rfl, rfl⟩) ?_
        try simp only [Act.put]
        try simp only [List.setIfInBounds_toArray]
        try simp only [List.set_cons_succ]
        try simp only [List.set_cons_zero]
        refine wpT 4 ⟨some 29, .binOp .geq 3 (.tmp 28) (.const (.int .i64 1)) 3, 4, "ref.go:41", #[⟨3, .data⟩, ⟨1, .guard⟩], some (1, true)⟩ undef (.inr ⟨by rfl, rfl⟩) ?_
        try simp only [Act.put]
        try simp only [List.setIfInBounds_toArray]
        try simp only [List.set_cons_succ]
        try simp only [List.set_cons_zero]
        refine wpT 5 ⟨some 30, .pick (.tmp 26) (.tmp 29) (.const (.bool false)), 4, "ref.go:41", #[⟨1, .data⟩, ⟨4, .data⟩], none⟩ ?_ (.inl ⟨by rfl, ?_⟩) ?_
        rotate_left
        · (intro W hSw; (try dsimp only at hSw); go_simp; try (with_reducible rfl))
        try simp only [Act.put]
        try simp only [List.setIfInBounds_toArray]
        try simp only [List.set_cons_succ]
        try simp only [List.set_cons_zero]
        refine wpT 6 ⟨some 31, .move (.tmp 30), 4, "ref.go:41", #[⟨5, .data⟩, ⟨1, .chain⟩], none⟩ ?_ (.inl ⟨by rfl, ?_⟩) ?_
        rotate_left
        · (intro W hSw; (try dsimp only at hSw); go_simp; try (with_reducible rfl))
        try simp only [Act.put]
        try simp only [List.setIfInBounds_toArray]
        try simp only [List.set_cons_succ]
        try simp only [List.set_cons_zero]
        refine wpT 7 ⟨some 32, .fieldAddr 47 (.tmp 5) 2, 0, "ref.go:41", #[⟨6, .guard⟩], some (6, true)⟩ undef (.inr ⟨by rfl, rfl⟩) ?_
        try simp only [Act.put]
        try simp only [List.setIfInBounds_toArray]
        try simp only [List.set_cons_succ]
        try simp only [List.set_cons_zero]
        refine wpT 8 ⟨some 33, .load 45 (.tmp 32), 45, "ref.go:41", #[⟨7, .data⟩, ⟨6, .guard⟩], some (6, true)⟩ undef (.inr ⟨by rfl, rfl⟩) ?_
        try simp only [Act.put]
        try simp only [List.setIfInBounds_toArray]
        try simp only [List.set_cons_succ]
        try simp only [List.set_cons_zero]
        refine wpT 9 ⟨some 34, .fieldAddr 42 (.tmp 3) 1, 0, "ref.go:41", #[⟨6, .guard⟩], some (6, true)⟩ undef (.inr ⟨by rfl, rfl⟩) ?_
        try simp only [Act.put]
        try simp only [List.setIfInBounds_toArray]
        try simp only [List.set_cons_succ]
        try simp only [List.set_cons_zero]
        refine wpT 10 ⟨some 35, .load 3 (.tmp 34), 3, "ref.go:41", #[⟨9, .data⟩, ⟨6, .guard⟩], some (6, true)⟩ undef (.inr ⟨by rfl, rfl⟩) ?_
        try simp only [Act.put]
        try simp only [List.setIfInBounds_toArray]
        try simp only [List.set_cons_succ]
        try simp only [List.set_cons_zero]
        refine wpT 12 ⟨some 37, .fieldAddr 42 (.tmp 3) 2, 0, "ref.go:41", #[⟨6, .guard⟩], some (6, true)⟩ undef (.inr ⟨by rfl, rfl⟩) ?_
        try simp only [Act.put]
        try simp only [List.setIfInBounds_toArray]
        try simp only [List.set_cons_succ]
        try simp only [List.set_cons_zero]
        refine wpT 13 ⟨some 38, .load 3 (.tmp 37), 3, "ref.go:41", #[⟨12, .data⟩, ⟨6, .guard⟩], some (6, true)⟩ undef (.inr ⟨by rfl, rfl⟩) ?_
        try simp only [Act.put]
        try simp only [List.setIfInBounds_toArray]
        try simp only [List.set_cons_succ]
        try simp only [List.set_cons_zero]
        refine wpAnyH_ready (rs := [11]) (by kernel_rfl) (by simp) ?_
        refine AllReadyH.cons (o := ⟨some 36, .call { callee := .value (.func 57), args := #[.tmp 33, .tmp 35], argTypes := #[45, 3] }, 3, "ref.go:41", #[⟨8, .data⟩, ⟨10, .data⟩, ⟨6, .chain⟩, ⟨6, .guard⟩], some (6, true)⟩) rfl (fun K hK => ?_) AllReadyH.nil
        go_simp
        refine hK.out _ _ ?_ (fun hHeld => ?_)
        · exact hHeld
        clear hK K
        try simp only [Act.put]
        try simp only [List.setIfInBounds_toArray]
        try simp only [List.set_cons_succ]
        try simp only [List.set_cons_zero]
        refine wpT 14 ⟨some 39, .binOp .geq 3 (.tmp 36) (.tmp 38) 3, 4, "ref.go:41", #[⟨11, .data⟩, ⟨13, .data⟩, ⟨6, .guard⟩], some (6, true)⟩ undef (.inr ⟨by rfl, rfl⟩) ?_
        try simp only [Act.put]
        try simp only [List.setIfInBounds_toArray]
        try simp only [List.set_cons_succ]
        try simp only [List.set_cons_zero]
        refine wpT 15 ⟨some 40, .pick (.tmp 31) (.tmp 39) (.const (.bool false)), 4, "ref.go:41", #[⟨6, .data⟩, ⟨14, .data⟩], none⟩ ?_ (.inl ⟨by rfl, ?_⟩) ?_
        rotate_left
        · (intro W hSw; (try dsimp only at hSw); go_simp; try (with_reducible rfl))
        try simp only [Act.put]
        try simp only [List.setIfInBounds_toArray]
        try simp only [List.set_cons_succ]
        try simp only [List.set_cons_zero]
        refine wpT 16 ⟨some 4, .assign (.tmp 40), 4, "ref.go:41", #[⟨15, .data⟩, ⟨11, .chain⟩, ⟨0, .phase⟩, ⟨1, .phase⟩, ⟨2, .phase⟩, ⟨3, .phase⟩, ⟨4, .phase⟩, ⟨5, .phase⟩, ⟨6, .phase⟩, ⟨7, .phase⟩, ⟨8, .phase⟩, ⟨9, .phase⟩, ⟨10, .phase⟩, ⟨11, .phase⟩, ⟨12, .phase⟩, ⟨13, .phase⟩, ⟨14, .phase⟩, ⟨15, .phase⟩], none⟩ ?_ (.inl ⟨by rfl, ?_⟩) ?_
        rotate_left
        · (intro W hSw; (try dsimp only at hSw); go_simp; try (with_reducible rfl))
        try simp only [Act.put]
        try simp only [List.setIfInBounds_toArray]
        try simp only [List.set_cons_succ]
        try simp only [List.set_cons_zero]
        refine wpAnyH_done (by kernel_rfl) (NoPanic.normal ?_) _
        have HU := Lib.hid (U0.out.trans (uT.trans hHeld))
        clear hHeld
        go_wp2
        go_ret
        exact ⟨by rw [HV.out]; rfl, HU.out⟩
    | some t =>
      have HV := Lib.hid (hasR_some (v := ⟨tx, key, nth⟩) h0 hf)
      have HF := Lib.hid hf
      have HT := Lib.hid (H.tx t (find_mem hf))
      by_cases htx : tx = 0
      · have hb1 : (tx == 0) = true := by simpa using htx
        have hb2 : (nth == 0) = false := by simpa using fun e => h0 ⟨htx, e⟩
        clear hf h0 htx
        by_cases hn1 : 1 ≤ nth
        · go_enter Tryz.func124, Tryz.ntmps124
          go_wp2_with fail
          refine (rfind_some HH.out HF.out).mono ?_
          rintro e w1 ⟨A1, c1, rfl, hc1, hh1, hu1⟩
          have bT := Blk.new w1 47 [.int .i64 t.id, .bool t.done, .slice A1 t.ops.length c1]
          have uT := hu1.alloc (.cells #[.int .i64 t.id, .bool t.done, .slice A1 t.ops.length c1] 47)
          have hT : ∀ W, Upd No (w1.alloc (.cells #[.int .i64 t.id, .bool t.done, .slice A1 t.ops.length c1] 47)) W → W.cell? ⟨w1.heap.size, 2, none⟩ = some (.slice A1 t.ops.length c1) := fun W hW => (bT.upd hW id).cell 2
          have hT1 : ∀ W, Upd No (w1.alloc (.cells #[.int .i64 t.id, .bool t.done, .slice A1 t.ops.length c1] 47)) W → W.cell? ⟨w.heap.size + 1, 1, none⟩ = some (.int .i64 key) := fun W hW => (B1.out.upd (uT.trans hW) id).cell 1
          have hT2 : ∀ W, Upd No (w1.alloc (.cells #[.int .i64 t.id, .bool t.done, .slice A1 t.ops.length c1] 47)) W → W.cell? ⟨w.heap.size + 1, 2, none⟩ = some (.int .i64 nth) := fun W hW => (B1.out.upd (uT.trans hW) id).cell 2
          have HW := Lib.hid fun W (hW : Upd No (w1.alloc (.cells #[.int .i64 t.id, .bool t.done, .slice A1 t.ops.length c1] 47)) W) => rwrites F W A1 c1 t.ops key (HOps.upd hh1 (((Upd.refl No _).alloc _).trans hW) (fun _ _ => id)) HT.out.2.2.1
          have UT := Lib.hid uT
          clear bT uT hu1 hh1
          go_wp2
          refine wp_region_noPanic ?_
          refine wp_region_held_drew (S := (fun w' => Upd No (w1.alloc (.cells #[.int .i64 t.id, .bool t.done, .slice A1 t.ops.length c1] 47)) w')) (by kernel_rfl) ?_ (fun hHeld => ?_)
          · (first | exact (Upd.refl No _).drew | exact hHeld.trans hu3)
          refine wpT 0 ⟨some 25, .move (.tmp 6), 4, "ref.go:41", #[], none⟩ ?_ (.inl ⟨by rfl, ?_⟩) ?_
          rotate_left
          · (intro W hSw; (try dsimp only at hSw); go_simp; try (with_reducible rfl))
          try simp only [Act.put]
          try simp only [List.setIfInBounds_toArray]
          try simp only [List.set_cons_succ]
          try simp only [List.set_cons_zero]
          refine wpT 1 ⟨some 26, .move (.tmp 25), 4, "ref.go:41", #[⟨0, .data⟩], none⟩ ?_ (.inl ⟨by rfl, ?_⟩) ?_
          rotate_left
          · (intro W hSw; (try dsimp only at hSw); go_simp; try (with_reducible rfl))
          try simp only [Act.put]
          try simp only [List.setIfInBounds_toArray]
          try simp only [List.set_cons_succ]
          try simp only [List.set_cons_zero]
          refine wpT 2 ⟨some 27, .fieldAddr 42 (.tmp 3) 2, 0, "ref.go:41", #[⟨1, .guard⟩], some (1, true)⟩ ?_ (.inl ⟨by rfl, ?_⟩) ?_
          rotate_left
          · (intro W hSw; (try dsimp only at hSw); go_simp; try (with_reducible rfl))
          try simp only [Act.put]
          try simp only [List.setIfInBounds_toArray]
          try simp only [List.set_cons_succ]
          try simp only [List.set_cons_zero]
          refine wpT 3 ⟨some 28, .load 3 (.tmp 27), 3, "ref.go:41", #[⟨2, .data⟩, ⟨1, .guard⟩], some (1, true)⟩ ?_ (.inl ⟨by rfl, ?_⟩) ?_
          rotate_left
          · (intro W hSw; (try dsimp only at hSw); go_simp; try (with_reducible rfl))
          try simp only [Act.put]
          try simp only [List.setIfInBounds_toArray]
          try simp only [List.set_cons_succ]
          try simp only [List.set_cons_zero]
          refine wpT 4 ⟨some 29, .binOp .geq 3 (.tmp 28) (.const (.int .i64 1)) 3, 4, "ref.go:41", #[⟨3, .data⟩, ⟨1, .guard⟩], some (1, true)⟩ ?_ (.inl ⟨by rfl, ?_⟩) ?_
          rotate_left
          · (intro W hSw; (try dsimp only at hSw); go_simp; try (with_reducible rfl))
          try simp only [Act.put]
          try simp only [List.setIfInBounds_toArray]
          try simp only [List.set_cons_succ]
          try simp only [List.set_cons_zero]
          refine wpT 5 ⟨some 30, .pick (.tmp 26) (.tmp 29) (.const (.bool false)), 4, "ref.go:41", #[⟨1, .data⟩, ⟨4, .data⟩], none⟩ ?_ (.inl ⟨by rfl, ?_⟩) ?_
          rotate_left
          · (intro W hSw; (try dsimp only at hSw); go_simp; try (with_reducible rfl))
          try simp only [Act.put]
          try simp only [List.setIfInBounds_toArray]
          try simp only [List.set_cons_succ]
          try simp only [List.set_cons_zero]
          refine wpT 6 ⟨some 31, .move (.tmp 30), 4, "ref.go:41", #[⟨5, .data⟩, ⟨1, .chain⟩], none⟩ ?_ (.inl ⟨by rfl, ?_⟩) ?_
          rotate_left
          · (intro W hSw; (try dsimp only at hSw); go_simp; try (with_reducible rfl))
          try simp only [Act.put]
          try simp only [List.setIfInBounds_toArray]
          try simp only [List.set_cons_succ]
          try simp only [List.set_cons_zero]
          refine wpT 7 ⟨some 32, .fieldAddr 47 (.tmp 5) 2, 0, "ref.go:41", #[⟨6, .guard⟩], some (6, true)⟩ ?_ (.inl ⟨by rfl, ?_⟩) ?_
          rotate_left
          · (intro W hSw; (try dsimp only at hSw); go_simp; try (with_reducible rfl))
          try simp only [Act.put]
          try simp only [List.setIfInBounds_toArray]
          try simp only [List.set_cons_succ]
          try simp only [List.set_cons_zero]
          refine wpT 8 ⟨some 33, .load 45 (.tmp 32), 45, "ref.go:41", #[⟨7, .data⟩, ⟨6, .guard⟩], some (6, true)⟩ ?_ (.inl ⟨by rfl, ?_⟩) ?_
          rotate_left
          · (intro W hSw; (try dsimp only at hSw); go_simp; try (with_reducible rfl))
          try simp only [Act.put]
          try simp only [List.setIfInBounds_toArray]
          try simp only [List.set_cons_succ]
          try simp only [List.set_cons_zero]
          refine wpT 9 ⟨some 34, .fieldAddr 42 (.tmp 3) 1, 0, "ref.go:41", #[⟨6, .guard⟩], some (6, true)⟩ ?_ (.inl ⟨by rfl, ?_⟩) ?_
          rotate_left
          · (intro W hSw; (try dsimp only at hSw); go_simp; try (with_reducible rfl))
          try simp only [Act.put]
          try simp only [List.setIfInBounds_toArray]
          try simp only [List.set_cons_succ]
          try simp only [List.set_cons_zero]
          refine wpT 10 ⟨some 35, .load 3 (.tmp 34), 3, "ref.go:41", #[⟨9, .data⟩, ⟨6, .guard⟩], some (6, true)⟩ ?_ (.inl ⟨by rfl, ?_⟩) ?_
          rotate_left
          · (intro W hSw; (try dsimp only at hSw); go_simp; try (with_reducible rfl))
          try simp only [Act.put]
          try simp only [List.setIfInBounds_toArray]
          try simp only [List.set_cons_succ]
          try simp only [List.set_cons_zero]
          refine wpT 12 ⟨some 37, .fieldAddr 42 (.tmp 3) 2, 0, "ref.go:41", #[⟨6, .guard⟩], some (6, true)⟩ ?_ (.inl ⟨by rfl, ?_⟩) ?_
          rotate_left
          · (intro W hSw; (try dsimp only at hSw); go_simp; try (with_reducible rfl))
          try simp only [Act.put]
          try simp only [List.setIfInBounds_toArray]
          try simp only [List.set_cons_succ]
          try simp only [List.set_cons_zero]
          refine wpT 13 ⟨some 38, .load 3 (.tmp 37), 3, "ref.go:41", #[⟨12, .data⟩, ⟨6, .guard⟩], some (6, true)⟩ ?_ (.inl ⟨by rfl, ?_⟩) ?_
          rotate_left
          · (intro W hSw; (try dsimp only at hSw); go_simp; try (with_reducible rfl))
          try simp only [Act.put]
          try simp only [List.setIfInBounds_toArray]
          try simp only [List.set_cons_succ]
          try simp only [List.set_cons_zero]
          refine wpAnyH_ready (rs := [11]) (by kernel_rfl) (by simp) ?_
          refine AllReadyH.cons (o := ⟨some 36, .call { callee := .value (.func 57), args := #[.tmp 33, .tmp 35], argTypes := #[45, 3] }, 3, "ref.go:41", #[⟨8, .data⟩, ⟨10, .data⟩, ⟨6, .chain⟩, ⟨6, .guard⟩], some (6, true)⟩) rfl (fun K hK => ?_) AllReadyH.nil
          go_simp
          (first
    | (go_at_call 57; refine (HW.out _ hHeld).mono ?_; rintro e w3 ⟨rfl, hu3⟩))
          try (go_wp2_with fail)
          refine hK.out _ _ ?_ (fun hHeld => ?_)
          · (first | exact (Upd.refl No _).drew | exact hHeld.trans hu3)
          clear hK K
          try simp only [Act.put]
          try simp only [List.setIfInBounds_toArray]
          try simp only [List.set_cons_succ]
          try simp only [List.set_cons_zero]
          refine wpT 14 ⟨some 39, .binOp .geq 3 (.tmp 36) (.tmp 38) 3, 4, "ref.go:41", #[⟨11, .data⟩, ⟨13, .data⟩, ⟨6, .guard⟩], some (6, true)⟩ ?_ (.inl ⟨by rfl, ?_⟩) ?_
          rotate_left
          · (intro W hSw; (try dsimp only at hSw); go_simp; try (with_reducible rfl))
          try simp only [Act.put]
          try simp only [List.setIfInBounds_toArray]
          try simp only [List.set_cons_succ]
          try simp only [List.set_cons_zero]
          refine wpT 15 ⟨some 40, .pick (.tmp 31) (.tmp 39) (.const (.bool false)), 4, "ref.go:41", #[⟨6, .data⟩, ⟨14, .data⟩], none⟩ ?_ (.inl ⟨by rfl, ?_⟩) ?_
          rotate_left
          · (intro W hSw; (try dsimp only at hSw); go_simp; try (with_reducible rfl))
          try simp only [Act.put]
          try simp only [List.setIfInBounds_toArray]
          try simp only [List.set_cons_succ]
          try simp only [List.set_cons_zero]
          refine wpT 16 ⟨some 4, .assign (.tmp 40), 4, "ref.go:41", #[⟨15, .data⟩, ⟨11, .chain⟩, ⟨0, .phase⟩, ⟨1, .phase⟩, ⟨2, .phase⟩, ⟨3, .phase⟩, ⟨4, .phase⟩, ⟨5, .phase⟩, ⟨6, .phase⟩, ⟨7, .phase⟩, ⟨8, .phase⟩, ⟨9, .phase⟩, ⟨10, .phase⟩, ⟨11, .phase⟩, ⟨12, .phase⟩, ⟨13, .phase⟩, ⟨14, .phase⟩, ⟨15, .phase⟩], none⟩ ?_ (.inl ⟨by rfl, ?_⟩) ?_
          rotate_left
          · (intro W hSw; (try dsimp only at hSw); go_simp; try (with_reducible rfl))
          try simp only [Act.put]
          try simp only [List.setIfInBounds_toArray]
          try simp only [List.set_cons_succ]
          try simp only [List.set_cons_zero]
          refine wpAnyH_done (by kernel_rfl) (NoPanic.normal ?_) _
          have HU := Lib.hid (U0.out.trans (UT.out.trans hHeld))
          clear hHeld
          go_wp2
          go_ret
          exact ⟨by rw [HV.out, decide_eq_true hn1]; rfl, HU.out⟩
        · have hnb : decide (1 ≤ nth) = false := decide_eq_false hn1
          go_enter Tryz.func124, Tryz.ntmps124
          go_wp2_with fail
          refine (rfind_some HH.out HF.out).mono ?_
          rintro e w1 ⟨A1, c1, rfl, hc1, hh1, hu1⟩
          have bT := Blk.new w1 47 [.int .i64 t.id, .bool t.done, .slice A1 t.ops.length c1]
          have uT := hu1.alloc (.cells #[.int .i64 t.id, .bool t.done, .slice A1 t.ops.length c1] 47)
          have hT : ∀ W, Upd No (w1.alloc (.cells #[.int .i64 t.id, .bool t.done, .slice A1 t.ops.length c1] 47)) W → W.cell? ⟨w1.heap.size, 2, none⟩ = some (.slice A1 t.ops.length c1) := fun W hW => (bT.upd hW id).cell 2
          have hT1 : ∀ W, Upd No (w1.alloc (.cells #[.int .i64 t.id, .bool t.done, .slice A1 t.ops.length c1] 47)) W → W.cell? ⟨w.heap.size + 1, 1, none⟩ = some (.int .i64 key) := fun W hW => (B1.out.upd (uT.trans hW) id).cell 1
          have hT2 : ∀ W, Upd No (w1.alloc (.cells #[.int .i64 t.id, .bool t.done, .slice A1 t.ops.length c1] 47)) W → W.cell? ⟨w.heap.size + 1, 2, none⟩ = some (.int .i64 nth) := fun W hW => (B1.out.upd (uT.trans hW) id).cell 2
          have HW := Lib.hid fun W (hW : Upd No (w1.alloc (.cells #[.int .i64 t.id, .bool t.done, .slice A1 t.ops.length c1] 47)) W) => rwrites F W A1 c1 t.ops key (HOps.upd hh1 (((Upd.refl No _).alloc _).trans hW) (fun _ _ => id)) HT.out.2.2.1
          have UT := Lib.hid uT
          clear bT uT hu1 hh1
          go_wp2
          refine wp_region_noPanic ?_
          refine wp_region_held_drew (S := (fun w' => Upd No (w1.alloc (.cells #[.int .i64 t.id, .bool t.done, .slice A1 t.ops.length c1] 47)) w')) (by kernel_rfl) ?_ (fun hHeld => ?_)
          · (first | exact (Upd.refl No _).drew | exact hHeld.trans hu3)
          refine wpT 0 ⟨some 25, .move (.tmp 6), 4, "ref.go:41", #[], none⟩ ?_ (.inl ⟨by rfl, ?_⟩) ?_
          rotate_left
          · (intro W hSw; (try dsimp only at hSw); go_simp; try (with_reducible rfl))
          try simp only [Act.put]
          try simp only [List.setIfInBounds_toArray]
          try simp only [List.set_cons_succ]
          try simp only [List.set_cons_zero]
          refine wpT 1 ⟨some 26, .move (.tmp 25), 4, "ref.go:41", #[⟨0, .data⟩], none⟩ ?_ (.inl ⟨by rfl, ?_⟩) ?_
          rotate_left
          · (intro W hSw; (try dsimp only at hSw); go_simp; try (with_reducible rfl))
          try simp only [Act.put]
          try simp only [List.setIfInBounds_toArray]
          try simp only [List.set_cons_succ]
          try simp only [List.set_cons_zero]
          refine wpT 2 ⟨some 27, .fieldAddr 42 (.tmp 3) 2, 0, "ref.go:41", #[⟨1, .guard⟩], some (1, true)⟩ ?_ (.inl ⟨by rfl, ?_⟩) ?_
          rotate_left
          · (intro W hSw; (try dsimp only at hSw); go_simp; try (with_reducible rfl))
          try simp only [Act.put]
          try simp only [List.setIfInBounds_toArray]
          try simp only [List.set_cons_succ]
          try simp only [List.set_cons_zero]
          refine wpT 3 ⟨some 28, .load 3 (.tmp 27), 3, "ref.go:41", #[⟨2, .data⟩, ⟨1, .guard⟩], some (1, true)⟩ ?_ (.inl ⟨by rfl, ?_⟩) ?_
          rotate_left
          · (intro W hSw; (try dsimp only at hSw); go_simp; try (with_reducible rfl))
          try simp only [Act.put]
          try simp only [List.setIfInBounds_toArray]
          try simp only [List.set_cons_succ]
          try simp only [List.set_cons_zero]
          refine wpT 4 ⟨some 29, .binOp .geq 3 (.tmp 28) (.const (.int .i64 1)) 3, 4, "ref.go:41", #[⟨3, .data⟩, ⟨1, .guard⟩], some (1, true)⟩ ?_ (.inl ⟨by rfl, ?_⟩) ?_
          rotate_left
          · (intro W hSw; (try dsimp only at hSw); go_simp; try (with_reducible rfl))
          try simp only [Act.put]
          try simp only [List.setIfInBounds_toArray]
          try simp only [List.set_cons_succ]
          try simp only [List.set_cons_zero]
          refine wpT 5 ⟨some 30, .pick (.tmp 26) (.tmp 29) (.const (.bool false)), 4, "ref.go:41", #[⟨1, .data⟩, ⟨4, .data⟩], none⟩ ?_ (.inl ⟨by rfl, ?_⟩) ?_
          rotate_left
          · (intro W hSw; (try dsimp only at hSw); go_simp; try (with_reducible rfl))
          try simp only [Act.put]
          try simp only [List.setIfInBounds_toArray]
          try simp only [List.set_cons_succ]
          try simp only [List.set_cons_zero]
          refine wpT 6 ⟨some 31, .move (.tmp 30), 4, "ref.go:41", #[⟨5, .data⟩, ⟨1, .chain⟩], none⟩ ?_ (.inl ⟨by rfl, ?_⟩) ?_
          rotate_left
          · (intro W hSw; (try dsimp only at hSw); go_simp; try (with_reducible rfl))
          try simp only [Act.put]
          try simp only [List.setIfInBounds_toArray]
          try simp only [List.set_cons_succ]
          try simp only [List.set_cons_zero]
          refine wpT 7 ⟨some 32, .fieldAddr 47 (.tmp 5) 2, 0, "ref.go:41", #[⟨6, .guard⟩], some (6, true)⟩ undef (.inr ⟨by rfl, rfl⟩) ?_
          try simp only [Act.put]
          try simp only [List.setIfInBounds_toArray]
          try simp only [List.set_cons_succ]
          try simp only [List.set_cons_zero]
          refine wpT 8 ⟨some 33, .load 45 (.tmp 32), 45, "ref.go:41", #[⟨7, .data⟩, ⟨6, .guard⟩], some (6, true)⟩ undef (.inr ⟨by rfl, rfl⟩) ?_
          try simp only [Act.put]
          try simp only [List.setIfInBounds_toArray]
          try simp only [List.set_cons_succ]
          try simp only [List.set_cons_zero]
          refine wpT 9 ⟨some 34, .fieldAddr 42 (.tmp 3) 1, 0, "ref.go:41", #[⟨6, .guard⟩], some (6, true)⟩ undef (.inr ⟨by rfl, rfl⟩) ?_
          try simp only [Act.put]
          try simp only [List.setIfInBounds_toArray]
          try simp only [List.set_cons_succ]
          try simp only [List.set_cons_zero]
          refine wpT 10 ⟨some 35, .load 3 (.tmp 34), 3, "ref.go:41", #[⟨9, .data⟩, ⟨6, .guard⟩], some (6, true)⟩ undef (.inr ⟨by rfl, rfl⟩) ?_
          try simp only [Act.put]
          try simp only [List.setIfInBounds_toArray]
          try simp only [List.set_cons_succ]
          try simp only [List.set_cons_zero]
          refine wpT 12 ⟨some 37, .fieldAddr 42 (.tmp 3) 2, 0, "ref.go:41", #[⟨6, .guard⟩], some (6, true)⟩ undef (.inr ⟨by rfl, rfl⟩) ?_
          try simp only [Act.put]
          try simp only [List.setIfInBounds_toArray]
          try simp only [List.set_cons_succ]
          try simp only [List.set_cons_zero]
          refine wpT 13 ⟨some 38, .load 3 (.tmp 37), 3, "ref.go:41", #[⟨12, .data⟩, ⟨6, .guard⟩], some (6, true)⟩ undef (.inr ⟨by rfl, rfl⟩) ?_
          try simp only [Act.put]
          try simp only [List.setIfInBounds_toArray]
          try simp only [List.set_cons_succ]
          try simp only [List.set_cons_zero]
          refine wpAnyH_ready (rs := [11]) (by kernel_rfl) (by simp) ?_
          refine AllReadyH.cons (o := ⟨some 36, .call { callee := .value (.func 57), args := #[.tmp 33, .tmp 35], argTypes := #[45, 3] }, 3, "ref.go:41", #[⟨8, .data⟩, ⟨10, .data⟩, ⟨6, .chain⟩, ⟨6, .guard⟩], some (6, true)⟩) rfl (fun K hK => ?_) AllReadyH.nil
          go_simp
          refine hK.out _ _ ?_ (fun hHeld => ?_)
          · exact hHeld
          clear hK K
          try simp only [Act.put]
          try simp only [List.setIfInBounds_toArray]
          try simp only [List.set_cons_succ]
          try simp only [List.set_cons_zero]
          refine wpT 14 ⟨some 39, .binOp .geq 3 (.tmp 36) (.tmp 38) 3, 4, "ref.go:41", #[⟨11, .data⟩, ⟨13, .data⟩, ⟨6, .guard⟩], some (6, true)⟩ undef (.inr ⟨by rfl, rfl⟩) ?_
          try simp only [Act.put]
          try simp only [List.setIfInBounds_toArray]
          try simp only [List.set_cons_succ]
          try simp only [List.set_cons_zero]
          refine wpT 15 ⟨some 40, .pick (.tmp 31) (.tmp 39) (.const (.bool false)), 4, "ref.go:41", #[⟨6, .data⟩, ⟨14, .data⟩], none⟩ ?_ (.inl ⟨by rfl, ?_⟩) ?_
          rotate_left
          · (intro W hSw; (try dsimp only at hSw); go_simp; try (with_reducible rfl))
          try simp only [Act.put]
          try simp only [List.setIfInBounds_toArray]
          try simp only [List.set_cons_succ]
          try simp only [List.set_cons_zero]
          refine wpT 16 ⟨some 4, .assign (.tmp 40), 4, "ref.go:41", #[⟨15, .data⟩, ⟨11, .chain⟩, ⟨0, .phase⟩, ⟨1, .phase⟩, ⟨2, .phase⟩, ⟨3, .phase⟩, ⟨4, .phase⟩, ⟨5, .phase⟩, ⟨6, .phase⟩, ⟨7, .phase⟩, ⟨8, .phase⟩, ⟨9, .phase⟩, ⟨10, .phase⟩, ⟨11, .phase⟩, ⟨12, .phase⟩, ⟨13, .phase⟩, ⟨14, .phase⟩, ⟨15, .phase⟩], none⟩ ?_ (.inl ⟨by rfl, ?_⟩) ?_
          rotate_left
          · (intro W hSw; (try dsimp only at hSw); go_simp; try (with_reducible rfl))
          try simp only [Act.put]
          try simp only [List.setIfInBounds_toArray]
          try simp only [List.set_cons_succ]
          try simp only [List.set_cons_zero]
          refine wpAnyH_done (by kernel_rfl) (NoPanic.normal ?_) _
          have HU := Lib.hid (U0.out.trans (UT.out.trans hHeld))
          clear hHeld
          go_wp2
          go_ret
          exact ⟨by rw [HV.out, hnb]; rfl, HU.out⟩
      · have hb1 : (tx == 0) = false := by simpa using htx
        clear hf h0 htx
        by_cases hn1 : 1 ≤ nth
        · go_enter Tryz.func124, Tryz.ntmps124
          go_wp2_with fail
          refine (rfind_some HH.out HF.out).mono ?_
          rintro e w1 ⟨A1, c1, rfl, hc1, hh1, hu1⟩
          have bT := Blk.new w1 47 [.int .i64 t.id, .bool t.done, .slice A1 t.ops.length c1]
          have uT := hu1.alloc (.cells #[.int .i64 t.id, .bool t.done, .slice A1 t.ops.length c1] 47)
          have hT : ∀ W, Upd No (w1.alloc (.cells #[.int .i64 t.id, .bool t.done, .slice A1 t.ops.length c1] 47)) W → W.cell? ⟨w1.heap.size, 2, none⟩ = some (.slice A1 t.ops.length c1) := fun W hW => (bT.upd hW id).cell 2
          have hT1 : ∀ W, Upd No (w1.alloc (.cells #[.int .i64 t.id, .bool t.done, .slice A1 t.ops.length c1] 47)) W → W.cell? ⟨w.heap.size + 1, 1, none⟩ = some (.int .i64 key) := fun W hW => (B1.out.upd (uT.trans hW) id).cell 1
          have hT2 : ∀ W, Upd No (w1.alloc (.cells #[.int .i64 t.id, .bool t.done, .slice A1 t.ops.length c1] 47)) W → W.cell? ⟨w.heap.size + 1, 2, none⟩ = some (.int .i64 nth) := fun W hW => (B1.out.upd (uT.trans hW) id).cell 2
          have HW := Lib.hid fun W (hW : Upd No (w1.alloc (.cells #[.int .i64 t.id, .bool t.done, .slice A1 t.ops.length c1] 47)) W) => rwrites F W A1 c1 t.ops key (HOps.upd hh1 (((Upd.refl No _).alloc _).trans hW) (fun _ _ => id)) HT.out.2.2.1
          have UT := Lib.hid uT
          clear bT uT hu1 hh1
          go_wp2
          refine wp_region_noPanic ?_
          refine wp_region_held_drew (S := (fun w' => Upd No (w1.alloc (.cells #[.int .i64 t.id, .bool t.done, .slice A1 t.ops.length c1] 47)) w')) (by kernel_rfl) ?_ (fun hHeld => ?_)
          · (first | exact (Upd.refl No _).drew | exact hHeld.trans hu3)
          refine wpT 0 ⟨some 25, .move (.tmp 6), 4, "ref.go:41", #[], none⟩ ?_ (.inl ⟨by rfl, ?_⟩) ?_
          rotate_left
          · (intro W hSw; (try dsimp only at hSw); go_simp; try (with_reducible rfl))
          try simp only [Act.put]
          try simp only [List.setIfInBounds_toArray]
          try simp only [List.set_cons_succ]
          try simp only [List.set_cons_zero]
          refine wpT 1 ⟨some 26, .move (.tmp 25), 4, "ref.go:41", #[⟨0, .data⟩], none⟩ ?_ (.inl ⟨by rfl, ?_⟩) ?_
          rotate_left
          · (intro W hSw; (try dsimp only at hSw); go_simp; try (with_reducible rfl))
          try simp only [Act.put]
          try simp only [List.setIfInBounds_toArray]
          try simp only [List.set_cons_succ]
          try simp only [List.set_cons_zero]
          refine wpT 2 ⟨some 27, .fieldAddr 42 (.tmp 3) 2, 0, "ref.go:41", #[⟨1, .guard⟩], some (1, true)⟩ ?_ (.inl ⟨by rfl, ?_⟩) ?_
          rotate_left
          · (intro W hSw; (try dsimp only at hSw); go_simp; try (with_reducible rfl))
          try simp only [Act.put]
          try simp only [List.setIfInBounds_toArray]
          try simp only [List.set_cons_succ]
          try simp only [List.set_cons_zero]
          refine wpT 3 ⟨some 28, .load 3 (.tmp 27), 3, "ref.go:41", #[⟨2, .data⟩, ⟨1, .guard⟩], some (1, true)⟩ ?_ (.inl ⟨by rfl, ?_⟩) ?_
          rotate_left
          · (intro W hSw; (try dsimp only at hSw); go_simp; try (with_reducible rfl))
          try simp only [Act.put]
          try simp only [List.setIfInBounds_toArray]
          try simp only [List.set_cons_succ]
          try simp only [List.set_cons_zero]
          refine wpT 4 ⟨some 29, .binOp .geq 3 (.tmp 28) (.const (.int .i64 1)) 3, 4, "ref.go:41", #[⟨3, .data⟩, ⟨1, .guard⟩], some (1, true)⟩ ?_ (.inl ⟨by rfl, ?_⟩) ?_
          rotate_left
          · (intro W hSw; (try dsimp only at hSw); go_simp; try (with_reducible rfl))
          try simp only [Act.put]
          try simp only [List.setIfInBounds_toArray]
          try simp only [List.set_cons_succ]
          try simp only [List.set_cons_zero]
          refine wpT 5 ⟨some 30, .pick (.tmp 26) (.tmp 29) (.const (.bool false)), 4, "ref.go:41", #[⟨1, .data⟩, ⟨4, .data⟩], none⟩ ?_ (.inl ⟨by rfl, ?_⟩) ?_
          rotate_left
          · (intro W hSw; (try dsimp only at hSw); go_simp; try (with_reducible rfl))
          try simp only [Act.put]
          try simp only [List.setIfInBounds_toArray]
          try simp only [List.set_cons_succ]
          try simp only [List.set_cons_zero]
          refine wpT 6 ⟨some 31, .move (.tmp 30), 4, "ref.go:41", #[⟨5, .data⟩, ⟨1, .chain⟩], none⟩ ?_ (.inl ⟨by rfl, ?_⟩) ?_
          rotate_left
          · (intro W hSw; (try dsimp only at hSw); go_simp; try (with_reducible rfl))
          try simp only [Act.put]
          try simp only [List.setIfInBounds_toArray]
          try simp only [List.set_cons_succ]
          try simp only [List.set_cons_zero]
          refine wpT 7 ⟨some 32, .fieldAddr 47 (.tmp 5) 2, 0, "ref.go:41", #[⟨6, .guard⟩], some (6, true)⟩ ?_ (.inl ⟨by rfl, ?_⟩) ?_
          rotate_left
          · (intro W hSw; (try dsimp only at hSw); go_simp; try (with_reducible rfl))
          try simp only [Act.put]
          try simp only [List.setIfInBounds_toArray]
          try simp only [List.set_cons_succ]
          try simp only [List.set_cons_zero]
          refine wpT 8 ⟨some 33, .load 45 (.tmp 32), 45, "ref.go:41", #[⟨7, .data⟩, ⟨6, .guard⟩], some (6, true)⟩ ?_ (.inl ⟨by rfl, ?_⟩) ?_
          rotate_left
          · (intro W hSw; (try dsimp only at hSw); go_simp; try (with_reducible rfl))
          try simp only [Act.put]
          try simp only [List.setIfInBounds_toArray]
          try simp only [List.set_cons_succ]
          try simp only [List.set_cons_zero]
          refine wpT 9 ⟨some 34, .fieldAddr 42 (.tmp 3) 1, 0, "ref.go:41", #[⟨6, .guard⟩], some (6, true)⟩ ?_ (.inl ⟨by rfl, ?_⟩) ?_
          rotate_left
          · (intro W hSw; (try dsimp only at hSw); go_simp; try (with_reducible rfl))
          try simp only [Act.put]
          try simp only [List.setIfInBounds_toArray]
          try simp only [List.set_cons_succ]
          try simp only [List.set_cons_zero]
          refine wpT 10 ⟨some 35, .load 3 (.tmp 34), 3, "ref.go:41", #[⟨9, .data⟩, ⟨6, .guard⟩], some (6, true)⟩ ?_ (.inl ⟨by rfl, ?_⟩) ?_
          rotate_left
          · (intro W hSw; (try dsimp only at hSw); go_simp; try (with_reducible rfl))
          try simp only [Act.put]
          try simp only [List.setIfInBounds_toArray]
          try simp only [List.set_cons_succ]
          try simp only [List.set_cons_zero]
          refine wpT 12 ⟨some 37, .fieldAddr 42 (.tmp 3) 2, 0, "ref.go:41", #[⟨6, .guard⟩], some (6, true)⟩ ?_ (.inl ⟨by rfl, ?_⟩) ?_
          rotate_left
          · (intro W hSw; (try dsimp only at hSw); go_simp; try (with_reducible rfl))
          try simp only [Act.put]
          try simp only [List.setIfInBounds_toArray]
          try simp only [List.set_cons_succ]
          try simp only [List.set_cons_zero]
          refine wpT 13 ⟨some 38, .load 3 (.tmp 37), 3, "ref.go:41", #[⟨12, .data⟩, ⟨6, .guard⟩], some (6, true)⟩ ?_ (.inl ⟨by rfl, ?_⟩) ?_
          rotate_left
          · (intro W hSw; (try dsimp only at hSw); go_simp; try (with_reducible rfl))
          try simp only [Act.put]
          try simp only [List.setIfInBounds_toArray]
          try simp only [List.set_cons_succ]
          try simp only [List.set_cons_zero]
          refine wpAnyH_ready (rs := [11]) (by kernel_rfl) (by simp) ?_
          refine AllReadyH.cons (o := ⟨some 36, .call { callee := .value (.func 57), args := #[.tmp 33, .tmp 35], argTypes := #[45, 3] }, 3, "ref.go:41", #[⟨8, .data⟩, ⟨10, .data⟩, ⟨6, .chain⟩, ⟨6, .guard⟩], some (6, true)⟩) rfl (fun K hK => ?_) AllReadyH.nil
          go_simp
          (first
    | (go_at_call 57; refine (HW.out _ hHeld).mono ?_; rintro e w3 ⟨rfl, hu3⟩))
          try (go_wp2_with fail)
          refine hK.out _ _ ?_ (fun hHeld => ?_)
          · (first | exact (Upd.refl No _).drew | exact hHeld.trans hu3)
          clear hK K
          try simp only [Act.put]
          try simp only [List.setIfInBounds_toArray]
          try simp only [List.set_cons_succ]
          try simp only [List.set_cons_zero]
          refine wpT 14 ⟨some 39, .binOp .geq 3 (.tmp 36) (.tmp 38) 3, 4, "ref.go:41", #[⟨11, .data⟩, ⟨13, .data⟩, ⟨6, .guard⟩], some (6, true)⟩ ?_ (.inl ⟨by rfl, ?_⟩) ?_
          rotate_left
          · (intro W hSw; (try dsimp only at hSw); go_simp; try (with_reducible rfl))
          try simp only [Act.put]
          try simp only [List.setIfInBounds_toArray]
          try simp only [List.set_cons_succ]
          try simp only [List.set_cons_zero]
          refine wpT 15 ⟨some 40, .pick (.tmp 31) (.tmp 39) (.const (.bool false)), 4, "ref.go:41", #[⟨6, .data⟩, ⟨14, .data⟩], none⟩ ?_ (.inl ⟨by rfl, ?_⟩) ?_
          rotate_left
          · (intro W hSw; (try dsimp only at hSw); go_simp; try (with_reducible rfl))
          try simp only [Act.put]
          try simp only [List.setIfInBounds_toArray]
          try simp only [List.set_cons_succ]
          try simp only [List.set_cons_zero]
          refine wpT 16 ⟨some 4, .assign (.tmp 40), 4, "ref.go:41", #[⟨15, .data⟩, ⟨11, .chain⟩, ⟨0, .phase⟩, ⟨1, .phase⟩, ⟨2, .phase⟩, ⟨3, .phase⟩, ⟨4, .phase⟩, ⟨5, .phase⟩, ⟨6, .phase⟩, ⟨7, .phase⟩, ⟨8, .phase⟩, ⟨9, .phase⟩, ⟨10, .phase⟩, ⟨11, .phase⟩, ⟨12, .phase⟩, ⟨13, .phase⟩, ⟨14, .phase⟩, ⟨15, .phase⟩], none⟩ ?_ (.inl ⟨by rfl, ?_⟩) ?_
          rotate_left
          · (intro W hSw; (try dsimp only at hSw); go_simp; try (with_reducible rfl))
          try simp only [Act.put]
          try simp only [List.setIfInBounds_toArray]
          try simp only [List.set_cons_succ]
          try simp only [List.set_cons_zero]
          refine wpAnyH_done (by kernel_rfl) (NoPanic.normal ?_) _
          have HU := Lib.hid (U0.out.trans (UT.out.trans hHeld))
          clear hHeld
          go_wp2
          go_ret
          exact ⟨by rw [HV.out, decide_eq_true hn1]; rfl, HU.out⟩
        · have hnb : decide (1 ≤ nth) = false := decide_eq_false hn1
          go_enter Tryz.func124, Tryz.ntmps124
          go_wp2_with fail
          refine (rfind_some HH.out HF.out).mono ?_
          rintro e w1 ⟨A1, c1, rfl, hc1, hh1, hu1⟩
          have bT := Blk.new w1 47 [.int .i64 t.id, .bool t.done, .slice A1 t.ops.length c1]
          have uT := hu1.alloc (.cells #[.int .i64 t.id, .bool t.done, .slice A1 t.ops.length c1] 47)
          have hT : ∀ W, Upd No (w1.alloc (.cells #[.int .i64 t.id, .bool t.done, .slice A1 t.ops.length c1] 47)) W → W.cell? ⟨w1.heap.size, 2, none⟩ = some (.slice A1 t.ops.length c1) := fun W hW => (bT.upd hW id).cell 2
          have hT1 : ∀ W, Upd No (w1.alloc (.cells #[.int .i64 t.id, .bool t.done, .slice A1 t.ops.length c1] 47)) W → W.cell? ⟨w.heap.size + 1, 1, none⟩ = some (.int .i64 key) := fun W hW => (B1.out.upd (uT.trans hW) id).cell 1
          have hT2 : ∀ W, Upd No (w1.alloc (.cells #[.int .i64 t.id, .bool t.done, .slice A1 t.ops.length c1] 47)) W → W.cell? ⟨w.heap.size + 1, 2, none⟩ = some (.int .i64 nth) := fun W hW => (B1.out.upd (uT.trans hW) id).cell 2
          have HW := Lib.hid fun W (hW : Upd No (w1.alloc (.cells #[.int .i64 t.id, .bool t.done, .slice A1 t.ops.length c1] 47)) W) => rwrites F W A1 c1 t.ops key (HOps.upd hh1 (((Upd.refl No _).alloc _).trans hW) (fun _ _ => id)) HT.out.2.2.1
          have UT := Lib.hid uT
          clear bT uT hu1 hh1
          go_wp2
          refine wp_region_noPanic ?_
          refine wp_region_held_drew (S := (fun w' => Upd No (w1.alloc (.cells #[.int .i64 t.id, .bool t.done, .slice A1 t.ops.length c1] 47)) w')) (by kernel_rfl) ?_ (fun hHeld => ?_)
          · (first | exact (Upd.refl No _).drew | exact hHeld.trans hu3)
          refine wpT 0 ⟨some 25, .move (.tmp 6), 4, "ref.go:41", #[], none⟩ ?_ (.inl ⟨by rfl, ?_⟩) ?_
          rotate_left
          · (intro W hSw; (try dsimp only at hSw); go_simp; try (with_reducible rfl))
          try simp only [Act.put]
          try simp only [List.setIfInBounds_toArray]
          try simp only [List.set_cons_succ]
          try simp only [List.set_cons_zero]
          refine wpT 1 ⟨some 26, .move (.tmp 25), 4, "ref.go:41", #[⟨0, .data⟩], none⟩ ?_ (.inl ⟨by rfl, ?_⟩) ?_
          rotate_left
          · (intro W hSw; (try dsimp only at hSw); go_simp; try (with_reducible rfl))
          try simp only [Act.put]
          try simp only [List.setIfInBounds_toArray]
          try simp only [List.set_cons_succ]
          try simp only [List.set_cons_zero]
          refine wpT 2 ⟨some 27, .fieldAddr 42 (.tmp 3) 2, 0, "ref.go:41", #[⟨1, .guard⟩], some (1, true)⟩ ?_ (.inl ⟨by rfl, ?_⟩) ?_
          rotate_left
          · (intro W hSw; (try dsimp only at hSw); go_simp; try (with_reducible rfl))
          try simp only [Act.put]
          try simp only [List.setIfInBounds_toArray]
          try simp only [List.set_cons_succ]
          try simp only [List.set_cons_zero]
          refine wpT 3 ⟨some 28, .load 3 (.tmp 27), 3, "ref.go:41", #[⟨2, .data⟩, ⟨1, .guard⟩], some (1, true)⟩ ?_ (.inl ⟨by rfl, ?_⟩) ?_
          rotate_left
          · (intro W hSw; (try dsimp only at hSw); go_simp; try (with_reducible rfl))
          try simp only [Act.put]
          try simp only [List.setIfInBounds_toArray]
          try simp only [List.set_cons_succ]
          try simp only [List.set_cons_zero]
          refine wpT 4 ⟨some 29, .binOp .geq 3 (.tmp 28) (.const (.int .i64 1)) 3, 4, "ref.go:41", #[⟨3, .data⟩, ⟨1, .guard⟩], some (1, true)⟩ ?_ (.inl ⟨by rfl, ?_⟩) ?_
          rotate_left
          · (intro W hSw; (try dsimp only at hSw); go_simp; try (with_reducible rfl))
          try simp only [Act.put]
          try simp only [List.setIfInBounds_toArray]
          try simp only [List.set_cons_succ]
          try simp only [List.set_cons_zero]
          refine wpT 5 ⟨some 30, .pick (.tmp 26) (.tmp 29) (.const (.bool false)), 4, "ref.go:41", #[⟨1, .data⟩, ⟨4, .data⟩], none⟩ ?_ (.inl ⟨by rfl, ?_⟩) ?_
          rotate_left
          · (intro W hSw; (try dsimp only at hSw); go_simp; try (with_reducible rfl))
          try simp only [Act.put]
          try simp only [List.setIfInBounds_toArray]
          try simp only [List.set_cons_succ]
          try simp only [List.set_cons_zero]
          refine wpT 6 ⟨some 31, .move (.tmp 30), 4, "ref.go:41", #[⟨5, .data⟩, ⟨1, .chain⟩], none⟩ ?_ (.inl ⟨by rfl, ?_⟩) ?_
          rotate_left
          · (intro W hSw; (try dsimp only at hSw); go_simp; try (with_reducible rfl))
          try simp only [Act.put]
          try simp only [List.setIfInBounds_toArray]
          try simp only [List.set_cons_succ]
          try simp only [List.set_cons_zero]
          refine wpT 7 ⟨some 32, .fieldAddr 47 (.tmp 5) 2, 0, "ref.go:41", #[⟨6, .guard⟩], some (6, true)⟩ undef (.inr ⟨by rfl, rfl⟩) ?_
          try simp only [Act.put]
          try simp only [List.setIfInBounds_toArray]
          try simp only [List.set_cons_succ]
          try simp only [List.set_cons_zero]
          refine wpT 8 ⟨some 33, .load 45 (.tmp 32), 45, "ref.go:41", #[⟨7, .data⟩, ⟨6, .guard⟩], some (6, true)⟩ undef (.inr ⟨by rfl, rfl⟩) ?_
          try simp only [Act.put]
          try simp only [List.setIfInBounds_toArray]
          try simp only [List.set_cons_succ]
          try simp only [List.set_cons_zero]
          refine wpT 9 ⟨some 34, .fieldAddr 42 (.tmp 3) 1, 0, "ref.go:41", #[⟨6, .guard⟩], some (6, true)⟩ undef (.inr ⟨by rfl, rfl⟩) ?_
          try simp only [Act.put]
          try simp only [List.setIfInBounds_toArray]
          try simp only [List.set_cons_succ]
          try simp only [List.set_cons_zero]
          refine wpT 10 ⟨some 35, .load 3 (.tmp 34), 3, "ref.go:41", #[⟨9, .data⟩, ⟨6, .guard⟩], some (6, true)⟩ undef (.inr ⟨by rfl, rfl⟩) ?_
          try simp only [Act.put]
          try simp only [List.setIfInBounds_toArray]
          try simp only [List.set_cons_succ]
          try simp only [List.set_cons_zero]
          refine wpT 12 ⟨some 37, .fieldAddr 42 (.tmp 3) 2, 0, "ref.go:41", #[⟨6, .guard⟩], some (6, true)⟩ undef (.inr ⟨by rfl, rfl⟩) ?_
          try simp only [Act.put]
          try simp only [List.setIfInBounds_toArray]
          try simp only [List.set_cons_succ]
          try simp only [List.set_cons_zero]
          refine wpT 13 ⟨some 38, .load 3 (.tmp 37), 3, "ref.go:41", #[⟨12, .data⟩, ⟨6, .guard⟩], some (6, true)⟩ undef (.inr ⟨by rfl, rfl⟩) ?_
          try simp only [Act.put]
          try simp only [List.setIfInBounds_toArray]
          try simp only [List.set_cons_succ]
          try simp only [List.set_cons_zero]
          refine wpAnyH_ready (rs := [11]) (by kernel_rfl) (by simp) ?_
          refine AllReadyH.cons (o := ⟨some 36, .call { callee := .value (.func 57), args := #[.tmp 33, .tmp 35], argTypes := #[45, 3] }, 3, "ref.go:41", #[⟨8, .data⟩, ⟨10, .data⟩, ⟨6, .chain⟩, ⟨6, .guard⟩], some (6, true)⟩) rfl (fun K hK => ?_) AllReadyH.nil
          go_simp
          refine hK.out _ _ ?_ (fun hHeld => ?_)
          · exact hHeld
          clear hK K
          try simp only [Act.put]
          try simp only [List.setIfInBounds_toArray]
          try simp only [List.set_cons_succ]
          try simp only [List.set_cons_zero]
          refine wpT 14 ⟨some 39, .binOp .geq 3 (.tmp 36) (.tmp 38) 3, 4, "ref.go:41", #[⟨11, .data⟩, ⟨13, .data⟩, ⟨6, .guard⟩], some (6, true)⟩ undef (.inr ⟨by rfl, rfl⟩) ?_
          try simp only [Act.put]
          try simp only [List.setIfInBounds_toArray]
          try simp only [List.set_cons_succ]
          try simp only [List.set_cons_zero]
          refine wpT 15 ⟨some 40, .pick (.tmp 31) (.tmp 39) (.const (.bool false)), 4, "ref.go:41", #[⟨6, .data⟩, ⟨14, .data⟩], none⟩ ?_ (.inl ⟨by rfl, ?_⟩) ?_
          rotate_left
          · (intro W hSw; (try dsimp only at hSw); go_simp; try (with_reducible rfl))
          try simp only [Act.put]
          try simp only [List.setIfInBounds_toArray]
          try simp only [List.set_cons_succ]
          try simp only [List.set_cons_zero]
          refine wpT 16 ⟨some 4, .assign (.tmp 40), 4, "ref.go:41", #[⟨15, .data⟩, ⟨11, .chain⟩, ⟨0, .phase⟩, ⟨1, .phase⟩, ⟨2, .phase⟩, ⟨3, .phase⟩, ⟨4, .phase⟩, ⟨5, .phase⟩, ⟨6, .phase⟩, ⟨7, .phase⟩, ⟨8, .phase⟩, ⟨9, .phase⟩, ⟨10, .phase⟩, ⟨11, .phase⟩, ⟨12, .phase⟩, ⟨13, .phase⟩, ⟨14, .phase⟩, ⟨15, .phase⟩], none⟩ ?_ (.inl ⟨by rfl, ?_⟩) ?_
          rotate_left
          · (intro W hSw; (try dsimp only at hSw); go_simp; try (with_reducible rfl))
          try simp only [Act.put]
          try simp only [List.setIfInBounds_toArray]
          try simp only [List.set_cons_succ]
          try simp only [List.set_cons_zero]
          refine wpAnyH_done (by kernel_rfl) (NoPanic.normal ?_) _
          have HU := Lib.hid (U0.out.trans (UT.out.trans hHeld))
          clear hHeld
          go_wp2
          go_ret
          exact ⟨by rw [HV.out, hnb]; rfl, HU.out⟩
end Go.Proofs.YtaicemjckagcaaaGreat
