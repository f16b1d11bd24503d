/- Orders, the document's: Along. -/
import Derived.Test.YtaicemjckagcaaaMap
import Derived.Test.YtaicemjckagcaaaMbq
namespace Go.Proofs.Ytaicemjckagcaaa
set_option linter.unusedVariables false
open Go.RowKit
/-- one edge is gone along -/
def alongE (order : List Int) (e : Edge) : Bool := !(decide (0 ≤ idxS e.f order 0) && decide (0 ≤ idxS e.t order 0) && decide (idxS e.t order 0 ≤ idxS e.f order 0))
set_option maxRecDepth 100000 in
set_option maxHeartbeats 4000000 in
theorem rAlong (F G : Nat → Prop) (w : World) (A B : Option Addr) (c d : Nat) (order : List Int) (l : List Edge) (ho : Ints F w A order) (h : Walk G w B l) (hl : order.length ≤ 10000) (hl2 : l.length ≤ 10000) :
    Calls Try.prog 16 #[.slice A order.length c, .slice B l.length d] w fun e w' => e = .returned (.bool (l.all (alongE order))) ∧ Upd No w w' := by
  go_enter Try.func16, Try.ntmps16
  go_wp2
  go_loopg [11] l.length (fun gk i wr => ∃ k : Nat, k + gk = l.length ∧ i = .int .i64 k ∧ Hid ((l.drop k).all (alongE order) = l.all (alongE order)) ∧ Upd No w wr)
  case atStart => exact ⟨0, by omega, rfl, Lib.hid rfl, Upd.refl _ _⟩
  case round =>
    obtain ⟨k, hgk, rfl, hs, hu⟩ := hrel
    by_cases hlt : k < l.length
    · obtain ⟨ax, rfl, q0, q1, q2, q3⟩ := (h.upd hu (fun _ _ => id)).at_ hlt
      obtain ⟨x, hxx⟩ : ∃ x, l[k] = x := ⟨_, rfl⟩
      have hdr := List.drop_eq_getElem_cons hlt
      rw [hxx] at q0 q1 q2 q3 hdr
      have HD := Lib.hid (show (alongE order x && (l.drop (k + 1)).all (alongE order)) = l.all (alongE order) by rw [← hs.out, hdr, List.all_cons])
      have i1 : (0 : Int) ≤ (k : Int) := Int.natCast_nonneg _
      have i2 : (k : Int) < (l.length : Int) := by omega
      obtain ⟨wx, hwx⟩ : ∃ wx, wr.alloc (.cells #[.int .i64 x.f, .int .i64 x.t, .int .i64 x.k, .int .i64 x.key] 33) = wx := ⟨_, rfl⟩
      have ux : Upd No wr wx := by rw [← hwx]; exact (Upd.refl No wr).alloc _
      have bo : Blk wx wr.heap.size 33 [.int .i64 x.f, .int .i64 x.t, .int .i64 x.k, .int .i64 x.key] := by rw [← hwx]; exact Blk.new wr _ _
      have hux := hu.trans ux
      have d0 : ∀ W, Upd No wx W → W.cell? ⟨wr.heap.size, 0, none⟩ = some (.int .i64 x.f) := fun W u => by have := (bo.upd u id).cell 0; simpa using this
      have d1 : ∀ W, Upd No wx W → W.cell? ⟨wr.heap.size, 1, none⟩ = some (.int .i64 x.t) := fun W u => by have := (bo.upd u id).cell 1; simpa using this
      obtain ⟨p, hp⟩ : ∃ p, idxS x.f order 0 = p := ⟨_, rfl⟩
      obtain ⟨q, hq⟩ : ∃ q, idxS x.t order 0 = q := ⟨_, rfl⟩
      have HP := Lib.hid (fun (W : World) (u : Upd No wx W) => hp ▸ rindex F W A c order x.f (ho.upd (hux.trans u) (fun _ _ => id)) (by omega))
      have HQ := Lib.hid (fun (W : World) (u : Upd No wx W) => hq ▸ rindex F W A c order x.t (ho.upd (hux.trans u) (fun _ _ => id)) (by omega))
      have HV := Lib.hid (show alongE order x = !(decide (0 ≤ p) && decide (0 ≤ q) && decide (q ≤ p)) by unfold alongE; rw [hp, hq])
      have HUX := Lib.hid hux
      clear hp hq hs hdr hxx bo ux
      have hxz : Upd No wx wx := Upd.refl _ _
      go_wp2
      refine wp_region_noPanic ?_
      refine wp_region_held_drew (S := (fun W' => Upd No wx W')) (by kernel_rfl) ?_ (fun hHeld => ?_)
      · (first | exact (Upd.drew hxz) | exact hHeld.trans hu4)
      refine wpT 0 ⟨some 15, .move (.tmp 0), 22, "ref.go:41", #[], none⟩ ?_ (.inl ⟨by rfl, ?_⟩) ?_
      rotate_left
      · (intro W hSw; (try dsimp only at hSw); go_simp; try (with_reducible rfl))
      try simp only [Act.put]
      try simp only [List.setIfInBounds_toArray]
      try simp only [List.set_cons_succ]
      try simp only [List.set_cons_zero]
      refine wpT 1 ⟨some 16, .fieldAddr 33 (.tmp 6) 0, 0, "ref.go:41", #[], none⟩ ?_ (.inl ⟨by rfl, ?_⟩) ?_
      rotate_left
      · (intro W hSw; (try dsimp only at hSw); go_simp; try (with_reducible rfl))
      try simp only [Act.put]
      try simp only [List.setIfInBounds_toArray]
      try simp only [List.set_cons_succ]
      try simp only [List.set_cons_zero]
      refine wpT 2 ⟨some 17, .load 3 (.tmp 16), 3, "ref.go:41", #[⟨1, .data⟩], none⟩ ?_ (.inl ⟨by rfl, ?_⟩) ?_
      rotate_left
      · (intro W hSw; (try dsimp only at hSw); go_simp; try (with_reducible rfl))
      try simp only [Act.put]
      try simp only [List.setIfInBounds_toArray]
      try simp only [List.set_cons_succ]
      try simp only [List.set_cons_zero]
      refine wpT 4 ⟨some 19, .move (.tmp 0), 22, "ref.go:41", #[], none⟩ ?_ (.inl ⟨by rfl, ?_⟩) ?_
      rotate_left
      · (intro W hSw; (try dsimp only at hSw); go_simp; try (with_reducible rfl))
      try simp only [Act.put]
      try simp only [List.setIfInBounds_toArray]
      try simp only [List.set_cons_succ]
      try simp only [List.set_cons_zero]
      refine wpT 5 ⟨some 20, .fieldAddr 33 (.tmp 6) 1, 0, "ref.go:41", #[], none⟩ ?_ (.inl ⟨by rfl, ?_⟩) ?_
      rotate_left
      · (intro W hSw; (try dsimp only at hSw); go_simp; try (with_reducible rfl))
      try simp only [Act.put]
      try simp only [List.setIfInBounds_toArray]
      try simp only [List.set_cons_succ]
      try simp only [List.set_cons_zero]
      refine wpT 6 ⟨some 21, .load 3 (.tmp 20), 3, "ref.go:41", #[⟨5, .data⟩], none⟩ ?_ (.inl ⟨by rfl, ?_⟩) ?_
      rotate_left
      · (intro W hSw; (try dsimp only at hSw); go_simp; try (with_reducible rfl))
      try simp only [Act.put]
      try simp only [List.setIfInBounds_toArray]
      try simp only [List.set_cons_succ]
      try simp only [List.set_cons_zero]
      refine wpAnyH_ready (rs := [3]) (by kernel_rfl) (by simp) ?_
      refine AllReadyH.cons (o := ⟨some 18, .call { callee := .value (.func 62), args := #[.tmp 15, .tmp 17], argTypes := #[22, 3] }, 3, "ref.go:41", #[⟨0, .data⟩, ⟨2, .data⟩], none⟩) rfl (fun K hK => ?_) AllReadyH.nil
      go_simp
      (first
    | (go_at_call 62; refine Calls.mono (HP.out _ hHeld) ?_; rintro e w4 ⟨rfl, hu4⟩))
      try (go_wp2_with fail)
      refine hK.out _ _ ?_ (fun hHeld => ?_)
      · (first | exact (Upd.drew hxz) | exact hHeld.trans hu4)
      clear hK K
      try simp only [Act.put]
      try simp only [List.setIfInBounds_toArray]
      try simp only [List.set_cons_succ]
      try simp only [List.set_cons_zero]
      refine wpAnyH_ready (rs := [7]) (by kernel_rfl) (by simp) ?_
      refine AllReadyH.cons (o := ⟨some 22, .call { callee := .value (.func 62), args := #[.tmp 19, .tmp 21], argTypes := #[22, 3] }, 3, "ref.go:41", #[⟨4, .data⟩, ⟨6, .data⟩, ⟨3, .chain⟩], none⟩) rfl (fun K hK => ?_) AllReadyH.nil
      go_simp
      (first
    | (go_at_call 62; refine Calls.mono (HQ.out _ hHeld) ?_; rintro e w4 ⟨rfl, hu4⟩))
      try (go_wp2_with fail)
      refine hK.out _ _ ?_ (fun hHeld => ?_)
      · (first | exact (Upd.drew hxz) | exact hHeld.trans hu4)
      clear hK K
      try simp only [Act.put]
      try simp only [List.setIfInBounds_toArray]
      try simp only [List.set_cons_succ]
      try simp only [List.set_cons_zero]
      refine wpT 8 ⟨some 7, .assign (.tmp 18), 3, "ref.go:41", #[⟨3, .data⟩, ⟨7, .chain⟩, ⟨0, .phase⟩, ⟨1, .phase⟩, ⟨2, .phase⟩, ⟨3, .phase⟩, { on := 4, ground := Go.Ground.textOnly Go.Departure.lateStores }, { on := 5, ground := Go.Ground.textOnly Go.Departure.lateStores }, { on := 6, ground := Go.Ground.textOnly Go.Departure.lateStores }, { on := 7, ground := Go.Ground.textOnly Go.Departure.lateStoresUnsure }], none⟩ ?_ (.inl ⟨by rfl, ?_⟩) ?_
      rotate_left
      · (intro W hSw; (try dsimp only at hSw); go_simp; try (with_reducible rfl))
      try simp only [Act.put]
      try simp only [List.setIfInBounds_toArray]
      try simp only [List.set_cons_succ]
      try simp only [List.set_cons_zero]
      refine wpT 9 ⟨some 8, .assign (.tmp 22), 3, "ref.go:41", #[⟨7, .data⟩, ⟨8, .chain⟩, ⟨0, .phase⟩, ⟨1, .phase⟩, ⟨2, .phase⟩, ⟨3, .phase⟩, ⟨4, .phase⟩, ⟨5, .phase⟩, ⟨6, .phase⟩, ⟨7, .phase⟩, ⟨8, .phase⟩], none⟩ ?_ (.inl ⟨by rfl, ?_⟩) ?_
      rotate_left
      · (intro W hSw; (try dsimp only at hSw); go_simp; try (with_reducible rfl))
      try simp only [Act.put]
      try simp only [List.setIfInBounds_toArray]
      try simp only [List.set_cons_succ]
      try simp only [List.set_cons_zero]
      refine wpAnyH_done (by kernel_rfl) (NoPanic.normal ?_) _
      have hy := hHeld
      clear hHeld
      by_cases e1 : 0 ≤ p
      · by_cases e2 : 0 ≤ q
        · by_cases e3 : q ≤ p
          · go_wp2
            go_ret
            exact ⟨by rw [← HD.out, HV.out, decide_eq_true e1, decide_eq_true e2, decide_eq_true e3]; rfl, HUX.out.trans hy⟩
          · have HN := Lib.hid (show (l.drop (k + 1)).all (alongE order) = l.all (alongE order) by rw [← HD.out, HV.out, decide_eq_true e1, decide_eq_true e2, decide_eq_false e3]; rfl)
            go_wp2
            go_roundg (gk - 1)
            case measure => omega
            case rel => exact ⟨k + 1, by omega, by go_num, HN, HUX.out.trans hy⟩
        · have HN := Lib.hid (show (l.drop (k + 1)).all (alongE order) = l.all (alongE order) by rw [← HD.out, HV.out, decide_eq_true e1, decide_eq_false e2]; rfl)
          go_wp2
          go_roundg (gk - 1)
          case measure => omega
          case rel => exact ⟨k + 1, by omega, by go_num, HN, HUX.out.trans hy⟩
      · have HN := Lib.hid (show (l.drop (k + 1)).all (alongE order) = l.all (alongE order) by rw [← HD.out, HV.out, decide_eq_false e1]; rfl)
        go_wp2
        go_roundg (gk - 1)
        case measure => omega
        case rel => exact ⟨k + 1, by omega, by go_num, HN, HUX.out.trans hy⟩
    · obtain rfl : k = l.length := by omega
      have HV := Lib.hid (show l.all (alongE order) = true by rw [← hs.out, List.drop_length]; rfl)
      go_wp2
      go_ret
      exact ⟨by rw [HV.out]; rfl, hu⟩
end Go.Proofs.Ytaicemjckagcaaa
