/- Whether a history is light, by the document. -/
import Derived.Test.YtgakhpdclhlmpaaHisC
namespace Go.Proofs.Ytgakhpdclhlmpaa
set_option linter.unusedVariables false
open Go.RowKit
theorem all_take {α : Type} {l : List α} {p : α → Bool} {k : Nat} (hk : k < l.length) (h : (l.take k).all p = true) (h1 : p l[k] = true) : (l.take (k + 1)).all p = true := by
  rw [List.take_succ_eq_append_getElem hk, List.all_append, h]
  simp [h1]
theorem all_not {α : Type} {l : List α} {p : α → Bool} {k : Nat} (hk : k < l.length) (h1 : p l[k] = false) : l.all p = false := by
  rw [← Bool.not_eq_true]
  intro h
  rw [List.all_eq_true.1 h _ (List.getElem_mem hk)] at h1
  cases h1
set_option maxRecDepth 100000 in
theorem rlight (F : Nat → Prop) (w : World) (h : Hist) (H : h.lies F w) : Calls Try.prog 29 #[h.val] w fun e w' => e = .returned (.bool (lightB h)) ∧ Upd No w w' := by
  obtain ⟨txs, ords, A, c, B, d⟩ := h
  unfold Hist.val
  have hf := H.few
  have hfo := H.fewo
  simp only at hf hfo
  by_cases h1 : 12 < txs.length
  · have hv := Lib.hid (show lightB ⟨txs, ords, A, c, B, d⟩ = false by unfold lightB; rw [decide_eq_false (by simp only; omega)]; rfl)
    go_enter Try.func29, Try.ntmps29
    go_wp2
    go_ret
    exact ⟨by rw [hv.out]; rfl, (Upd.refl _ _).alloc _⟩
  · by_cases h2 : 24 < ords.length
    · have hv := Lib.hid (show lightB ⟨txs, ords, A, c, B, d⟩ = false by unfold lightB; rw [decide_eq_false (show ¬ ords.length ≤ 24 by omega)]; simp)
      go_enter Try.func29, Try.ntmps29
      go_wp2
      go_ret
      exact ⟨by rw [hv.out]; rfl, (Upd.refl _ _).alloc _⟩
    · have hb := Blk.new w 45 [.slice A txs.length c, .slice B ords.length d]
      have e0 : (w.alloc (.cells #[.slice A txs.length c, .slice B ords.length d] 45)).cell? ⟨w.heap.size, 1, none⟩ = some (.slice B ords.length d) := hb.cell 1
      have E0 := Lib.hid e0
      clear e0 hb
      go_enter Try.func29, Try.ntmps29
      go_wp2
      go_loopg [20] txs.length (fun gk i wr => ∃ k : Nat, k + gk = txs.length ∧ i = .int .i64 k ∧ Hid ((txs.take k).all (fun t => decide (t.ops.length ≤ 24)) = true) ∧ Upd No (w.alloc (.cells #[.slice A txs.length c, .slice B ords.length d] 45)) wr)
      case atStart => exact ⟨0, by omega, rfl, Lib.hid (by simp), Upd.refl _ _⟩
      case round =>
        obtain ⟨k, hgk, rfl, hall, hu⟩ := hrel
        have hu0 : Upd No w wr := ((Upd.refl No w).alloc _).trans hu
        by_cases hlt : k < txs.length
        · obtain ⟨ad, hAd, c0, c1, c2⟩ := (H.upd hu0 (fun _ _ => id)).tx_at hlt
          simp only at hAd c0 c1 c2
          obtain ⟨x, hx⟩ : ∃ x, txs[k] = x := ⟨_, rfl⟩
          rw [hx] at c0 c1 c2
          subst hAd
          have X := Lib.hid hx
          clear hx
          have hfx := ((H.upd hu0 (fun _ _ => id)).tx x (by rw [← X.out]; exact List.getElem_mem hlt)).2.2.1
          unfold fewOps at hfx
          by_cases ht : 24 < x.ops.length
          · have hv := Lib.hid (show lightB ⟨txs, ords, some ad, c, B, d⟩ = false by
              unfold lightB
              rw [all_not (l := txs) (k := k) hlt (by rw [X.out]; exact decide_eq_false (by omega))]
              simp)
            go_wp2
            go_ret
            exact ⟨by rw [hv.out]; rfl, hu0.alloc _⟩
          · go_wp2
            go_roundg (gk - 1)
            case measure => omega
            case rel => exact ⟨k + 1, by omega, by go_num, Lib.hid (all_take hlt hall.out (by rw [X.out]; exact decide_eq_true (by omega))), hu.alloc _⟩
        · obtain rfl : k = txs.length := by omega
          have e1 : wr.cell? ⟨w.heap.size, 1, none⟩ = some (.slice B ords.length d) := hu.keepNo E0.out
          have hall1 := Lib.hid (show txs.all (fun t => decide (t.ops.length ≤ 24)) = true by have := hall.out; rwa [List.take_length] at this)
          clear hall
          go_wp2
          go_loopg [32] ords.length (fun gk i wr => ∃ k : Nat, k + gk = ords.length ∧ i = .int .i64 k ∧ Hid ((ords.take k).all (fun t => decide (t.txs.length ≤ 24)) = true) ∧ Upd No w wr)
          case atStart => exact ⟨0, by omega, rfl, Lib.hid (by simp), hu0⟩
          case round =>
            obtain ⟨k, hgk, rfl, hall, hu2⟩ := hrel
            by_cases hlt2 : k < ords.length
            · obtain ⟨ad, hAd, c0, c1⟩ := (H.upd hu2 (fun _ _ => id)).ord_at hlt2
              simp only at hAd c0 c1
              obtain ⟨x, hx⟩ : ∃ x, ords[k] = x := ⟨_, rfl⟩
              rw [hx] at c0 c1
              subst hAd
              have X := Lib.hid hx
              clear hx
              have hfx := ((H.upd hu2 (fun _ _ => id)).ord x (by rw [← X.out]; exact List.getElem_mem hlt2)).2.2.1
              by_cases ht : 24 < x.txs.length
              · have hv := Lib.hid (show lightB ⟨txs, ords, A, c, some ad, d⟩ = false by
                  unfold lightB
                  rw [all_not (l := ords) (k := k) hlt2 (by rw [X.out]; exact decide_eq_false (by omega))]
                  simp)
                go_wp2
                go_ret
                exact ⟨by rw [hv.out]; rfl, hu2.alloc _⟩
              · go_wp2
                go_roundg (gk - 1)
                case measure => omega
                case rel => exact ⟨k + 1, by omega, by go_num, Lib.hid (all_take hlt2 hall.out (by rw [X.out]; exact decide_eq_true (by omega))), hu2.alloc _⟩
            · obtain rfl : k = ords.length := by omega
              have hv := Lib.hid (show lightB ⟨txs, ords, A, c, B, d⟩ = true by
                have h3 := hall.out
                rw [List.take_length] at h3
                unfold lightB
                rw [decide_eq_true (show txs.length ≤ 12 by omega), decide_eq_true (show ords.length ≤ 24 by omega), hall1.out, h3]
                rfl)
              go_wp2
              go_ret
              exact ⟨by rw [hv.out]; rfl, hu2⟩
end Go.Proofs.Ytgakhpdclhlmpaa
