/- Whether a history is right. -/
import Derived.Test.YtaicemjckagcaaaGreatMbh
import Derived.Test.YtaicemjckagcaaaGreatMbi
namespace Go.Proofs.YtaicemjckagcaaaGreat
set_option linter.unusedVariables false
open Go.RowKit
theorem all_range_no {p : Nat → Bool} {n k : Nat} (hk : k < n) (h : p k = false) : (List.range n).all p = false := by
  rw [List.all_eq_false]
  exact ⟨k, List.mem_range.2 hk, by simp [h]⟩
theorem all_range_succ {p : Nat → Bool} {k : Nat} (h : (List.range k).all p = true) (hk : p k = true) : (List.range (k + 1)).all p = true := by
  rw [List.range_succ, List.all_append, h]
  simp [hk]
section
variable {h : Hist} {k : Nat}
theorem right_tx (hk : k < h.txs.length) (ht : txOk h.txs k = false) : rightB h = false := by
  unfold rightB
  rw [all_range_no hk ht]
  simp
theorem right_ord (hk : k < h.ords.length) (ht : ordOk h.txs h.ords k = false) : rightB h = false := by
  unfold rightB
  rw [all_range_no hk ht]
  simp
theorem right_len (hl : ((wkeys h.txs []).length == h.ords.length) = false) : rightB h = false := by
  unfold rightB
  rw [hl]
  simp
theorem right_many (hl : 4096 < h.txs.length) : rightB h = false := by
  unfold rightB
  rw [decide_eq_false (by omega)]
  simp
theorem right_yes (h1 : h.txs.length ≤ 4096) (h2 : (List.range h.txs.length).all (txOk h.txs) = true) (h3 : ((wkeys h.txs []).length == h.ords.length) = true) (h4 : (List.range h.ords.length).all (ordOk h.txs h.ords) = true) : rightB h = true := by
  unfold rightB
  rw [decide_eq_true h1, h2, h3, h4]
  rfl
end
section
variable {txs : List HTx} {k : Nat} {x : HTx}
/-- does it stand behind the one ahead -/
def aheadB (txs : List HTx) (k : Nat) (id : Int) : Bool := match k with | 0 => true | j + 1 => (match txs[j]? with | some u => decide (u.id < id) | none => true)
theorem txOk_eq (hk : k < txs.length) (hx : txs[k] = x) : txOk txs k = (aheadB txs k x.id && txErr x.id x.ops == 0 && neededB txs x.id x.ops) := by
  unfold txOk aheadB
  rw [List.getElem?_eq_getElem hk, hx]
  cases k <;> rfl
theorem ahead_no {y : HTx} (hk : 0 < k) (hk2 : k < txs.length) (hy : txs[k - 1]'(by omega) = y) (id : Int) (h : id ≤ y.id) : aheadB txs k id = false := by
  obtain ⟨j, rfl⟩ : ∃ j, k = j + 1 := ⟨k - 1, by omega⟩
  simp only [Nat.add_sub_cancel] at hy
  show (match txs[j]? with | some u => decide (u.id < id) | none => true) = _
  rw [List.getElem?_eq_getElem (by omega), hy]
  simp only [decide_eq_false_iff_not]
  omega
theorem ahead_yes {y : HTx} (hk : 0 < k) (hk2 : k < txs.length) (hy : txs[k - 1]'(by omega) = y) (id : Int) (h : y.id < id) : aheadB txs k id = true := by
  obtain ⟨j, rfl⟩ : ∃ j, k = j + 1 := ⟨k - 1, by omega⟩
  simp only [Nat.add_sub_cancel] at hy
  show (match txs[j]? with | some u => decide (u.id < id) | none => true) = _
  rw [List.getElem?_eq_getElem (by omega), hy]
  simp only [decide_eq_true_eq]
  omega
end
section
variable {txs : List HTx} {ords : List HOrd} {k : Nat} {x : HOrd}
def aheadO (ords : List HOrd) (k : Nat) (key : Int) : Bool := match k with | 0 => true | j + 1 => (match ords[j]? with | some u => decide (u.key < key) | none => true)
theorem ordOk_eq (hk : k < ords.length) (hx : ords[k] = x) : ordOk txs ords k = (aheadO ords k x.key && !x.txs.isEmpty && (sortK x.txs == sortK (writersOf txs x.key))) := by
  unfold ordOk aheadO
  rw [List.getElem?_eq_getElem hk, hx]
  cases k <;> rfl
theorem aheadO_no {y : HOrd} (hk : 0 < k) (hk2 : k < ords.length) (hy : ords[k - 1]'(by omega) = y) (key : Int) (h : key ≤ y.key) : aheadO ords k key = false := by
  obtain ⟨j, rfl⟩ : ∃ j, k = j + 1 := ⟨k - 1, by omega⟩
  simp only [Nat.add_sub_cancel] at hy
  show (match ords[j]? with | some u => decide (u.key < key) | none => true) = _
  rw [List.getElem?_eq_getElem (by omega), hy]
  simp only [decide_eq_false_iff_not]
  omega
theorem aheadO_yes {y : HOrd} (hk : 0 < k) (hk2 : k < ords.length) (hy : ords[k - 1]'(by omega) = y) (key : Int) (h : y.key < key) : aheadO ords k key = true := by
  obtain ⟨j, rfl⟩ : ∃ j, k = j + 1 := ⟨k - 1, by omega⟩
  simp only [Nat.add_sub_cancel] at hy
  show (match ords[j]? with | some u => decide (u.key < key) | none => true) = _
  rw [List.getElem?_eq_getElem (by omega), hy]
  simp only [decide_eq_true_eq]
  omega
end
theorem permB_eq (a b : List Int) : permB a b = (sortK a == sortK b) := by unfold permB; rw [sortI_eq, sortI_eq]
section
variable {F : Nat → Prop} {w : World} {i0 : Int} {dn : Bool} {A : Option Addr} {c : Nat} {l : List HOp}
theorem trightV {v : Int} (h : HOps F w A l) (hl : fewOps l.length) (hv : txErr i0 l = v) : Calls Tryz.prog 58 #[.agg #[.int .i64 i0, .bool dn, .slice A l.length c]] w fun e w' => e = .returned (.int .i64 v) ∧ Upd No w w' := by subst hv; exact tright F w i0 dn A c l h hl
theorem hneededV {v : Bool} {txs : List HTx} {ords : List HOrd} {A' B : Option Addr} {c' d : Nat} (H : Hist.lies F w ⟨txs, ords, A', c', B, d⟩) (h : HOps F w A l) (hl : fewOps l.length) (hv : neededB txs i0 l = v) :
    Calls Tryz.prog 141 #[.agg #[.slice A' txs.length c', .slice B ords.length d], .agg #[.int .i64 i0, .bool dn, .slice A l.length c]] w fun e w' => e = .returned (.bool v) ∧ Upd No w w' := by subst hv; exact hneeded F w ⟨txs, ords, A', c', B, d⟩ i0 dn A c l H h hl
end
theorem opermV {F G : Nat → Prop} {w : World} {A B : Option Addr} {c d : Nat} {a b : List Int} {v : Bool} (ha : Ints F w A a) (hb : Ints G w B b) (hl : a.length ≤ 17592186044415) (hl2 : b.length ≤ 17592186044415) (hv : permB a b = v) :
    Calls Tryz.prog 143 #[.slice A a.length c, .slice B b.length d] w fun e w' => e = .returned (.bool v) ∧ Upd No w w' := by subst hv; exact operm F G w A B c d a b ha hb hl hl2
set_option maxRecDepth 100000 in
set_option maxHeartbeats 8000000 in
theorem hright (F : Nat → Prop) (w : World) (h : Hist) (H : h.lies F w) : Calls Tryz.prog 90 #[h.val] w fun e w' => e = .returned (.bool (rightB h)) ∧ Upd No w w' := by
  obtain ⟨txs, ords, A, c, B, d⟩ := h
  have hft := H.few
  have hfo := H.fewo
  simp only at hft hfo
  unfold Hist.val
  have uH := (Upd.refl No w).alloc (.cells #[.slice A txs.length c, .slice B ords.length d] 25)
  by_cases hmany : 4096 < txs.length
  · have hv := Lib.hid (right_many (h := ⟨txs, ords, A, c, B, d⟩) hmany)
    go_enter Tryz.func90, Tryz.ntmps90
    go_wp2
    go_ret
    exact ⟨by rw [hv.out]; rfl, uH⟩
  · have hmb : decide ((4096 : Int) < (txs.length : Int)) = false := decide_eq_false (by omega)
    have bH0 := Lib.hid (Blk.new w 25 [.slice A txs.length c, .slice B ords.length d])
    go_enter Tryz.func90, Tryz.ntmps90
    go_wp2
    go_loopg [15] txs.length (fun gk i wr => ∃ (k : Nat), k + gk = txs.length ∧ i = .int .i64 k ∧ Hid ((List.range k).all (txOk txs) = true) ∧ Upd No (w.alloc (.cells #[.slice A txs.length c, .slice B ords.length d] 25)) wr)
    case atStart => exact ⟨0, by omega, rfl, Lib.hid rfl, Upd.refl No _⟩
    case round =>
      obtain ⟨k, hgk, rfl, hall, hu⟩ := hrel
      by_cases hlt : k < txs.length
      · have H1 := H.upd (uH.trans hu) (fun _ _ => id)
        obtain ⟨ad, hAd, q0, q1, q2⟩ := H1.tx_at hlt
        simp only at hAd q0 q1 q2
        have hx0 := H.tx txs[k] (List.getElem_mem hlt)
        have hx1 := H1.tx txs[k] (List.getElem_mem hlt)
        obtain ⟨x, hx⟩ : ∃ x, txs[k] = x := ⟨_, rfl⟩
        rw [hx] at q0 q1 q2 hx1 hx0
        subst hAd
        have X := Lib.hid hx
        have XL := Lib.hid hx1
        have XL0 := Lib.hid hx0
        have b1 : (0 : Int) ≤ (k : Int) := Int.natCast_nonneg _
        have b2 : (k : Int) < (txs.length : Int) := by omega
        have uA := (Upd.refl No wr).alloc (.cells #[.int .i64 x.id, .bool x.done, .slice x.A x.ops.length x.c] 47)
        have bo := Lib.hid (Blk.new wr 47 [.int .i64 x.id, .bool x.done, .slice x.A x.ops.length x.c])
        have bH := Lib.hid ((bH0.out.upd hu id).upd uA id)
        have UA := Lib.hid (hu.trans uA)
        clear hx hx1 hx0
        obtain ⟨E, hE0⟩ : ∃ E, txErr x.id x.ops = E := ⟨_, rfl⟩
        obtain ⟨N, hN0⟩ : ∃ N, neededB txs x.id x.ops = N := ⟨_, rfl⟩
        have hE := Lib.hid hE0
        have hN := Lib.hid hN0
        have hok := Lib.hid (show txOk txs k = (aheadB txs k x.id && E == 0 && N) by rw [txOk_eq hlt X.out, hE0, hN0])
        clear hE0 hN0
        by_cases hk0 : k = 0
        · have hah := Lib.hid (show aheadB txs k x.id = true by rw [hk0]; rfl)
          have hkk : decide ((0 : Int) < (k : Int)) = false := decide_eq_false (by omega)
          have hkn : decide (0 < k) = false := decide_eq_false (by omega)
          clear hk0 H1
          by_cases hE1 : E = 0
          · subst hE1
            cases N
            · have hf := Lib.hid (show rightB ⟨txs, ords, some ad, c, B, d⟩ = false from right_tx (k := k) hlt (by rw [hok.out]; simp))
              have g0 := bH.out.cell 0
              have g1 := bH.out.cell 1
              have k0 := bo.out.cell 0
              have k1 := bo.out.cell 1
              have k2 := bo.out.cell 2
              simp only [List.getElem?_cons_zero, List.getElem?_cons_succ] at g0 g1 k0 k1 k2
              go_wp2
              refine wp_region_noPanic ?_
              refine wp_region_held_drew (S := (fun w' => Upd No (w.alloc (.cells #[.slice (some ad) txs.length c, .slice B ords.length d] 25)) w' ∧ w'.cell? ⟨w.heap.size, 0, none⟩ = some (.slice (some ad) txs.length c) ∧ w'.cell? ⟨w.heap.size, 1, none⟩ = some (.slice B ords.length d) ∧ w'.cell? ⟨wr.heap.size, 0, none⟩ = some (.int .i64 x.id) ∧ w'.cell? ⟨wr.heap.size, 1, none⟩ = some (.bool x.done) ∧ w'.cell? ⟨wr.heap.size, 2, none⟩ = some (.slice x.A x.ops.length x.c))) (by kernel_rfl) ?_ (fun hHeld => ?_)
              · (first | exact ⟨UA.out.drew, g0, g1, k0, k1, k2⟩ | exact ⟨hHeld.1.trans hu3, hu3.keepNo hHeld.2.1, hu3.keepNo hHeld.2.2.1, hu3.keepNo hHeld.2.2.2.1, hu3.keepNo hHeld.2.2.2.2.1, hu3.keepNo hHeld.2.2.2.2.2⟩)
              refine wpT 0 ⟨some 20, .move (.tmp 3), 3, "history.go:80", #[], none⟩ ?_ (.inl ⟨by rfl, ?_⟩) ?_
              rotate_left
              · (intro W hSw; (try dsimp only at hSw); go_simp; try (with_reducible rfl))
              try simp only [Act.put]
              try simp only [List.setIfInBounds_toArray]
              try simp only [List.set_cons_succ]
              try simp only [List.set_cons_zero]
              refine wpT 1 ⟨some 21, .binOp .gtr 3 (.tmp 20) (.const (.int .i64 0)) 3, 4, "history.go:80", #[⟨0, .data⟩], none⟩ ?_ (.inl ⟨by rfl, ?_⟩) ?_
              rotate_left
              · (intro W hSw; (try dsimp only at hSw); go_simp; try (with_reducible rfl))
              try simp only [Act.put]
              try simp only [List.setIfInBounds_toArray]
              try simp only [List.set_cons_succ]
              try simp only [List.set_cons_zero]
              refine wpT 2 ⟨some 22, .move (.tmp 21), 4, "history.go:80", #[⟨1, .data⟩], none⟩ ?_ (.inl ⟨by rfl, ?_⟩) ?_
              rotate_left
              · (intro W hSw; (try dsimp only at hSw); go_simp; try (with_reducible rfl))
              try simp only [Act.put]
              try simp only [List.setIfInBounds_toArray]
              try simp only [List.set_cons_succ]
              try simp only [List.set_cons_zero]
              refine wpT 3 ⟨some 23, .fieldAddr 25 (.tmp 1) 0, 0, "history.go:80", #[⟨2, .guard⟩], some (2, true)⟩ undef (.inr ⟨by rfl, rfl⟩) ?_
              try simp only [Act.put]
              try simp only [List.setIfInBounds_toArray]
              try simp only [List.set_cons_succ]
              try simp only [List.set_cons_zero]
              refine wpT 4 ⟨some 24, .load 22 (.tmp 23), 22, "history.go:80", #[⟨3, .data⟩, ⟨2, .guard⟩], some (2, true)⟩ undef (.inr ⟨by rfl, rfl⟩) ?_
              try simp only [Act.put]
              try simp only [List.setIfInBounds_toArray]
              try simp only [List.set_cons_succ]
              try simp only [List.set_cons_zero]
              refine wpT 5 ⟨some 25, .move (.tmp 3), 3, "history.go:80", #[⟨2, .guard⟩], some (2, true)⟩ undef (.inr ⟨by rfl, rfl⟩) ?_
              try simp only [Act.put]
              try simp only [List.setIfInBounds_toArray]
              try simp only [List.set_cons_succ]
              try simp only [List.set_cons_zero]
              refine wpT 6 ⟨some 26, .binOp .sub 3 (.tmp 25) (.const (.int .i64 1)) 3, 3, "history.go:80", #[⟨5, .data⟩, ⟨2, .guard⟩], some (2, true)⟩ undef (.inr ⟨by rfl, rfl⟩) ?_
              try simp only [Act.put]
              try simp only [List.setIfInBounds_toArray]
              try simp only [List.set_cons_succ]
              try simp only [List.set_cons_zero]
              refine wpT 7 ⟨some 27, .indexAddr 22 (.tmp 24) (.tmp 26), 0, "history.go:80", #[⟨4, .data⟩, ⟨6, .data⟩, ⟨2, .guard⟩], some (2, true)⟩ undef (.inr ⟨by rfl, rfl⟩) ?_
              try simp only [Act.put]
              try simp only [List.setIfInBounds_toArray]
              try simp only [List.set_cons_succ]
              try simp only [List.set_cons_zero]
              refine wpT 8 ⟨some 28, .fieldAddr 47 (.tmp 27) 0, 0, "history.go:80", #[⟨7, .data⟩, ⟨2, .guard⟩], some (2, true)⟩ undef (.inr ⟨by rfl, rfl⟩) ?_
              try simp only [Act.put]
              try simp only [List.setIfInBounds_toArray]
              try simp only [List.set_cons_succ]
              try simp only [List.set_cons_zero]
              refine wpT 9 ⟨some 29, .load 3 (.tmp 28), 3, "history.go:80", #[⟨8, .data⟩, ⟨2, .guard⟩], some (2, true)⟩ undef (.inr ⟨by rfl, rfl⟩) ?_
              try simp only [Act.put]
              try simp only [List.setIfInBounds_toArray]
              try simp only [List.set_cons_succ]
              try simp only [List.set_cons_zero]
              refine wpT 10 ⟨some 30, .fieldAddr 47 (.tmp 4) 0, 0, "history.go:80", #[⟨2, .guard⟩], some (2, true)⟩ undef (.inr ⟨by rfl, rfl⟩) ?_
              try simp only [Act.put]
              try simp only [List.setIfInBounds_toArray]
              try simp only [List.set_cons_succ]
              try simp only [List.set_cons_zero]
              refine wpT 11 ⟨some 31, .load 3 (.tmp 30), 3, "history.go:80", #[⟨10, .data⟩, ⟨2, .guard⟩], some (2, true)⟩ undef (.inr ⟨by rfl, rfl⟩) ?_
              try simp only [Act.put]
              try simp only [List.setIfInBounds_toArray]
              try simp only [List.set_cons_succ]
              try simp only [List.set_cons_zero]
              refine wpT 12 ⟨some 32, .binOp .geq 3 (.tmp 29) (.tmp 31) 3, 4, "history.go:80", #[⟨9, .data⟩, ⟨11, .data⟩, ⟨2, .guard⟩], some (2, true)⟩ undef (.inr ⟨by rfl, rfl⟩) ?_
              try simp only [Act.put]
              try simp only [List.setIfInBounds_toArray]
              try simp only [List.set_cons_succ]
              try simp only [List.set_cons_zero]
              refine wpT 13 ⟨some 33, .pick (.tmp 22) (.tmp 32) (.const (.bool false)), 4, "history.go:80", #[⟨2, .data⟩, ⟨12, .data⟩], none⟩ ?_ (.inl ⟨by rfl, ?_⟩) ?_
              rotate_left
              · (intro W hSw; (try dsimp only at hSw); go_simp; try (with_reducible rfl))
              try simp only [Act.put]
              try simp only [List.setIfInBounds_toArray]
              try simp only [List.set_cons_succ]
              try simp only [List.set_cons_zero]
              refine wpT 14 ⟨some 34, .move (.tmp 33), 4, "history.go:80", #[⟨13, .data⟩, ⟨2, .chain⟩], none⟩ ?_ (.inl ⟨by rfl, ?_⟩) ?_
              rotate_left
              · (intro W hSw; (try dsimp only at hSw); go_simp; try (with_reducible rfl))
              try simp only [Act.put]
              try simp only [List.setIfInBounds_toArray]
              try simp only [List.set_cons_succ]
              try simp only [List.set_cons_zero]
              refine wpT 15 ⟨some 35, .load 47 (.tmp 4), 47, "history.go:80", #[⟨14, .guard⟩], some (14, false)⟩ ?_ (.inl ⟨by rfl, ?_⟩) ?_
              rotate_left
              · (intro W hSw; (try dsimp only at hSw); go_simp; try (with_reducible rfl))
              try simp only [Act.put]
              try simp only [List.setIfInBounds_toArray]
              try simp only [List.set_cons_succ]
              try simp only [List.set_cons_zero]
              refine wpAnyH_ready (rs := [16]) (by kernel_rfl) (by simp) ?_
              refine AllReadyH.cons (o := ⟨some 36, .call { callee := .value (.func 58), args := #[.tmp 35], argTypes := #[47] }, 50, "history.go:80", #[⟨15, .data⟩, ⟨14, .chain⟩, ⟨14, .guard⟩], some (14, false)⟩) rfl (fun K hK => ?_) AllReadyH.nil
              go_simp
              (first
    | (go_at_call 58; refine (trightV (F := F) (v := 0) (HOps.upd XL0.out.1 (uH.trans hHeld.1) (fun _ _ => id)) XL.out.2.2.1 hE.out).mono ?_; rintro e w3 ⟨rfl, hu3⟩))
              try (go_wp2_with fail)
              refine hK.out _ _ ?_ (fun hHeld => ?_)
              · (first | exact ⟨UA.out.drew, g0, g1, k0, k1, k2⟩ | exact ⟨hHeld.1.trans hu3, hu3.keepNo hHeld.2.1, hu3.keepNo hHeld.2.2.1, hu3.keepNo hHeld.2.2.2.1, hu3.keepNo hHeld.2.2.2.2.1, hu3.keepNo hHeld.2.2.2.2.2⟩)
              clear hK K
              try simp only [Act.put]
              try simp only [List.setIfInBounds_toArray]
              try simp only [List.set_cons_succ]
              try simp only [List.set_cons_zero]
              refine wpT 17 ⟨some 37, .binOp .neq 50 (.tmp 36) (.const (.int .i64 0)) 50, 4, "history.go:80", #[⟨16, .data⟩, ⟨14, .guard⟩], some (14, false)⟩ ?_ (.inl ⟨by rfl, ?_⟩) ?_
              rotate_left
              · (intro W hSw; (try dsimp only at hSw); go_simp; try (with_reducible rfl))
              try simp only [Act.put]
              try simp only [List.setIfInBounds_toArray]
              try simp only [List.set_cons_succ]
              try simp only [List.set_cons_zero]
              refine wpT 18 ⟨some 38, .pick (.tmp 34) (.const (.bool true)) (.tmp 37), 4, "history.go:80", #[⟨14, .data⟩, ⟨17, .data⟩], none⟩ ?_ (.inl ⟨by rfl, ?_⟩) ?_
              rotate_left
              · (intro W hSw; (try dsimp only at hSw); go_simp; try (with_reducible rfl))
              try simp only [Act.put]
              try simp only [List.setIfInBounds_toArray]
              try simp only [List.set_cons_succ]
              try simp only [List.set_cons_zero]
              refine wpT 19 ⟨some 39, .move (.tmp 38), 4, "history.go:80", #[⟨18, .data⟩, ⟨16, .chain⟩], none⟩ ?_ (.inl ⟨by rfl, ?_⟩) ?_
              rotate_left
              · (intro W hSw; (try dsimp only at hSw); go_simp; try (with_reducible rfl))
              try simp only [Act.put]
              try simp only [List.setIfInBounds_toArray]
              try simp only [List.set_cons_succ]
              try simp only [List.set_cons_zero]
              refine wpT 20 ⟨some 40, .load 25 (.tmp 1), 25, "history.go:80", #[⟨19, .guard⟩], some (19, false)⟩ ?_ (.inl ⟨by rfl, ?_⟩) ?_
              rotate_left
              · (intro W hSw; (try dsimp only at hSw); go_simp; try (with_reducible rfl))
              try simp only [Act.put]
              try simp only [List.setIfInBounds_toArray]
              try simp only [List.set_cons_succ]
              try simp only [List.set_cons_zero]
              refine wpT 21 ⟨some 41, .load 47 (.tmp 4), 47, "history.go:80", #[⟨19, .guard⟩], some (19, false)⟩ ?_ (.inl ⟨by rfl, ?_⟩) ?_
              rotate_left
              · (intro W hSw; (try dsimp only at hSw); go_simp; try (with_reducible rfl))
              try simp only [Act.put]
              try simp only [List.setIfInBounds_toArray]
              try simp only [List.set_cons_succ]
              try simp only [List.set_cons_zero]
              refine wpAnyH_ready (rs := [22]) (by kernel_rfl) (by simp) ?_
              refine AllReadyH.cons (o := ⟨some 42, .call { callee := .value (.func 141), args := #[.tmp 40, .tmp 41], argTypes := #[25, 47] }, 4, "history.go:80", #[⟨20, .data⟩, ⟨21, .data⟩, ⟨19, .chain⟩, ⟨19, .guard⟩], some (19, false)⟩) rfl (fun K hK => ?_) AllReadyH.nil
              go_simp
              (first
    | (go_at_call 141; refine (hneededV (F := F) (v := false) (H.upd (uH.trans hHeld.1) (fun _ _ => id)) (HOps.upd XL0.out.1 (uH.trans hHeld.1) (fun _ _ => id)) XL.out.2.2.1 hN.out).mono ?_; rintro e w3 ⟨rfl, hu3⟩))
              try (go_wp2_with fail)
              refine hK.out _ _ ?_ (fun hHeld => ?_)
              · (first | exact ⟨UA.out.drew, g0, g1, k0, k1, k2⟩ | exact ⟨hHeld.1.trans hu3, hu3.keepNo hHeld.2.1, hu3.keepNo hHeld.2.2.1, hu3.keepNo hHeld.2.2.2.1, hu3.keepNo hHeld.2.2.2.2.1, hu3.keepNo hHeld.2.2.2.2.2⟩)
              clear hK K
              try simp only [Act.put]
              try simp only [List.setIfInBounds_toArray]
              try simp only [List.set_cons_succ]
              try simp only [List.set_cons_zero]
              refine wpT 23 ⟨some 43, .unOp .not 4 (.tmp 42), 4, "history.go:80", #[⟨22, .data⟩, ⟨19, .guard⟩], some (19, false)⟩ ?_ (.inl ⟨by rfl, ?_⟩) ?_
              rotate_left
              · (intro W hSw; (try dsimp only at hSw); go_simp; try (with_reducible rfl))
              try simp only [Act.put]
              try simp only [List.setIfInBounds_toArray]
              try simp only [List.set_cons_succ]
              try simp only [List.set_cons_zero]
              refine wpT 24 ⟨some 44, .pick (.tmp 39) (.const (.bool true)) (.tmp 43), 4, "history.go:80", #[⟨19, .data⟩, ⟨23, .data⟩], none⟩ ?_ (.inl ⟨by rfl, ?_⟩) ?_
              rotate_left
              · (intro W hSw; (try dsimp only at hSw); go_simp; try (with_reducible rfl))
              try simp only [Act.put]
              try simp only [List.setIfInBounds_toArray]
              try simp only [List.set_cons_succ]
              try simp only [List.set_cons_zero]
              refine wpAnyH_done (by kernel_rfl) (NoPanic.normal ?_) _
              have HU := Lib.hid hHeld.1
              clear hHeld
              go_wp2
              go_ret
              exact ⟨by rw [hf.out]; rfl, uH.trans HU.out⟩
            · have HA := Lib.hid (all_range_succ hall.out (by rw [hok.out, hah.out]; rfl))
              have g0 := bH.out.cell 0
              have g1 := bH.out.cell 1
              have k0 := bo.out.cell 0
              have k1 := bo.out.cell 1
              have k2 := bo.out.cell 2
              simp only [List.getElem?_cons_zero, List.getElem?_cons_succ] at g0 g1 k0 k1 k2
              go_wp2
              refine wp_region_noPanic ?_
              refine wp_region_held_drew (S := (fun w' => Upd No (w.alloc (.cells #[.slice (some ad) txs.length c, .slice B ords.length d] 25)) w' ∧ w'.cell? ⟨w.heap.size, 0, none⟩ = some (.slice (some ad) txs.length c) ∧ w'.cell? ⟨w.heap.size, 1, none⟩ = some (.slice B ords.length d) ∧ w'.cell? ⟨wr.heap.size, 0, none⟩ = some (.int .i64 x.id) ∧ w'.cell? ⟨wr.heap.size, 1, none⟩ = some (.bool x.done) ∧ w'.cell? ⟨wr.heap.size, 2, none⟩ = some (.slice x.A x.ops.length x.c))) (by kernel_rfl) ?_ (fun hHeld => ?_)
              · (first | exact ⟨UA.out.drew, g0, g1, k0, k1, k2⟩ | exact ⟨hHeld.1.trans hu3, hu3.keepNo hHeld.2.1, hu3.keepNo hHeld.2.2.1, hu3.keepNo hHeld.2.2.2.1, hu3.keepNo hHeld.2.2.2.2.1, hu3.keepNo hHeld.2.2.2.2.2⟩)
              refine wpT 0 ⟨some 20, .move (.tmp 3), 3, "history.go:80", #[], none⟩ ?_ (.inl ⟨by rfl, ?_⟩) ?_
              rotate_left
              · (intro W hSw; (try dsimp only at hSw); go_simp; try (with_reducible rfl))
              try simp only [Act.put]
              try simp only [List.setIfInBounds_toArray]
              try simp only [List.set_cons_succ]
              try simp only [List.set_cons_zero]
              refine wpT 1 ⟨some 21, .binOp .gtr 3 (.tmp 20) (.const (.int .i64 0)) 3, 4, "history.go:80", #[⟨0, .data⟩], none⟩ ?_ (.inl ⟨by rfl, ?_⟩) ?_
              rotate_left
              · (intro W hSw; (try dsimp only at hSw); go_simp; try (with_reducible rfl))
              try simp only [Act.put]
              try simp only [List.setIfInBounds_toArray]
              try simp only [List.set_cons_succ]
              try simp only [List.set_cons_zero]
              refine wpT 2 ⟨some 22, .move (.tmp 21), 4, "history.go:80", #[⟨1, .data⟩], none⟩ ?_ (.inl ⟨by rfl, ?_⟩) ?_
              rotate_left
              · (intro W hSw; (try dsimp only at hSw); go_simp; try (with_reducible rfl))
              try simp only [Act.put]
              try simp only [List.setIfInBounds_toArray]
              try simp only [List.set_cons_succ]
              try simp only [List.set_cons_zero]
              refine wpT 3 ⟨some 23, .fieldAddr 25 (.tmp 1) 0, 0, "history.go:80", #[⟨2, .guard⟩], some (2, true)⟩ undef (.inr ⟨by rfl, rfl⟩) ?_
              try simp only [Act.put]
              try simp only [List.setIfInBounds_toArray]
              try simp only [List.set_cons_succ]
              try simp only [List.set_cons_zero]
              refine wpT 4 ⟨some 24, .load 22 (.tmp 23), 22, "history.go:80", #[⟨3, .data⟩, ⟨2, .guard⟩], some (2, true)⟩ undef (.inr ⟨by rfl, rfl⟩) ?_
              try simp only [Act.put]
              try simp only [List.setIfInBounds_toArray]
              try simp only [List.set_cons_succ]
              try simp only [List.set_cons_zero]
              refine wpT 5 ⟨some 25, .move (.tmp 3), 3, "history.go:80", #[⟨2, .guard⟩], some (2, true)⟩ undef (.inr ⟨by rfl, rfl⟩) ?_
              try simp only [Act.put]
              try simp only [List.setIfInBounds_toArray]
              try simp only [List.set_cons_succ]
              try simp only [List.set_cons_zero]
              refine wpT 6 ⟨some 26, .binOp .sub 3 (.tmp 25) (.const (.int .i64 1)) 3, 3, "history.go:80", #[⟨5, .data⟩, ⟨2, .guard⟩], some (2, true)⟩ undef (.inr ⟨by rfl, rfl⟩) ?_
              try simp only [Act.put]
              try simp only [List.setIfInBounds_toArray]
              try simp only [List.set_cons_succ]
              try simp only [List.set_cons_zero]
              refine wpT 7 ⟨some 27, .indexAddr 22 (.tmp 24) (.tmp 26), 0, "history.go:80", #[⟨4, .data⟩, ⟨6, .data⟩, ⟨2, .guard⟩], some (2, true)⟩ undef (.inr ⟨by rfl, rfl⟩) ?_
              try simp only [Act.put]
              try simp only [List.setIfInBounds_toArray]
              try simp only [List.set_cons_succ]
              try simp only [List.set_cons_zero]
              refine wpT 8 ⟨some 28, .fieldAddr 47 (.tmp 27) 0, 0, "history.go:80", #[⟨7, .data⟩, ⟨2, .guard⟩], some (2, true)⟩ undef (.inr ⟨by rfl, rfl⟩) ?_
              try simp only [Act.put]
              try simp only [List.setIfInBounds_toArray]
              try simp only [List.set_cons_succ]
              try simp only [List.set_cons_zero]
              refine wpT 9 ⟨some 29, .load 3 (.tmp 28), 3, "history.go:80", #[⟨8, .data⟩, ⟨2, .guard⟩], some (2, true)⟩ undef (.inr ⟨by rfl, rfl⟩) ?_
              try simp only [Act.put]
              try simp only [List.setIfInBounds_toArray]
              try simp only [List.set_cons_succ]
              try simp only [List.set_cons_zero]
              refine wpT 10 ⟨some 30, .fieldAddr 47 (.tmp 4) 0, 0, "history.go:80", #[⟨2, .guard⟩], some (2, true)⟩ undef (.inr ⟨by rfl, rfl⟩) ?_
              try simp only [Act.put]
              try simp only [List.setIfInBounds_toArray]
              try simp only [List.set_cons_succ]
              try simp only [List.set_cons_zero]
              refine wpT 11 ⟨some 31, .load 3 (.tmp 30), 3, "history.go:80", #[⟨10, .data⟩, ⟨2, .guard⟩], some (2, true)⟩ undef (.inr ⟨by rfl, rfl⟩) ?_
              try simp only [Act.put]
              try simp only [List.setIfInBounds_toArray]
              try simp only [List.set_cons_succ]
              try simp only [List.set_cons_zero]
              refine wpT 12 ⟨some 32, .binOp .geq 3 (.tmp 29) (.tmp 31) 3, 4, "history.go:80", #[⟨9, .data⟩, ⟨11, .data⟩, ⟨2, .guard⟩], some (2, true)⟩ undef (.inr ⟨by rfl, rfl⟩) ?_
              try simp only [Act.put]
              try simp only [List.setIfInBounds_toArray]
              try simp only [List.set_cons_succ]
              try simp only [List.set_cons_zero]
              refine wpT 13 ⟨some 33, .pick (.tmp 22) (.tmp 32) (.const (.bool false)), 4, "history.go:80", #[⟨2, .data⟩, ⟨12, .data⟩], none⟩ ?_ (.inl ⟨by rfl, ?_⟩) ?_
              rotate_left
              · (intro W hSw; (try dsimp only at hSw); go_simp; try (with_reducible rfl))
              try simp only [Act.put]
              try simp only [List.setIfInBounds_toArray]
              try simp only [List.set_cons_succ]
              try simp only [List.set_cons_zero]
              refine wpT 14 ⟨some 34, .move (.tmp 33), 4, "history.go:80", #[⟨13, .data⟩, ⟨2, .chain⟩], none⟩ ?_ (.inl ⟨by rfl, ?_⟩) ?_
              rotate_left
              · (intro W hSw; (try dsimp only at hSw); go_simp; try (with_reducible rfl))
              try simp only [Act.put]
              try simp only [List.setIfInBounds_toArray]
              try simp only [List.set_cons_succ]
              try simp only [List.set_cons_zero]
              refine wpT 15 ⟨some 35, .load 47 (.tmp 4), 47, "history.go:80", #[⟨14, .guard⟩], some (14, false)⟩ ?_ (.inl ⟨by rfl, ?_⟩) ?_
              rotate_left
              · (intro W hSw; (try dsimp only at hSw); go_simp; try (with_reducible rfl))
              try simp only [Act.put]
              try simp only [List.setIfInBounds_toArray]
              try simp only [List.set_cons_succ]
              try simp only [List.set_cons_zero]
              refine wpAnyH_ready (rs := [16]) (by kernel_rfl) (by simp) ?_
              refine AllReadyH.cons (o := ⟨some 36, .call { callee := .value (.func 58), args := #[.tmp 35], argTypes := #[47] }, 50, "history.go:80", #[⟨15, .data⟩, ⟨14, .chain⟩, ⟨14, .guard⟩], some (14, false)⟩) rfl (fun K hK => ?_) AllReadyH.nil
              go_simp
              (first
    | (go_at_call 58; refine (trightV (F := F) (v := 0) (HOps.upd XL0.out.1 (uH.trans hHeld.1) (fun _ _ => id)) XL.out.2.2.1 hE.out).mono ?_; rintro e w3 ⟨rfl, hu3⟩))
              try (go_wp2_with fail)
              refine hK.out _ _ ?_ (fun hHeld => ?_)
              · (first | exact ⟨UA.out.drew, g0, g1, k0, k1, k2⟩ | exact ⟨hHeld.1.trans hu3, hu3.keepNo hHeld.2.1, hu3.keepNo hHeld.2.2.1, hu3.keepNo hHeld.2.2.2.1, hu3.keepNo hHeld.2.2.2.2.1, hu3.keepNo hHeld.2.2.2.2.2⟩)
              clear hK K
              try simp only [Act.put]
              try simp only [List.setIfInBounds_toArray]
              try simp only [List.set_cons_succ]
              try simp only [List.set_cons_zero]
              refine wpT 17 ⟨some 37, .binOp .neq 50 (.tmp 36) (.const (.int .i64 0)) 50, 4, "history.go:80", #[⟨16, .data⟩, ⟨14, .guard⟩], some (14, false)⟩ ?_ (.inl ⟨by rfl, ?_⟩) ?_
              rotate_left
              · (intro W hSw; (try dsimp only at hSw); go_simp; try (with_reducible rfl))
              try simp only [Act.put]
              try simp only [List.setIfInBounds_toArray]
              try simp only [List.set_cons_succ]
              try simp only [List.set_cons_zero]
              refine wpT 18 ⟨some 38, .pick (.tmp 34) (.const (.bool true)) (.tmp 37), 4, "history.go:80", #[⟨14, .data⟩, ⟨17, .data⟩], none⟩ ?_ (.inl ⟨by rfl, ?_⟩) ?_
              rotate_left
              · (intro W hSw; (try dsimp only at hSw); go_simp; try (with_reducible rfl))
              try simp only [Act.put]
              try simp only [List.setIfInBounds_toArray]
              try simp only [List.set_cons_succ]
              try simp only [List.set_cons_zero]
              refine wpT 19 ⟨some 39, .move (.tmp 38), 4, "history.go:80", #[⟨18, .data⟩, ⟨16, .chain⟩], none⟩ ?_ (.inl ⟨by rfl, ?_⟩) ?_
              rotate_left
              · (intro W hSw; (try dsimp only at hSw); go_simp; try (with_reducible rfl))
              try simp only [Act.put]
              try simp only [List.setIfInBounds_toArray]
              try simp only [List.set_cons_succ]
              try simp only [List.set_cons_zero]
              refine wpT 20 ⟨some 40, .load 25 (.tmp 1), 25, "history.go:80", #[⟨19, .guard⟩], some (19, false)⟩ ?_ (.inl ⟨by rfl, ?_⟩) ?_
              rotate_left
              · (intro W hSw; (try dsimp only at hSw); go_simp; try (with_reducible rfl))
              try simp only [Act.put]
              try simp only [List.setIfInBounds_toArray]
              try simp only [List.set_cons_succ]
              try simp only [List.set_cons_zero]
              refine wpT 21 ⟨some 41, .load 47 (.tmp 4), 47, "history.go:80", #[⟨19, .guard⟩], some (19, false)⟩ ?_ (.inl ⟨by rfl, ?_⟩) ?_
              rotate_left
              · (intro W hSw; (try dsimp only at hSw); go_simp; try (with_reducible rfl))
              try simp only [Act.put]
              try simp only [List.setIfInBounds_toArray]
              try simp only [List.set_cons_succ]
              try simp only [List.set_cons_zero]
              refine wpAnyH_ready (rs := [22]) (by kernel_rfl) (by simp) ?_
              refine AllReadyH.cons (o := ⟨some 42, .call { callee := .value (.func 141), args := #[.tmp 40, .tmp 41], argTypes := #[25, 47] }, 4, "history.go:80", #[⟨20, .data⟩, ⟨21, .data⟩, ⟨19, .chain⟩, ⟨19, .guard⟩], some (19, false)⟩) rfl (fun K hK => ?_) AllReadyH.nil
              go_simp
              (first
    | (go_at_call 141; refine (hneededV (F := F) (v := true) (H.upd (uH.trans hHeld.1) (fun _ _ => id)) (HOps.upd XL0.out.1 (uH.trans hHeld.1) (fun _ _ => id)) XL.out.2.2.1 hN.out).mono ?_; rintro e w3 ⟨rfl, hu3⟩))
              try (go_wp2_with fail)
              refine hK.out _ _ ?_ (fun hHeld => ?_)
              · (first | exact ⟨UA.out.drew, g0, g1, k0, k1, k2⟩ | exact ⟨hHeld.1.trans hu3, hu3.keepNo hHeld.2.1, hu3.keepNo hHeld.2.2.1, hu3.keepNo hHeld.2.2.2.1, hu3.keepNo hHeld.2.2.2.2.1, hu3.keepNo hHeld.2.2.2.2.2⟩)
              clear hK K
              try simp only [Act.put]
              try simp only [List.setIfInBounds_toArray]
              try simp only [List.set_cons_succ]
              try simp only [List.set_cons_zero]
              refine wpT 23 ⟨some 43, .unOp .not 4 (.tmp 42), 4, "history.go:80", #[⟨22, .data⟩, ⟨19, .guard⟩], some (19, false)⟩ ?_ (.inl ⟨by rfl, ?_⟩) ?_
              rotate_left
              · (intro W hSw; (try dsimp only at hSw); go_simp; try (with_reducible rfl))
              try simp only [Act.put]
              try simp only [List.setIfInBounds_toArray]
              try simp only [List.set_cons_succ]
              try simp only [List.set_cons_zero]
              refine wpT 24 ⟨some 44, .pick (.tmp 39) (.const (.bool true)) (.tmp 43), 4, "history.go:80", #[⟨19, .data⟩, ⟨23, .data⟩], none⟩ ?_ (.inl ⟨by rfl, ?_⟩) ?_
              rotate_left
              · (intro W hSw; (try dsimp only at hSw); go_simp; try (with_reducible rfl))
              try simp only [Act.put]
              try simp only [List.setIfInBounds_toArray]
              try simp only [List.set_cons_succ]
              try simp only [List.set_cons_zero]
              refine wpAnyH_done (by kernel_rfl) (NoPanic.normal ?_) _
              have HU := Lib.hid hHeld.1
              clear hHeld
              go_wp2
              go_roundg (gk - 1)
              case measure => omega
              case rel => exact ⟨k + 1, by omega, by go_num, Lib.hid HA.out, HU.out⟩
          · have hEb : (E != 0) = true := by simpa using hE1
            have hf := Lib.hid (show rightB ⟨txs, ords, some ad, c, B, d⟩ = false from right_tx (k := k) hlt (by rw [hok.out, beq_eq_false_iff_ne.2 hE1]; simp))
            clear hE1
            have g0 := bH.out.cell 0
            have g1 := bH.out.cell 1
            have k0 := bo.out.cell 0
            have k1 := bo.out.cell 1
            have k2 := bo.out.cell 2
            simp only [List.getElem?_cons_zero, List.getElem?_cons_succ] at g0 g1 k0 k1 k2
            go_wp2
            refine wp_region_noPanic ?_
            refine wp_region_held_drew (S := (fun w' => Upd No (w.alloc (.cells #[.slice (some ad) txs.length c, .slice B ords.length d] 25)) w' ∧ w'.cell? ⟨w.heap.size, 0, none⟩ = some (.slice (some ad) txs.length c) ∧ w'.cell? ⟨w.heap.size, 1, none⟩ = some (.slice B ords.length d) ∧ w'.cell? ⟨wr.heap.size, 0, none⟩ = some (.int .i64 x.id) ∧ w'.cell? ⟨wr.heap.size, 1, none⟩ = some (.bool x.done) ∧ w'.cell? ⟨wr.heap.size, 2, none⟩ = some (.slice x.A x.ops.length x.c))) (by kernel_rfl) ?_ (fun hHeld => ?_)
            · (first | exact ⟨UA.out.drew, g0, g1, k0, k1, k2⟩ | exact ⟨hHeld.1.trans hu3, hu3.keepNo hHeld.2.1, hu3.keepNo hHeld.2.2.1, hu3.keepNo hHeld.2.2.2.1, hu3.keepNo hHeld.2.2.2.2.1, hu3.keepNo hHeld.2.2.2.2.2⟩)
            refine wpT 0 ⟨some 20, .move (.tmp 3), 3, "history.go:80", #[], none⟩ ?_ (.inl ⟨by rfl, ?_⟩) ?_
            rotate_left
            · (intro W hSw; (try dsimp only at hSw); go_simp; try (with_reducible rfl))
            try simp only [Act.put]
            try simp only [List.setIfInBounds_toArray]
            try simp only [List.set_cons_succ]
            try simp only [List.set_cons_zero]
            refine wpT 1 ⟨some 21, .binOp .gtr 3 (.tmp 20) (.const (.int .i64 0)) 3, 4, "history.go:80", #[⟨0, .data⟩], none⟩ ?_ (.inl ⟨by rfl, ?_⟩) ?_
            rotate_left
            · (intro W hSw; (try dsimp only at hSw); go_simp; try (with_reducible rfl))
            try simp only [Act.put]
            try simp only [List.setIfInBounds_toArray]
            try simp only [List.set_cons_succ]
            try simp only [List.set_cons_zero]
            refine wpT 2 ⟨some 22, .move (.tmp 21), 4, "history.go:80", #[⟨1, .data⟩], none⟩ ?_ (.inl ⟨by rfl, ?_⟩) ?_
            rotate_left
            · (intro W hSw; (try dsimp only at hSw); go_simp; try (with_reducible rfl))
            try simp only [Act.put]
            try simp only [List.setIfInBounds_toArray]
            try simp only [List.set_cons_succ]
            try simp only [List.set_cons_zero]
            refine wpT 3 ⟨some 23, .fieldAddr 25 (.tmp 1) 0, 0, "history.go:80", #[⟨2, .guard⟩], some (2, true)⟩ undef (.inr ⟨by rfl, rfl⟩) ?_
            try simp only [Act.put]
            try simp only [List.setIfInBounds_toArray]
            try simp only [List.set_cons_succ]
            try simp only [List.set_cons_zero]
            refine wpT 4 ⟨some 24, .load 22 (.tmp 23), 22, "history.go:80", #[⟨3, .data⟩, ⟨2, .guard⟩], some (2, true)⟩ undef (.inr ⟨by rfl, rfl⟩) ?_
            try simp only [Act.put]
            try simp only [List.setIfInBounds_toArray]
            try simp only [List.set_cons_succ]
            try simp only [List.set_cons_zero]
            refine wpT 5 ⟨some 25, .move (.tmp 3), 3, "history.go:80", #[⟨2, .guard⟩], some (2, true)⟩ undef (.inr ⟨by rfl, rfl⟩) ?_
            try simp only [Act.put]
            try simp only [List.setIfInBounds_toArray]
            try simp only [List.set_cons_succ]
            try simp only [List.set_cons_zero]
            refine wpT 6 ⟨some 26, .binOp .sub 3 (.tmp 25) (.const (.int .i64 1)) 3, 3, "history.go:80", #[⟨5, .data⟩, ⟨2, .guard⟩], some (2, true)⟩ undef (.inr ⟨by rfl, rfl⟩) ?_
            try simp only [Act.put]
            try simp only [List.setIfInBounds_toArray]
            try simp only [List.set_cons_succ]
            try simp only [List.set_cons_zero]
            refine wpT 7 ⟨some 27, .indexAddr 22 (.tmp 24) (.tmp 26), 0, "history.go:80", #[⟨4, .data⟩, ⟨6, .data⟩, ⟨2, .guard⟩], some (2, true)⟩ undef (.inr ⟨by rfl, rfl⟩) ?_
            try simp only [Act.put]
            try simp only [List.setIfInBounds_toArray]
            try simp only [List.set_cons_succ]
            try simp only [List.set_cons_zero]
            refine wpT 8 ⟨some 28, .fieldAddr 47 (.tmp 27) 0, 0, "history.go:80", #[⟨7, .data⟩, ⟨2, .guard⟩], some (2, true)⟩ undef (.inr ⟨by rfl, rfl⟩) ?_
            try simp only [Act.put]
            try simp only [List.setIfInBounds_toArray]
            try simp only [List.set_cons_succ]
            try simp only [List.set_cons_zero]
            refine wpT 9 ⟨some 29, .load 3 (.tmp 28), 3, "history.go:80", #[⟨8, .data⟩, ⟨2, .guard⟩], some (2, true)⟩ undef (.inr ⟨by rfl, rfl⟩) ?_
            try simp only [Act.put]
            try simp only [List.setIfInBounds_toArray]
            try simp only [List.set_cons_succ]
            try simp only [List.set_cons_zero]
            refine wpT 10 ⟨some 30, .fieldAddr 47 (.tmp 4) 0, 0, "history.go:80", #[⟨2, .guard⟩], some (2, true)⟩ undef (.inr ⟨by rfl, rfl⟩) ?_
            try simp only [Act.put]
            try simp only [List.setIfInBounds_toArray]
            try simp only [List.set_cons_succ]
            try simp only [List.set_cons_zero]
            refine wpT 11 ⟨some 31, .load 3 (.tmp 30), 3, "history.go:80", #[⟨10, .data⟩, ⟨2, .guard⟩], some (2, true)⟩ undef (.inr ⟨by rfl, rfl⟩) ?_
            try simp only [Act.put]
            try simp only [List.setIfInBounds_toArray]
            try simp only [List.set_cons_succ]
            try simp only [List.set_cons_zero]
            refine wpT 12 ⟨some 32, .binOp .geq 3 (.tmp 29) (.tmp 31) 3, 4, "history.go:80", #[⟨9, .data⟩, ⟨11, .data⟩, ⟨2, .guard⟩], some (2, true)⟩ undef (.inr ⟨by rfl, rfl⟩) ?_
            try simp only [Act.put]
            try simp only [List.setIfInBounds_toArray]
            try simp only [List.set_cons_succ]
            try simp only [List.set_cons_zero]
            refine wpT 13 ⟨some 33, .pick (.tmp 22) (.tmp 32) (.const (.bool false)), 4, "history.go:80", #[⟨2, .data⟩, ⟨12, .data⟩], none⟩ ?_ (.inl ⟨by rfl, ?_⟩) ?_
            rotate_left
            · (intro W hSw; (try dsimp only at hSw); go_simp; try (with_reducible rfl))
            try simp only [Act.put]
            try simp only [List.setIfInBounds_toArray]
            try simp only [List.set_cons_succ]
            try simp only [List.set_cons_zero]
            refine wpT 14 ⟨some 34, .move (.tmp 33), 4, "history.go:80", #[⟨13, .data⟩, ⟨2, .chain⟩], none⟩ ?_ (.inl ⟨by rfl, ?_⟩) ?_
            rotate_left
            · (intro W hSw; (try dsimp only at hSw); go_simp; try (with_reducible rfl))
            try simp only [Act.put]
            try simp only [List.setIfInBounds_toArray]
            try simp only [List.set_cons_succ]
            try simp only [List.set_cons_zero]
            refine wpT 15 ⟨some 35, .load 47 (.tmp 4), 47, "history.go:80", #[⟨14, .guard⟩], some (14, false)⟩ ?_ (.inl ⟨by rfl, ?_⟩) ?_
            rotate_left
            · (intro W hSw; (try dsimp only at hSw); go_simp; try (with_reducible rfl))
            try simp only [Act.put]
            try simp only [List.setIfInBounds_toArray]
            try simp only [List.set_cons_succ]
            try simp only [List.set_cons_zero]
            refine wpAnyH_ready (rs := [16]) (by kernel_rfl) (by simp) ?_
            refine AllReadyH.cons (o := ⟨some 36, .call { callee := .value (.func 58), args := #[.tmp 35], argTypes := #[47] }, 50, "history.go:80", #[⟨15, .data⟩, ⟨14, .chain⟩, ⟨14, .guard⟩], some (14, false)⟩) rfl (fun K hK => ?_) AllReadyH.nil
            go_simp
            (first
    | (go_at_call 58; refine (trightV (F := F) (v := E) (HOps.upd XL0.out.1 (uH.trans hHeld.1) (fun _ _ => id)) XL.out.2.2.1 hE.out).mono ?_; rintro e w3 ⟨rfl, hu3⟩))
            try (go_wp2_with fail)
            refine hK.out _ _ ?_ (fun hHeld => ?_)
            · (first | exact ⟨UA.out.drew, g0, g1, k0, k1, k2⟩ | exact ⟨hHeld.1.trans hu3, hu3.keepNo hHeld.2.1, hu3.keepNo hHeld.2.2.1, hu3.keepNo hHeld.2.2.2.1, hu3.keepNo hHeld.2.2.2.2.1, hu3.keepNo hHeld.2.2.2.2.2⟩)
            clear hK K
            try simp only [Act.put]
            try simp only [List.setIfInBounds_toArray]
            try simp only [List.set_cons_succ]
            try simp only [List.set_cons_zero]
            refine wpT 17 ⟨some 37, .binOp .neq 50 (.tmp 36) (.const (.int .i64 0)) 50, 4, "history.go:80", #[⟨16, .data⟩, ⟨14, .guard⟩], some (14, false)⟩ ?_ (.inl ⟨by rfl, ?_⟩) ?_
            rotate_left
            · (intro W hSw; (try dsimp only at hSw); go_simp; try (with_reducible rfl))
            try simp only [Act.put]
            try simp only [List.setIfInBounds_toArray]
            try simp only [List.set_cons_succ]
            try simp only [List.set_cons_zero]
            refine wpT 18 ⟨some 38, .pick (.tmp 34) (.const (.bool true)) (.tmp 37), 4, "history.go:80", #[⟨14, .data⟩, ⟨17, .data⟩], none⟩ ?_ (.inl ⟨by rfl, ?_⟩) ?_
            rotate_left
            · (intro W hSw; (try dsimp only at hSw); go_simp; try (with_reducible rfl))
            try simp only [Act.put]
            try simp only [List.setIfInBounds_toArray]
            try simp only [List.set_cons_succ]
            try simp only [List.set_cons_zero]
            refine wpT 19 ⟨some 39, .move (.tmp 38), 4, "history.go:80", #[⟨18, .data⟩, ⟨16, .chain⟩], none⟩ ?_ (.inl ⟨by rfl, ?_⟩) ?_
            rotate_left
            · (intro W hSw; (try dsimp only at hSw); go_simp; try (with_reducible rfl))
            try simp only [Act.put]
            try simp only [List.setIfInBounds_toArray]
            try simp only [List.set_cons_succ]
            try simp only [List.set_cons_zero]
            refine wpT 20 ⟨some 40, .load 25 (.tmp 1), 25, "history.go:80", #[⟨19, .guard⟩], some (19, false)⟩ undef (.inr ⟨by rfl, rfl⟩) ?_
            try simp only [Act.put]
            try simp only [List.setIfInBounds_toArray]
            try simp only [List.set_cons_succ]
            try simp only [List.set_cons_zero]
            refine wpT 21 ⟨some 41, .load 47 (.tmp 4), 47, "history.go:80", #[⟨19, .guard⟩], some (19, false)⟩ undef (.inr ⟨by rfl, rfl⟩) ?_
            try simp only [Act.put]
            try simp only [List.setIfInBounds_toArray]
            try simp only [List.set_cons_succ]
            try simp only [List.set_cons_zero]
            refine wpAnyH_ready (rs := [22]) (by kernel_rfl) (by simp) ?_
            refine AllReadyH.cons (o := ⟨some 42, .call { callee := .value (.func 141), args := #[.tmp 40, .tmp 41], argTypes := #[25, 47] }, 4, "history.go:80", #[⟨20, .data⟩, ⟨21, .data⟩, ⟨19, .chain⟩, ⟨19, .guard⟩], some (19, false)⟩) rfl (fun K hK => ?_) AllReadyH.nil
            go_simp
            refine hK.out _ _ ?_ (fun hHeld => ?_)
            · exact hHeld
            clear hK K
            try simp only [Act.put]
            try simp only [List.setIfInBounds_toArray]
            try simp only [List.set_cons_succ]
            try simp only [List.set_cons_zero]
            refine wpT 23 ⟨some 43, .unOp .not 4 (.tmp 42), 4, "history.go:80", #[⟨22, .data⟩, ⟨19, .guard⟩], some (19, false)⟩ undef (.inr ⟨by rfl, rfl⟩) ?_
            try simp only [Act.put]
            try simp only [List.setIfInBounds_toArray]
            try simp only [List.set_cons_succ]
            try simp only [List.set_cons_zero]
            refine wpT 24 ⟨some 44, .pick (.tmp 39) (.const (.bool true)) (.tmp 43), 4, "history.go:80", #[⟨19, .data⟩, ⟨23, .data⟩], none⟩ ?_ (.inl ⟨by rfl, ?_⟩) ?_
            rotate_left
            · (intro W hSw; (try dsimp only at hSw); go_simp; try (with_reducible rfl))
            try simp only [Act.put]
            try simp only [List.setIfInBounds_toArray]
            try simp only [List.set_cons_succ]
            try simp only [List.set_cons_zero]
            refine wpAnyH_done (by kernel_rfl) (NoPanic.normal ?_) _
            have HU := Lib.hid hHeld.1
            clear hHeld
            go_wp2
            go_ret
            exact ⟨by rw [hf.out]; rfl, uH.trans HU.out⟩
        · obtain ⟨ad2, hAd2, p0, _, _⟩ := H1.tx_at (k := k - 1) (show k - 1 < txs.length by omega)
          simp only at hAd2 p0
          cases hAd2
          obtain ⟨y', hy'⟩ : ∃ y', txs[k - 1]'(by omega) = y' := ⟨_, rfl⟩
          rw [hy'] at p0
          replace p0 := uA.keepNo p0
          have hkp : 0 < k := by omega
          by_cases hordL : x.id ≤ y'.id
          · have hf := Lib.hid (show rightB ⟨txs, ords, some ad, c, B, d⟩ = false from right_tx (k := k) hlt (by rw [hok.out, ahead_no hkp hlt hy' x.id hordL]; simp))
            obtain ⟨y, hy⟩ : ∃ y, y'.id = y := ⟨_, rfl⟩
            rw [hy] at p0 hordL
            clear hy hy' H1
            have hge : decide (x.id ≤ y) = true := decide_eq_true hordL
            have hkk : decide ((0 : Int) < (k : Int)) = true := decide_eq_true (by omega)
            have hkn : decide (0 < k) = true := decide_eq_true (by omega)
            have hw1 : IntKind.i64.wrap ((k : Int) - 1) = (k : Int) - 1 := IntWalk.i64_in _ (by omega)
            have hw2 : (0 : Int) ≤ (k : Int) - 1 := by omega
            have hw3 : (1 : Int) ≤ (k : Int) := by omega
            have hw4 : (k : Int) - 1 < (txs.length : Int) := by omega
            have hw5 : ((k : Int) - 1).toNat = k - 1 := by omega
            have g0 := bH.out.cell 0
            have g1 := bH.out.cell 1
            have k0 := bo.out.cell 0
            have k1 := bo.out.cell 1
            have k2 := bo.out.cell 2
            simp only [List.getElem?_cons_zero, List.getElem?_cons_succ] at g0 g1 k0 k1 k2
            go_wp2
            refine wp_region_noPanic ?_
            refine wp_region_held_drew (S := (fun w' => Upd No (w.alloc (.cells #[.slice (some ad) txs.length c, .slice B ords.length d] 25)) w' ∧ w'.cell? ⟨w.heap.size, 0, none⟩ = some (.slice (some ad) txs.length c) ∧ w'.cell? ⟨w.heap.size, 1, none⟩ = some (.slice B ords.length d) ∧ w'.cell? ⟨wr.heap.size, 0, none⟩ = some (.int .i64 x.id) ∧ w'.cell? ⟨wr.heap.size, 1, none⟩ = some (.bool x.done) ∧ w'.cell? ⟨wr.heap.size, 2, none⟩ = some (.slice x.A x.ops.length x.c)∧ w'.cell? (ad.add ((k - 1) * 3)) = some (.int .i64 y))) (by kernel_rfl) ?_ (fun hHeld => ?_)
            · (first | exact ⟨UA.out.drew, g0, g1, k0, k1, k2, p0⟩ | exact ⟨hHeld.1.trans hu3, hu3.keepNo hHeld.2.1, hu3.keepNo hHeld.2.2.1, hu3.keepNo hHeld.2.2.2.1, hu3.keepNo hHeld.2.2.2.2.1, hu3.keepNo hHeld.2.2.2.2.2.1, hu3.keepNo hHeld.2.2.2.2.2.2⟩)
            refine wpT 0 ⟨some 20, .move (.tmp 3), 3, "history.go:80", #[], none⟩ ?_ (.inl ⟨by rfl, ?_⟩) ?_
            rotate_left
            · (intro W hSw; (try dsimp only at hSw); go_simp; try (with_reducible rfl))
            try simp only [Act.put]
            try simp only [List.setIfInBounds_toArray]
            try simp only [List.set_cons_succ]
            try simp only [List.set_cons_zero]
            refine wpT 1 ⟨some 21, .binOp .gtr 3 (.tmp 20) (.const (.int .i64 0)) 3, 4, "history.go:80", #[⟨0, .data⟩], none⟩ ?_ (.inl ⟨by rfl, ?_⟩) ?_
            rotate_left
            · (intro W hSw; (try dsimp only at hSw); go_simp; try (with_reducible rfl))
            try simp only [Act.put]
            try simp only [List.setIfInBounds_toArray]
            try simp only [List.set_cons_succ]
            try simp only [List.set_cons_zero]
            refine wpT 2 ⟨some 22, .move (.tmp 21), 4, "history.go:80", #[⟨1, .data⟩], none⟩ ?_ (.inl ⟨by rfl, ?_⟩) ?_
            rotate_left
            · (intro W hSw; (try dsimp only at hSw); go_simp; try (with_reducible rfl))
            try simp only [Act.put]
            try simp only [List.setIfInBounds_toArray]
            try simp only [List.set_cons_succ]
            try simp only [List.set_cons_zero]
            refine wpT 3 ⟨some 23, .fieldAddr 25 (.tmp 1) 0, 0, "history.go:80", #[⟨2, .guard⟩], some (2, true)⟩ ?_ (.inl ⟨by rfl, ?_⟩) ?_
            rotate_left
            · (intro W hSw; (try dsimp only at hSw); go_simp; try (with_reducible rfl))
            try simp only [Act.put]
            try simp only [List.setIfInBounds_toArray]
            try simp only [List.set_cons_succ]
            try simp only [List.set_cons_zero]
            refine wpT 4 ⟨some 24, .load 22 (.tmp 23), 22, "history.go:80", #[⟨3, .data⟩, ⟨2, .guard⟩], some (2, true)⟩ ?_ (.inl ⟨by rfl, ?_⟩) ?_
            rotate_left
            · (intro W hSw; (try dsimp only at hSw); go_simp; try (with_reducible rfl))
            try simp only [Act.put]
            try simp only [List.setIfInBounds_toArray]
            try simp only [List.set_cons_succ]
            try simp only [List.set_cons_zero]
            refine wpT 5 ⟨some 25, .move (.tmp 3), 3, "history.go:80", #[⟨2, .guard⟩], some (2, true)⟩ ?_ (.inl ⟨by rfl, ?_⟩) ?_
            rotate_left
            · (intro W hSw; (try dsimp only at hSw); go_simp; try (with_reducible rfl))
            try simp only [Act.put]
            try simp only [List.setIfInBounds_toArray]
            try simp only [List.set_cons_succ]
            try simp only [List.set_cons_zero]
            refine wpT 6 ⟨some 26, .binOp .sub 3 (.tmp 25) (.const (.int .i64 1)) 3, 3, "history.go:80", #[⟨5, .data⟩, ⟨2, .guard⟩], some (2, true)⟩ ?_ (.inl ⟨by rfl, ?_⟩) ?_
            rotate_left
            · (intro W hSw; (try dsimp only at hSw); go_simp; try (with_reducible rfl))
            try simp only [Act.put]
            try simp only [List.setIfInBounds_toArray]
            try simp only [List.set_cons_succ]
            try simp only [List.set_cons_zero]
            refine wpT 7 ⟨some 27, .indexAddr 22 (.tmp 24) (.tmp 26), 0, "history.go:80", #[⟨4, .data⟩, ⟨6, .data⟩, ⟨2, .guard⟩], some (2, true)⟩ ?_ (.inl ⟨by rfl, ?_⟩) ?_
            rotate_left
            · (intro W hSw; (try dsimp only at hSw); go_simp; try (with_reducible rfl))
            try simp only [Act.put]
            try simp only [List.setIfInBounds_toArray]
            try simp only [List.set_cons_succ]
            try simp only [List.set_cons_zero]
            refine wpT 8 ⟨some 28, .fieldAddr 47 (.tmp 27) 0, 0, "history.go:80", #[⟨7, .data⟩, ⟨2, .guard⟩], some (2, true)⟩ ?_ (.inl ⟨by rfl, ?_⟩) ?_
            rotate_left
            · (intro W hSw; (try dsimp only at hSw); go_simp; try (with_reducible rfl))
            try simp only [Act.put]
            try simp only [List.setIfInBounds_toArray]
            try simp only [List.set_cons_succ]
            try simp only [List.set_cons_zero]
            refine wpT 9 ⟨some 29, .load 3 (.tmp 28), 3, "history.go:80", #[⟨8, .data⟩, ⟨2, .guard⟩], some (2, true)⟩ ?_ (.inl ⟨by rfl, ?_⟩) ?_
            rotate_left
            · (intro W hSw; (try dsimp only at hSw); go_simp; try (with_reducible rfl))
            try simp only [Act.put]
            try simp only [List.setIfInBounds_toArray]
            try simp only [List.set_cons_succ]
            try simp only [List.set_cons_zero]
            refine wpT 10 ⟨some 30, .fieldAddr 47 (.tmp 4) 0, 0, "history.go:80", #[⟨2, .guard⟩], some (2, true)⟩ ?_ (.inl ⟨by rfl, ?_⟩) ?_
            rotate_left
            · (intro W hSw; (try dsimp only at hSw); go_simp; try (with_reducible rfl))
            try simp only [Act.put]
            try simp only [List.setIfInBounds_toArray]
            try simp only [List.set_cons_succ]
            try simp only [List.set_cons_zero]
            refine wpT 11 ⟨some 31, .load 3 (.tmp 30), 3, "history.go:80", #[⟨10, .data⟩, ⟨2, .guard⟩], some (2, true)⟩ ?_ (.inl ⟨by rfl, ?_⟩) ?_
            rotate_left
            · (intro W hSw; (try dsimp only at hSw); go_simp; try (with_reducible rfl))
            try simp only [Act.put]
            try simp only [List.setIfInBounds_toArray]
            try simp only [List.set_cons_succ]
            try simp only [List.set_cons_zero]
            refine wpT 12 ⟨some 32, .binOp .geq 3 (.tmp 29) (.tmp 31) 3, 4, "history.go:80", #[⟨9, .data⟩, ⟨11, .data⟩, ⟨2, .guard⟩], some (2, true)⟩ ?_ (.inl ⟨by rfl, ?_⟩) ?_
            rotate_left
            · (intro W hSw; (try dsimp only at hSw); go_simp; try (with_reducible rfl))
            try simp only [Act.put]
            try simp only [List.setIfInBounds_toArray]
            try simp only [List.set_cons_succ]
            try simp only [List.set_cons_zero]
            refine wpT 13 ⟨some 33, .pick (.tmp 22) (.tmp 32) (.const (.bool false)), 4, "history.go:80", #[⟨2, .data⟩, ⟨12, .data⟩], none⟩ ?_ (.inl ⟨by rfl, ?_⟩) ?_
            rotate_left
            · (intro W hSw; (try dsimp only at hSw); go_simp; try (with_reducible rfl))
            try simp only [Act.put]
            try simp only [List.setIfInBounds_toArray]
            try simp only [List.set_cons_succ]
            try simp only [List.set_cons_zero]
            refine wpT 14 ⟨some 34, .move (.tmp 33), 4, "history.go:80", #[⟨13, .data⟩, ⟨2, .chain⟩], none⟩ ?_ (.inl ⟨by rfl, ?_⟩) ?_
            rotate_left
            · (intro W hSw; (try dsimp only at hSw); go_simp; try (with_reducible rfl))
            try simp only [Act.put]
            try simp only [List.setIfInBounds_toArray]
            try simp only [List.set_cons_succ]
            try simp only [List.set_cons_zero]
            refine wpT 15 ⟨some 35, .load 47 (.tmp 4), 47, "history.go:80", #[⟨14, .guard⟩], some (14, false)⟩ undef (.inr ⟨by rfl, rfl⟩) ?_
            try simp only [Act.put]
            try simp only [List.setIfInBounds_toArray]
            try simp only [List.set_cons_succ]
            try simp only [List.set_cons_zero]
            refine wpAnyH_ready (rs := [16]) (by kernel_rfl) (by simp) ?_
            refine AllReadyH.cons (o := ⟨some 36, .call { callee := .value (.func 58), args := #[.tmp 35], argTypes := #[47] }, 50, "history.go:80", #[⟨15, .data⟩, ⟨14, .chain⟩, ⟨14, .guard⟩], some (14, false)⟩) rfl (fun K hK => ?_) AllReadyH.nil
            go_simp
            refine hK.out _ _ ?_ (fun hHeld => ?_)
            · exact hHeld
            clear hK K
            try simp only [Act.put]
            try simp only [List.setIfInBounds_toArray]
            try simp only [List.set_cons_succ]
            try simp only [List.set_cons_zero]
            refine wpT 17 ⟨some 37, .binOp .neq 50 (.tmp 36) (.const (.int .i64 0)) 50, 4, "history.go:80", #[⟨16, .data⟩, ⟨14, .guard⟩], some (14, false)⟩ undef (.inr ⟨by rfl, rfl⟩) ?_
            try simp only [Act.put]
            try simp only [List.setIfInBounds_toArray]
            try simp only [List.set_cons_succ]
            try simp only [List.set_cons_zero]
            refine wpT 18 ⟨some 38, .pick (.tmp 34) (.const (.bool true)) (.tmp 37), 4, "history.go:80", #[⟨14, .data⟩, ⟨17, .data⟩], none⟩ ?_ (.inl ⟨by rfl, ?_⟩) ?_
            rotate_left
            · (intro W hSw; (try dsimp only at hSw); go_simp; try (with_reducible rfl))
            try simp only [Act.put]
            try simp only [List.setIfInBounds_toArray]
            try simp only [List.set_cons_succ]
            try simp only [List.set_cons_zero]
            refine wpT 19 ⟨some 39, .move (.tmp 38), 4, "history.go:80", #[⟨18, .data⟩, ⟨16, .chain⟩], none⟩ ?_ (.inl ⟨by rfl, ?_⟩) ?_
            rotate_left
            · (intro W hSw; (try dsimp only at hSw); go_simp; try (with_reducible rfl))
            try simp only [Act.put]
            try simp only [List.setIfInBounds_toArray]
            try simp only [List.set_cons_succ]
            try simp only [List.set_cons_zero]
            refine wpT 20 ⟨some 40, .load 25 (.tmp 1), 25, "history.go:80", #[⟨19, .guard⟩], some (19, false)⟩ undef (.inr ⟨by rfl, rfl⟩) ?_
            try simp only [Act.put]
            try simp only [List.setIfInBounds_toArray]
            try simp only [List.set_cons_succ]
            try simp only [List.set_cons_zero]
            refine wpT 21 ⟨some 41, .load 47 (.tmp 4), 47, "history.go:80", #[⟨19, .guard⟩], some (19, false)⟩ undef (.inr ⟨by rfl, rfl⟩) ?_
            try simp only [Act.put]
            try simp only [List.setIfInBounds_toArray]
            try simp only [List.set_cons_succ]
            try simp only [List.set_cons_zero]
            refine wpAnyH_ready (rs := [22]) (by kernel_rfl) (by simp) ?_
            refine AllReadyH.cons (o := ⟨some 42, .call { callee := .value (.func 141), args := #[.tmp 40, .tmp 41], argTypes := #[25, 47] }, 4, "history.go:80", #[⟨20, .data⟩, ⟨21, .data⟩, ⟨19, .chain⟩, ⟨19, .guard⟩], some (19, false)⟩) rfl (fun K hK => ?_) AllReadyH.nil
            go_simp
            refine hK.out _ _ ?_ (fun hHeld => ?_)
            · exact hHeld
            clear hK K
            try simp only [Act.put]
            try simp only [List.setIfInBounds_toArray]
            try simp only [List.set_cons_succ]
            try simp only [List.set_cons_zero]
            refine wpT 23 ⟨some 43, .unOp .not 4 (.tmp 42), 4, "history.go:80", #[⟨22, .data⟩, ⟨19, .guard⟩], some (19, false)⟩ undef (.inr ⟨by rfl, rfl⟩) ?_
            try simp only [Act.put]
            try simp only [List.setIfInBounds_toArray]
            try simp only [List.set_cons_succ]
            try simp only [List.set_cons_zero]
            refine wpT 24 ⟨some 44, .pick (.tmp 39) (.const (.bool true)) (.tmp 43), 4, "history.go:80", #[⟨19, .data⟩, ⟨23, .data⟩], none⟩ ?_ (.inl ⟨by rfl, ?_⟩) ?_
            rotate_left
            · (intro W hSw; (try dsimp only at hSw); go_simp; try (with_reducible rfl))
            try simp only [Act.put]
            try simp only [List.setIfInBounds_toArray]
            try simp only [List.set_cons_succ]
            try simp only [List.set_cons_zero]
            refine wpAnyH_done (by kernel_rfl) (NoPanic.normal ?_) _
            have HU := Lib.hid hHeld.1
            clear hHeld
            go_wp2
            go_ret
            exact ⟨by rw [hf.out]; rfl, uH.trans HU.out⟩
          · have hah := Lib.hid (show aheadB txs k x.id = true from ahead_yes hkp hlt hy' x.id (by omega))
            obtain ⟨y, hy⟩ : ∃ y, y'.id = y := ⟨_, rfl⟩
            rw [hy] at p0 hordL
            clear hy hy' H1
            have hge : decide (x.id ≤ y) = false := decide_eq_false hordL
            have hkk : decide ((0 : Int) < (k : Int)) = true := decide_eq_true (by omega)
            have hkn : decide (0 < k) = true := decide_eq_true (by omega)
            have hw1 : IntKind.i64.wrap ((k : Int) - 1) = (k : Int) - 1 := IntWalk.i64_in _ (by omega)
            have hw2 : (0 : Int) ≤ (k : Int) - 1 := by omega
            have hw3 : (1 : Int) ≤ (k : Int) := by omega
            have hw4 : (k : Int) - 1 < (txs.length : Int) := by omega
            have hw5 : ((k : Int) - 1).toNat = k - 1 := by omega
            by_cases hE1 : E = 0
            · subst hE1
              cases N
              · have hf := Lib.hid (show rightB ⟨txs, ords, some ad, c, B, d⟩ = false from right_tx (k := k) hlt (by rw [hok.out]; simp))
                have g0 := bH.out.cell 0
                have g1 := bH.out.cell 1
                have k0 := bo.out.cell 0
                have k1 := bo.out.cell 1
                have k2 := bo.out.cell 2
                simp only [List.getElem?_cons_zero, List.getElem?_cons_succ] at g0 g1 k0 k1 k2
                go_wp2
                refine wp_region_noPanic ?_
                refine wp_region_held_drew (S := (fun w' => Upd No (w.alloc (.cells #[.slice (some ad) txs.length c, .slice B ords.length d] 25)) w' ∧ w'.cell? ⟨w.heap.size, 0, none⟩ = some (.slice (some ad) txs.length c) ∧ w'.cell? ⟨w.heap.size, 1, none⟩ = some (.slice B ords.length d) ∧ w'.cell? ⟨wr.heap.size, 0, none⟩ = some (.int .i64 x.id) ∧ w'.cell? ⟨wr.heap.size, 1, none⟩ = some (.bool x.done) ∧ w'.cell? ⟨wr.heap.size, 2, none⟩ = some (.slice x.A x.ops.length x.c)∧ w'.cell? (ad.add ((k - 1) * 3)) = some (.int .i64 y))) (by kernel_rfl) ?_ (fun hHeld => ?_)
                · (first | exact ⟨UA.out.drew, g0, g1, k0, k1, k2, p0⟩ | exact ⟨hHeld.1.trans hu3, hu3.keepNo hHeld.2.1, hu3.keepNo hHeld.2.2.1, hu3.keepNo hHeld.2.2.2.1, hu3.keepNo hHeld.2.2.2.2.1, hu3.keepNo hHeld.2.2.2.2.2.1, hu3.keepNo hHeld.2.2.2.2.2.2⟩)
                refine wpT 0 ⟨some 20, .move (.tmp 3), 3, "history.go:80", #[], none⟩ ?_ (.inl ⟨by rfl, ?_⟩) ?_
                rotate_left
                · (intro W hSw; (try dsimp only at hSw); go_simp; try (with_reducible rfl))
                try simp only [Act.put]
                try simp only [List.setIfInBounds_toArray]
                try simp only [List.set_cons_succ]
                try simp only [List.set_cons_zero]
                refine wpT 1 ⟨some 21, .binOp .gtr 3 (.tmp 20) (.const (.int .i64 0)) 3, 4, "history.go:80", #[⟨0, .data⟩], none⟩ ?_ (.inl ⟨by rfl, ?_⟩) ?_
                rotate_left
                · (intro W hSw; (try dsimp only at hSw); go_simp; try (with_reducible rfl))
                try simp only [Act.put]
                try simp only [List.setIfInBounds_toArray]
                try simp only [List.set_cons_succ]
                try simp only [List.set_cons_zero]
                refine wpT 2 ⟨some 22, .move (.tmp 21), 4, "history.go:80", #[⟨1, .data⟩], none⟩ ?_ (.inl ⟨by rfl, ?_⟩) ?_
                rotate_left
                · (intro W hSw; (try dsimp only at hSw); go_simp; try (with_reducible rfl))
                try simp only [Act.put]
                try simp only [List.setIfInBounds_toArray]
                try simp only [List.set_cons_succ]
                try simp only [List.set_cons_zero]
                refine wpT 3 ⟨some 23, .fieldAddr 25 (.tmp 1) 0, 0, "history.go:80", #[⟨2, .guard⟩], some (2, true)⟩ ?_ (.inl ⟨by rfl, ?_⟩) ?_
                rotate_left
                · (intro W hSw; (try dsimp only at hSw); go_simp; try (with_reducible rfl))
                try simp only [Act.put]
                try simp only [List.setIfInBounds_toArray]
                try simp only [List.set_cons_succ]
                try simp only [List.set_cons_zero]
                refine wpT 4 ⟨some 24, .load 22 (.tmp 23), 22, "history.go:80", #[⟨3, .data⟩, ⟨2, .guard⟩], some (2, true)⟩ ?_ (.inl ⟨by rfl, ?_⟩) ?_
                rotate_left
                · (intro W hSw; (try dsimp only at hSw); go_simp; try (with_reducible rfl))
                try simp only [Act.put]
                try simp only [List.setIfInBounds_toArray]
                try simp only [List.set_cons_succ]
                try simp only [List.set_cons_zero]
                refine wpT 5 ⟨some 25, .move (.tmp 3), 3, "history.go:80", #[⟨2, .guard⟩], some (2, true)⟩ ?_ (.inl ⟨by rfl, ?_⟩) ?_
                rotate_left
                · (intro W hSw; (try dsimp only at hSw); go_simp; try (with_reducible rfl))
                try simp only [Act.put]
                try simp only [List.setIfInBounds_toArray]
                try simp only [List.set_cons_succ]
                try simp only [List.set_cons_zero]
                refine wpT 6 ⟨some 26, .binOp .sub 3 (.tmp 25) (.const (.int .i64 1)) 3, 3, "history.go:80", #[⟨5, .data⟩, ⟨2, .guard⟩], some (2, true)⟩ ?_ (.inl ⟨by rfl, ?_⟩) ?_
                rotate_left
                · (intro W hSw; (try dsimp only at hSw); go_simp; try (with_reducible rfl))
                try simp only [Act.put]
                try simp only [List.setIfInBounds_toArray]
                try simp only [List.set_cons_succ]
                try simp only [List.set_cons_zero]
                refine wpT 7 ⟨some 27, .indexAddr 22 (.tmp 24) (.tmp 26), 0, "history.go:80", #[⟨4, .data⟩, ⟨6, .data⟩, ⟨2, .guard⟩], some (2, true)⟩ ?_ (.inl ⟨by rfl, ?_⟩) ?_
                rotate_left
                · (intro W hSw; (try dsimp only at hSw); go_simp; try (with_reducible rfl))
                try simp only [Act.put]
                try simp only [List.setIfInBounds_toArray]
                try simp only [List.set_cons_succ]
                try simp only [List.set_cons_zero]
                refine wpT 8 ⟨some 28, .fieldAddr 47 (.tmp 27) 0, 0, "history.go:80", #[⟨7, .data⟩, ⟨2, .guard⟩], some (2, true)⟩ ?_ (.inl ⟨by rfl, ?_⟩) ?_
                rotate_left
                · (intro W hSw; (try dsimp only at hSw); go_simp; try (with_reducible rfl))
                try simp only [Act.put]
                try simp only [List.setIfInBounds_toArray]
                try simp only [List.set_cons_succ]
                try simp only [List.set_cons_zero]
                refine wpT 9 ⟨some 29, .load 3 (.tmp 28), 3, "history.go:80", #[⟨8, .data⟩, ⟨2, .guard⟩], some (2, true)⟩ ?_ (.inl ⟨by rfl, ?_⟩) ?_
                rotate_left
                · (intro W hSw; (try dsimp only at hSw); go_simp; try (with_reducible rfl))
                try simp only [Act.put]
                try simp only [List.setIfInBounds_toArray]
                try simp only [List.set_cons_succ]
                try simp only [List.set_cons_zero]
                refine wpT 10 ⟨some 30, .fieldAddr 47 (.tmp 4) 0, 0, "history.go:80", #[⟨2, .guard⟩], some (2, true)⟩ ?_ (.inl ⟨by rfl, ?_⟩) ?_
                rotate_left
                · (intro W hSw; (try dsimp only at hSw); go_simp; try (with_reducible rfl))
                try simp only [Act.put]
                try simp only [List.setIfInBounds_toArray]
                try simp only [List.set_cons_succ]
                try simp only [List.set_cons_zero]
                refine wpT 11 ⟨some 31, .load 3 (.tmp 30), 3, "history.go:80", #[⟨10, .data⟩, ⟨2, .guard⟩], some (2, true)⟩ ?_ (.inl ⟨by rfl, ?_⟩) ?_
                rotate_left
                · (intro W hSw; (try dsimp only at hSw); go_simp; try (with_reducible rfl))
                try simp only [Act.put]
                try simp only [List.setIfInBounds_toArray]
                try simp only [List.set_cons_succ]
                try simp only [List.set_cons_zero]
                refine wpT 12 ⟨some 32, .binOp .geq 3 (.tmp 29) (.tmp 31) 3, 4, "history.go:80", #[⟨9, .data⟩, ⟨11, .data⟩, ⟨2, .guard⟩], some (2, true)⟩ ?_ (.inl ⟨by rfl, ?_⟩) ?_
                rotate_left
                · (intro W hSw; (try dsimp only at hSw); go_simp; try (with_reducible rfl))
                try simp only [Act.put]
                try simp only [List.setIfInBounds_toArray]
                try simp only [List.set_cons_succ]
                try simp only [List.set_cons_zero]
                refine wpT 13 ⟨some 33, .pick (.tmp 22) (.tmp 32) (.const (.bool false)), 4, "history.go:80", #[⟨2, .data⟩, ⟨12, .data⟩], none⟩ ?_ (.inl ⟨by rfl, ?_⟩) ?_
                rotate_left
                · (intro W hSw; (try dsimp only at hSw); go_simp; try (with_reducible rfl))
                try simp only [Act.put]
                try simp only [List.setIfInBounds_toArray]
                try simp only [List.set_cons_succ]
                try simp only [List.set_cons_zero]
                refine wpT 14 ⟨some 34, .move (.tmp 33), 4, "history.go:80", #[⟨13, .data⟩, ⟨2, .chain⟩], none⟩ ?_ (.inl ⟨by rfl, ?_⟩) ?_
                rotate_left
                · (intro W hSw; (try dsimp only at hSw); go_simp; try (with_reducible rfl))
                try simp only [Act.put]
                try simp only [List.setIfInBounds_toArray]
                try simp only [List.set_cons_succ]
                try simp only [List.set_cons_zero]
                refine wpT 15 ⟨some 35, .load 47 (.tmp 4), 47, "history.go:80", #[⟨14, .guard⟩], some (14, false)⟩ ?_ (.inl ⟨by rfl, ?_⟩) ?_
                rotate_left
                · (intro W hSw; (try dsimp only at hSw); go_simp; try (with_reducible rfl))
                try simp only [Act.put]
                try simp only [List.setIfInBounds_toArray]
                try simp only [List.set_cons_succ]
                try simp only [List.set_cons_zero]
                refine wpAnyH_ready (rs := [16]) (by kernel_rfl) (by simp) ?_
                refine AllReadyH.cons (o := ⟨some 36, .call { callee := .value (.func 58), args := #[.tmp 35], argTypes := #[47] }, 50, "history.go:80", #[⟨15, .data⟩, ⟨14, .chain⟩, ⟨14, .guard⟩], some (14, false)⟩) rfl (fun K hK => ?_) AllReadyH.nil
                go_simp
                (first
    | (go_at_call 58; refine (trightV (F := F) (v := 0) (HOps.upd XL0.out.1 (uH.trans hHeld.1) (fun _ _ => id)) XL.out.2.2.1 hE.out).mono ?_; rintro e w3 ⟨rfl, hu3⟩))
                try (go_wp2_with fail)
                refine hK.out _ _ ?_ (fun hHeld => ?_)
                · (first | exact ⟨UA.out.drew, g0, g1, k0, k1, k2, p0⟩ | exact ⟨hHeld.1.trans hu3, hu3.keepNo hHeld.2.1, hu3.keepNo hHeld.2.2.1, hu3.keepNo hHeld.2.2.2.1, hu3.keepNo hHeld.2.2.2.2.1, hu3.keepNo hHeld.2.2.2.2.2.1, hu3.keepNo hHeld.2.2.2.2.2.2⟩)
                clear hK K
                try simp only [Act.put]
                try simp only [List.setIfInBounds_toArray]
                try simp only [List.set_cons_succ]
                try simp only [List.set_cons_zero]
                refine wpT 17 ⟨some 37, .binOp .neq 50 (.tmp 36) (.const (.int .i64 0)) 50, 4, "history.go:80", #[⟨16, .data⟩, ⟨14, .guard⟩], some (14, false)⟩ ?_ (.inl ⟨by rfl, ?_⟩) ?_
                rotate_left
                · (intro W hSw; (try dsimp only at hSw); go_simp; try (with_reducible rfl))
                try simp only [Act.put]
                try simp only [List.setIfInBounds_toArray]
                try simp only [List.set_cons_succ]
                try simp only [List.set_cons_zero]
                refine wpT 18 ⟨some 38, .pick (.tmp 34) (.const (.bool true)) (.tmp 37), 4, "history.go:80", #[⟨14, .data⟩, ⟨17, .data⟩], none⟩ ?_ (.inl ⟨by rfl, ?_⟩) ?_
                rotate_left
                · (intro W hSw; (try dsimp only at hSw); go_simp; try (with_reducible rfl))
                try simp only [Act.put]
                try simp only [List.setIfInBounds_toArray]
                try simp only [List.set_cons_succ]
                try simp only [List.set_cons_zero]
                refine wpT 19 ⟨some 39, .move (.tmp 38), 4, "history.go:80", #[⟨18, .data⟩, ⟨16, .chain⟩], none⟩ ?_ (.inl ⟨by rfl, ?_⟩) ?_
                rotate_left
                · (intro W hSw; (try dsimp only at hSw); go_simp; try (with_reducible rfl))
                try simp only [Act.put]
                try simp only [List.setIfInBounds_toArray]
                try simp only [List.set_cons_succ]
                try simp only [List.set_cons_zero]
                refine wpT 20 ⟨some 40, .load 25 (.tmp 1), 25, "history.go:80", #[⟨19, .guard⟩], some (19, false)⟩ ?_ (.inl ⟨by rfl, ?_⟩) ?_
                rotate_left
                · (intro W hSw; (try dsimp only at hSw); go_simp; try (with_reducible rfl))
                try simp only [Act.put]
                try simp only [List.setIfInBounds_toArray]
                try simp only [List.set_cons_succ]
                try simp only [List.set_cons_zero]
                refine wpT 21 ⟨some 41, .load 47 (.tmp 4), 47, "history.go:80", #[⟨19, .guard⟩], some (19, false)⟩ ?_ (.inl ⟨by rfl, ?_⟩) ?_
                rotate_left
                · (intro W hSw; (try dsimp only at hSw); go_simp; try (with_reducible rfl))
                try simp only [Act.put]
                try simp only [List.setIfInBounds_toArray]
                try simp only [List.set_cons_succ]
                try simp only [List.set_cons_zero]
                refine wpAnyH_ready (rs := [22]) (by kernel_rfl) (by simp) ?_
                refine AllReadyH.cons (o := ⟨some 42, .call { callee := .value (.func 141), args := #[.tmp 40, .tmp 41], argTypes := #[25, 47] }, 4, "history.go:80", #[⟨20, .data⟩, ⟨21, .data⟩, ⟨19, .chain⟩, ⟨19, .guard⟩], some (19, false)⟩) rfl (fun K hK => ?_) AllReadyH.nil
                go_simp
                (first
    | (go_at_call 141; refine (hneededV (F := F) (v := false) (H.upd (uH.trans hHeld.1) (fun _ _ => id)) (HOps.upd XL0.out.1 (uH.trans hHeld.1) (fun _ _ => id)) XL.out.2.2.1 hN.out).mono ?_; rintro e w3 ⟨rfl, hu3⟩))
                try (go_wp2_with fail)
                refine hK.out _ _ ?_ (fun hHeld => ?_)
                · (first | exact ⟨UA.out.drew, g0, g1, k0, k1, k2, p0⟩ | exact ⟨hHeld.1.trans hu3, hu3.keepNo hHeld.2.1, hu3.keepNo hHeld.2.2.1, hu3.keepNo hHeld.2.2.2.1, hu3.keepNo hHeld.2.2.2.2.1, hu3.keepNo hHeld.2.2.2.2.2.1, hu3.keepNo hHeld.2.2.2.2.2.2⟩)
                clear hK K
                try simp only [Act.put]
                try simp only [List.setIfInBounds_toArray]
                try simp only [List.set_cons_succ]
                try simp only [List.set_cons_zero]
                refine wpT 23 ⟨some 43, .unOp .not 4 (.tmp 42), 4, "history.go:80", #[⟨22, .data⟩, ⟨19, .guard⟩], some (19, false)⟩ ?_ (.inl ⟨by rfl, ?_⟩) ?_
                rotate_left
                · (intro W hSw; (try dsimp only at hSw); go_simp; try (with_reducible rfl))
                try simp only [Act.put]
                try simp only [List.setIfInBounds_toArray]
                try simp only [List.set_cons_succ]
                try simp only [List.set_cons_zero]
                refine wpT 24 ⟨some 44, .pick (.tmp 39) (.const (.bool true)) (.tmp 43), 4, "history.go:80", #[⟨19, .data⟩, ⟨23, .data⟩], none⟩ ?_ (.inl ⟨by rfl, ?_⟩) ?_
                rotate_left
                · (intro W hSw; (try dsimp only at hSw); go_simp; try (with_reducible rfl))
                try simp only [Act.put]
                try simp only [List.setIfInBounds_toArray]
                try simp only [List.set_cons_succ]
                try simp only [List.set_cons_zero]
                refine wpAnyH_done (by kernel_rfl) (NoPanic.normal ?_) _
                have HU := Lib.hid hHeld.1
                clear hHeld
                go_wp2
                go_ret
                exact ⟨by rw [hf.out]; rfl, uH.trans HU.out⟩
              · have HA := Lib.hid (all_range_succ hall.out (by rw [hok.out, hah.out]; rfl))
                have g0 := bH.out.cell 0
                have g1 := bH.out.cell 1
                have k0 := bo.out.cell 0
                have k1 := bo.out.cell 1
                have k2 := bo.out.cell 2
                simp only [List.getElem?_cons_zero, List.getElem?_cons_succ] at g0 g1 k0 k1 k2
                go_wp2
                refine wp_region_noPanic ?_
                refine wp_region_held_drew (S := (fun w' => Upd No (w.alloc (.cells #[.slice (some ad) txs.length c, .slice B ords.length d] 25)) w' ∧ w'.cell? ⟨w.heap.size, 0, none⟩ = some (.slice (some ad) txs.length c) ∧ w'.cell? ⟨w.heap.size, 1, none⟩ = some (.slice B ords.length d) ∧ w'.cell? ⟨wr.heap.size, 0, none⟩ = some (.int .i64 x.id) ∧ w'.cell? ⟨wr.heap.size, 1, none⟩ = some (.bool x.done) ∧ w'.cell? ⟨wr.heap.size, 2, none⟩ = some (.slice x.A x.ops.length x.c)∧ w'.cell? (ad.add ((k - 1) * 3)) = some (.int .i64 y))) (by kernel_rfl) ?_ (fun hHeld => ?_)
                · (first | exact ⟨UA.out.drew, g0, g1, k0, k1, k2, p0⟩ | exact ⟨hHeld.1.trans hu3, hu3.keepNo hHeld.2.1, hu3.keepNo hHeld.2.2.1, hu3.keepNo hHeld.2.2.2.1, hu3.keepNo hHeld.2.2.2.2.1, hu3.keepNo hHeld.2.2.2.2.2.1, hu3.keepNo hHeld.2.2.2.2.2.2⟩)
                refine wpT 0 ⟨some 20, .move (.tmp 3), 3, "history.go:80", #[], none⟩ ?_ (.inl ⟨by rfl, ?_⟩) ?_
                rotate_left
                · (intro W hSw; (try dsimp only at hSw); go_simp; try (with_reducible rfl))
                try simp only [Act.put]
                try simp only [List.setIfInBounds_toArray]
                try simp only [List.set_cons_succ]
                try simp only [List.set_cons_zero]
                refine wpT 1 ⟨some 21, .binOp .gtr 3 (.tmp 20) (.const (.int .i64 0)) 3, 4, "history.go:80", #[⟨0, .data⟩], none⟩ ?_ (.inl ⟨by rfl, ?_⟩) ?_
                rotate_left
                · (intro W hSw; (try dsimp only at hSw); go_simp; try (with_reducible rfl))
                try simp only [Act.put]
                try simp only [List.setIfInBounds_toArray]
                try simp only [List.set_cons_succ]
                try simp only [List.set_cons_zero]
                refine wpT 2 ⟨some 22, .move (.tmp 21), 4, "history.go:80", #[⟨1, .data⟩], none⟩ ?_ (.inl ⟨by rfl, ?_⟩) ?_
                rotate_left
                · (intro W hSw; (try dsimp only at hSw); go_simp; try (with_reducible rfl))
                try simp only [Act.put]
                try simp only [List.setIfInBounds_toArray]
                try simp only [List.set_cons_succ]
                try simp only [List.set_cons_zero]
                refine wpT 3 ⟨some 23, .fieldAddr 25 (.tmp 1) 0, 0, "history.go:80", #[⟨2, .guard⟩], some (2, true)⟩ ?_ (.inl ⟨by rfl, ?_⟩) ?_
                rotate_left
                · (intro W hSw; (try dsimp only at hSw); go_simp; try (with_reducible rfl))
                try simp only [Act.put]
                try simp only [List.setIfInBounds_toArray]
                try simp only [List.set_cons_succ]
                try simp only [List.set_cons_zero]
                refine wpT 4 ⟨some 24, .load 22 (.tmp 23), 22, "history.go:80", #[⟨3, .data⟩, ⟨2, .guard⟩], some (2, true)⟩ ?_ (.inl ⟨by rfl, ?_⟩) ?_
                rotate_left
                · (intro W hSw; (try dsimp only at hSw); go_simp; try (with_reducible rfl))
                try simp only [Act.put]
                try simp only [List.setIfInBounds_toArray]
                try simp only [List.set_cons_succ]
                try simp only [List.set_cons_zero]
                refine wpT 5 ⟨some 25, .move (.tmp 3), 3, "history.go:80", #[⟨2, .guard⟩], some (2, true)⟩ ?_ (.inl ⟨by rfl, ?_⟩) ?_
                rotate_left
                · (intro W hSw; (try dsimp only at hSw); go_simp; try (with_reducible rfl))
                try simp only [Act.put]
                try simp only [List.setIfInBounds_toArray]
                try simp only [List.set_cons_succ]
                try simp only [List.set_cons_zero]
                refine wpT 6 ⟨some 26, .binOp .sub 3 (.tmp 25) (.const (.int .i64 1)) 3, 3, "history.go:80", #[⟨5, .data⟩, ⟨2, .guard⟩], some (2, true)⟩ ?_ (.inl ⟨by rfl, ?_⟩) ?_
                rotate_left
                · (intro W hSw; (try dsimp only at hSw); go_simp; try (with_reducible rfl))
                try simp only [Act.put]
                try simp only [List.setIfInBounds_toArray]
                try simp only [List.set_cons_succ]
                try simp only [List.set_cons_zero]
                refine wpT 7 ⟨some 27, .indexAddr 22 (.tmp 24) (.tmp 26), 0, "history.go:80", #[⟨4, .data⟩, ⟨6, .data⟩, ⟨2, .guard⟩], some (2, true)⟩ ?_ (.inl ⟨by rfl, ?_⟩) ?_
                rotate_left
                · (intro W hSw; (try dsimp only at hSw); go_simp; try (with_reducible rfl))
                try simp only [Act.put]
                try simp only [List.setIfInBounds_toArray]
                try simp only [List.set_cons_succ]
                try simp only [List.set_cons_zero]
                refine wpT 8 ⟨some 28, .fieldAddr 47 (.tmp 27) 0, 0, "history.go:80", #[⟨7, .data⟩, ⟨2, .guard⟩], some (2, true)⟩ ?_ (.inl ⟨by rfl, ?_⟩) ?_
                rotate_left
                · (intro W hSw; (try dsimp only at hSw); go_simp; try (with_reducible rfl))
                try simp only [Act.put]
                try simp only [List.setIfInBounds_toArray]
                try simp only [List.set_cons_succ]
                try simp only [List.set_cons_zero]
                refine wpT 9 ⟨some 29, .load 3 (.tmp 28), 3, "history.go:80", #[⟨8, .data⟩, ⟨2, .guard⟩], some (2, true)⟩ ?_ (.inl ⟨by rfl, ?_⟩) ?_
                rotate_left
                · (intro W hSw; (try dsimp only at hSw); go_simp; try (with_reducible rfl))
                try simp only [Act.put]
                try simp only [List.setIfInBounds_toArray]
                try simp only [List.set_cons_succ]
                try simp only [List.set_cons_zero]
                refine wpT 10 ⟨some 30, .fieldAddr 47 (.tmp 4) 0, 0, "history.go:80", #[⟨2, .guard⟩], some (2, true)⟩ ?_ (.inl ⟨by rfl, ?_⟩) ?_
                rotate_left
                · (intro W hSw; (try dsimp only at hSw); go_simp; try (with_reducible rfl))
                try simp only [Act.put]
                try simp only [List.setIfInBounds_toArray]
                try simp only [List.set_cons_succ]
                try simp only [List.set_cons_zero]
                refine wpT 11 ⟨some 31, .load 3 (.tmp 30), 3, "history.go:80", #[⟨10, .data⟩, ⟨2, .guard⟩], some (2, true)⟩ ?_ (.inl ⟨by rfl, ?_⟩) ?_
                rotate_left
                · (intro W hSw; (try dsimp only at hSw); go_simp; try (with_reducible rfl))
                try simp only [Act.put]
                try simp only [List.setIfInBounds_toArray]
                try simp only [List.set_cons_succ]
                try simp only [List.set_cons_zero]
                refine wpT 12 ⟨some 32, .binOp .geq 3 (.tmp 29) (.tmp 31) 3, 4, "history.go:80", #[⟨9, .data⟩, ⟨11, .data⟩, ⟨2, .guard⟩], some (2, true)⟩ ?_ (.inl ⟨by rfl, ?_⟩) ?_
                rotate_left
                · (intro W hSw; (try dsimp only at hSw); go_simp; try (with_reducible rfl))
                try simp only [Act.put]
                try simp only [List.setIfInBounds_toArray]
                try simp only [List.set_cons_succ]
                try simp only [List.set_cons_zero]
                refine wpT 13 ⟨some 33, .pick (.tmp 22) (.tmp 32) (.const (.bool false)), 4, "history.go:80", #[⟨2, .data⟩, ⟨12, .data⟩], none⟩ ?_ (.inl ⟨by rfl, ?_⟩) ?_
                rotate_left
                · (intro W hSw; (try dsimp only at hSw); go_simp; try (with_reducible rfl))
                try simp only [Act.put]
                try simp only [List.setIfInBounds_toArray]
                try simp only [List.set_cons_succ]
                try simp only [List.set_cons_zero]
                refine wpT 14 ⟨some 34, .move (.tmp 33), 4, "history.go:80", #[⟨13, .data⟩, ⟨2, .chain⟩], none⟩ ?_ (.inl ⟨by rfl, ?_⟩) ?_
                rotate_left
                · (intro W hSw; (try dsimp only at hSw); go_simp; try (with_reducible rfl))
                try simp only [Act.put]
                try simp only [List.setIfInBounds_toArray]
                try simp only [List.set_cons_succ]
                try simp only [List.set_cons_zero]
                refine wpT 15 ⟨some 35, .load 47 (.tmp 4), 47, "history.go:80", #[⟨14, .guard⟩], some (14, false)⟩ ?_ (.inl ⟨by rfl, ?_⟩) ?_
                rotate_left
                · (intro W hSw; (try dsimp only at hSw); go_simp; try (with_reducible rfl))
                try simp only [Act.put]
                try simp only [List.setIfInBounds_toArray]
                try simp only [List.set_cons_succ]
                try simp only [List.set_cons_zero]
                refine wpAnyH_ready (rs := [16]) (by kernel_rfl) (by simp) ?_
                refine AllReadyH.cons (o := ⟨some 36, .call { callee := .value (.func 58), args := #[.tmp 35], argTypes := #[47] }, 50, "history.go:80", #[⟨15, .data⟩, ⟨14, .chain⟩, ⟨14, .guard⟩], some (14, false)⟩) rfl (fun K hK => ?_) AllReadyH.nil
                go_simp
                (first
    | (go_at_call 58; refine (trightV (F := F) (v := 0) (HOps.upd XL0.out.1 (uH.trans hHeld.1) (fun _ _ => id)) XL.out.2.2.1 hE.out).mono ?_; rintro e w3 ⟨rfl, hu3⟩))
                try (go_wp2_with fail)
                refine hK.out _ _ ?_ (fun hHeld => ?_)
                · (first | exact ⟨UA.out.drew, g0, g1, k0, k1, k2, p0⟩ | exact ⟨hHeld.1.trans hu3, hu3.keepNo hHeld.2.1, hu3.keepNo hHeld.2.2.1, hu3.keepNo hHeld.2.2.2.1, hu3.keepNo hHeld.2.2.2.2.1, hu3.keepNo hHeld.2.2.2.2.2.1, hu3.keepNo hHeld.2.2.2.2.2.2⟩)
                clear hK K
                try simp only [Act.put]
                try simp only [List.setIfInBounds_toArray]
                try simp only [List.set_cons_succ]
                try simp only [List.set_cons_zero]
                refine wpT 17 ⟨some 37, .binOp .neq 50 (.tmp 36) (.const (.int .i64 0)) 50, 4, "history.go:80", #[⟨16, .data⟩, ⟨14, .guard⟩], some (14, false)⟩ ?_ (.inl ⟨by rfl, ?_⟩) ?_
                rotate_left
                · (intro W hSw; (try dsimp only at hSw); go_simp; try (with_reducible rfl))
                try simp only [Act.put]
                try simp only [List.setIfInBounds_toArray]
                try simp only [List.set_cons_succ]
                try simp only [List.set_cons_zero]
                refine wpT 18 ⟨some 38, .pick (.tmp 34) (.const (.bool true)) (.tmp 37), 4, "history.go:80", #[⟨14, .data⟩, ⟨17, .data⟩], none⟩ ?_ (.inl ⟨by rfl, ?_⟩) ?_
                rotate_left
                · (intro W hSw; (try dsimp only at hSw); go_simp; try (with_reducible rfl))
                try simp only [Act.put]
                try simp only [List.setIfInBounds_toArray]
                try simp only [List.set_cons_succ]
                try simp only [List.set_cons_zero]
                refine wpT 19 ⟨some 39, .move (.tmp 38), 4, "history.go:80", #[⟨18, .data⟩, ⟨16, .chain⟩], none⟩ ?_ (.inl ⟨by rfl, ?_⟩) ?_
                rotate_left
                · (intro W hSw; (try dsimp only at hSw); go_simp; try (with_reducible rfl))
                try simp only [Act.put]
                try simp only [List.setIfInBounds_toArray]
                try simp only [List.set_cons_succ]
                try simp only [List.set_cons_zero]
                refine wpT 20 ⟨some 40, .load 25 (.tmp 1), 25, "history.go:80", #[⟨19, .guard⟩], some (19, false)⟩ ?_ (.inl ⟨by rfl, ?_⟩) ?_
                rotate_left
                · (intro W hSw; (try dsimp only at hSw); go_simp; try (with_reducible rfl))
                try simp only [Act.put]
                try simp only [List.setIfInBounds_toArray]
                try simp only [List.set_cons_succ]
                try simp only [List.set_cons_zero]
                refine wpT 21 ⟨some 41, .load 47 (.tmp 4), 47, "history.go:80", #[⟨19, .guard⟩], some (19, false)⟩ ?_ (.inl ⟨by rfl, ?_⟩) ?_
                rotate_left
                · (intro W hSw; (try dsimp only at hSw); go_simp; try (with_reducible rfl))
                try simp only [Act.put]
                try simp only [List.setIfInBounds_toArray]
                try simp only [List.set_cons_succ]
                try simp only [List.set_cons_zero]
                refine wpAnyH_ready (rs := [22]) (by kernel_rfl) (by simp) ?_
                refine AllReadyH.cons (o := ⟨some 42, .call { callee := .value (.func 141), args := #[.tmp 40, .tmp 41], argTypes := #[25, 47] }, 4, "history.go:80", #[⟨20, .data⟩, ⟨21, .data⟩, ⟨19, .chain⟩, ⟨19, .guard⟩], some (19, false)⟩) rfl (fun K hK => ?_) AllReadyH.nil
                go_simp
                (first
    | (go_at_call 141; refine (hneededV (F := F) (v := true) (H.upd (uH.trans hHeld.1) (fun _ _ => id)) (HOps.upd XL0.out.1 (uH.trans hHeld.1) (fun _ _ => id)) XL.out.2.2.1 hN.out).mono ?_; rintro e w3 ⟨rfl, hu3⟩))
                try (go_wp2_with fail)
                refine hK.out _ _ ?_ (fun hHeld => ?_)
                · (first | exact ⟨UA.out.drew, g0, g1, k0, k1, k2, p0⟩ | exact ⟨hHeld.1.trans hu3, hu3.keepNo hHeld.2.1, hu3.keepNo hHeld.2.2.1, hu3.keepNo hHeld.2.2.2.1, hu3.keepNo hHeld.2.2.2.2.1, hu3.keepNo hHeld.2.2.2.2.2.1, hu3.keepNo hHeld.2.2.2.2.2.2⟩)
                clear hK K
                try simp only [Act.put]
                try simp only [List.setIfInBounds_toArray]
                try simp only [List.set_cons_succ]
                try simp only [List.set_cons_zero]
                refine wpT 23 ⟨some 43, .unOp .not 4 (.tmp 42), 4, "history.go:80", #[⟨22, .data⟩, ⟨19, .guard⟩], some (19, false)⟩ ?_ (.inl ⟨by rfl, ?_⟩) ?_
                rotate_left
                · (intro W hSw; (try dsimp only at hSw); go_simp; try (with_reducible rfl))
                try simp only [Act.put]
                try simp only [List.setIfInBounds_toArray]
                try simp only [List.set_cons_succ]
                try simp only [List.set_cons_zero]
                refine wpT 24 ⟨some 44, .pick (.tmp 39) (.const (.bool true)) (.tmp 43), 4, "history.go:80", #[⟨19, .data⟩, ⟨23, .data⟩], none⟩ ?_ (.inl ⟨by rfl, ?_⟩) ?_
                rotate_left
                · (intro W hSw; (try dsimp only at hSw); go_simp; try (with_reducible rfl))
                try simp only [Act.put]
                try simp only [List.setIfInBounds_toArray]
                try simp only [List.set_cons_succ]
                try simp only [List.set_cons_zero]
                refine wpAnyH_done (by kernel_rfl) (NoPanic.normal ?_) _
                have HU := Lib.hid hHeld.1
                clear hHeld
                go_wp2
                go_roundg (gk - 1)
                case measure => omega
                case rel => exact ⟨k + 1, by omega, by go_num, Lib.hid HA.out, HU.out⟩
            · have hEb : (E != 0) = true := by simpa using hE1
              have hf := Lib.hid (show rightB ⟨txs, ords, some ad, c, B, d⟩ = false from right_tx (k := k) hlt (by rw [hok.out, beq_eq_false_iff_ne.2 hE1]; simp))
              clear hE1
              have g0 := bH.out.cell 0
              have g1 := bH.out.cell 1
              have k0 := bo.out.cell 0
              have k1 := bo.out.cell 1
              have k2 := bo.out.cell 2
              simp only [List.getElem?_cons_zero, List.getElem?_cons_succ] at g0 g1 k0 k1 k2
              go_wp2
              refine wp_region_noPanic ?_
              refine wp_region_held_drew (S := (fun w' => Upd No (w.alloc (.cells #[.slice (some ad) txs.length c, .slice B ords.length d] 25)) w' ∧ w'.cell? ⟨w.heap.size, 0, none⟩ = some (.slice (some ad) txs.length c) ∧ w'.cell? ⟨w.heap.size, 1, none⟩ = some (.slice B ords.length d) ∧ w'.cell? ⟨wr.heap.size, 0, none⟩ = some (.int .i64 x.id) ∧ w'.cell? ⟨wr.heap.size, 1, none⟩ = some (.bool x.done) ∧ w'.cell? ⟨wr.heap.size, 2, none⟩ = some (.slice x.A x.ops.length x.c)∧ w'.cell? (ad.add ((k - 1) * 3)) = some (.int .i64 y))) (by kernel_rfl) ?_ (fun hHeld => ?_)
              · (first | exact ⟨UA.out.drew, g0, g1, k0, k1, k2, p0⟩ | exact ⟨hHeld.1.trans hu3, hu3.keepNo hHeld.2.1, hu3.keepNo hHeld.2.2.1, hu3.keepNo hHeld.2.2.2.1, hu3.keepNo hHeld.2.2.2.2.1, hu3.keepNo hHeld.2.2.2.2.2.1, hu3.keepNo hHeld.2.2.2.2.2.2⟩)
              refine wpT 0 ⟨some 20, .move (.tmp 3), 3, "history.go:80", #[], none⟩ ?_ (.inl ⟨by rfl, ?_⟩) ?_
              rotate_left
              · (intro W hSw; (try dsimp only at hSw); go_simp; try (with_reducible rfl))
              try simp only [Act.put]
              try simp only [List.setIfInBounds_toArray]
              try simp only [List.set_cons_succ]
              try simp only [List.set_cons_zero]
              refine wpT 1 ⟨some 21, .binOp .gtr 3 (.tmp 20) (.const (.int .i64 0)) 3, 4, "history.go:80", #[⟨0, .data⟩], none⟩ ?_ (.inl ⟨by rfl, ?_⟩) ?_
              rotate_left
              · (intro W hSw; (try dsimp only at hSw); go_simp; try (with_reducible rfl))
              try simp only [Act.put]
              try simp only [List.setIfInBounds_toArray]
              try simp only [List.set_cons_succ]
              try simp only [List.set_cons_zero]
              refine wpT 2 ⟨some 22, .move (.tmp 21), 4, "history.go:80", #[⟨1, .data⟩], none⟩ ?_ (.inl ⟨by rfl, ?_⟩) ?_
              rotate_left
              · (intro W hSw; (try dsimp only at hSw); go_simp; try (with_reducible rfl))
              try simp only [Act.put]
              try simp only [List.setIfInBounds_toArray]
              try simp only [List.set_cons_succ]
              try simp only [List.set_cons_zero]
              refine wpT 3 ⟨some 23, .fieldAddr 25 (.tmp 1) 0, 0, "history.go:80", #[⟨2, .guard⟩], some (2, true)⟩ ?_ (.inl ⟨by rfl, ?_⟩) ?_
              rotate_left
              · (intro W hSw; (try dsimp only at hSw); go_simp; try (with_reducible rfl))
              try simp only [Act.put]
              try simp only [List.setIfInBounds_toArray]
              try simp only [List.set_cons_succ]
              try simp only [List.set_cons_zero]
              refine wpT 4 ⟨some 24, .load 22 (.tmp 23), 22, "history.go:80", #[⟨3, .data⟩, ⟨2, .guard⟩], some (2, true)⟩ ?_ (.inl ⟨by rfl, ?_⟩) ?_
              rotate_left
              · (intro W hSw; (try dsimp only at hSw); go_simp; try (with_reducible rfl))
              try simp only [Act.put]
              try simp only [List.setIfInBounds_toArray]
              try simp only [List.set_cons_succ]
              try simp only [List.set_cons_zero]
              refine wpT 5 ⟨some 25, .move (.tmp 3), 3, "history.go:80", #[⟨2, .guard⟩], some (2, true)⟩ ?_ (.inl ⟨by rfl, ?_⟩) ?_
              rotate_left
              · (intro W hSw; (try dsimp only at hSw); go_simp; try (with_reducible rfl))
              try simp only [Act.put]
              try simp only [List.setIfInBounds_toArray]
              try simp only [List.set_cons_succ]
              try simp only [List.set_cons_zero]
              refine wpT 6 ⟨some 26, .binOp .sub 3 (.tmp 25) (.const (.int .i64 1)) 3, 3, "history.go:80", #[⟨5, .data⟩, ⟨2, .guard⟩], some (2, true)⟩ ?_ (.inl ⟨by rfl, ?_⟩) ?_
              rotate_left
              · (intro W hSw; (try dsimp only at hSw); go_simp; try (with_reducible rfl))
              try simp only [Act.put]
              try simp only [List.setIfInBounds_toArray]
              try simp only [List.set_cons_succ]
              try simp only [List.set_cons_zero]
              refine wpT 7 ⟨some 27, .indexAddr 22 (.tmp 24) (.tmp 26), 0, "history.go:80", #[⟨4, .data⟩, ⟨6, .data⟩, ⟨2, .guard⟩], some (2, true)⟩ ?_ (.inl ⟨by rfl, ?_⟩) ?_
              rotate_left
              · (intro W hSw; (try dsimp only at hSw); go_simp; try (with_reducible rfl))
              try simp only [Act.put]
              try simp only [List.setIfInBounds_toArray]
              try simp only [List.set_cons_succ]
              try simp only [List.set_cons_zero]
              refine wpT 8 ⟨some 28, .fieldAddr 47 (.tmp 27) 0, 0, "history.go:80", #[⟨7, .data⟩, ⟨2, .guard⟩], some (2, true)⟩ ?_ (.inl ⟨by rfl, ?_⟩) ?_
              rotate_left
              · (intro W hSw; (try dsimp only at hSw); go_simp; try (with_reducible rfl))
              try simp only [Act.put]
              try simp only [List.setIfInBounds_toArray]
              try simp only [List.set_cons_succ]
              try simp only [List.set_cons_zero]
              refine wpT 9 ⟨some 29, .load 3 (.tmp 28), 3, "history.go:80", #[⟨8, .data⟩, ⟨2, .guard⟩], some (2, true)⟩ ?_ (.inl ⟨by rfl, ?_⟩) ?_
              rotate_left
              · (intro W hSw; (try dsimp only at hSw); go_simp; try (with_reducible rfl))
              try simp only [Act.put]
              try simp only [List.setIfInBounds_toArray]
              try simp only [List.set_cons_succ]
              try simp only [List.set_cons_zero]
              refine wpT 10 ⟨some 30, .fieldAddr 47 (.tmp 4) 0, 0, "history.go:80", #[⟨2, .guard⟩], some (2, true)⟩ ?_ (.inl ⟨by rfl, ?_⟩) ?_
              rotate_left
              · (intro W hSw; (try dsimp only at hSw); go_simp; try (with_reducible rfl))
              try simp only [Act.put]
              try simp only [List.setIfInBounds_toArray]
              try simp only [List.set_cons_succ]
              try simp only [List.set_cons_zero]
              refine wpT 11 ⟨some 31, .load 3 (.tmp 30), 3, "history.go:80", #[⟨10, .data⟩, ⟨2, .guard⟩], some (2, true)⟩ ?_ (.inl ⟨by rfl, ?_⟩) ?_
              rotate_left
              · (intro W hSw; (try dsimp only at hSw); go_simp; try (with_reducible rfl))
              try simp only [Act.put]
              try simp only [List.setIfInBounds_toArray]
              try simp only [List.set_cons_succ]
              try simp only [List.set_cons_zero]
              refine wpT 12 ⟨some 32, .binOp .geq 3 (.tmp 29) (.tmp 31) 3, 4, "history.go:80", #[⟨9, .data⟩, ⟨11, .data⟩, ⟨2, .guard⟩], some (2, true)⟩ ?_ (.inl ⟨by rfl, ?_⟩) ?_
              rotate_left
              · (intro W hSw; (try dsimp only at hSw); go_simp; try (with_reducible rfl))
              try simp only [Act.put]
              try simp only [List.setIfInBounds_toArray]
              try simp only [List.set_cons_succ]
              try simp only [List.set_cons_zero]
              refine wpT 13 ⟨some 33, .pick (.tmp 22) (.tmp 32) (.const (.bool false)), 4, "history.go:80", #[⟨2, .data⟩, ⟨12, .data⟩], none⟩ ?_ (.inl ⟨by rfl, ?_⟩) ?_
              rotate_left
              · (intro W hSw; (try dsimp only at hSw); go_simp; try (with_reducible rfl))
              try simp only [Act.put]
              try simp only [List.setIfInBounds_toArray]
              try simp only [List.set_cons_succ]
              try simp only [List.set_cons_zero]
              refine wpT 14 ⟨some 34, .move (.tmp 33), 4, "history.go:80", #[⟨13, .data⟩, ⟨2, .chain⟩], none⟩ ?_ (.inl ⟨by rfl, ?_⟩) ?_
              rotate_left
              · (intro W hSw; (try dsimp only at hSw); go_simp; try (with_reducible rfl))
              try simp only [Act.put]
              try simp only [List.setIfInBounds_toArray]
              try simp only [List.set_cons_succ]
              try simp only [List.set_cons_zero]
              refine wpT 15 ⟨some 35, .load 47 (.tmp 4), 47, "history.go:80", #[⟨14, .guard⟩], some (14, false)⟩ ?_ (.inl ⟨by rfl, ?_⟩) ?_
              rotate_left
              · (intro W hSw; (try dsimp only at hSw); go_simp; try (with_reducible rfl))
              try simp only [Act.put]
              try simp only [List.setIfInBounds_toArray]
              try simp only [List.set_cons_succ]
              try simp only [List.set_cons_zero]
              refine wpAnyH_ready (rs := [16]) (by kernel_rfl) (by simp) ?_
              refine AllReadyH.cons (o := ⟨some 36, .call { callee := .value (.func 58), args := #[.tmp 35], argTypes := #[47] }, 50, "history.go:80", #[⟨15, .data⟩, ⟨14, .chain⟩, ⟨14, .guard⟩], some (14, false)⟩) rfl (fun K hK => ?_) AllReadyH.nil
              go_simp
              (first
    | (go_at_call 58; refine (trightV (F := F) (v := E) (HOps.upd XL0.out.1 (uH.trans hHeld.1) (fun _ _ => id)) XL.out.2.2.1 hE.out).mono ?_; rintro e w3 ⟨rfl, hu3⟩))
              try (go_wp2_with fail)
              refine hK.out _ _ ?_ (fun hHeld => ?_)
              · (first | exact ⟨UA.out.drew, g0, g1, k0, k1, k2, p0⟩ | exact ⟨hHeld.1.trans hu3, hu3.keepNo hHeld.2.1, hu3.keepNo hHeld.2.2.1, hu3.keepNo hHeld.2.2.2.1, hu3.keepNo hHeld.2.2.2.2.1, hu3.keepNo hHeld.2.2.2.2.2.1, hu3.keepNo hHeld.2.2.2.2.2.2⟩)
              clear hK K
              try simp only [Act.put]
              try simp only [List.setIfInBounds_toArray]
              try simp only [List.set_cons_succ]
              try simp only [List.set_cons_zero]
              refine wpT 17 ⟨some 37, .binOp .neq 50 (.tmp 36) (.const (.int .i64 0)) 50, 4, "history.go:80", #[⟨16, .data⟩, ⟨14, .guard⟩], some (14, false)⟩ ?_ (.inl ⟨by rfl, ?_⟩) ?_
              rotate_left
              · (intro W hSw; (try dsimp only at hSw); go_simp; try (with_reducible rfl))
              try simp only [Act.put]
              try simp only [List.setIfInBounds_toArray]
              try simp only [List.set_cons_succ]
              try simp only [List.set_cons_zero]
              refine wpT 18 ⟨some 38, .pick (.tmp 34) (.const (.bool true)) (.tmp 37), 4, "history.go:80", #[⟨14, .data⟩, ⟨17, .data⟩], none⟩ ?_ (.inl ⟨by rfl, ?_⟩) ?_
              rotate_left
              · (intro W hSw; (try dsimp only at hSw); go_simp; try (with_reducible rfl))
              try simp only [Act.put]
              try simp only [List.setIfInBounds_toArray]
              try simp only [List.set_cons_succ]
              try simp only [List.set_cons_zero]
              refine wpT 19 ⟨some 39, .move (.tmp 38), 4, "history.go:80", #[⟨18, .data⟩, ⟨16, .chain⟩], none⟩ ?_ (.inl ⟨by rfl, ?_⟩) ?_
              rotate_left
              · (intro W hSw; (try dsimp only at hSw); go_simp; try (with_reducible rfl))
              try simp only [Act.put]
              try simp only [List.setIfInBounds_toArray]
              try simp only [List.set_cons_succ]
              try simp only [List.set_cons_zero]
              refine wpT 20 ⟨some 40, .load 25 (.tmp 1), 25, "history.go:80", #[⟨19, .guard⟩], some (19, false)⟩ undef (.inr ⟨by rfl, rfl⟩) ?_
              try simp only [Act.put]
              try simp only [List.setIfInBounds_toArray]
              try simp only [List.set_cons_succ]
              try simp only [List.set_cons_zero]
              refine wpT 21 ⟨some 41, .load 47 (.tmp 4), 47, "history.go:80", #[⟨19, .guard⟩], some (19, false)⟩ undef (.inr ⟨by rfl, rfl⟩) ?_
              try simp only [Act.put]
              try simp only [List.setIfInBounds_toArray]
              try simp only [List.set_cons_succ]
              try simp only [List.set_cons_zero]
              refine wpAnyH_ready (rs := [22]) (by kernel_rfl) (by simp) ?_
              refine AllReadyH.cons (o := ⟨some 42, .call { callee := .value (.func 141), args := #[.tmp 40, .tmp 41], argTypes := #[25, 47] }, 4, "history.go:80", #[⟨20, .data⟩, ⟨21, .data⟩, ⟨19, .chain⟩, ⟨19, .guard⟩], some (19, false)⟩) rfl (fun K hK => ?_) AllReadyH.nil
              go_simp
              refine hK.out _ _ ?_ (fun hHeld => ?_)
              · exact hHeld
              clear hK K
              try simp only [Act.put]
              try simp only [List.setIfInBounds_toArray]
              try simp only [List.set_cons_succ]
              try simp only [List.set_cons_zero]
              refine wpT 23 ⟨some 43, .unOp .not 4 (.tmp 42), 4, "history.go:80", #[⟨22, .data⟩, ⟨19, .guard⟩], some (19, false)⟩ undef (.inr ⟨by rfl, rfl⟩) ?_
              try simp only [Act.put]
              try simp only [List.setIfInBounds_toArray]
              try simp only [List.set_cons_succ]
              try simp only [List.set_cons_zero]
              refine wpT 24 ⟨some 44, .pick (.tmp 39) (.const (.bool true)) (.tmp 43), 4, "history.go:80", #[⟨19, .data⟩, ⟨23, .data⟩], none⟩ ?_ (.inl ⟨by rfl, ?_⟩) ?_
              rotate_left
              · (intro W hSw; (try dsimp only at hSw); go_simp; try (with_reducible rfl))
              try simp only [Act.put]
              try simp only [List.setIfInBounds_toArray]
              try simp only [List.set_cons_succ]
              try simp only [List.set_cons_zero]
              refine wpAnyH_done (by kernel_rfl) (NoPanic.normal ?_) _
              have HU := Lib.hid hHeld.1
              clear hHeld
              go_wp2
              go_ret
              exact ⟨by rw [hf.out]; rfl, uH.trans HU.out⟩
      · obtain rfl : k = txs.length := by omega
        have hall1 := Lib.hid hall.out
        have hg0 := bH0.out.upd hu id
        have g0' := hg0.cell 0
        have g1' := hg0.cell 1
        simp only [List.getElem?_cons_zero, List.getElem?_cons_succ] at g0' g1'
        have HW := Lib.hid (hwriters F _ ⟨txs, ords, A, c, B, d⟩ (H.upd (uH.trans hu) (fun _ _ => id)) (by show txs.length ≤ 4096; omega))
        clear hg0
        go_wp2_with fail
        refine (HW.out).mono ?_
        rintro e w1 ⟨b, m, rfl, hb1, hb2, hmk, hms, hu1⟩
        have bH1 := Lib.hid ((bH0.out.upd hu id).upd hu1 id)
        have U1 := Lib.hid ((uH.trans hu).trans hu1)
        have hln := run_mlen Tryz.underlying89 hms.is
        have hml : m.length = (wkeys txs []).length := by rw [← hmk, List.length_map]
        have g1 := bH1.out.cell 1
        simp only [List.getElem?_cons_zero, List.getElem?_cons_succ] at g1
        have HMS := Lib.hid hms
        have hln' := fun ty => hln ty
        clear g0' g1' hms hmk hln hu1 hall
        by_cases hle : (wkeys txs []).length = ords.length
        · have hne : ((m.length : Int) != (ords.length : Int)) = false := by rw [hml, hle]; simp
          have hlb := Lib.hid (show ((wkeys (Hist.txs ⟨txs, ords, A, c, B, d⟩) []).length == (Hist.ords ⟨txs, ords, A, c, B, d⟩).length) = true by show ((wkeys txs []).length == ords.length) = true; rw [hle]; simp)
          clear hml hle
          go_wp2
          clear hln' hne
          go_loopg [57] ords.length (fun gk i wr => ∃ (k : Nat), k + gk = ords.length ∧ i = .int .i64 k ∧ Hid ((List.range k).all (ordOk txs ords) = true) ∧ Upd No w1 wr)
          case atStart => exact ⟨0, by omega, rfl, Lib.hid rfl, Upd.refl No _⟩
          case round =>
            obtain ⟨k, hgk, rfl, hall2, hu2⟩ := hrel
            by_cases hlt : k < ords.length
            · have H1 := H.upd (U1.out.trans hu2) (fun _ _ => id)
              obtain ⟨ad, hAd, q0, q1⟩ := H1.ord_at hlt
              simp only at hAd q0 q1
              have hx0 := H.ord ords[k] (List.getElem_mem hlt)
              obtain ⟨x, hx⟩ : ∃ x, ords[k] = x := ⟨_, rfl⟩
              rw [hx] at q0 q1 hx0
              subst hAd
              have X := Lib.hid hx
              have XL0 := Lib.hid hx0
              have b1 : (0 : Int) ≤ (k : Int) := Int.natCast_nonneg _
              have b2 : (k : Int) < (ords.length : Int) := by omega
              have uA := (Upd.refl No wr).alloc (.cells #[.int .i64 x.key, .slice x.A x.txs.length x.c] 81)
              have bo := Lib.hid (Blk.new wr 81 [.int .i64 x.key, .slice x.A x.txs.length x.c])
              have bH := Lib.hid ((bH1.out.upd hu2 id).upd uA id)
              have UA := Lib.hid (hu2.trans uA)
              obtain ⟨Ar, cr, hrow, how⟩ := HMS.out.row x.key
              have e1 := run_look kbyint Tryz.underlying89 zeroSl (HMS.out.is.upd UA.out.drew id) x.key
              rw [hrow] at e1
              have hIw := Lib.hid (Ints.of_own how)
              have hwl := Lib.hid (show (writersOf txs x.key).length ≤ 17592186044415 from Nat.le_trans (writers_le txs x.key) (by omega))
              clear hx hx0 hrow how
              obtain ⟨N, hN0⟩ : ∃ N, permB x.txs (writersOf txs x.key) = N := ⟨_, rfl⟩
              have hN := Lib.hid hN0
              have hok := Lib.hid (show ordOk txs ords k = (aheadO ords k x.key && !x.txs.isEmpty && N) by rw [ordOk_eq hlt X.out, ← permB_eq, hN0])
              clear hN0
              by_cases hk0 : k = 0
              · have hah := Lib.hid (show aheadO ords k x.key = true by rw [hk0]; rfl)
                have hkk : decide ((0 : Int) < (k : Int)) = false := decide_eq_false (by omega)
                have hkn : decide (0 < k) = false := decide_eq_false (by omega)
                clear hk0 H1
                by_cases hE1 : x.txs.length = 0
                · have hE0 : x.txs = [] := List.eq_nil_of_length_eq_zero hE1
                  have hf := Lib.hid (show rightB ⟨txs, ords, A, c, some ad, d⟩ = false from right_ord (k := k) hlt (by rw [hok.out, hE0]; simp))
                  have hEb : ((x.txs.length : Int) == 0) = true := by rw [beq_iff_eq]; omega
                  clear hE1 hE0
                  have g1 := bH.out.cell 1
                  have k0 := bo.out.cell 0
                  have k1 := bo.out.cell 1
                  simp only [List.getElem?_cons_zero, List.getElem?_cons_succ] at g1 k0 k1
                  go_wp2
                  refine wp_region_noPanic ?_
                  refine wp_region_held_drew (S := (fun w' => Upd No w1 w' ∧ w'.cell? ⟨w.heap.size, 1, none⟩ = some (.slice (some ad) ords.length d) ∧ w'.cell? ⟨wr.heap.size, 0, none⟩ = some (.int .i64 x.key) ∧ w'.cell? ⟨wr.heap.size, 1, none⟩ = some (.slice x.A x.txs.length x.c))) (by kernel_rfl) ?_ (fun hHeld => ?_)
                  · (first | exact ⟨UA.out.drew, g1, k0, k1⟩ | exact ⟨hHeld.1.trans hu3, hu3.keepNo hHeld.2.1, hu3.keepNo hHeld.2.2.1, hu3.keepNo hHeld.2.2.2⟩)
                  refine wpT 0 ⟨some 62, .move (.tmp 6), 3, "history.go:89", #[], none⟩ ?_ (.inl ⟨by rfl, ?_⟩) ?_
                  rotate_left
                  · (intro W hSw; (try dsimp only at hSw); go_simp; try (with_reducible rfl))
                  try simp only [Act.put]
                  try simp only [List.setIfInBounds_toArray]
                  try simp only [List.set_cons_succ]
                  try simp only [List.set_cons_zero]
                  refine wpT 1 ⟨some 63, .binOp .gtr 3 (.tmp 62) (.const (.int .i64 0)) 3, 4, "history.go:89", #[⟨0, .data⟩], none⟩ ?_ (.inl ⟨by rfl, ?_⟩) ?_
                  rotate_left
                  · (intro W hSw; (try dsimp only at hSw); go_simp; try (with_reducible rfl))
                  try simp only [Act.put]
                  try simp only [List.setIfInBounds_toArray]
                  try simp only [List.set_cons_succ]
                  try simp only [List.set_cons_zero]
                  refine wpT 2 ⟨some 64, .move (.tmp 63), 4, "history.go:89", #[⟨1, .data⟩], none⟩ ?_ (.inl ⟨by rfl, ?_⟩) ?_
                  rotate_left
                  · (intro W hSw; (try dsimp only at hSw); go_simp; try (with_reducible rfl))
                  try simp only [Act.put]
                  try simp only [List.setIfInBounds_toArray]
                  try simp only [List.set_cons_succ]
                  try simp only [List.set_cons_zero]
                  refine wpT 3 ⟨some 65, .fieldAddr 25 (.tmp 1) 1, 0, "history.go:89", #[⟨2, .guard⟩], some (2, true)⟩ undef (.inr ⟨by rfl, rfl⟩) ?_
                  try simp only [Act.put]
                  try simp only [List.setIfInBounds_toArray]
                  try simp only [List.set_cons_succ]
                  try simp only [List.set_cons_zero]
                  refine wpT 4 ⟨some 66, .load 23 (.tmp 65), 23, "history.go:89", #[⟨3, .data⟩, ⟨2, .guard⟩], some (2, true)⟩ undef (.inr ⟨by rfl, rfl⟩) ?_
                  try simp only [Act.put]
                  try simp only [List.setIfInBounds_toArray]
                  try simp only [List.set_cons_succ]
                  try simp only [List.set_cons_zero]
                  refine wpT 5 ⟨some 67, .move (.tmp 6), 3, "history.go:89", #[⟨2, .guard⟩], some (2, true)⟩ undef (.inr ⟨by rfl, rfl⟩) ?_
                  try simp only [Act.put]
                  try simp only [List.setIfInBounds_toArray]
                  try simp only [List.set_cons_succ]
                  try simp only [List.set_cons_zero]
                  refine wpT 6 ⟨some 68, .binOp .sub 3 (.tmp 67) (.const (.int .i64 1)) 3, 3, "history.go:89", #[⟨5, .data⟩, ⟨2, .guard⟩], some (2, true)⟩ undef (.inr ⟨by rfl, rfl⟩) ?_
                  try simp only [Act.put]
                  try simp only [List.setIfInBounds_toArray]
                  try simp only [List.set_cons_succ]
                  try simp only [List.set_cons_zero]
                  refine wpT 7 ⟨some 69, .indexAddr 23 (.tmp 66) (.tmp 68), 0, "history.go:89", #[⟨4, .data⟩, ⟨6, .data⟩, ⟨2, .guard⟩], some (2, true)⟩ undef (.inr ⟨by rfl, rfl⟩) ?_
                  try simp only [Act.put]
                  try simp only [List.setIfInBounds_toArray]
                  try simp only [List.set_cons_succ]
                  try simp only [List.set_cons_zero]
                  refine wpT 8 ⟨some 70, .fieldAddr 81 (.tmp 69) 0, 0, "history.go:89", #[⟨7, .data⟩, ⟨2, .guard⟩], some (2, true)⟩ undef (.inr ⟨by rfl, rfl⟩) ?_
                  try simp only [Act.put]
                  try simp only [List.setIfInBounds_toArray]
                  try simp only [List.set_cons_succ]
                  try simp only [List.set_cons_zero]
                  refine wpT 9 ⟨some 71, .load 3 (.tmp 70), 3, "history.go:89", #[⟨8, .data⟩, ⟨2, .guard⟩], some (2, true)⟩ undef (.inr ⟨by rfl, rfl⟩) ?_
                  try simp only [Act.put]
                  try simp only [List.setIfInBounds_toArray]
                  try simp only [List.set_cons_succ]
                  try simp only [List.set_cons_zero]
                  refine wpT 10 ⟨some 72, .fieldAddr 81 (.tmp 7) 0, 0, "history.go:89", #[⟨2, .guard⟩], some (2, true)⟩ undef (.inr ⟨by rfl, rfl⟩) ?_
                  try simp only [Act.put]
                  try simp only [List.setIfInBounds_toArray]
                  try simp only [List.set_cons_succ]
                  try simp only [List.set_cons_zero]
                  refine wpT 11 ⟨some 73, .load 3 (.tmp 72), 3, "history.go:89", #[⟨10, .data⟩, ⟨2, .guard⟩], some (2, true)⟩ undef (.inr ⟨by rfl, rfl⟩) ?_
                  try simp only [Act.put]
                  try simp only [List.setIfInBounds_toArray]
                  try simp only [List.set_cons_succ]
                  try simp only [List.set_cons_zero]
                  refine wpT 12 ⟨some 74, .binOp .geq 3 (.tmp 71) (.tmp 73) 3, 4, "history.go:89", #[⟨9, .data⟩, ⟨11, .data⟩, ⟨2, .guard⟩], some (2, true)⟩ undef (.inr ⟨by rfl, rfl⟩) ?_
                  try simp only [Act.put]
                  try simp only [List.setIfInBounds_toArray]
                  try simp only [List.set_cons_succ]
                  try simp only [List.set_cons_zero]
                  refine wpT 13 ⟨some 75, .pick (.tmp 64) (.tmp 74) (.const (.bool false)), 4, "history.go:89", #[⟨2, .data⟩, ⟨12, .data⟩], none⟩ ?_ (.inl ⟨by rfl, ?_⟩) ?_
                  rotate_left
                  · (intro W hSw; (try dsimp only at hSw); go_simp; try (with_reducible rfl))
                  try simp only [Act.put]
                  try simp only [List.setIfInBounds_toArray]
                  try simp only [List.set_cons_succ]
                  try simp only [List.set_cons_zero]
                  refine wpT 14 ⟨some 76, .move (.tmp 75), 4, "history.go:89", #[⟨13, .data⟩, ⟨2, .chain⟩], none⟩ ?_ (.inl ⟨by rfl, ?_⟩) ?_
                  rotate_left
                  · (intro W hSw; (try dsimp only at hSw); go_simp; try (with_reducible rfl))
                  try simp only [Act.put]
                  try simp only [List.setIfInBounds_toArray]
                  try simp only [List.set_cons_succ]
                  try simp only [List.set_cons_zero]
                  refine wpT 15 ⟨some 77, .fieldAddr 81 (.tmp 7) 1, 0, "history.go:89", #[⟨14, .guard⟩], some (14, false)⟩ ?_ (.inl ⟨by rfl, ?_⟩) ?_
                  rotate_left
                  · (intro W hSw; (try dsimp only at hSw); go_simp; try (with_reducible rfl))
                  try simp only [Act.put]
                  try simp only [List.setIfInBounds_toArray]
                  try simp only [List.set_cons_succ]
                  try simp only [List.set_cons_zero]
                  refine wpT 16 ⟨some 78, .load 72 (.tmp 77), 72, "history.go:89", #[⟨15, .data⟩, ⟨14, .guard⟩], some (14, false)⟩ ?_ (.inl ⟨by rfl, ?_⟩) ?_
                  rotate_left
                  · (intro W hSw; (try dsimp only at hSw); go_simp; try (with_reducible rfl))
                  try simp only [Act.put]
                  try simp only [List.setIfInBounds_toArray]
                  try simp only [List.set_cons_succ]
                  try simp only [List.set_cons_zero]
                  refine wpT 17 ⟨some 79, .call { callee := .builtin .len, args := #[.tmp 78], argTypes := #[72] }, 3, "history.go:89", #[⟨16, .data⟩, ⟨14, .guard⟩], some (14, false)⟩ ?_ (.inl ⟨by rfl, ?_⟩) ?_
                  rotate_left
                  · (intro W hSw; (try dsimp only at hSw); go_simp; try (with_reducible rfl))
                  try simp only [Act.put]
                  try simp only [List.setIfInBounds_toArray]
                  try simp only [List.set_cons_succ]
                  try simp only [List.set_cons_zero]
                  refine wpT 18 ⟨some 80, .binOp .eql 3 (.tmp 79) (.const (.int .i64 0)) 3, 4, "history.go:89", #[⟨17, .data⟩, ⟨14, .guard⟩], some (14, false)⟩ ?_ (.inl ⟨by rfl, ?_⟩) ?_
                  rotate_left
                  · (intro W hSw; (try dsimp only at hSw); go_simp; try (with_reducible rfl))
                  try simp only [Act.put]
                  try simp only [List.setIfInBounds_toArray]
                  try simp only [List.set_cons_succ]
                  try simp only [List.set_cons_zero]
                  refine wpT 19 ⟨some 81, .pick (.tmp 76) (.const (.bool true)) (.tmp 80), 4, "history.go:89", #[⟨14, .data⟩, ⟨18, .data⟩], none⟩ ?_ (.inl ⟨by rfl, ?_⟩) ?_
                  rotate_left
                  · (intro W hSw; (try dsimp only at hSw); go_simp; try (with_reducible rfl))
                  try simp only [Act.put]
                  try simp only [List.setIfInBounds_toArray]
                  try simp only [List.set_cons_succ]
                  try simp only [List.set_cons_zero]
                  refine wpT 20 ⟨some 82, .move (.tmp 81), 4, "history.go:89", #[⟨19, .data⟩, ⟨14, .chain⟩], none⟩ ?_ (.inl ⟨by rfl, ?_⟩) ?_
                  rotate_left
                  · (intro W hSw; (try dsimp only at hSw); go_simp; try (with_reducible rfl))
                  try simp only [Act.put]
                  try simp only [List.setIfInBounds_toArray]
                  try simp only [List.set_cons_succ]
                  try simp only [List.set_cons_zero]
                  refine wpT 21 ⟨some 83, .fieldAddr 81 (.tmp 7) 1, 0, "history.go:89", #[⟨20, .guard⟩], some (20, false)⟩ undef (.inr ⟨by rfl, rfl⟩) ?_
                  try simp only [Act.put]
                  try simp only [List.setIfInBounds_toArray]
                  try simp only [List.set_cons_succ]
                  try simp only [List.set_cons_zero]
                  refine wpT 22 ⟨some 84, .load 72 (.tmp 83), 72, "history.go:89", #[⟨21, .data⟩, ⟨20, .guard⟩], some (20, false)⟩ undef (.inr ⟨by rfl, rfl⟩) ?_
                  try simp only [Act.put]
                  try simp only [List.setIfInBounds_toArray]
                  try simp only [List.set_cons_succ]
                  try simp only [List.set_cons_zero]
                  refine wpT 23 ⟨some 85, .move (.tmp 5), 89, "history.go:89", #[⟨20, .guard⟩], some (20, false)⟩ undef (.inr ⟨by rfl, rfl⟩) ?_
                  try simp only [Act.put]
                  try simp only [List.setIfInBounds_toArray]
                  try simp only [List.set_cons_succ]
                  try simp only [List.set_cons_zero]
                  refine wpT 24 ⟨some 86, .fieldAddr 81 (.tmp 7) 0, 0, "history.go:89", #[⟨20, .guard⟩], some (20, false)⟩ undef (.inr ⟨by rfl, rfl⟩) ?_
                  try simp only [Act.put]
                  try simp only [List.setIfInBounds_toArray]
                  try simp only [List.set_cons_succ]
                  try simp only [List.set_cons_zero]
                  refine wpT 25 ⟨some 87, .load 3 (.tmp 86), 3, "history.go:89", #[⟨24, .data⟩, ⟨20, .guard⟩], some (20, false)⟩ undef (.inr ⟨by rfl, rfl⟩) ?_
                  try simp only [Act.put]
                  try simp only [List.setIfInBounds_toArray]
                  try simp only [List.set_cons_succ]
                  try simp only [List.set_cons_zero]
                  refine wpAnyH_ready (rs := [26]) (by kernel_rfl) (by simp) ?_
                  refine AllReadyH.cons (o := ⟨some 88, .lookup 89 (.tmp 85) (.tmp 87) false, 72, "history.go:89", #[⟨23, .data⟩, ⟨25, .data⟩, ⟨20, .guard⟩], some (20, false)⟩) rfl (fun K hK => ?_) AllReadyH.nil
                  go_simp
                  refine hK.out _ _ ?_ (fun hHeld => ?_)
                  · exact hHeld
                  clear hK K
                  try simp only [Act.put]
                  try simp only [List.setIfInBounds_toArray]
                  try simp only [List.set_cons_succ]
                  try simp only [List.set_cons_zero]
                  refine wpAnyH_ready (rs := [27]) (by kernel_rfl) (by simp) ?_
                  refine AllReadyH.cons (o := ⟨some 89, .call { callee := .value (.func 143), args := #[.tmp 84, .tmp 88], argTypes := #[72, 72] }, 4, "history.go:89", #[⟨22, .data⟩, ⟨26, .data⟩, ⟨20, .chain⟩, ⟨20, .guard⟩], some (20, false)⟩) rfl (fun K hK => ?_) AllReadyH.nil
                  go_simp
                  refine hK.out _ _ ?_ (fun hHeld => ?_)
                  · exact hHeld
                  clear hK K
                  try simp only [Act.put]
                  try simp only [List.setIfInBounds_toArray]
                  try simp only [List.set_cons_succ]
                  try simp only [List.set_cons_zero]
                  refine wpT 28 ⟨some 90, .unOp .not 4 (.tmp 89), 4, "history.go:89", #[⟨27, .data⟩, ⟨20, .guard⟩], some (20, false)⟩ undef (.inr ⟨by rfl, rfl⟩) ?_
                  try simp only [Act.put]
                  try simp only [List.setIfInBounds_toArray]
                  try simp only [List.set_cons_succ]
                  try simp only [List.set_cons_zero]
                  refine wpT 29 ⟨some 91, .pick (.tmp 82) (.const (.bool true)) (.tmp 90), 4, "history.go:89", #[⟨20, .data⟩, ⟨28, .data⟩], none⟩ ?_ (.inl ⟨by rfl, ?_⟩) ?_
                  rotate_left
                  · (intro W hSw; (try dsimp only at hSw); go_simp; try (with_reducible rfl))
                  try simp only [Act.put]
                  try simp only [List.setIfInBounds_toArray]
                  try simp only [List.set_cons_succ]
                  try simp only [List.set_cons_zero]
                  refine wpAnyH_done (by kernel_rfl) (NoPanic.normal ?_) _
                  have HU := Lib.hid hHeld.1
                  clear hHeld
                  go_wp2
                  go_ret
                  exact ⟨by rw [hf.out]; rfl, U1.out.trans HU.out⟩
                · have hE0 : x.txs.isEmpty = false := by
                    cases hh : x.txs with
                    | nil => rw [hh] at hE1; exact absurd rfl hE1
                    | cons a l => rfl
                  have hEb : ((x.txs.length : Int) == 0) = false := by rw [beq_eq_false_iff_ne]; omega
                  have HE0 := Lib.hid hE0
                  clear hE1 hE0
                  cases N
                  · have hf := Lib.hid (show rightB ⟨txs, ords, A, c, some ad, d⟩ = false from right_ord (k := k) hlt (by rw [hok.out]; simp))
                    have g1 := bH.out.cell 1
                    have k0 := bo.out.cell 0
                    have k1 := bo.out.cell 1
                    simp only [List.getElem?_cons_zero, List.getElem?_cons_succ] at g1 k0 k1
                    go_wp2
                    refine wp_region_noPanic ?_
                    refine wp_region_held_drew (S := (fun w' => Upd No w1 w' ∧ w'.cell? ⟨w.heap.size, 1, none⟩ = some (.slice (some ad) ords.length d) ∧ w'.cell? ⟨wr.heap.size, 0, none⟩ = some (.int .i64 x.key) ∧ w'.cell? ⟨wr.heap.size, 1, none⟩ = some (.slice x.A x.txs.length x.c))) (by kernel_rfl) ?_ (fun hHeld => ?_)
                    · (first | exact ⟨UA.out.drew, g1, k0, k1⟩ | exact ⟨hHeld.1.trans hu3, hu3.keepNo hHeld.2.1, hu3.keepNo hHeld.2.2.1, hu3.keepNo hHeld.2.2.2⟩)
                    refine wpT 0 ⟨some 62, .move (.tmp 6), 3, "history.go:89", #[], none⟩ ?_ (.inl ⟨by rfl, ?_⟩) ?_
                    rotate_left
                    · (intro W hSw; (try dsimp only at hSw); go_simp; try (with_reducible rfl))
                    try simp only [Act.put]
                    try simp only [List.setIfInBounds_toArray]
                    try simp only [List.set_cons_succ]
                    try simp only [List.set_cons_zero]
                    refine wpT 1 ⟨some 63, .binOp .gtr 3 (.tmp 62) (.const (.int .i64 0)) 3, 4, "history.go:89", #[⟨0, .data⟩], none⟩ ?_ (.inl ⟨by rfl, ?_⟩) ?_
                    rotate_left
                    · (intro W hSw; (try dsimp only at hSw); go_simp; try (with_reducible rfl))
                    try simp only [Act.put]
                    try simp only [List.setIfInBounds_toArray]
                    try simp only [List.set_cons_succ]
                    try simp only [List.set_cons_zero]
                    refine wpT 2 ⟨some 64, .move (.tmp 63), 4, "history.go:89", #[⟨1, .data⟩], none⟩ ?_ (.inl ⟨by rfl, ?_⟩) ?_
                    rotate_left
                    · (intro W hSw; (try dsimp only at hSw); go_simp; try (with_reducible rfl))
                    try simp only [Act.put]
                    try simp only [List.setIfInBounds_toArray]
                    try simp only [List.set_cons_succ]
                    try simp only [List.set_cons_zero]
                    refine wpT 3 ⟨some 65, .fieldAddr 25 (.tmp 1) 1, 0, "history.go:89", #[⟨2, .guard⟩], some (2, true)⟩ undef (.inr ⟨by rfl, rfl⟩) ?_
                    try simp only [Act.put]
                    try simp only [List.setIfInBounds_toArray]
                    try simp only [List.set_cons_succ]
                    try simp only [List.set_cons_zero]
                    refine wpT 4 ⟨some 66, .load 23 (.tmp 65), 23, "history.go:89", #[⟨3, .data⟩, ⟨2, .guard⟩], some (2, true)⟩ undef (.inr ⟨by rfl, rfl⟩) ?_
                    try simp only [Act.put]
                    try simp only [List.setIfInBounds_toArray]
                    try simp only [List.set_cons_succ]
                    try simp only [List.set_cons_zero]
                    refine wpT 5 ⟨some 67, .move (.tmp 6), 3, "history.go:89", #[⟨2, .guard⟩], some (2, true)⟩ undef (.inr ⟨by rfl, rfl⟩) ?_
                    try simp only [Act.put]
                    try simp only [List.setIfInBounds_toArray]
                    try simp only [List.set_cons_succ]
                    try simp only [List.set_cons_zero]
                    refine wpT 6 ⟨some 68, .binOp .sub 3 (.tmp 67) (.const (.int .i64 1)) 3, 3, "history.go:89", #[⟨5, .data⟩, ⟨2, .guard⟩], some (2, true)⟩ undef (.inr ⟨by rfl, rfl⟩) ?_
                    try simp only [Act.put]
                    try simp only [List.setIfInBounds_toArray]
                    try simp only [List.set_cons_succ]
                    try simp only [List.set_cons_zero]
                    refine wpT 7 ⟨some 69, .indexAddr 23 (.tmp 66) (.tmp 68), 0, "history.go:89", #[⟨4, .data⟩, ⟨6, .data⟩, ⟨2, .guard⟩], some (2, true)⟩ undef (.inr ⟨by rfl, rfl⟩) ?_
                    try simp only [Act.put]
                    try simp only [List.setIfInBounds_toArray]
                    try simp only [List.set_cons_succ]
                    try simp only [List.set_cons_zero]
                    refine wpT 8 ⟨some 70, .fieldAddr 81 (.tmp 69) 0, 0, "history.go:89", #[⟨7, .data⟩, ⟨2, .guard⟩], some (2, true)⟩ undef (.inr ⟨by rfl, rfl⟩) ?_
                    try simp only [Act.put]
                    try simp only [List.setIfInBounds_toArray]
                    try simp only [List.set_cons_succ]
                    try simp only [List.set_cons_zero]
                    refine wpT 9 ⟨some 71, .load 3 (.tmp 70), 3, "history.go:89", #[⟨8, .data⟩, ⟨2, .guard⟩], some (2, true)⟩ undef (.inr ⟨by rfl, rfl⟩) ?_
                    try simp only [Act.put]
                    try simp only [List.setIfInBounds_toArray]
                    try simp only [List.set_cons_succ]
                    try simp only [List.set_cons_zero]
                    refine wpT 10 ⟨some 72, .fieldAddr 81 (.tmp 7) 0, 0, "history.go:89", #[⟨2, .guard⟩], some (2, true)⟩ undef (.inr ⟨by rfl, rfl⟩) ?_
                    try simp only [Act.put]
                    try simp only [List.setIfInBounds_toArray]
                    try simp only [List.set_cons_succ]
                    try simp only [List.set_cons_zero]
                    refine wpT 11 ⟨some 73, .load 3 (.tmp 72), 3, "history.go:89", #[⟨10, .data⟩, ⟨2, .guard⟩], some (2, true)⟩ undef (.inr ⟨by rfl, rfl⟩) ?_
                    try simp only [Act.put]
                    try simp only [List.setIfInBounds_toArray]
                    try simp only [List.set_cons_succ]
                    try simp only [List.set_cons_zero]
                    refine wpT 12 ⟨some 74, .binOp .geq 3 (.tmp 71) (.tmp 73) 3, 4, "history.go:89", #[⟨9, .data⟩, ⟨11, .data⟩, ⟨2, .guard⟩], some (2, true)⟩ undef (.inr ⟨by rfl, rfl⟩) ?_
                    try simp only [Act.put]
                    try simp only [List.setIfInBounds_toArray]
                    try simp only [List.set_cons_succ]
                    try simp only [List.set_cons_zero]
                    refine wpT 13 ⟨some 75, .pick (.tmp 64) (.tmp 74) (.const (.bool false)), 4, "history.go:89", #[⟨2, .data⟩, ⟨12, .data⟩], none⟩ ?_ (.inl ⟨by rfl, ?_⟩) ?_
                    rotate_left
                    · (intro W hSw; (try dsimp only at hSw); go_simp; try (with_reducible rfl))
                    try simp only [Act.put]
                    try simp only [List.setIfInBounds_toArray]
                    try simp only [List.set_cons_succ]
                    try simp only [List.set_cons_zero]
                    refine wpT 14 ⟨some 76, .move (.tmp 75), 4, "history.go:89", #[⟨13, .data⟩, ⟨2, .chain⟩], none⟩ ?_ (.inl ⟨by rfl, ?_⟩) ?_
                    rotate_left
                    · (intro W hSw; (try dsimp only at hSw); go_simp; try (with_reducible rfl))
                    try simp only [Act.put]
                    try simp only [List.setIfInBounds_toArray]
                    try simp only [List.set_cons_succ]
                    try simp only [List.set_cons_zero]
                    refine wpT 15 ⟨some 77, .fieldAddr 81 (.tmp 7) 1, 0, "history.go:89", #[⟨14, .guard⟩], some (14, false)⟩ ?_ (.inl ⟨by rfl, ?_⟩) ?_
                    rotate_left
                    · (intro W hSw; (try dsimp only at hSw); go_simp; try (with_reducible rfl))
                    try simp only [Act.put]
                    try simp only [List.setIfInBounds_toArray]
                    try simp only [List.set_cons_succ]
                    try simp only [List.set_cons_zero]
                    refine wpT 16 ⟨some 78, .load 72 (.tmp 77), 72, "history.go:89", #[⟨15, .data⟩, ⟨14, .guard⟩], some (14, false)⟩ ?_ (.inl ⟨by rfl, ?_⟩) ?_
                    rotate_left
                    · (intro W hSw; (try dsimp only at hSw); go_simp; try (with_reducible rfl))
                    try simp only [Act.put]
                    try simp only [List.setIfInBounds_toArray]
                    try simp only [List.set_cons_succ]
                    try simp only [List.set_cons_zero]
                    refine wpT 17 ⟨some 79, .call { callee := .builtin .len, args := #[.tmp 78], argTypes := #[72] }, 3, "history.go:89", #[⟨16, .data⟩, ⟨14, .guard⟩], some (14, false)⟩ ?_ (.inl ⟨by rfl, ?_⟩) ?_
                    rotate_left
                    · (intro W hSw; (try dsimp only at hSw); go_simp; try (with_reducible rfl))
                    try simp only [Act.put]
                    try simp only [List.setIfInBounds_toArray]
                    try simp only [List.set_cons_succ]
                    try simp only [List.set_cons_zero]
                    refine wpT 18 ⟨some 80, .binOp .eql 3 (.tmp 79) (.const (.int .i64 0)) 3, 4, "history.go:89", #[⟨17, .data⟩, ⟨14, .guard⟩], some (14, false)⟩ ?_ (.inl ⟨by rfl, ?_⟩) ?_
                    rotate_left
                    · (intro W hSw; (try dsimp only at hSw); go_simp; try (with_reducible rfl))
                    try simp only [Act.put]
                    try simp only [List.setIfInBounds_toArray]
                    try simp only [List.set_cons_succ]
                    try simp only [List.set_cons_zero]
                    refine wpT 19 ⟨some 81, .pick (.tmp 76) (.const (.bool true)) (.tmp 80), 4, "history.go:89", #[⟨14, .data⟩, ⟨18, .data⟩], none⟩ ?_ (.inl ⟨by rfl, ?_⟩) ?_
                    rotate_left
                    · (intro W hSw; (try dsimp only at hSw); go_simp; try (with_reducible rfl))
                    try simp only [Act.put]
                    try simp only [List.setIfInBounds_toArray]
                    try simp only [List.set_cons_succ]
                    try simp only [List.set_cons_zero]
                    refine wpT 20 ⟨some 82, .move (.tmp 81), 4, "history.go:89", #[⟨19, .data⟩, ⟨14, .chain⟩], none⟩ ?_ (.inl ⟨by rfl, ?_⟩) ?_
                    rotate_left
                    · (intro W hSw; (try dsimp only at hSw); go_simp; try (with_reducible rfl))
                    try simp only [Act.put]
                    try simp only [List.setIfInBounds_toArray]
                    try simp only [List.set_cons_succ]
                    try simp only [List.set_cons_zero]
                    refine wpT 21 ⟨some 83, .fieldAddr 81 (.tmp 7) 1, 0, "history.go:89", #[⟨20, .guard⟩], some (20, false)⟩ ?_ (.inl ⟨by rfl, ?_⟩) ?_
                    rotate_left
                    · (intro W hSw; (try dsimp only at hSw); go_simp; try (with_reducible rfl))
                    try simp only [Act.put]
                    try simp only [List.setIfInBounds_toArray]
                    try simp only [List.set_cons_succ]
                    try simp only [List.set_cons_zero]
                    refine wpT 22 ⟨some 84, .load 72 (.tmp 83), 72, "history.go:89", #[⟨21, .data⟩, ⟨20, .guard⟩], some (20, false)⟩ ?_ (.inl ⟨by rfl, ?_⟩) ?_
                    rotate_left
                    · (intro W hSw; (try dsimp only at hSw); go_simp; try (with_reducible rfl))
                    try simp only [Act.put]
                    try simp only [List.setIfInBounds_toArray]
                    try simp only [List.set_cons_succ]
                    try simp only [List.set_cons_zero]
                    refine wpT 23 ⟨some 85, .move (.tmp 5), 89, "history.go:89", #[⟨20, .guard⟩], some (20, false)⟩ ?_ (.inl ⟨by rfl, ?_⟩) ?_
                    rotate_left
                    · (intro W hSw; (try dsimp only at hSw); go_simp; try (with_reducible rfl))
                    try simp only [Act.put]
                    try simp only [List.setIfInBounds_toArray]
                    try simp only [List.set_cons_succ]
                    try simp only [List.set_cons_zero]
                    refine wpT 24 ⟨some 86, .fieldAddr 81 (.tmp 7) 0, 0, "history.go:89", #[⟨20, .guard⟩], some (20, false)⟩ ?_ (.inl ⟨by rfl, ?_⟩) ?_
                    rotate_left
                    · (intro W hSw; (try dsimp only at hSw); go_simp; try (with_reducible rfl))
                    try simp only [Act.put]
                    try simp only [List.setIfInBounds_toArray]
                    try simp only [List.set_cons_succ]
                    try simp only [List.set_cons_zero]
                    refine wpT 25 ⟨some 87, .load 3 (.tmp 86), 3, "history.go:89", #[⟨24, .data⟩, ⟨20, .guard⟩], some (20, false)⟩ ?_ (.inl ⟨by rfl, ?_⟩) ?_
                    rotate_left
                    · (intro W hSw; (try dsimp only at hSw); go_simp; try (with_reducible rfl))
                    try simp only [Act.put]
                    try simp only [List.setIfInBounds_toArray]
                    try simp only [List.set_cons_succ]
                    try simp only [List.set_cons_zero]
                    refine wpAnyH_ready (rs := [26]) (by kernel_rfl) (by simp) ?_
                    refine AllReadyH.cons (o := ⟨some 88, .lookup 89 (.tmp 85) (.tmp 87) false, 72, "history.go:89", #[⟨23, .data⟩, ⟨25, .data⟩, ⟨20, .guard⟩], some (20, false)⟩) rfl (fun K hK => ?_) AllReadyH.nil
                    go_simp
                    refine hK.out _ _ ?_ (fun hHeld => ?_)
                    · (first | exact ⟨UA.out.drew, g1, k0, k1⟩ | exact ⟨hHeld.1.trans hu3, hu3.keepNo hHeld.2.1, hu3.keepNo hHeld.2.2.1, hu3.keepNo hHeld.2.2.2⟩)
                    clear hK K
                    try simp only [Act.put]
                    try simp only [List.setIfInBounds_toArray]
                    try simp only [List.set_cons_succ]
                    try simp only [List.set_cons_zero]
                    refine wpAnyH_ready (rs := [27]) (by kernel_rfl) (by simp) ?_
                    refine AllReadyH.cons (o := ⟨some 89, .call { callee := .value (.func 143), args := #[.tmp 84, .tmp 88], argTypes := #[72, 72] }, 4, "history.go:89", #[⟨22, .data⟩, ⟨26, .data⟩, ⟨20, .chain⟩, ⟨20, .guard⟩], some (20, false)⟩) rfl (fun K hK => ?_) AllReadyH.nil
                    go_simp
                    (first
    | (go_at_call 143; refine (opermV (v := false) (XL0.out.1.upd (U1.out.trans hHeld.1) (fun _ _ => id)) (hIw.out.upd hHeld.1 (fun _ _ => id)) XL0.out.2.2.1 hwl.out hN.out).mono ?_; rintro e w3 ⟨rfl, hu3⟩))
                    try (go_wp2_with fail)
                    refine hK.out _ _ ?_ (fun hHeld => ?_)
                    · (first | exact ⟨UA.out.drew, g1, k0, k1⟩ | exact ⟨hHeld.1.trans hu3, hu3.keepNo hHeld.2.1, hu3.keepNo hHeld.2.2.1, hu3.keepNo hHeld.2.2.2⟩)
                    clear hK K
                    try simp only [Act.put]
                    try simp only [List.setIfInBounds_toArray]
                    try simp only [List.set_cons_succ]
                    try simp only [List.set_cons_zero]
                    refine wpT 28 ⟨some 90, .unOp .not 4 (.tmp 89), 4, "history.go:89", #[⟨27, .data⟩, ⟨20, .guard⟩], some (20, false)⟩ ?_ (.inl ⟨by rfl, ?_⟩) ?_
                    rotate_left
                    · (intro W hSw; (try dsimp only at hSw); go_simp; try (with_reducible rfl))
                    try simp only [Act.put]
                    try simp only [List.setIfInBounds_toArray]
                    try simp only [List.set_cons_succ]
                    try simp only [List.set_cons_zero]
                    refine wpT 29 ⟨some 91, .pick (.tmp 82) (.const (.bool true)) (.tmp 90), 4, "history.go:89", #[⟨20, .data⟩, ⟨28, .data⟩], none⟩ ?_ (.inl ⟨by rfl, ?_⟩) ?_
                    rotate_left
                    · (intro W hSw; (try dsimp only at hSw); go_simp; try (with_reducible rfl))
                    try simp only [Act.put]
                    try simp only [List.setIfInBounds_toArray]
                    try simp only [List.set_cons_succ]
                    try simp only [List.set_cons_zero]
                    refine wpAnyH_done (by kernel_rfl) (NoPanic.normal ?_) _
                    have HU := Lib.hid hHeld.1
                    clear hHeld
                    go_wp2
                    go_ret
                    exact ⟨by rw [hf.out]; rfl, U1.out.trans HU.out⟩
                  · have HA := Lib.hid (all_range_succ hall2.out (by rw [hok.out, hah.out, HE0.out]; rfl))
                    have g1 := bH.out.cell 1
                    have k0 := bo.out.cell 0
                    have k1 := bo.out.cell 1
                    simp only [List.getElem?_cons_zero, List.getElem?_cons_succ] at g1 k0 k1
                    go_wp2
                    refine wp_region_noPanic ?_
                    refine wp_region_held_drew (S := (fun w' => Upd No w1 w' ∧ w'.cell? ⟨w.heap.size, 1, none⟩ = some (.slice (some ad) ords.length d) ∧ w'.cell? ⟨wr.heap.size, 0, none⟩ = some (.int .i64 x.key) ∧ w'.cell? ⟨wr.heap.size, 1, none⟩ = some (.slice x.A x.txs.length x.c))) (by kernel_rfl) ?_ (fun hHeld => ?_)
                    · (first | exact ⟨UA.out.drew, g1, k0, k1⟩ | exact ⟨hHeld.1.trans hu3, hu3.keepNo hHeld.2.1, hu3.keepNo hHeld.2.2.1, hu3.keepNo hHeld.2.2.2⟩)
                    refine wpT 0 ⟨some 62, .move (.tmp 6), 3, "history.go:89", #[], none⟩ ?_ (.inl ⟨by rfl, ?_⟩) ?_
                    rotate_left
                    · (intro W hSw; (try dsimp only at hSw); go_simp; try (with_reducible rfl))
                    try simp only [Act.put]
                    try simp only [List.setIfInBounds_toArray]
                    try simp only [List.set_cons_succ]
                    try simp only [List.set_cons_zero]
                    refine wpT 1 ⟨some 63, .binOp .gtr 3 (.tmp 62) (.const (.int .i64 0)) 3, 4, "history.go:89", #[⟨0, .data⟩], none⟩ ?_ (.inl ⟨by rfl, ?_⟩) ?_
                    rotate_left
                    · (intro W hSw; (try dsimp only at hSw); go_simp; try (with_reducible rfl))
                    try simp only [Act.put]
                    try simp only [List.setIfInBounds_toArray]
                    try simp only [List.set_cons_succ]
                    try simp only [List.set_cons_zero]
                    refine wpT 2 ⟨some 64, .move (.tmp 63), 4, "history.go:89", #[⟨1, .data⟩], none⟩ ?_ (.inl ⟨by rfl, ?_⟩) ?_
                    rotate_left
                    · (intro W hSw; (try dsimp only at hSw); go_simp; try (with_reducible rfl))
                    try simp only [Act.put]
                    try simp only [List.setIfInBounds_toArray]
                    try simp only [List.set_cons_succ]
                    try simp only [List.set_cons_zero]
                    refine wpT 3 ⟨some 65, .fieldAddr 25 (.tmp 1) 1, 0, "history.go:89", #[⟨2, .guard⟩], some (2, true)⟩ undef (.inr ⟨by rfl, rfl⟩) ?_
                    try simp only [Act.put]
                    try simp only [List.setIfInBounds_toArray]
                    try simp only [List.set_cons_succ]
                    try simp only [List.set_cons_zero]
                    refine wpT 4 ⟨some 66, .load 23 (.tmp 65), 23, "history.go:89", #[⟨3, .data⟩, ⟨2, .guard⟩], some (2, true)⟩ undef (.inr ⟨by rfl, rfl⟩) ?_
                    try simp only [Act.put]
                    try simp only [List.setIfInBounds_toArray]
                    try simp only [List.set_cons_succ]
                    try simp only [List.set_cons_zero]
                    refine wpT 5 ⟨some 67, .move (.tmp 6), 3, "history.go:89", #[⟨2, .guard⟩], some (2, true)⟩ undef (.inr ⟨by rfl, rfl⟩) ?_
                    try simp only [Act.put]
                    try simp only [List.setIfInBounds_toArray]
                    try simp only [List.set_cons_succ]
                    try simp only [List.set_cons_zero]
                    refine wpT 6 ⟨some 68, .binOp .sub 3 (.tmp 67) (.const (.int .i64 1)) 3, 3, "history.go:89", #[⟨5, .data⟩, ⟨2, .guard⟩], some (2, true)⟩ undef (.inr ⟨by rfl, rfl⟩) ?_
                    try simp only [Act.put]
                    try simp only [List.setIfInBounds_toArray]
                    try simp only [List.set_cons_succ]
                    try simp only [List.set_cons_zero]
                    refine wpT 7 ⟨some 69, .indexAddr 23 (.tmp 66) (.tmp 68), 0, "history.go:89", #[⟨4, .data⟩, ⟨6, .data⟩, ⟨2, .guard⟩], some (2, true)⟩ undef (.inr ⟨by rfl, rfl⟩) ?_
                    try simp only [Act.put]
                    try simp only [List.setIfInBounds_toArray]
                    try simp only [List.set_cons_succ]
                    try simp only [List.set_cons_zero]
                    refine wpT 8 ⟨some 70, .fieldAddr 81 (.tmp 69) 0, 0, "history.go:89", #[⟨7, .data⟩, ⟨2, .guard⟩], some (2, true)⟩ undef (.inr ⟨by rfl, rfl⟩) ?_
                    try simp only [Act.put]
                    try simp only [List.setIfInBounds_toArray]
                    try simp only [List.set_cons_succ]
                    try simp only [List.set_cons_zero]
                    refine wpT 9 ⟨some 71, .load 3 (.tmp 70), 3, "history.go:89", #[⟨8, .data⟩, ⟨2, .guard⟩], some (2, true)⟩ undef (.inr ⟨by rfl, rfl⟩) ?_
                    try simp only [Act.put]
                    try simp only [List.setIfInBounds_toArray]
                    try simp only [List.set_cons_succ]
                    try simp only [List.set_cons_zero]
                    refine wpT 10 ⟨some 72, .fieldAddr 81 (.tmp 7) 0, 0, "history.go:89", #[⟨2, .guard⟩], some (2, true)⟩ undef (.inr ⟨by rfl, rfl⟩) ?_
                    try simp only [Act.put]
                    try simp only [List.setIfInBounds_toArray]
                    try simp only [List.set_cons_succ]
                    try simp only [List.set_cons_zero]
                    refine wpT 11 ⟨some 73, .load 3 (.tmp 72), 3, "history.go:89", #[⟨10, .data⟩, ⟨2, .guard⟩], some (2, true)⟩ undef (.inr ⟨by rfl, rfl⟩) ?_
                    try simp only [Act.put]
                    try simp only [List.setIfInBounds_toArray]
                    try simp only [List.set_cons_succ]
                    try simp only [List.set_cons_zero]
                    refine wpT 12 ⟨some 74, .binOp .geq 3 (.tmp 71) (.tmp 73) 3, 4, "history.go:89", #[⟨9, .data⟩, ⟨11, .data⟩, ⟨2, .guard⟩], some (2, true)⟩ undef (.inr ⟨by rfl, rfl⟩) ?_
                    try simp only [Act.put]
                    try simp only [List.setIfInBounds_toArray]
                    try simp only [List.set_cons_succ]
                    try simp only [List.set_cons_zero]
                    refine wpT 13 ⟨some 75, .pick (.tmp 64) (.tmp 74) (.const (.bool false)), 4, "history.go:89", #[⟨2, .data⟩, ⟨12, .data⟩], none⟩ ?_ (.inl ⟨by rfl, ?_⟩) ?_
                    rotate_left
                    · (intro W hSw; (try dsimp only at hSw); go_simp; try (with_reducible rfl))
                    try simp only [Act.put]
                    try simp only [List.setIfInBounds_toArray]
                    try simp only [List.set_cons_succ]
                    try simp only [List.set_cons_zero]
                    refine wpT 14 ⟨some 76, .move (.tmp 75), 4, "history.go:89", #[⟨13, .data⟩, ⟨2, .chain⟩], none⟩ ?_ (.inl ⟨by rfl, ?_⟩) ?_
                    rotate_left
                    · (intro W hSw; (try dsimp only at hSw); go_simp; try (with_reducible rfl))
                    try simp only [Act.put]
                    try simp only [List.setIfInBounds_toArray]
                    try simp only [List.set_cons_succ]
                    try simp only [List.set_cons_zero]
                    refine wpT 15 ⟨some 77, .fieldAddr 81 (.tmp 7) 1, 0, "history.go:89", #[⟨14, .guard⟩], some (14, false)⟩ ?_ (.inl ⟨by rfl, ?_⟩) ?_
                    rotate_left
                    · (intro W hSw; (try dsimp only at hSw); go_simp; try (with_reducible rfl))
                    try simp only [Act.put]
                    try simp only [List.setIfInBounds_toArray]
                    try simp only [List.set_cons_succ]
                    try simp only [List.set_cons_zero]
                    refine wpT 16 ⟨some 78, .load 72 (.tmp 77), 72, "history.go:89", #[⟨15, .data⟩, ⟨14, .guard⟩], some (14, false)⟩ ?_ (.inl ⟨by rfl, ?_⟩) ?_
                    rotate_left
                    · (intro W hSw; (try dsimp only at hSw); go_simp; try (with_reducible rfl))
                    try simp only [Act.put]
                    try simp only [List.setIfInBounds_toArray]
                    try simp only [List.set_cons_succ]
                    try simp only [List.set_cons_zero]
                    refine wpT 17 ⟨some 79, .call { callee := .builtin .len, args := #[.tmp 78], argTypes := #[72] }, 3, "history.go:89", #[⟨16, .data⟩, ⟨14, .guard⟩], some (14, false)⟩ ?_ (.inl ⟨by rfl, ?_⟩) ?_
                    rotate_left
                    · (intro W hSw; (try dsimp only at hSw); go_simp; try (with_reducible rfl))
                    try simp only [Act.put]
                    try simp only [List.setIfInBounds_toArray]
                    try simp only [List.set_cons_succ]
                    try simp only [List.set_cons_zero]
                    refine wpT 18 ⟨some 80, .binOp .eql 3 (.tmp 79) (.const (.int .i64 0)) 3, 4, "history.go:89", #[⟨17, .data⟩, ⟨14, .guard⟩], some (14, false)⟩ ?_ (.inl ⟨by rfl, ?_⟩) ?_
                    rotate_left
                    · (intro W hSw; (try dsimp only at hSw); go_simp; try (with_reducible rfl))
                    try simp only [Act.put]
                    try simp only [List.setIfInBounds_toArray]
                    try simp only [List.set_cons_succ]
                    try simp only [List.set_cons_zero]
                    refine wpT 19 ⟨some 81, .pick (.tmp 76) (.const (.bool true)) (.tmp 80), 4, "history.go:89", #[⟨14, .data⟩, ⟨18, .data⟩], none⟩ ?_ (.inl ⟨by rfl, ?_⟩) ?_
                    rotate_left
                    · (intro W hSw; (try dsimp only at hSw); go_simp; try (with_reducible rfl))
                    try simp only [Act.put]
                    try simp only [List.setIfInBounds_toArray]
                    try simp only [List.set_cons_succ]
                    try simp only [List.set_cons_zero]
                    refine wpT 20 ⟨some 82, .move (.tmp 81), 4, "history.go:89", #[⟨19, .data⟩, ⟨14, .chain⟩], none⟩ ?_ (.inl ⟨by rfl, ?_⟩) ?_
                    rotate_left
                    · (intro W hSw; (try dsimp only at hSw); go_simp; try (with_reducible rfl))
                    try simp only [Act.put]
                    try simp only [List.setIfInBounds_toArray]
                    try simp only [List.set_cons_succ]
                    try simp only [List.set_cons_zero]
                    refine wpT 21 ⟨some 83, .fieldAddr 81 (.tmp 7) 1, 0, "history.go:89", #[⟨20, .guard⟩], some (20, false)⟩ ?_ (.inl ⟨by rfl, ?_⟩) ?_
                    rotate_left
                    · (intro W hSw; (try dsimp only at hSw); go_simp; try (with_reducible rfl))
                    try simp only [Act.put]
                    try simp only [List.setIfInBounds_toArray]
                    try simp only [List.set_cons_succ]
                    try simp only [List.set_cons_zero]
                    refine wpT 22 ⟨some 84, .load 72 (.tmp 83), 72, "history.go:89", #[⟨21, .data⟩, ⟨20, .guard⟩], some (20, false)⟩ ?_ (.inl ⟨by rfl, ?_⟩) ?_
                    rotate_left
                    · (intro W hSw; (try dsimp only at hSw); go_simp; try (with_reducible rfl))
                    try simp only [Act.put]
                    try simp only [List.setIfInBounds_toArray]
                    try simp only [List.set_cons_succ]
                    try simp only [List.set_cons_zero]
                    refine wpT 23 ⟨some 85, .move (.tmp 5), 89, "history.go:89", #[⟨20, .guard⟩], some (20, false)⟩ ?_ (.inl ⟨by rfl, ?_⟩) ?_
                    rotate_left
                    · (intro W hSw; (try dsimp only at hSw); go_simp; try (with_reducible rfl))
                    try simp only [Act.put]
                    try simp only [List.setIfInBounds_toArray]
                    try simp only [List.set_cons_succ]
                    try simp only [List.set_cons_zero]
                    refine wpT 24 ⟨some 86, .fieldAddr 81 (.tmp 7) 0, 0, "history.go:89", #[⟨20, .guard⟩], some (20, false)⟩ ?_ (.inl ⟨by rfl, ?_⟩) ?_
                    rotate_left
                    · (intro W hSw; (try dsimp only at hSw); go_simp; try (with_reducible rfl))
                    try simp only [Act.put]
                    try simp only [List.setIfInBounds_toArray]
                    try simp only [List.set_cons_succ]
                    try simp only [List.set_cons_zero]
                    refine wpT 25 ⟨some 87, .load 3 (.tmp 86), 3, "history.go:89", #[⟨24, .data⟩, ⟨20, .guard⟩], some (20, false)⟩ ?_ (.inl ⟨by rfl, ?_⟩) ?_
                    rotate_left
                    · (intro W hSw; (try dsimp only at hSw); go_simp; try (with_reducible rfl))
                    try simp only [Act.put]
                    try simp only [List.setIfInBounds_toArray]
                    try simp only [List.set_cons_succ]
                    try simp only [List.set_cons_zero]
                    refine wpAnyH_ready (rs := [26]) (by kernel_rfl) (by simp) ?_
                    refine AllReadyH.cons (o := ⟨some 88, .lookup 89 (.tmp 85) (.tmp 87) false, 72, "history.go:89", #[⟨23, .data⟩, ⟨25, .data⟩, ⟨20, .guard⟩], some (20, false)⟩) rfl (fun K hK => ?_) AllReadyH.nil
                    go_simp
                    refine hK.out _ _ ?_ (fun hHeld => ?_)
                    · (first | exact ⟨UA.out.drew, g1, k0, k1⟩ | exact ⟨hHeld.1.trans hu3, hu3.keepNo hHeld.2.1, hu3.keepNo hHeld.2.2.1, hu3.keepNo hHeld.2.2.2⟩)
                    clear hK K
                    try simp only [Act.put]
                    try simp only [List.setIfInBounds_toArray]
                    try simp only [List.set_cons_succ]
                    try simp only [List.set_cons_zero]
                    refine wpAnyH_ready (rs := [27]) (by kernel_rfl) (by simp) ?_
                    refine AllReadyH.cons (o := ⟨some 89, .call { callee := .value (.func 143), args := #[.tmp 84, .tmp 88], argTypes := #[72, 72] }, 4, "history.go:89", #[⟨22, .data⟩, ⟨26, .data⟩, ⟨20, .chain⟩, ⟨20, .guard⟩], some (20, false)⟩) rfl (fun K hK => ?_) AllReadyH.nil
                    go_simp
                    (first
    | (go_at_call 143; refine (opermV (v := true) (XL0.out.1.upd (U1.out.trans hHeld.1) (fun _ _ => id)) (hIw.out.upd hHeld.1 (fun _ _ => id)) XL0.out.2.2.1 hwl.out hN.out).mono ?_; rintro e w3 ⟨rfl, hu3⟩))
                    try (go_wp2_with fail)
                    refine hK.out _ _ ?_ (fun hHeld => ?_)
                    · (first | exact ⟨UA.out.drew, g1, k0, k1⟩ | exact ⟨hHeld.1.trans hu3, hu3.keepNo hHeld.2.1, hu3.keepNo hHeld.2.2.1, hu3.keepNo hHeld.2.2.2⟩)
                    clear hK K
                    try simp only [Act.put]
                    try simp only [List.setIfInBounds_toArray]
                    try simp only [List.set_cons_succ]
                    try simp only [List.set_cons_zero]
                    refine wpT 28 ⟨some 90, .unOp .not 4 (.tmp 89), 4, "history.go:89", #[⟨27, .data⟩, ⟨20, .guard⟩], some (20, false)⟩ ?_ (.inl ⟨by rfl, ?_⟩) ?_
                    rotate_left
                    · (intro W hSw; (try dsimp only at hSw); go_simp; try (with_reducible rfl))
                    try simp only [Act.put]
                    try simp only [List.setIfInBounds_toArray]
                    try simp only [List.set_cons_succ]
                    try simp only [List.set_cons_zero]
                    refine wpT 29 ⟨some 91, .pick (.tmp 82) (.const (.bool true)) (.tmp 90), 4, "history.go:89", #[⟨20, .data⟩, ⟨28, .data⟩], none⟩ ?_ (.inl ⟨by rfl, ?_⟩) ?_
                    rotate_left
                    · (intro W hSw; (try dsimp only at hSw); go_simp; try (with_reducible rfl))
                    try simp only [Act.put]
                    try simp only [List.setIfInBounds_toArray]
                    try simp only [List.set_cons_succ]
                    try simp only [List.set_cons_zero]
                    refine wpAnyH_done (by kernel_rfl) (NoPanic.normal ?_) _
                    have HU := Lib.hid hHeld.1
                    clear hHeld
                    go_wp2
                    go_roundg (gk - 1)
                    case measure => omega
                    case rel => exact ⟨k + 1, by omega, by go_num, Lib.hid HA.out, HU.out⟩
              · obtain ⟨ad2, hAd2, p0, _⟩ := H1.ord_at (k := k - 1) (show k - 1 < ords.length by omega)
                simp only at hAd2 p0
                cases hAd2
                obtain ⟨y', hy'⟩ : ∃ y', ords[k - 1]'(by omega) = y' := ⟨_, rfl⟩
                rw [hy'] at p0
                replace p0 := uA.keepNo p0
                have hkp : 0 < k := by omega
                by_cases hordL : x.key ≤ y'.key
                · have hf := Lib.hid (show rightB ⟨txs, ords, A, c, some ad, d⟩ = false from right_ord (k := k) hlt (by rw [hok.out, aheadO_no hkp hlt hy' x.key hordL]; simp))
                  obtain ⟨y, hy⟩ : ∃ y, y'.key = y := ⟨_, rfl⟩
                  rw [hy] at p0 hordL
                  clear hy hy' H1
                  have hge : decide (x.key ≤ y) = true := decide_eq_true hordL
                  have hkk : decide ((0 : Int) < (k : Int)) = true := decide_eq_true (by omega)
                  have hkn : decide (0 < k) = true := decide_eq_true (by omega)
                  have hw1 : IntKind.i64.wrap ((k : Int) - 1) = (k : Int) - 1 := IntWalk.i64_in _ (by omega)
                  have hw2 : (0 : Int) ≤ (k : Int) - 1 := by omega
                  have hw3 : (1 : Int) ≤ (k : Int) := by omega
                  have hw4 : (k : Int) - 1 < (ords.length : Int) := by omega
                  have hw5 : ((k : Int) - 1).toNat = k - 1 := by omega
                  have g1 := bH.out.cell 1
                  have k0 := bo.out.cell 0
                  have k1 := bo.out.cell 1
                  simp only [List.getElem?_cons_zero, List.getElem?_cons_succ] at g1 k0 k1
                  go_wp2
                  refine wp_region_noPanic ?_
                  refine wp_region_held_drew (S := (fun w' => Upd No w1 w' ∧ w'.cell? ⟨w.heap.size, 1, none⟩ = some (.slice (some ad) ords.length d) ∧ w'.cell? ⟨wr.heap.size, 0, none⟩ = some (.int .i64 x.key) ∧ w'.cell? ⟨wr.heap.size, 1, none⟩ = some (.slice x.A x.txs.length x.c)∧ w'.cell? (ad.add ((k - 1) * 2)) = some (.int .i64 y))) (by kernel_rfl) ?_ (fun hHeld => ?_)
                  · (first | exact ⟨UA.out.drew, g1, k0, k1, p0⟩ | exact ⟨hHeld.1.trans hu3, hu3.keepNo hHeld.2.1, hu3.keepNo hHeld.2.2.1, hu3.keepNo hHeld.2.2.2.1, hu3.keepNo hHeld.2.2.2.2⟩)
                  refine wpT 0 ⟨some 62, .move (.tmp 6), 3, "history.go:89", #[], none⟩ ?_ (.inl ⟨by rfl, ?_⟩) ?_
                  rotate_left
                  · (intro W hSw; (try dsimp only at hSw); go_simp; try (with_reducible rfl))
                  try simp only [Act.put]
                  try simp only [List.setIfInBounds_toArray]
                  try simp only [List.set_cons_succ]
                  try simp only [List.set_cons_zero]
                  refine wpT 1 ⟨some 63, .binOp .gtr 3 (.tmp 62) (.const (.int .i64 0)) 3, 4, "history.go:89", #[⟨0, .data⟩], none⟩ ?_ (.inl ⟨by rfl, ?_⟩) ?_
                  rotate_left
                  · (intro W hSw; (try dsimp only at hSw); go_simp; try (with_reducible rfl))
                  try simp only [Act.put]
                  try simp only [List.setIfInBounds_toArray]
                  try simp only [List.set_cons_succ]
                  try simp only [List.set_cons_zero]
                  refine wpT 2 ⟨some 64, .move (.tmp 63), 4, "history.go:89", #[⟨1, .data⟩], none⟩ ?_ (.inl ⟨by rfl, ?_⟩) ?_
                  rotate_left
                  · (intro W hSw; (try dsimp only at hSw); go_simp; try (with_reducible rfl))
                  try simp only [Act.put]
                  try simp only [List.setIfInBounds_toArray]
                  try simp only [List.set_cons_succ]
                  try simp only [List.set_cons_zero]
                  refine wpT 3 ⟨some 65, .fieldAddr 25 (.tmp 1) 1, 0, "history.go:89", #[⟨2, .guard⟩], some (2, true)⟩ ?_ (.inl ⟨by rfl, ?_⟩) ?_
                  rotate_left
                  · (intro W hSw; (try dsimp only at hSw); go_simp; try (with_reducible rfl))
                  try simp only [Act.put]
                  try simp only [List.setIfInBounds_toArray]
                  try simp only [List.set_cons_succ]
                  try simp only [List.set_cons_zero]
                  refine wpT 4 ⟨some 66, .load 23 (.tmp 65), 23, "history.go:89", #[⟨3, .data⟩, ⟨2, .guard⟩], some (2, true)⟩ ?_ (.inl ⟨by rfl, ?_⟩) ?_
                  rotate_left
                  · (intro W hSw; (try dsimp only at hSw); go_simp; try (with_reducible rfl))
                  try simp only [Act.put]
                  try simp only [List.setIfInBounds_toArray]
                  try simp only [List.set_cons_succ]
                  try simp only [List.set_cons_zero]
                  refine wpT 5 ⟨some 67, .move (.tmp 6), 3, "history.go:89", #[⟨2, .guard⟩], some (2, true)⟩ ?_ (.inl ⟨by rfl, ?_⟩) ?_
                  rotate_left
                  · (intro W hSw; (try dsimp only at hSw); go_simp; try (with_reducible rfl))
                  try simp only [Act.put]
                  try simp only [List.setIfInBounds_toArray]
                  try simp only [List.set_cons_succ]
                  try simp only [List.set_cons_zero]
                  refine wpT 6 ⟨some 68, .binOp .sub 3 (.tmp 67) (.const (.int .i64 1)) 3, 3, "history.go:89", #[⟨5, .data⟩, ⟨2, .guard⟩], some (2, true)⟩ ?_ (.inl ⟨by rfl, ?_⟩) ?_
                  rotate_left
                  · (intro W hSw; (try dsimp only at hSw); go_simp; try (with_reducible rfl))
                  try simp only [Act.put]
                  try simp only [List.setIfInBounds_toArray]
                  try simp only [List.set_cons_succ]
                  try simp only [List.set_cons_zero]
                  refine wpT 7 ⟨some 69, .indexAddr 23 (.tmp 66) (.tmp 68), 0, "history.go:89", #[⟨4, .data⟩, ⟨6, .data⟩, ⟨2, .guard⟩], some (2, true)⟩ ?_ (.inl ⟨by rfl, ?_⟩) ?_
                  rotate_left
                  · (intro W hSw; (try dsimp only at hSw); go_simp; try (with_reducible rfl))
                  try simp only [Act.put]
                  try simp only [List.setIfInBounds_toArray]
                  try simp only [List.set_cons_succ]
                  try simp only [List.set_cons_zero]
                  refine wpT 8 ⟨some 70, .fieldAddr 81 (.tmp 69) 0, 0, "history.go:89", #[⟨7, .data⟩, ⟨2, .guard⟩], some (2, true)⟩ ?_ (.inl ⟨by rfl, ?_⟩) ?_
                  rotate_left
                  · (intro W hSw; (try dsimp only at hSw); go_simp; try (with_reducible rfl))
                  try simp only [Act.put]
                  try simp only [List.setIfInBounds_toArray]
                  try simp only [List.set_cons_succ]
                  try simp only [List.set_cons_zero]
                  refine wpT 9 ⟨some 71, .load 3 (.tmp 70), 3, "history.go:89", #[⟨8, .data⟩, ⟨2, .guard⟩], some (2, true)⟩ ?_ (.inl ⟨by rfl, ?_⟩) ?_
                  rotate_left
                  · (intro W hSw; (try dsimp only at hSw); go_simp; try (with_reducible rfl))
                  try simp only [Act.put]
                  try simp only [List.setIfInBounds_toArray]
                  try simp only [List.set_cons_succ]
                  try simp only [List.set_cons_zero]
                  refine wpT 10 ⟨some 72, .fieldAddr 81 (.tmp 7) 0, 0, "history.go:89", #[⟨2, .guard⟩], some (2, true)⟩ ?_ (.inl ⟨by rfl, ?_⟩) ?_
                  rotate_left
                  · (intro W hSw; (try dsimp only at hSw); go_simp; try (with_reducible rfl))
                  try simp only [Act.put]
                  try simp only [List.setIfInBounds_toArray]
                  try simp only [List.set_cons_succ]
                  try simp only [List.set_cons_zero]
                  refine wpT 11 ⟨some 73, .load 3 (.tmp 72), 3, "history.go:89", #[⟨10, .data⟩, ⟨2, .guard⟩], some (2, true)⟩ ?_ (.inl ⟨by rfl, ?_⟩) ?_
                  rotate_left
                  · (intro W hSw; (try dsimp only at hSw); go_simp; try (with_reducible rfl))
                  try simp only [Act.put]
                  try simp only [List.setIfInBounds_toArray]
                  try simp only [List.set_cons_succ]
                  try simp only [List.set_cons_zero]
                  refine wpT 12 ⟨some 74, .binOp .geq 3 (.tmp 71) (.tmp 73) 3, 4, "history.go:89", #[⟨9, .data⟩, ⟨11, .data⟩, ⟨2, .guard⟩], some (2, true)⟩ ?_ (.inl ⟨by rfl, ?_⟩) ?_
                  rotate_left
                  · (intro W hSw; (try dsimp only at hSw); go_simp; try (with_reducible rfl))
                  try simp only [Act.put]
                  try simp only [List.setIfInBounds_toArray]
                  try simp only [List.set_cons_succ]
                  try simp only [List.set_cons_zero]
                  refine wpT 13 ⟨some 75, .pick (.tmp 64) (.tmp 74) (.const (.bool false)), 4, "history.go:89", #[⟨2, .data⟩, ⟨12, .data⟩], none⟩ ?_ (.inl ⟨by rfl, ?_⟩) ?_
                  rotate_left
                  · (intro W hSw; (try dsimp only at hSw); go_simp; try (with_reducible rfl))
                  try simp only [Act.put]
                  try simp only [List.setIfInBounds_toArray]
                  try simp only [List.set_cons_succ]
                  try simp only [List.set_cons_zero]
                  refine wpT 14 ⟨some 76, .move (.tmp 75), 4, "history.go:89", #[⟨13, .data⟩, ⟨2, .chain⟩], none⟩ ?_ (.inl ⟨by rfl, ?_⟩) ?_
                  rotate_left
                  · (intro W hSw; (try dsimp only at hSw); go_simp; try (with_reducible rfl))
                  try simp only [Act.put]
                  try simp only [List.setIfInBounds_toArray]
                  try simp only [List.set_cons_succ]
                  try simp only [List.set_cons_zero]
                  refine wpT 15 ⟨some 77, .fieldAddr 81 (.tmp 7) 1, 0, "history.go:89", #[⟨14, .guard⟩], some (14, false)⟩ undef (.inr ⟨by rfl, rfl⟩) ?_
                  try simp only [Act.put]
                  try simp only [List.setIfInBounds_toArray]
                  try simp only [List.set_cons_succ]
                  try simp only [List.set_cons_zero]
                  refine wpT 16 ⟨some 78, .load 72 (.tmp 77), 72, "history.go:89", #[⟨15, .data⟩, ⟨14, .guard⟩], some (14, false)⟩ undef (.inr ⟨by rfl, rfl⟩) ?_
                  try simp only [Act.put]
                  try simp only [List.setIfInBounds_toArray]
                  try simp only [List.set_cons_succ]
                  try simp only [List.set_cons_zero]
                  refine wpT 17 ⟨some 79, .call { callee := .builtin .len, args := #[.tmp 78], argTypes := #[72] }, 3, "history.go:89", #[⟨16, .data⟩, ⟨14, .guard⟩], some (14, false)⟩ undef (.inr ⟨by rfl, rfl⟩) ?_
                  try simp only [Act.put]
                  try simp only [List.setIfInBounds_toArray]
                  try simp only [List.set_cons_succ]
                  try simp only [List.set_cons_zero]
                  refine wpT 18 ⟨some 80, .binOp .eql 3 (.tmp 79) (.const (.int .i64 0)) 3, 4, "history.go:89", #[⟨17, .data⟩, ⟨14, .guard⟩], some (14, false)⟩ undef (.inr ⟨by rfl, rfl⟩) ?_
                  try simp only [Act.put]
                  try simp only [List.setIfInBounds_toArray]
                  try simp only [List.set_cons_succ]
                  try simp only [List.set_cons_zero]
                  refine wpT 19 ⟨some 81, .pick (.tmp 76) (.const (.bool true)) (.tmp 80), 4, "history.go:89", #[⟨14, .data⟩, ⟨18, .data⟩], none⟩ ?_ (.inl ⟨by rfl, ?_⟩) ?_
                  rotate_left
                  · (intro W hSw; (try dsimp only at hSw); go_simp; try (with_reducible rfl))
                  try simp only [Act.put]
                  try simp only [List.setIfInBounds_toArray]
                  try simp only [List.set_cons_succ]
                  try simp only [List.set_cons_zero]
                  refine wpT 20 ⟨some 82, .move (.tmp 81), 4, "history.go:89", #[⟨19, .data⟩, ⟨14, .chain⟩], none⟩ ?_ (.inl ⟨by rfl, ?_⟩) ?_
                  rotate_left
                  · (intro W hSw; (try dsimp only at hSw); go_simp; try (with_reducible rfl))
                  try simp only [Act.put]
                  try simp only [List.setIfInBounds_toArray]
                  try simp only [List.set_cons_succ]
                  try simp only [List.set_cons_zero]
                  refine wpT 21 ⟨some 83, .fieldAddr 81 (.tmp 7) 1, 0, "history.go:89", #[⟨20, .guard⟩], some (20, false)⟩ undef (.inr ⟨by rfl, rfl⟩) ?_
                  try simp only [Act.put]
                  try simp only [List.setIfInBounds_toArray]
                  try simp only [List.set_cons_succ]
                  try simp only [List.set_cons_zero]
                  refine wpT 22 ⟨some 84, .load 72 (.tmp 83), 72, "history.go:89", #[⟨21, .data⟩, ⟨20, .guard⟩], some (20, false)⟩ undef (.inr ⟨by rfl, rfl⟩) ?_
                  try simp only [Act.put]
                  try simp only [List.setIfInBounds_toArray]
                  try simp only [List.set_cons_succ]
                  try simp only [List.set_cons_zero]
                  refine wpT 23 ⟨some 85, .move (.tmp 5), 89, "history.go:89", #[⟨20, .guard⟩], some (20, false)⟩ undef (.inr ⟨by rfl, rfl⟩) ?_
                  try simp only [Act.put]
                  try simp only [List.setIfInBounds_toArray]
                  try simp only [List.set_cons_succ]
                  try simp only [List.set_cons_zero]
                  refine wpT 24 ⟨some 86, .fieldAddr 81 (.tmp 7) 0, 0, "history.go:89", #[⟨20, .guard⟩], some (20, false)⟩ undef (.inr ⟨by rfl, rfl⟩) ?_
                  try simp only [Act.put]
                  try simp only [List.setIfInBounds_toArray]
                  try simp only [List.set_cons_succ]
                  try simp only [List.set_cons_zero]
                  refine wpT 25 ⟨some 87, .load 3 (.tmp 86), 3, "history.go:89", #[⟨24, .data⟩, ⟨20, .guard⟩], some (20, false)⟩ undef (.inr ⟨by rfl, rfl⟩) ?_
                  try simp only [Act.put]
                  try simp only [List.setIfInBounds_toArray]
                  try simp only [List.set_cons_succ]
                  try simp only [List.set_cons_zero]
                  refine wpAnyH_ready (rs := [26]) (by kernel_rfl) (by simp) ?_
                  refine AllReadyH.cons (o := ⟨some 88, .lookup 89 (.tmp 85) (.tmp 87) false, 72, "history.go:89", #[⟨23, .data⟩, ⟨25, .data⟩, ⟨20, .guard⟩], some (20, false)⟩) rfl (fun K hK => ?_) AllReadyH.nil
                  go_simp
                  refine hK.out _ _ ?_ (fun hHeld => ?_)
                  · exact hHeld
                  clear hK K
                  try simp only [Act.put]
                  try simp only [List.setIfInBounds_toArray]
                  try simp only [List.set_cons_succ]
                  try simp only [List.set_cons_zero]
                  refine wpAnyH_ready (rs := [27]) (by kernel_rfl) (by simp) ?_
                  refine AllReadyH.cons (o := ⟨some 89, .call { callee := .value (.func 143), args := #[.tmp 84, .tmp 88], argTypes := #[72, 72] }, 4, "history.go:89", #[⟨22, .data⟩, ⟨26, .data⟩, ⟨20, .chain⟩, ⟨20, .guard⟩], some (20, false)⟩) rfl (fun K hK => ?_) AllReadyH.nil
                  go_simp
                  refine hK.out _ _ ?_ (fun hHeld => ?_)
                  · exact hHeld
                  clear hK K
                  try simp only [Act.put]
                  try simp only [List.setIfInBounds_toArray]
                  try simp only [List.set_cons_succ]
                  try simp only [List.set_cons_zero]
                  refine wpT 28 ⟨some 90, .unOp .not 4 (.tmp 89), 4, "history.go:89", #[⟨27, .data⟩, ⟨20, .guard⟩], some (20, false)⟩ undef (.inr ⟨by rfl, rfl⟩) ?_
                  try simp only [Act.put]
                  try simp only [List.setIfInBounds_toArray]
                  try simp only [List.set_cons_succ]
                  try simp only [List.set_cons_zero]
                  refine wpT 29 ⟨some 91, .pick (.tmp 82) (.const (.bool true)) (.tmp 90), 4, "history.go:89", #[⟨20, .data⟩, ⟨28, .data⟩], none⟩ ?_ (.inl ⟨by rfl, ?_⟩) ?_
                  rotate_left
                  · (intro W hSw; (try dsimp only at hSw); go_simp; try (with_reducible rfl))
                  try simp only [Act.put]
                  try simp only [List.setIfInBounds_toArray]
                  try simp only [List.set_cons_succ]
                  try simp only [List.set_cons_zero]
                  refine wpAnyH_done (by kernel_rfl) (NoPanic.normal ?_) _
                  have HU := Lib.hid hHeld.1
                  clear hHeld
                  go_wp2
                  go_ret
                  exact ⟨by rw [hf.out]; rfl, U1.out.trans HU.out⟩
                · have hah := Lib.hid (show aheadO ords k x.key = true from aheadO_yes hkp hlt hy' x.key (by omega))
                  obtain ⟨y, hy⟩ : ∃ y, y'.key = y := ⟨_, rfl⟩
                  rw [hy] at p0 hordL
                  clear hy hy' H1
                  have hge : decide (x.key ≤ y) = false := decide_eq_false hordL
                  have hkk : decide ((0 : Int) < (k : Int)) = true := decide_eq_true (by omega)
                  have hkn : decide (0 < k) = true := decide_eq_true (by omega)
                  have hw1 : IntKind.i64.wrap ((k : Int) - 1) = (k : Int) - 1 := IntWalk.i64_in _ (by omega)
                  have hw2 : (0 : Int) ≤ (k : Int) - 1 := by omega
                  have hw3 : (1 : Int) ≤ (k : Int) := by omega
                  have hw4 : (k : Int) - 1 < (ords.length : Int) := by omega
                  have hw5 : ((k : Int) - 1).toNat = k - 1 := by omega
                  by_cases hE1 : x.txs.length = 0
                  · have hE0 : x.txs = [] := List.eq_nil_of_length_eq_zero hE1
                    have hf := Lib.hid (show rightB ⟨txs, ords, A, c, some ad, d⟩ = false from right_ord (k := k) hlt (by rw [hok.out, hE0]; simp))
                    have hEb : ((x.txs.length : Int) == 0) = true := by rw [beq_iff_eq]; omega
                    clear hE1 hE0
                    have g1 := bH.out.cell 1
                    have k0 := bo.out.cell 0
                    have k1 := bo.out.cell 1
                    simp only [List.getElem?_cons_zero, List.getElem?_cons_succ] at g1 k0 k1
                    go_wp2
                    refine wp_region_noPanic ?_
                    refine wp_region_held_drew (S := (fun w' => Upd No w1 w' ∧ w'.cell? ⟨w.heap.size, 1, none⟩ = some (.slice (some ad) ords.length d) ∧ w'.cell? ⟨wr.heap.size, 0, none⟩ = some (.int .i64 x.key) ∧ w'.cell? ⟨wr.heap.size, 1, none⟩ = some (.slice x.A x.txs.length x.c)∧ w'.cell? (ad.add ((k - 1) * 2)) = some (.int .i64 y))) (by kernel_rfl) ?_ (fun hHeld => ?_)
                    · (first | exact ⟨UA.out.drew, g1, k0, k1, p0⟩ | exact ⟨hHeld.1.trans hu3, hu3.keepNo hHeld.2.1, hu3.keepNo hHeld.2.2.1, hu3.keepNo hHeld.2.2.2.1, hu3.keepNo hHeld.2.2.2.2⟩)
                    refine wpT 0 ⟨some 62, .move (.tmp 6), 3, "history.go:89", #[], none⟩ ?_ (.inl ⟨by rfl, ?_⟩) ?_
                    rotate_left
                    · (intro W hSw; (try dsimp only at hSw); go_simp; try (with_reducible rfl))
                    try simp only [Act.put]
                    try simp only [List.setIfInBounds_toArray]
                    try simp only [List.set_cons_succ]
                    try simp only [List.set_cons_zero]
                    refine wpT 1 ⟨some 63, .binOp .gtr 3 (.tmp 62) (.const (.int .i64 0)) 3, 4, "history.go:89", #[⟨0, .data⟩], none⟩ ?_ (.inl ⟨by rfl, ?_⟩) ?_
                    rotate_left
                    · (intro W hSw; (try dsimp only at hSw); go_simp; try (with_reducible rfl))
                    try simp only [Act.put]
                    try simp only [List.setIfInBounds_toArray]
                    try simp only [List.set_cons_succ]
                    try simp only [List.set_cons_zero]
                    refine wpT 2 ⟨some 64, .move (.tmp 63), 4, "history.go:89", #[⟨1, .data⟩], none⟩ ?_ (.inl ⟨by rfl, ?_⟩) ?_
                    rotate_left
                    · (intro W hSw; (try dsimp only at hSw); go_simp; try (with_reducible rfl))
                    try simp only [Act.put]
                    try simp only [List.setIfInBounds_toArray]
                    try simp only [List.set_cons_succ]
                    try simp only [List.set_cons_zero]
                    refine wpT 3 ⟨some 65, .fieldAddr 25 (.tmp 1) 1, 0, "history.go:89", #[⟨2, .guard⟩], some (2, true)⟩ ?_ (.inl ⟨by rfl, ?_⟩) ?_
                    rotate_left
                    · (intro W hSw; (try dsimp only at hSw); go_simp; try (with_reducible rfl))
                    try simp only [Act.put]
                    try simp only [List.setIfInBounds_toArray]
                    try simp only [List.set_cons_succ]
                    try simp only [List.set_cons_zero]
                    refine wpT 4 ⟨some 66, .load 23 (.tmp 65), 23, "history.go:89", #[⟨3, .data⟩, ⟨2, .guard⟩], some (2, true)⟩ ?_ (.inl ⟨by rfl, ?_⟩) ?_
                    rotate_left
                    · (intro W hSw; (try dsimp only at hSw); go_simp; try (with_reducible rfl))
                    try simp only [Act.put]
                    try simp only [List.setIfInBounds_toArray]
                    try simp only [List.set_cons_succ]
                    try simp only [List.set_cons_zero]
                    refine wpT 5 ⟨some 67, .move (.tmp 6), 3, "history.go:89", #[⟨2, .guard⟩], some (2, true)⟩ ?_ (.inl ⟨by rfl, ?_⟩) ?_
                    rotate_left
                    · (intro W hSw; (try dsimp only at hSw); go_simp; try (with_reducible rfl))
                    try simp only [Act.put]
                    try simp only [List.setIfInBounds_toArray]
                    try simp only [List.set_cons_succ]
                    try simp only [List.set_cons_zero]
                    refine wpT 6 ⟨some 68, .binOp .sub 3 (.tmp 67) (.const (.int .i64 1)) 3, 3, "history.go:89", #[⟨5, .data⟩, ⟨2, .guard⟩], some (2, true)⟩ ?_ (.inl ⟨by rfl, ?_⟩) ?_
                    rotate_left
                    · (intro W hSw; (try dsimp only at hSw); go_simp; try (with_reducible rfl))
                    try simp only [Act.put]
                    try simp only [List.setIfInBounds_toArray]
                    try simp only [List.set_cons_succ]
                    try simp only [List.set_cons_zero]
                    refine wpT 7 ⟨some 69, .indexAddr 23 (.tmp 66) (.tmp 68), 0, "history.go:89", #[⟨4, .data⟩, ⟨6, .data⟩, ⟨2, .guard⟩], some (2, true)⟩ ?_ (.inl ⟨by rfl, ?_⟩) ?_
                    rotate_left
                    · (intro W hSw; (try dsimp only at hSw); go_simp; try (with_reducible rfl))
                    try simp only [Act.put]
                    try simp only [List.setIfInBounds_toArray]
                    try simp only [List.set_cons_succ]
                    try simp only [List.set_cons_zero]
                    refine wpT 8 ⟨some 70, .fieldAddr 81 (.tmp 69) 0, 0, "history.go:89", #[⟨7, .data⟩, ⟨2, .guard⟩], some (2, true)⟩ ?_ (.inl ⟨by rfl, ?_⟩) ?_
                    rotate_left
                    · (intro W hSw; (try dsimp only at hSw); go_simp; try (with_reducible rfl))
                    try simp only [Act.put]
                    try simp only [List.setIfInBounds_toArray]
                    try simp only [List.set_cons_succ]
                    try simp only [List.set_cons_zero]
                    refine wpT 9 ⟨some 71, .load 3 (.tmp 70), 3, "history.go:89", #[⟨8, .data⟩, ⟨2, .guard⟩], some (2, true)⟩ ?_ (.inl ⟨by rfl, ?_⟩) ?_
                    rotate_left
                    · (intro W hSw; (try dsimp only at hSw); go_simp; try (with_reducible rfl))
                    try simp only [Act.put]
                    try simp only [List.setIfInBounds_toArray]
                    try simp only [List.set_cons_succ]
                    try simp only [List.set_cons_zero]
                    refine wpT 10 ⟨some 72, .fieldAddr 81 (.tmp 7) 0, 0, "history.go:89", #[⟨2, .guard⟩], some (2, true)⟩ ?_ (.inl ⟨by rfl, ?_⟩) ?_
                    rotate_left
                    · (intro W hSw; (try dsimp only at hSw); go_simp; try (with_reducible rfl))
                    try simp only [Act.put]
                    try simp only [List.setIfInBounds_toArray]
                    try simp only [List.set_cons_succ]
                    try simp only [List.set_cons_zero]
                    refine wpT 11 ⟨some 73, .load 3 (.tmp 72), 3, "history.go:89", #[⟨10, .data⟩, ⟨2, .guard⟩], some (2, true)⟩ ?_ (.inl ⟨by rfl, ?_⟩) ?_
                    rotate_left
                    · (intro W hSw; (try dsimp only at hSw); go_simp; try (with_reducible rfl))
                    try simp only [Act.put]
                    try simp only [List.setIfInBounds_toArray]
                    try simp only [List.set_cons_succ]
                    try simp only [List.set_cons_zero]
                    refine wpT 12 ⟨some 74, .binOp .geq 3 (.tmp 71) (.tmp 73) 3, 4, "history.go:89", #[⟨9, .data⟩, ⟨11, .data⟩, ⟨2, .guard⟩], some (2, true)⟩ ?_ (.inl ⟨by rfl, ?_⟩) ?_
                    rotate_left
                    · (intro W hSw; (try dsimp only at hSw); go_simp; try (with_reducible rfl))
                    try simp only [Act.put]
                    try simp only [List.setIfInBounds_toArray]
                    try simp only [List.set_cons_succ]
                    try simp only [List.set_cons_zero]
                    refine wpT 13 ⟨some 75, .pick (.tmp 64) (.tmp 74) (.const (.bool false)), 4, "history.go:89", #[⟨2, .data⟩, ⟨12, .data⟩], none⟩ ?_ (.inl ⟨by rfl, ?_⟩) ?_
                    rotate_left
                    · (intro W hSw; (try dsimp only at hSw); go_simp; try (with_reducible rfl))
                    try simp only [Act.put]
                    try simp only [List.setIfInBounds_toArray]
                    try simp only [List.set_cons_succ]
                    try simp only [List.set_cons_zero]
                    refine wpT 14 ⟨some 76, .move (.tmp 75), 4, "history.go:89", #[⟨13, .data⟩, ⟨2, .chain⟩], none⟩ ?_ (.inl ⟨by rfl, ?_⟩) ?_
                    rotate_left
                    · (intro W hSw; (try dsimp only at hSw); go_simp; try (with_reducible rfl))
                    try simp only [Act.put]
                    try simp only [List.setIfInBounds_toArray]
                    try simp only [List.set_cons_succ]
                    try simp only [List.set_cons_zero]
                    refine wpT 15 ⟨some 77, .fieldAddr 81 (.tmp 7) 1, 0, "history.go:89", #[⟨14, .guard⟩], some (14, false)⟩ ?_ (.inl ⟨by rfl, ?_⟩) ?_
                    rotate_left
                    · (intro W hSw; (try dsimp only at hSw); go_simp; try (with_reducible rfl))
                    try simp only [Act.put]
                    try simp only [List.setIfInBounds_toArray]
                    try simp only [List.set_cons_succ]
                    try simp only [List.set_cons_zero]
                    refine wpT 16 ⟨some 78, .load 72 (.tmp 77), 72, "history.go:89", #[⟨15, .data⟩, ⟨14, .guard⟩], some (14, false)⟩ ?_ (.inl ⟨by rfl, ?_⟩) ?_
                    rotate_left
                    · (intro W hSw; (try dsimp only at hSw); go_simp; try (with_reducible rfl))
                    try simp only [Act.put]
                    try simp only [List.setIfInBounds_toArray]
                    try simp only [List.set_cons_succ]
                    try simp only [List.set_cons_zero]
                    refine wpT 17 ⟨some 79, .call { callee := .builtin .len, args := #[.tmp 78], argTypes := #[72] }, 3, "history.go:89", #[⟨16, .data⟩, ⟨14, .guard⟩], some (14, false)⟩ ?_ (.inl ⟨by rfl, ?_⟩) ?_
                    rotate_left
                    · (intro W hSw; (try dsimp only at hSw); go_simp; try (with_reducible rfl))
                    try simp only [Act.put]
                    try simp only [List.setIfInBounds_toArray]
                    try simp only [List.set_cons_succ]
                    try simp only [List.set_cons_zero]
                    refine wpT 18 ⟨some 80, .binOp .eql 3 (.tmp 79) (.const (.int .i64 0)) 3, 4, "history.go:89", #[⟨17, .data⟩, ⟨14, .guard⟩], some (14, false)⟩ ?_ (.inl ⟨by rfl, ?_⟩) ?_
                    rotate_left
                    · (intro W hSw; (try dsimp only at hSw); go_simp; try (with_reducible rfl))
                    try simp only [Act.put]
                    try simp only [List.setIfInBounds_toArray]
                    try simp only [List.set_cons_succ]
                    try simp only [List.set_cons_zero]
                    refine wpT 19 ⟨some 81, .pick (.tmp 76) (.const (.bool true)) (.tmp 80), 4, "history.go:89", #[⟨14, .data⟩, ⟨18, .data⟩], none⟩ ?_ (.inl ⟨by rfl, ?_⟩) ?_
                    rotate_left
                    · (intro W hSw; (try dsimp only at hSw); go_simp; try (with_reducible rfl))
                    try simp only [Act.put]
                    try simp only [List.setIfInBounds_toArray]
                    try simp only [List.set_cons_succ]
                    try simp only [List.set_cons_zero]
                    refine wpT 20 ⟨some 82, .move (.tmp 81), 4, "history.go:89", #[⟨19, .data⟩, ⟨14, .chain⟩], none⟩ ?_ (.inl ⟨by rfl, ?_⟩) ?_
                    rotate_left
                    · (intro W hSw; (try dsimp only at hSw); go_simp; try (with_reducible rfl))
                    try simp only [Act.put]
                    try simp only [List.setIfInBounds_toArray]
                    try simp only [List.set_cons_succ]
                    try simp only [List.set_cons_zero]
                    refine wpT 21 ⟨some 83, .fieldAddr 81 (.tmp 7) 1, 0, "history.go:89", #[⟨20, .guard⟩], some (20, false)⟩ undef (.inr ⟨by rfl, rfl⟩) ?_
                    try simp only [Act.put]
                    try simp only [List.setIfInBounds_toArray]
                    try simp only [List.set_cons_succ]
                    try simp only [List.set_cons_zero]
                    refine wpT 22 ⟨some 84, .load 72 (.tmp 83), 72, "history.go:89", #[⟨21, .data⟩, ⟨20, .guard⟩], some (20, false)⟩ undef (.inr ⟨by rfl, rfl⟩) ?_
                    try simp only [Act.put]
                    try simp only [List.setIfInBounds_toArray]
                    try simp only [List.set_cons_succ]
                    try simp only [List.set_cons_zero]
                    refine wpT 23 ⟨some 85, .move (.tmp 5), 89, "history.go:89", #[⟨20, .guard⟩], some (20, false)⟩ undef (.inr ⟨by rfl, rfl⟩) ?_
                    try simp only [Act.put]
                    try simp only [List.setIfInBounds_toArray]
                    try simp only [List.set_cons_succ]
                    try simp only [List.set_cons_zero]
                    refine wpT 24 ⟨some 86, .fieldAddr 81 (.tmp 7) 0, 0, "history.go:89", #[⟨20, .guard⟩], some (20, false)⟩ undef (.inr ⟨by rfl, rfl⟩) ?_
                    try simp only [Act.put]
                    try simp only [List.setIfInBounds_toArray]
                    try simp only [List.set_cons_succ]
                    try simp only [List.set_cons_zero]
                    refine wpT 25 ⟨some 87, .load 3 (.tmp 86), 3, "history.go:89", #[⟨24, .data⟩, ⟨20, .guard⟩], some (20, false)⟩ undef (.inr ⟨by rfl, rfl⟩) ?_
                    try simp only [Act.put]
                    try simp only [List.setIfInBounds_toArray]
                    try simp only [List.set_cons_succ]
                    try simp only [List.set_cons_zero]
                    refine wpAnyH_ready (rs := [26]) (by kernel_rfl) (by simp) ?_
                    refine AllReadyH.cons (o := ⟨some 88, .lookup 89 (.tmp 85) (.tmp 87) false, 72, "history.go:89", #[⟨23, .data⟩, ⟨25, .data⟩, ⟨20, .guard⟩], some (20, false)⟩) rfl (fun K hK => ?_) AllReadyH.nil
                    go_simp
                    refine hK.out _ _ ?_ (fun hHeld => ?_)
                    · exact hHeld
                    clear hK K
                    try simp only [Act.put]
                    try simp only [List.setIfInBounds_toArray]
                    try simp only [List.set_cons_succ]
                    try simp only [List.set_cons_zero]
                    refine wpAnyH_ready (rs := [27]) (by kernel_rfl) (by simp) ?_
                    refine AllReadyH.cons (o := ⟨some 89, .call { callee := .value (.func 143), args := #[.tmp 84, .tmp 88], argTypes := #[72, 72] }, 4, "history.go:89", #[⟨22, .data⟩, ⟨26, .data⟩, ⟨20, .chain⟩, ⟨20, .guard⟩], some (20, false)⟩) rfl (fun K hK => ?_) AllReadyH.nil
                    go_simp
                    refine hK.out _ _ ?_ (fun hHeld => ?_)
                    · exact hHeld
                    clear hK K
                    try simp only [Act.put]
                    try simp only [List.setIfInBounds_toArray]
                    try simp only [List.set_cons_succ]
                    try simp only [List.set_cons_zero]
                    refine wpT 28 ⟨some 90, .unOp .not 4 (.tmp 89), 4, "history.go:89", #[⟨27, .data⟩, ⟨20, .guard⟩], some (20, false)⟩ undef (.inr ⟨by rfl, rfl⟩) ?_
                    try simp only [Act.put]
                    try simp only [List.setIfInBounds_toArray]
                    try simp only [List.set_cons_succ]
                    try simp only [List.set_cons_zero]
                    refine wpT 29 ⟨some 91, .pick (.tmp 82) (.const (.bool true)) (.tmp 90), 4, "history.go:89", #[⟨20, .data⟩, ⟨28, .data⟩], none⟩ ?_ (.inl ⟨by rfl, ?_⟩) ?_
                    rotate_left
                    · (intro W hSw; (try dsimp only at hSw); go_simp; try (with_reducible rfl))
                    try simp only [Act.put]
                    try simp only [List.setIfInBounds_toArray]
                    try simp only [List.set_cons_succ]
                    try simp only [List.set_cons_zero]
                    refine wpAnyH_done (by kernel_rfl) (NoPanic.normal ?_) _
                    have HU := Lib.hid hHeld.1
                    clear hHeld
                    go_wp2
                    go_ret
                    exact ⟨by rw [hf.out]; rfl, U1.out.trans HU.out⟩
                  · have hE0 : x.txs.isEmpty = false := by
                      cases hh : x.txs with
                      | nil => rw [hh] at hE1; exact absurd rfl hE1
                      | cons a l => rfl
                    have hEb : ((x.txs.length : Int) == 0) = false := by rw [beq_eq_false_iff_ne]; omega
                    have HE0 := Lib.hid hE0
                    clear hE1 hE0
                    cases N
                    · have hf := Lib.hid (show rightB ⟨txs, ords, A, c, some ad, d⟩ = false from right_ord (k := k) hlt (by rw [hok.out]; simp))
                      have g1 := bH.out.cell 1
                      have k0 := bo.out.cell 0
                      have k1 := bo.out.cell 1
                      simp only [List.getElem?_cons_zero, List.getElem?_cons_succ] at g1 k0 k1
                      go_wp2
                      refine wp_region_noPanic ?_
                      refine wp_region_held_drew (S := (fun w' => Upd No w1 w' ∧ w'.cell? ⟨w.heap.size, 1, none⟩ = some (.slice (some ad) ords.length d) ∧ w'.cell? ⟨wr.heap.size, 0, none⟩ = some (.int .i64 x.key) ∧ w'.cell? ⟨wr.heap.size, 1, none⟩ = some (.slice x.A x.txs.length x.c)∧ w'.cell? (ad.add ((k - 1) * 2)) = some (.int .i64 y))) (by kernel_rfl) ?_ (fun hHeld => ?_)
                      · (first | exact ⟨UA.out.drew, g1, k0, k1, p0⟩ | exact ⟨hHeld.1.trans hu3, hu3.keepNo hHeld.2.1, hu3.keepNo hHeld.2.2.1, hu3.keepNo hHeld.2.2.2.1, hu3.keepNo hHeld.2.2.2.2⟩)
                      refine wpT 0 ⟨some 62, .move (.tmp 6), 3, "history.go:89", #[], none⟩ ?_ (.inl ⟨by rfl, ?_⟩) ?_
                      rotate_left
                      · (intro W hSw; (try dsimp only at hSw); go_simp; try (with_reducible rfl))
                      try simp only [Act.put]
                      try simp only [List.setIfInBounds_toArray]
                      try simp only [List.set_cons_succ]
                      try simp only [List.set_cons_zero]
                      refine wpT 1 ⟨some 63, .binOp .gtr 3 (.tmp 62) (.const (.int .i64 0)) 3, 4, "history.go:89", #[⟨0, .data⟩], none⟩ ?_ (.inl ⟨by rfl, ?_⟩) ?_
                      rotate_left
                      · (intro W hSw; (try dsimp only at hSw); go_simp; try (with_reducible rfl))
                      try simp only [Act.put]
                      try simp only [List.setIfInBounds_toArray]
                      try simp only [List.set_cons_succ]
                      try simp only [List.set_cons_zero]
                      refine wpT 2 ⟨some 64, .move (.tmp 63), 4, "history.go:89", #[⟨1, .data⟩], none⟩ ?_ (.inl ⟨by rfl, ?_⟩) ?_
                      rotate_left
                      · (intro W hSw; (try dsimp only at hSw); go_simp; try (with_reducible rfl))
                      try simp only [Act.put]
                      try simp only [List.setIfInBounds_toArray]
                      try simp only [List.set_cons_succ]
                      try simp only [List.set_cons_zero]
                      refine wpT 3 ⟨some 65, .fieldAddr 25 (.tmp 1) 1, 0, "history.go:89", #[⟨2, .guard⟩], some (2, true)⟩ ?_ (.inl ⟨by rfl, ?_⟩) ?_
                      rotate_left
                      · (intro W hSw; (try dsimp only at hSw); go_simp; try (with_reducible rfl))
                      try simp only [Act.put]
                      try simp only [List.setIfInBounds_toArray]
                      try simp only [List.set_cons_succ]
                      try simp only [List.set_cons_zero]
                      refine wpT 4 ⟨some 66, .load 23 (.tmp 65), 23, "history.go:89", #[⟨3, .data⟩, ⟨2, .guard⟩], some (2, true)⟩ ?_ (.inl ⟨by rfl, ?_⟩) ?_
                      rotate_left
                      · (intro W hSw; (try dsimp only at hSw); go_simp; try (with_reducible rfl))
                      try simp only [Act.put]
                      try simp only [List.setIfInBounds_toArray]
                      try simp only [List.set_cons_succ]
                      try simp only [List.set_cons_zero]
                      refine wpT 5 ⟨some 67, .move (.tmp 6), 3, "history.go:89", #[⟨2, .guard⟩], some (2, true)⟩ ?_ (.inl ⟨by rfl, ?_⟩) ?_
                      rotate_left
                      · (intro W hSw; (try dsimp only at hSw); go_simp; try (with_reducible rfl))
                      try simp only [Act.put]
                      try simp only [List.setIfInBounds_toArray]
                      try simp only [List.set_cons_succ]
                      try simp only [List.set_cons_zero]
                      refine wpT 6 ⟨some 68, .binOp .sub 3 (.tmp 67) (.const (.int .i64 1)) 3, 3, "history.go:89", #[⟨5, .data⟩, ⟨2, .guard⟩], some (2, true)⟩ ?_ (.inl ⟨by rfl, ?_⟩) ?_
                      rotate_left
                      · (intro W hSw; (try dsimp only at hSw); go_simp; try (with_reducible rfl))
                      try simp only [Act.put]
                      try simp only [List.setIfInBounds_toArray]
                      try simp only [List.set_cons_succ]
                      try simp only [List.set_cons_zero]
                      refine wpT 7 ⟨some 69, .indexAddr 23 (.tmp 66) (.tmp 68), 0, "history.go:89", #[⟨4, .data⟩, ⟨6, .data⟩, ⟨2, .guard⟩], some (2, true)⟩ ?_ (.inl ⟨by rfl, ?_⟩) ?_
                      rotate_left
                      · (intro W hSw; (try dsimp only at hSw); go_simp; try (with_reducible rfl))
                      try simp only [Act.put]
                      try simp only [List.setIfInBounds_toArray]
                      try simp only [List.set_cons_succ]
                      try simp only [List.set_cons_zero]
                      refine wpT 8 ⟨some 70, .fieldAddr 81 (.tmp 69) 0, 0, "history.go:89", #[⟨7, .data⟩, ⟨2, .guard⟩], some (2, true)⟩ ?_ (.inl ⟨by rfl, ?_⟩) ?_
                      rotate_left
                      · (intro W hSw; (try dsimp only at hSw); go_simp; try (with_reducible rfl))
                      try simp only [Act.put]
                      try simp only [List.setIfInBounds_toArray]
                      try simp only [List.set_cons_succ]
                      try simp only [List.set_cons_zero]
                      refine wpT 9 ⟨some 71, .load 3 (.tmp 70), 3, "history.go:89", #[⟨8, .data⟩, ⟨2, .guard⟩], some (2, true)⟩ ?_ (.inl ⟨by rfl, ?_⟩) ?_
                      rotate_left
                      · (intro W hSw; (try dsimp only at hSw); go_simp; try (with_reducible rfl))
                      try simp only [Act.put]
                      try simp only [List.setIfInBounds_toArray]
                      try simp only [List.set_cons_succ]
                      try simp only [List.set_cons_zero]
                      refine wpT 10 ⟨some 72, .fieldAddr 81 (.tmp 7) 0, 0, "history.go:89", #[⟨2, .guard⟩], some (2, true)⟩ ?_ (.inl ⟨by rfl, ?_⟩) ?_
                      rotate_left
                      · (intro W hSw; (try dsimp only at hSw); go_simp; try (with_reducible rfl))
                      try simp only [Act.put]
                      try simp only [List.setIfInBounds_toArray]
                      try simp only [List.set_cons_succ]
                      try simp only [List.set_cons_zero]
                      refine wpT 11 ⟨some 73, .load 3 (.tmp 72), 3, "history.go:89", #[⟨10, .data⟩, ⟨2, .guard⟩], some (2, true)⟩ ?_ (.inl ⟨by rfl, ?_⟩) ?_
                      rotate_left
                      · (intro W hSw; (try dsimp only at hSw); go_simp; try (with_reducible rfl))
                      try simp only [Act.put]
                      try simp only [List.setIfInBounds_toArray]
                      try simp only [List.set_cons_succ]
                      try simp only [List.set_cons_zero]
                      refine wpT 12 ⟨some 74, .binOp .geq 3 (.tmp 71) (.tmp 73) 3, 4, "history.go:89", #[⟨9, .data⟩, ⟨11, .data⟩, ⟨2, .guard⟩], some (2, true)⟩ ?_ (.inl ⟨by rfl, ?_⟩) ?_
                      rotate_left
                      · (intro W hSw; (try dsimp only at hSw); go_simp; try (with_reducible rfl))
                      try simp only [Act.put]
                      try simp only [List.setIfInBounds_toArray]
                      try simp only [List.set_cons_succ]
                      try simp only [List.set_cons_zero]
                      refine wpT 13 ⟨some 75, .pick (.tmp 64) (.tmp 74) (.const (.bool false)), 4, "history.go:89", #[⟨2, .data⟩, ⟨12, .data⟩], none⟩ ?_ (.inl ⟨by rfl, ?_⟩) ?_
                      rotate_left
                      · (intro W hSw; (try dsimp only at hSw); go_simp; try (with_reducible rfl))
                      try simp only [Act.put]
                      try simp only [List.setIfInBounds_toArray]
                      try simp only [List.set_cons_succ]
                      try simp only [List.set_cons_zero]
                      refine wpT 14 ⟨some 76, .move (.tmp 75), 4, "history.go:89", #[⟨13, .data⟩, ⟨2, .chain⟩], none⟩ ?_ (.inl ⟨by rfl, ?_⟩) ?_
                      rotate_left
                      · (intro W hSw; (try dsimp only at hSw); go_simp; try (with_reducible rfl))
                      try simp only [Act.put]
                      try simp only [List.setIfInBounds_toArray]
                      try simp only [List.set_cons_succ]
                      try simp only [List.set_cons_zero]
                      refine wpT 15 ⟨some 77, .fieldAddr 81 (.tmp 7) 1, 0, "history.go:89", #[⟨14, .guard⟩], some (14, false)⟩ ?_ (.inl ⟨by rfl, ?_⟩) ?_
                      rotate_left
                      · (intro W hSw; (try dsimp only at hSw); go_simp; try (with_reducible rfl))
                      try simp only [Act.put]
                      try simp only [List.setIfInBounds_toArray]
                      try simp only [List.set_cons_succ]
                      try simp only [List.set_cons_zero]
                      refine wpT 16 ⟨some 78, .load 72 (.tmp 77), 72, "history.go:89", #[⟨15, .data⟩, ⟨14, .guard⟩], some (14, false)⟩ ?_ (.inl ⟨by rfl, ?_⟩) ?_
                      rotate_left
                      · (intro W hSw; (try dsimp only at hSw); go_simp; try (with_reducible rfl))
                      try simp only [Act.put]
                      try simp only [List.setIfInBounds_toArray]
                      try simp only [List.set_cons_succ]
                      try simp only [List.set_cons_zero]
                      refine wpT 17 ⟨some 79, .call { callee := .builtin .len, args := #[.tmp 78], argTypes := #[72] }, 3, "history.go:89", #[⟨16, .data⟩, ⟨14, .guard⟩], some (14, false)⟩ ?_ (.inl ⟨by rfl, ?_⟩) ?_
                      rotate_left
                      · (intro W hSw; (try dsimp only at hSw); go_simp; try (with_reducible rfl))
                      try simp only [Act.put]
                      try simp only [List.setIfInBounds_toArray]
                      try simp only [List.set_cons_succ]
                      try simp only [List.set_cons_zero]
                      refine wpT 18 ⟨some 80, .binOp .eql 3 (.tmp 79) (.const (.int .i64 0)) 3, 4, "history.go:89", #[⟨17, .data⟩, ⟨14, .guard⟩], some (14, false)⟩ ?_ (.inl ⟨by rfl, ?_⟩) ?_
                      rotate_left
                      · (intro W hSw; (try dsimp only at hSw); go_simp; try (with_reducible rfl))
                      try simp only [Act.put]
                      try simp only [List.setIfInBounds_toArray]
                      try simp only [List.set_cons_succ]
                      try simp only [List.set_cons_zero]
                      refine wpT 19 ⟨some 81, .pick (.tmp 76) (.const (.bool true)) (.tmp 80), 4, "history.go:89", #[⟨14, .data⟩, ⟨18, .data⟩], none⟩ ?_ (.inl ⟨by rfl, ?_⟩) ?_
                      rotate_left
                      · (intro W hSw; (try dsimp only at hSw); go_simp; try (with_reducible rfl))
                      try simp only [Act.put]
                      try simp only [List.setIfInBounds_toArray]
                      try simp only [List.set_cons_succ]
                      try simp only [List.set_cons_zero]
                      refine wpT 20 ⟨some 82, .move (.tmp 81), 4, "history.go:89", #[⟨19, .data⟩, ⟨14, .chain⟩], none⟩ ?_ (.inl ⟨by rfl, ?_⟩) ?_
                      rotate_left
                      · (intro W hSw; (try dsimp only at hSw); go_simp; try (with_reducible rfl))
                      try simp only [Act.put]
                      try simp only [List.setIfInBounds_toArray]
                      try simp only [List.set_cons_succ]
                      try simp only [List.set_cons_zero]
                      refine wpT 21 ⟨some 83, .fieldAddr 81 (.tmp 7) 1, 0, "history.go:89", #[⟨20, .guard⟩], some (20, false)⟩ ?_ (.inl ⟨by rfl, ?_⟩) ?_
                      rotate_left
                      · (intro W hSw; (try dsimp only at hSw); go_simp; try (with_reducible rfl))
                      try simp only [Act.put]
                      try simp only [List.setIfInBounds_toArray]
                      try simp only [List.set_cons_succ]
                      try simp only [List.set_cons_zero]
                      refine wpT 22 ⟨some 84, .load 72 (.tmp 83), 72, "history.go:89", #[⟨21, .data⟩, ⟨20, .guard⟩], some (20, false)⟩ ?_ (.inl ⟨by rfl, ?_⟩) ?_
                      rotate_left
                      · (intro W hSw; (try dsimp only at hSw); go_simp; try (with_reducible rfl))
                      try simp only [Act.put]
                      try simp only [List.setIfInBounds_toArray]
                      try simp only [List.set_cons_succ]
                      try simp only [List.set_cons_zero]
                      refine wpT 23 ⟨some 85, .move (.tmp 5), 89, "history.go:89", #[⟨20, .guard⟩], some (20, false)⟩ ?_ (.inl ⟨by rfl, ?_⟩) ?_
                      rotate_left
                      · (intro W hSw; (try dsimp only at hSw); go_simp; try (with_reducible rfl))
                      try simp only [Act.put]
                      try simp only [List.setIfInBounds_toArray]
                      try simp only [List.set_cons_succ]
                      try simp only [List.set_cons_zero]
                      refine wpT 24 ⟨some 86, .fieldAddr 81 (.tmp 7) 0, 0, "history.go:89", #[⟨20, .guard⟩], some (20, false)⟩ ?_ (.inl ⟨by rfl, ?_⟩) ?_
                      rotate_left
                      · (intro W hSw; (try dsimp only at hSw); go_simp; try (with_reducible rfl))
                      try simp only [Act.put]
                      try simp only [List.setIfInBounds_toArray]
                      try simp only [List.set_cons_succ]
                      try simp only [List.set_cons_zero]
                      refine wpT 25 ⟨some 87, .load 3 (.tmp 86), 3, "history.go:89", #[⟨24, .data⟩, ⟨20, .guard⟩], some (20, false)⟩ ?_ (.inl ⟨by rfl, ?_⟩) ?_
                      rotate_left
                      · (intro W hSw; (try dsimp only at hSw); go_simp; try (with_reducible rfl))
                      try simp only [Act.put]
                      try simp only [List.setIfInBounds_toArray]
                      try simp only [List.set_cons_succ]
                      try simp only [List.set_cons_zero]
                      refine wpAnyH_ready (rs := [26]) (by kernel_rfl) (by simp) ?_
                      refine AllReadyH.cons (o := ⟨some 88, .lookup 89 (.tmp 85) (.tmp 87) false, 72, "history.go:89", #[⟨23, .data⟩, ⟨25, .data⟩, ⟨20, .guard⟩], some (20, false)⟩) rfl (fun K hK => ?_) AllReadyH.nil
                      go_simp
                      refine hK.out _ _ ?_ (fun hHeld => ?_)
                      · (first | exact ⟨UA.out.drew, g1, k0, k1, p0⟩ | exact ⟨hHeld.1.trans hu3, hu3.keepNo hHeld.2.1, hu3.keepNo hHeld.2.2.1, hu3.keepNo hHeld.2.2.2.1, hu3.keepNo hHeld.2.2.2.2⟩)
                      clear hK K
                      try simp only [Act.put]
                      try simp only [List.setIfInBounds_toArray]
                      try simp only [List.set_cons_succ]
                      try simp only [List.set_cons_zero]
                      refine wpAnyH_ready (rs := [27]) (by kernel_rfl) (by simp) ?_
                      refine AllReadyH.cons (o := ⟨some 89, .call { callee := .value (.func 143), args := #[.tmp 84, .tmp 88], argTypes := #[72, 72] }, 4, "history.go:89", #[⟨22, .data⟩, ⟨26, .data⟩, ⟨20, .chain⟩, ⟨20, .guard⟩], some (20, false)⟩) rfl (fun K hK => ?_) AllReadyH.nil
                      go_simp
                      (first
    | (go_at_call 143; refine (opermV (v := false) (XL0.out.1.upd (U1.out.trans hHeld.1) (fun _ _ => id)) (hIw.out.upd hHeld.1 (fun _ _ => id)) XL0.out.2.2.1 hwl.out hN.out).mono ?_; rintro e w3 ⟨rfl, hu3⟩))
                      try (go_wp2_with fail)
                      refine hK.out _ _ ?_ (fun hHeld => ?_)
                      · (first | exact ⟨UA.out.drew, g1, k0, k1, p0⟩ | exact ⟨hHeld.1.trans hu3, hu3.keepNo hHeld.2.1, hu3.keepNo hHeld.2.2.1, hu3.keepNo hHeld.2.2.2.1, hu3.keepNo hHeld.2.2.2.2⟩)
                      clear hK K
                      try simp only [Act.put]
                      try simp only [List.setIfInBounds_toArray]
                      try simp only [List.set_cons_succ]
                      try simp only [List.set_cons_zero]
                      refine wpT 28 ⟨some 90, .unOp .not 4 (.tmp 89), 4, "history.go:89", #[⟨27, .data⟩, ⟨20, .guard⟩], some (20, false)⟩ ?_ (.inl ⟨by rfl, ?_⟩) ?_
                      rotate_left
                      · (intro W hSw; (try dsimp only at hSw); go_simp; try (with_reducible rfl))
                      try simp only [Act.put]
                      try simp only [List.setIfInBounds_toArray]
                      try simp only [List.set_cons_succ]
                      try simp only [List.set_cons_zero]
                      refine wpT 29 ⟨some 91, .pick (.tmp 82) (.const (.bool true)) (.tmp 90), 4, "history.go:89", #[⟨20, .data⟩, ⟨28, .data⟩], none⟩ ?_ (.inl ⟨by rfl, ?_⟩) ?_
                      rotate_left
                      · (intro W hSw; (try dsimp only at hSw); go_simp; try (with_reducible rfl))
                      try simp only [Act.put]
                      try simp only [List.setIfInBounds_toArray]
                      try simp only [List.set_cons_succ]
                      try simp only [List.set_cons_zero]
                      refine wpAnyH_done (by kernel_rfl) (NoPanic.normal ?_) _
                      have HU := Lib.hid hHeld.1
                      clear hHeld
                      go_wp2
                      go_ret
                      exact ⟨by rw [hf.out]; rfl, U1.out.trans HU.out⟩
                    · have HA := Lib.hid (all_range_succ hall2.out (by rw [hok.out, hah.out, HE0.out]; rfl))
                      have g1 := bH.out.cell 1
                      have k0 := bo.out.cell 0
                      have k1 := bo.out.cell 1
                      simp only [List.getElem?_cons_zero, List.getElem?_cons_succ] at g1 k0 k1
                      go_wp2
                      refine wp_region_noPanic ?_
                      refine wp_region_held_drew (S := (fun w' => Upd No w1 w' ∧ w'.cell? ⟨w.heap.size, 1, none⟩ = some (.slice (some ad) ords.length d) ∧ w'.cell? ⟨wr.heap.size, 0, none⟩ = some (.int .i64 x.key) ∧ w'.cell? ⟨wr.heap.size, 1, none⟩ = some (.slice x.A x.txs.length x.c)∧ w'.cell? (ad.add ((k - 1) * 2)) = some (.int .i64 y))) (by kernel_rfl) ?_ (fun hHeld => ?_)
                      · (first | exact ⟨UA.out.drew, g1, k0, k1, p0⟩ | exact ⟨hHeld.1.trans hu3, hu3.keepNo hHeld.2.1, hu3.keepNo hHeld.2.2.1, hu3.keepNo hHeld.2.2.2.1, hu3.keepNo hHeld.2.2.2.2⟩)
                      refine wpT 0 ⟨some 62, .move (.tmp 6), 3, "history.go:89", #[], none⟩ ?_ (.inl ⟨by rfl, ?_⟩) ?_
                      rotate_left
                      · (intro W hSw; (try dsimp only at hSw); go_simp; try (with_reducible rfl))
                      try simp only [Act.put]
                      try simp only [List.setIfInBounds_toArray]
                      try simp only [List.set_cons_succ]
                      try simp only [List.set_cons_zero]
                      refine wpT 1 ⟨some 63, .binOp .gtr 3 (.tmp 62) (.const (.int .i64 0)) 3, 4, "history.go:89", #[⟨0, .data⟩], none⟩ ?_ (.inl ⟨by rfl, ?_⟩) ?_
                      rotate_left
                      · (intro W hSw; (try dsimp only at hSw); go_simp; try (with_reducible rfl))
                      try simp only [Act.put]
                      try simp only [List.setIfInBounds_toArray]
                      try simp only [List.set_cons_succ]
                      try simp only [List.set_cons_zero]
                      refine wpT 2 ⟨some 64, .move (.tmp 63), 4, "history.go:89", #[⟨1, .data⟩], none⟩ ?_ (.inl ⟨by rfl, ?_⟩) ?_
                      rotate_left
                      · (intro W hSw; (try dsimp only at hSw); go_simp; try (with_reducible rfl))
                      try simp only [Act.put]
                      try simp only [List.setIfInBounds_toArray]
                      try simp only [List.set_cons_succ]
                      try simp only [List.set_cons_zero]
                      refine wpT 3 ⟨some 65, .fieldAddr 25 (.tmp 1) 1, 0, "history.go:89", #[⟨2, .guard⟩], some (2, true)⟩ ?_ (.inl ⟨by rfl, ?_⟩) ?_
                      rotate_left
                      · (intro W hSw; (try dsimp only at hSw); go_simp; try (with_reducible rfl))
                      try simp only [Act.put]
                      try simp only [List.setIfInBounds_toArray]
                      try simp only [List.set_cons_succ]
                      try simp only [List.set_cons_zero]
                      refine wpT 4 ⟨some 66, .load 23 (.tmp 65), 23, "history.go:89", #[⟨3, .data⟩, ⟨2, .guard⟩], some (2, true)⟩ ?_ (.inl ⟨by rfl, ?_⟩) ?_
                      rotate_left
                      · (intro W hSw; (try dsimp only at hSw); go_simp; try (with_reducible rfl))
                      try simp only [Act.put]
                      try simp only [List.setIfInBounds_toArray]
                      try simp only [List.set_cons_succ]
                      try simp only [List.set_cons_zero]
                      refine wpT 5 ⟨some 67, .move (.tmp 6), 3, "history.go:89", #[⟨2, .guard⟩], some (2, true)⟩ ?_ (.inl ⟨by rfl, ?_⟩) ?_
                      rotate_left
                      · (intro W hSw; (try dsimp only at hSw); go_simp; try (with_reducible rfl))
                      try simp only [Act.put]
                      try simp only [List.setIfInBounds_toArray]
                      try simp only [List.set_cons_succ]
                      try simp only [List.set_cons_zero]
                      refine wpT 6 ⟨some 68, .binOp .sub 3 (.tmp 67) (.const (.int .i64 1)) 3, 3, "history.go:89", #[⟨5, .data⟩, ⟨2, .guard⟩], some (2, true)⟩ ?_ (.inl ⟨by rfl, ?_⟩) ?_
                      rotate_left
                      · (intro W hSw; (try dsimp only at hSw); go_simp; try (with_reducible rfl))
                      try simp only [Act.put]
                      try simp only [List.setIfInBounds_toArray]
                      try simp only [List.set_cons_succ]
                      try simp only [List.set_cons_zero]
                      refine wpT 7 ⟨some 69, .indexAddr 23 (.tmp 66) (.tmp 68), 0, "history.go:89", #[⟨4, .data⟩, ⟨6, .data⟩, ⟨2, .guard⟩], some (2, true)⟩ ?_ (.inl ⟨by rfl, ?_⟩) ?_
                      rotate_left
                      · (intro W hSw; (try dsimp only at hSw); go_simp; try (with_reducible rfl))
                      try simp only [Act.put]
                      try simp only [List.setIfInBounds_toArray]
                      try simp only [List.set_cons_succ]
                      try simp only [List.set_cons_zero]
                      refine wpT 8 ⟨some 70, .fieldAddr 81 (.tmp 69) 0, 0, "history.go:89", #[⟨7, .data⟩, ⟨2, .guard⟩], some (2, true)⟩ ?_ (.inl ⟨by rfl, ?_⟩) ?_
                      rotate_left
                      · (intro W hSw; (try dsimp only at hSw); go_simp; try (with_reducible rfl))
                      try simp only [Act.put]
                      try simp only [List.setIfInBounds_toArray]
                      try simp only [List.set_cons_succ]
                      try simp only [List.set_cons_zero]
                      refine wpT 9 ⟨some 71, .load 3 (.tmp 70), 3, "history.go:89", #[⟨8, .data⟩, ⟨2, .guard⟩], some (2, true)⟩ ?_ (.inl ⟨by rfl, ?_⟩) ?_
                      rotate_left
                      · (intro W hSw; (try dsimp only at hSw); go_simp; try (with_reducible rfl))
                      try simp only [Act.put]
                      try simp only [List.setIfInBounds_toArray]
                      try simp only [List.set_cons_succ]
                      try simp only [List.set_cons_zero]
                      refine wpT 10 ⟨some 72, .fieldAddr 81 (.tmp 7) 0, 0, "history.go:89", #[⟨2, .guard⟩], some (2, true)⟩ ?_ (.inl ⟨by rfl, ?_⟩) ?_
                      rotate_left
                      · (intro W hSw; (try dsimp only at hSw); go_simp; try (with_reducible rfl))
                      try simp only [Act.put]
                      try simp only [List.setIfInBounds_toArray]
                      try simp only [List.set_cons_succ]
                      try simp only [List.set_cons_zero]
                      refine wpT 11 ⟨some 73, .load 3 (.tmp 72), 3, "history.go:89", #[⟨10, .data⟩, ⟨2, .guard⟩], some (2, true)⟩ ?_ (.inl ⟨by rfl, ?_⟩) ?_
                      rotate_left
                      · (intro W hSw; (try dsimp only at hSw); go_simp; try (with_reducible rfl))
                      try simp only [Act.put]
                      try simp only [List.setIfInBounds_toArray]
                      try simp only [List.set_cons_succ]
                      try simp only [List.set_cons_zero]
                      refine wpT 12 ⟨some 74, .binOp .geq 3 (.tmp 71) (.tmp 73) 3, 4, "history.go:89", #[⟨9, .data⟩, ⟨11, .data⟩, ⟨2, .guard⟩], some (2, true)⟩ ?_ (.inl ⟨by rfl, ?_⟩) ?_
                      rotate_left
                      · (intro W hSw; (try dsimp only at hSw); go_simp; try (with_reducible rfl))
                      try simp only [Act.put]
                      try simp only [List.setIfInBounds_toArray]
                      try simp only [List.set_cons_succ]
                      try simp only [List.set_cons_zero]
                      refine wpT 13 ⟨some 75, .pick (.tmp 64) (.tmp 74) (.const (.bool false)), 4, "history.go:89", #[⟨2, .data⟩, ⟨12, .data⟩], none⟩ ?_ (.inl ⟨by rfl, ?_⟩) ?_
                      rotate_left
                      · (intro W hSw; (try dsimp only at hSw); go_simp; try (with_reducible rfl))
                      try simp only [Act.put]
                      try simp only [List.setIfInBounds_toArray]
                      try simp only [List.set_cons_succ]
                      try simp only [List.set_cons_zero]
                      refine wpT 14 ⟨some 76, .move (.tmp 75), 4, "history.go:89", #[⟨13, .data⟩, ⟨2, .chain⟩], none⟩ ?_ (.inl ⟨by rfl, ?_⟩) ?_
                      rotate_left
                      · (intro W hSw; (try dsimp only at hSw); go_simp; try (with_reducible rfl))
                      try simp only [Act.put]
                      try simp only [List.setIfInBounds_toArray]
                      try simp only [List.set_cons_succ]
                      try simp only [List.set_cons_zero]
                      refine wpT 15 ⟨some 77, .fieldAddr 81 (.tmp 7) 1, 0, "history.go:89", #[⟨14, .guard⟩], some (14, false)⟩ ?_ (.inl ⟨by rfl, ?_⟩) ?_
                      rotate_left
                      · (intro W hSw; (try dsimp only at hSw); go_simp; try (with_reducible rfl))
                      try simp only [Act.put]
                      try simp only [List.setIfInBounds_toArray]
                      try simp only [List.set_cons_succ]
                      try simp only [List.set_cons_zero]
                      refine wpT 16 ⟨some 78, .load 72 (.tmp 77), 72, "history.go:89", #[⟨15, .data⟩, ⟨14, .guard⟩], some (14, false)⟩ ?_ (.inl ⟨by rfl, ?_⟩) ?_
                      rotate_left
                      · (intro W hSw; (try dsimp only at hSw); go_simp; try (with_reducible rfl))
                      try simp only [Act.put]
                      try simp only [List.setIfInBounds_toArray]
                      try simp only [List.set_cons_succ]
                      try simp only [List.set_cons_zero]
                      refine wpT 17 ⟨some 79, .call { callee := .builtin .len, args := #[.tmp 78], argTypes := #[72] }, 3, "history.go:89", #[⟨16, .data⟩, ⟨14, .guard⟩], some (14, false)⟩ ?_ (.inl ⟨by rfl, ?_⟩) ?_
                      rotate_left
                      · (intro W hSw; (try dsimp only at hSw); go_simp; try (with_reducible rfl))
                      try simp only [Act.put]
                      try simp only [List.setIfInBounds_toArray]
                      try simp only [List.set_cons_succ]
                      try simp only [List.set_cons_zero]
                      refine wpT 18 ⟨some 80, .binOp .eql 3 (.tmp 79) (.const (.int .i64 0)) 3, 4, "history.go:89", #[⟨17, .data⟩, ⟨14, .guard⟩], some (14, false)⟩ ?_ (.inl ⟨by rfl, ?_⟩) ?_
                      rotate_left
                      · (intro W hSw; (try dsimp only at hSw); go_simp; try (with_reducible rfl))
                      try simp only [Act.put]
                      try simp only [List.setIfInBounds_toArray]
                      try simp only [List.set_cons_succ]
                      try simp only [List.set_cons_zero]
                      refine wpT 19 ⟨some 81, .pick (.tmp 76) (.const (.bool true)) (.tmp 80), 4, "history.go:89", #[⟨14, .data⟩, ⟨18, .data⟩], none⟩ ?_ (.inl ⟨by rfl, ?_⟩) ?_
                      rotate_left
                      · (intro W hSw; (try dsimp only at hSw); go_simp; try (with_reducible rfl))
                      try simp only [Act.put]
                      try simp only [List.setIfInBounds_toArray]
                      try simp only [List.set_cons_succ]
                      try simp only [List.set_cons_zero]
                      refine wpT 20 ⟨some 82, .move (.tmp 81), 4, "history.go:89", #[⟨19, .data⟩, ⟨14, .chain⟩], none⟩ ?_ (.inl ⟨by rfl, ?_⟩) ?_
                      rotate_left
                      · (intro W hSw; (try dsimp only at hSw); go_simp; try (with_reducible rfl))
                      try simp only [Act.put]
                      try simp only [List.setIfInBounds_toArray]
                      try simp only [List.set_cons_succ]
                      try simp only [List.set_cons_zero]
                      refine wpT 21 ⟨some 83, .fieldAddr 81 (.tmp 7) 1, 0, "history.go:89", #[⟨20, .guard⟩], some (20, false)⟩ ?_ (.inl ⟨by rfl, ?_⟩) ?_
                      rotate_left
                      · (intro W hSw; (try dsimp only at hSw); go_simp; try (with_reducible rfl))
                      try simp only [Act.put]
                      try simp only [List.setIfInBounds_toArray]
                      try simp only [List.set_cons_succ]
                      try simp only [List.set_cons_zero]
                      refine wpT 22 ⟨some 84, .load 72 (.tmp 83), 72, "history.go:89", #[⟨21, .data⟩, ⟨20, .guard⟩], some (20, false)⟩ ?_ (.inl ⟨by rfl, ?_⟩) ?_
                      rotate_left
                      · (intro W hSw; (try dsimp only at hSw); go_simp; try (with_reducible rfl))
                      try simp only [Act.put]
                      try simp only [List.setIfInBounds_toArray]
                      try simp only [List.set_cons_succ]
                      try simp only [List.set_cons_zero]
                      refine wpT 23 ⟨some 85, .move (.tmp 5), 89, "history.go:89", #[⟨20, .guard⟩], some (20, false)⟩ ?_ (.inl ⟨by rfl, ?_⟩) ?_
                      rotate_left
                      · (intro W hSw; (try dsimp only at hSw); go_simp; try (with_reducible rfl))
                      try simp only [Act.put]
                      try simp only [List.setIfInBounds_toArray]
                      try simp only [List.set_cons_succ]
                      try simp only [List.set_cons_zero]
                      refine wpT 24 ⟨some 86, .fieldAddr 81 (.tmp 7) 0, 0, "history.go:89", #[⟨20, .guard⟩], some (20, false)⟩ ?_ (.inl ⟨by rfl, ?_⟩) ?_
                      rotate_left
                      · (intro W hSw; (try dsimp only at hSw); go_simp; try (with_reducible rfl))
                      try simp only [Act.put]
                      try simp only [List.setIfInBounds_toArray]
                      try simp only [List.set_cons_succ]
                      try simp only [List.set_cons_zero]
                      refine wpT 25 ⟨some 87, .load 3 (.tmp 86), 3, "history.go:89", #[⟨24, .data⟩, ⟨20, .guard⟩], some (20, false)⟩ ?_ (.inl ⟨by rfl, ?_⟩) ?_
                      rotate_left
                      · (intro W hSw; (try dsimp only at hSw); go_simp; try (with_reducible rfl))
                      try simp only [Act.put]
                      try simp only [List.setIfInBounds_toArray]
                      try simp only [List.set_cons_succ]
                      try simp only [List.set_cons_zero]
                      refine wpAnyH_ready (rs := [26]) (by kernel_rfl) (by simp) ?_
                      refine AllReadyH.cons (o := ⟨some 88, .lookup 89 (.tmp 85) (.tmp 87) false, 72, "history.go:89", #[⟨23, .data⟩, ⟨25, .data⟩, ⟨20, .guard⟩], some (20, false)⟩) rfl (fun K hK => ?_) AllReadyH.nil
                      go_simp
                      refine hK.out _ _ ?_ (fun hHeld => ?_)
                      · (first | exact ⟨UA.out.drew, g1, k0, k1, p0⟩ | exact ⟨hHeld.1.trans hu3, hu3.keepNo hHeld.2.1, hu3.keepNo hHeld.2.2.1, hu3.keepNo hHeld.2.2.2.1, hu3.keepNo hHeld.2.2.2.2⟩)
                      clear hK K
                      try simp only [Act.put]
                      try simp only [List.setIfInBounds_toArray]
                      try simp only [List.set_cons_succ]
                      try simp only [List.set_cons_zero]
                      refine wpAnyH_ready (rs := [27]) (by kernel_rfl) (by simp) ?_
                      refine AllReadyH.cons (o := ⟨some 89, .call { callee := .value (.func 143), args := #[.tmp 84, .tmp 88], argTypes := #[72, 72] }, 4, "history.go:89", #[⟨22, .data⟩, ⟨26, .data⟩, ⟨20, .chain⟩, ⟨20, .guard⟩], some (20, false)⟩) rfl (fun K hK => ?_) AllReadyH.nil
                      go_simp
                      (first
    | (go_at_call 143; refine (opermV (v := true) (XL0.out.1.upd (U1.out.trans hHeld.1) (fun _ _ => id)) (hIw.out.upd hHeld.1 (fun _ _ => id)) XL0.out.2.2.1 hwl.out hN.out).mono ?_; rintro e w3 ⟨rfl, hu3⟩))
                      try (go_wp2_with fail)
                      refine hK.out _ _ ?_ (fun hHeld => ?_)
                      · (first | exact ⟨UA.out.drew, g1, k0, k1, p0⟩ | exact ⟨hHeld.1.trans hu3, hu3.keepNo hHeld.2.1, hu3.keepNo hHeld.2.2.1, hu3.keepNo hHeld.2.2.2.1, hu3.keepNo hHeld.2.2.2.2⟩)
                      clear hK K
                      try simp only [Act.put]
                      try simp only [List.setIfInBounds_toArray]
                      try simp only [List.set_cons_succ]
                      try simp only [List.set_cons_zero]
                      refine wpT 28 ⟨some 90, .unOp .not 4 (.tmp 89), 4, "history.go:89", #[⟨27, .data⟩, ⟨20, .guard⟩], some (20, false)⟩ ?_ (.inl ⟨by rfl, ?_⟩) ?_
                      rotate_left
                      · (intro W hSw; (try dsimp only at hSw); go_simp; try (with_reducible rfl))
                      try simp only [Act.put]
                      try simp only [List.setIfInBounds_toArray]
                      try simp only [List.set_cons_succ]
                      try simp only [List.set_cons_zero]
                      refine wpT 29 ⟨some 91, .pick (.tmp 82) (.const (.bool true)) (.tmp 90), 4, "history.go:89", #[⟨20, .data⟩, ⟨28, .data⟩], none⟩ ?_ (.inl ⟨by rfl, ?_⟩) ?_
                      rotate_left
                      · (intro W hSw; (try dsimp only at hSw); go_simp; try (with_reducible rfl))
                      try simp only [Act.put]
                      try simp only [List.setIfInBounds_toArray]
                      try simp only [List.set_cons_succ]
                      try simp only [List.set_cons_zero]
                      refine wpAnyH_done (by kernel_rfl) (NoPanic.normal ?_) _
                      have HU := Lib.hid hHeld.1
                      clear hHeld
                      go_wp2
                      go_roundg (gk - 1)
                      case measure => omega
                      case rel => exact ⟨k + 1, by omega, by go_num, Lib.hid HA.out, HU.out⟩
            · obtain rfl : k = ords.length := by omega
              have hv := Lib.hid (right_yes (h := ⟨txs, ords, A, c, B, d⟩) (by show txs.length ≤ 4096; omega) hall1.out hlb.out hall2.out)
              go_wp2
              go_ret
              exact ⟨by rw [hv.out]; rfl, U1.out.trans hu2⟩
        · have hne : ((m.length : Int) != (ords.length : Int)) = true := by rw [hml, bne_iff_ne]; omega
          have hf := Lib.hid (show rightB ⟨txs, ords, A, c, B, d⟩ = false from right_len (by show ((wkeys txs []).length == ords.length) = false; rw [beq_eq_false_iff_ne]; exact hle))
          clear hml hle
          go_wp2
          go_ret
          exact ⟨by rw [hf.out]; rfl, U1.out⟩
end Go.Proofs.YtaicemjckagcaaaGreat
