/- Whether a history is right, by the document. -/
import Derived.Test.YtaicemjckagcaaaGreatMbc
namespace Go.Proofs.YtaicemjckagcaaaGreat
set_option linter.unusedVariables false
open Go.RowKit
/-- is a transaction right where it stands -/
def aheadR (txs : List HTx) : Nat → Int → Bool
  | 0, _ => true
  | j + 1, id => match txs[j]? with | some u => decide (u.id < id) | none => true
def txR (txs : List HTx) (k : Nat) (t : HTx) : Bool := aheadR txs k t.id && txErr t.id t.ops == 0 && (needsS t.id [] t.ops).all (hasR txs)
def txsR (txs : List HTx) : List HTx → Nat → Bool
  | [], _ => true
  | t :: l, k => txR txs k t && txsR txs l (k + 1)
theorem txsR_cons (txs : List HTx) (t : HTx) (l : List HTx) (k : Nat) : txsR txs (t :: l) k = (txR txs k t && txsR txs l (k + 1)) := rfl
def ordsR (txs : List HTx) (keys : List Int) : List HOrd → Nat → Bool
  | [], _ => true
  | o :: l, k => (o.key == keys.getD k 0 && (o.txs.length == (wrS o.key [] txs).length && o.txs.all fun x => o.txs.count x == (wrS o.key [] txs).count x)) && ordsR txs keys l (k + 1)
theorem ordsR_cons (txs : List HTx) (keys : List Int) (o : HOrd) (l : List HOrd) (k : Nat) : ordsR txs keys (o :: l) k = ((o.key == keys.getD k 0 && (o.txs.length == (wrS o.key [] txs).length && o.txs.all fun x => o.txs.count x == (wrS o.key [] txs).count x)) && ordsR txs keys l (k + 1)) := rfl
/-- is a history right, by the document's own steps -/
def rightS (txs : List HTx) (ords : List HOrd) : Bool :=
  decide (txs.length ≤ 4096) && (txsR txs txs 0 && (ords.length == (keysHG [] txs).length && ordsR txs (keysHG [] txs) ords 0))
theorem ahead_at {txs : List HTx} {k : Nat} {id : Int} (hk : ¬ k = 0) (hp : k - 1 < txs.length) : aheadR txs k id = decide ((txs[k - 1]'hp).id < id) := by
  obtain ⟨j, rfl⟩ : ∃ j, k = j + 1 := ⟨k - 1, by omega⟩
  simp only [Nat.add_sub_cancel]
  show (match txs[j]? with | some u => decide (u.id < id) | none => true) = _
  rw [List.getElem?_eq_getElem (by simpa using hp)]
theorem txsR_err (txs : List HTx) : ∀ (l : List HTx) (k : Nat), txsR txs l k = true → ∀ t ∈ l, txErr t.id t.ops = 0
  | [], _, _, t, ht => by cases ht
  | u :: l, k, h, t, ht => by
    rw [txsR_cons, Bool.and_eq_true] at h
    rcases List.mem_cons.1 ht with rfl | ht
    · have := h.1
      unfold txR at this
      simp only [Bool.and_eq_true, beq_iff_eq] at this
      exact this.1.2
    · exact txsR_err txs l (k + 1) h.2 t ht
theorem txErr_len {id : Int} {l : List HOp} (h : txErr id l = 0) : l.length ≤ 4095 := by
  unfold txErr at h
  split at h
  · cases h
  · split at h
    · cases h
    · omega
theorem wrS_len (key : Int) : ∀ (l : List HTx) (acc : List Int), (wrS key acc l).length ≤ acc.length + l.length
  | [], acc => by simp [wrS]
  | t :: l, acc => by
    rw [wrS_cons]
    have := wrS_len key l (if t.done && decide (0 < writesN t.ops key) then acc ++ [t.id] else acc)
    have h2 : (if t.done && decide (0 < writesN t.ops key) then acc ++ [t.id] else acc).length ≤ acc.length + 1 := by split <;> simp
    rw [List.length_cons]; omega
theorem rpermV {F G : Nat → Prop} {w : World} {A B : Option Addr} {c d : Nat} {l m : List Int} {v : Bool} (h : Ints F w A l) (hm : Ints G w B m) (hl : l.length ≤ 17592186044415) (hl2 : m.length ≤ 17592186044415) (hv : (l.length == m.length && l.all fun x => l.count x == m.count x) = v) :
    Calls Tryz.prog 85 #[.slice A l.length c, .slice B m.length d] w fun e w' => e = .returned (.bool v) ∧ Upd No w w' := by subst hv; exact rperm F G w A B c d l m h hm hl hl2
section
variable {F : Nat → Prop} {w : World} {txs : List HTx} {ords : List HOrd} {A : Option Addr} {c : Nat} {B : Option Addr} {d : Nat} {i0 : Int} {dn : Bool} {A1 : Option Addr} {c1 : Nat} {l : List HOp}
theorem rneedsV {v : Bool} (H : Hist.lies F w ⟨txs, ords, A, c, B, d⟩) (h : HOps F w A1 l) (hl : l.length ≤ 100000) (hv : (needsS i0 [] l).all (hasR txs) = v) :
    Calls Tryz.prog 83 #[.agg #[.slice A txs.length c, .slice B ords.length d], .agg #[.int .i64 i0, .bool dn, .slice A1 l.length c1]] w fun e w' => e = .returned (.bool v) ∧ Upd No w w' := by subst hv; exact rneeds F w txs ords A c B d i0 dn A1 c1 l H h hl
theorem rRight10V {v : Int} (h : HOps F w A1 l) (hlc : l.length ≤ c1) (hl : fewOps l.length) (hv : txErr i0 l = v) :
    Calls Tryz.prog 21 #[.agg #[.int .i64 i0, .bool dn, .slice A1 l.length c1]] w fun e w' => e = .returned (.int .i64 v) ∧ Upd No w w' := by subst hv; exact rRight10 F w i0 dn A1 c1 l h hlc hl
end
set_option maxRecDepth 100000 in
set_option maxHeartbeats 4000000 in
theorem rRight (F : Nat → Prop) (w : World) (txs : List HTx) (ords : List HOrd) (A : Option Addr) (c : Nat) (B : Option Addr) (d : Nat) (H : Hist.lies F w ⟨txs, ords, A, c, B, d⟩) :
    Calls Tryz.prog 30 #[.agg #[.slice A txs.length c, .slice B ords.length d]] w fun e w' => e = .returned (.bool (rightS txs ords)) ∧ Upd No w w' := by
  have hf := H.few
  have hfo := H.fewo
  simp only at hf hfo
  have u0 := (Upd.refl No w).alloc (.cells #[.slice A txs.length c, .slice B ords.length d] 25)
  have bH := Lib.hid (Blk.new w 25 [.slice A txs.length c, .slice B ords.length d])
  have U0 := Lib.hid u0
  clear u0
  by_cases hmany : 4096 < txs.length
  · have HV := Lib.hid (show rightS txs ords = false by unfold rightS; rw [decide_eq_false (by omega)]; rfl)
    go_enter Tryz.func30, Tryz.ntmps30
    go_wp2
    go_ret
    exact ⟨by rw [HV.out]; rfl, U0.out⟩
  · have hv0 : rightS txs ords = (txsR txs txs 0 && (ords.length == (keysHG [] txs).length && ordsR txs (keysHG [] txs) ords 0)) := by unfold rightS; rw [decide_eq_true (by omega)]; rfl
    have HV := Lib.hid hv0
    clear hv0
    go_enter Tryz.func30, Tryz.ntmps30
    go_wp2
    go_loopg [15] txs.length (fun gk i wr => ∃ (k : Nat), k + gk = txs.length ∧ i = .int .i64 k ∧ Hid (txsR txs (txs.drop k) k = txsR txs txs 0) ∧ Upd No (w.alloc (.cells #[.slice A txs.length c, .slice B ords.length d] 25)) wr)
    case atStart => exact ⟨0, by omega, rfl, Lib.hid rfl, Upd.refl _ _⟩
    case round =>
      obtain ⟨k, hgk, rfl, hs, hu1⟩ := hrel
      by_cases hlt : k < txs.length
      · have hu := U0.out.trans hu1
        obtain ⟨ad, hAd, q0, q1, q2⟩ := (H.upd hu (fun _ _ => id)).tx_at hlt
        have hlo := H.tx txs[k] (List.getElem_mem hlt)
        simp only at hAd q0 q1 q2
        obtain ⟨x, hx⟩ : ∃ x, txs[k] = x := ⟨_, rfl⟩
        rw [hx] at q0 q1 q2 hlo
        obtain ⟨xi, xd, xo, xA, xc⟩ := x
        simp only at q0 q1 q2
        subst hAd
        have X := Lib.hid (show txs.drop k = ⟨xi, xd, xo, xA, xc⟩ :: txs.drop (k + 1) by rw [← hx]; exact List.drop_eq_getElem_cons hlt)
        have HL := Lib.hid hlo
        have XM := Lib.hid (show (⟨xi, xd, xo, xA, xc⟩ : HTx) ∈ txs by rw [← hx]; exact List.getElem_mem hlt)
        have b1 : (0 : Int) ≤ (k : Int) := Int.natCast_nonneg _
        have b2 : (k : Int) < (txs.length : Int) := by omega
        have uA := hu.alloc (.cells #[.int .i64 xi, .bool xd, .slice xA xo.length xc] 47)
        clear hx hlo
        have hst := hs.out
        rw [X.out, txsR_cons] at hst
        have HST := Lib.hid hst
        have UA := Lib.hid (hu1.alloc (.cells #[.int .i64 xi, .bool xd, .slice xA xo.length xc] 47))
        have BT := Lib.hid (Blk.new wr 47 [.int .i64 xi, .bool xd, .slice xA xo.length xc])
        have e0 : ∀ W, Upd No (wr.alloc (.cells #[.int .i64 xi, .bool xd, .slice xA xo.length xc] 47)) W → W.cell? ⟨wr.heap.size, 0, none⟩ = some (.int .i64 xi) := fun W hW => (BT.out.upd hW id).cell 0
        have e1 : ∀ W, Upd No (wr.alloc (.cells #[.int .i64 xi, .bool xd, .slice xA xo.length xc] 47)) W → W.cell? ⟨wr.heap.size, 1, none⟩ = some (.bool xd) := fun W hW => (BT.out.upd hW id).cell 1
        have e2 : ∀ W, Upd No (wr.alloc (.cells #[.int .i64 xi, .bool xd, .slice xA xo.length xc] 47)) W → W.cell? ⟨wr.heap.size, 2, none⟩ = some (.slice xA xo.length xc) := fun W hW => (BT.out.upd hW id).cell 2
        have g0 : ∀ W, Upd No (wr.alloc (.cells #[.int .i64 xi, .bool xd, .slice xA xo.length xc] 47)) W → W.cell? ⟨w.heap.size, 0, none⟩ = some (.slice (some ad) txs.length c) := fun W hW => (bH.out.upd (UA.out.trans hW) id).cell 0
        have g1 : ∀ W, Upd No (wr.alloc (.cells #[.int .i64 xi, .bool xd, .slice xA xo.length xc] 47)) W → W.cell? ⟨w.heap.size, 1, none⟩ = some (.slice B ords.length d) := fun W hW => (bH.out.upd (UA.out.trans hW) id).cell 1
        obtain ⟨E, hE⟩ : ∃ E, txErr xi xo = E := ⟨_, rfl⟩
        obtain ⟨N, hN⟩ : ∃ N, (needsS xi [] xo).all (hasR txs) = N := ⟨_, rfl⟩
        have HRt := Lib.hid fun W (hW : Upd No (wr.alloc (.cells #[.int .i64 xi, .bool xd, .slice xA xo.length xc] 47)) W) => rRight10V (F := F) (w := W) (i0 := xi) (dn := xd) (A1 := xA) (c1 := xc) (HOps.upd HL.out.1 (U0.out.trans (UA.out.trans hW)) (fun _ _ => id)) HL.out.2.1 HL.out.2.2.1 hE
        have hxl : E = 0 → xo.length ≤ 100000 := fun e => by have := txErr_len (hE.trans e); omega
        have HNd := Lib.hid fun (e : E = 0) W (hW : Upd No (wr.alloc (.cells #[.int .i64 xi, .bool xd, .slice xA xo.length xc] 47)) W) => rneedsV (F := F) (w := W) (i0 := xi) (dn := xd) (A1 := xA) (c1 := xc) (H.upd (U0.out.trans (UA.out.trans hW)) (fun _ _ => id)) (HOps.upd HL.out.1 (U0.out.trans (UA.out.trans hW)) (fun _ _ => id)) (hxl e) hN
        have HTx := Lib.hid (show txR txs k ⟨xi, xd, xo, xA, xc⟩ = (aheadR txs k xi && E == 0 && N) by unfold txR; simp only [hE, hN])
        clear hE hN hxl
        by_cases hk0 : k = 0
        · have hkk : decide ((0 : Int) < (k : Int)) = false := decide_eq_false (by omega)
          have hkn : decide (0 < k) = false := decide_eq_false (by omega)
          have HA := Lib.hid (show txR txs k ⟨xi, xd, xo, xA, xc⟩ = (E == 0 && N) by rw [HTx.out, hk0]; rfl)
          clear hk0
          by_cases hE1 : E = 0
          · have HN2 := Lib.hid (HNd.out hE1)
            subst hE1
            cases N
            · have HS := Lib.hid (show rightS txs ords = false by rw [HV.out, ← HST.out, HA.out]; rfl)
              go_wp2
              refine wp_region_noPanic ?_
              refine wp_region_held_drew (S := (fun w' => Upd No (wr.alloc (.cells #[.int .i64 xi, .bool xd, .slice xA xo.length xc] 47)) w')) (by kernel_rfl) ?_ (fun hHeld => ?_)
              · (first | exact (Upd.refl No _).drew | exact hHeld.trans hu3)
              refine wpT 0 ⟨some 20, .move (.tmp 3), 3, "ref.go:93", #[], none⟩ ?_ (.inl ⟨by rfl, ?_⟩) ?_
              rotate_left
              · (intro W hSw; (try dsimp only at hSw); go_simp; try (with_reducible rfl))
              try simp only [Act.put]
              try simp only [List.setIfInBounds_toArray]
              try simp only [List.set_cons_succ]
              try simp only [List.set_cons_zero]
              refine wpT 1 ⟨some 21, .binOp .gtr 3 (.tmp 20) (.const (.int .i64 0)) 3, 4, "ref.go:93", #[⟨0, .data⟩], none⟩ ?_ (.inl ⟨by rfl, ?_⟩) ?_
              rotate_left
              · (intro W hSw; (try dsimp only at hSw); go_simp; try (with_reducible rfl))
              try simp only [Act.put]
              try simp only [List.setIfInBounds_toArray]
              try simp only [List.set_cons_succ]
              try simp only [List.set_cons_zero]
              refine wpT 2 ⟨some 22, .move (.tmp 21), 4, "ref.go:93", #[⟨1, .data⟩], none⟩ ?_ (.inl ⟨by rfl, ?_⟩) ?_
              rotate_left
              · (intro W hSw; (try dsimp only at hSw); go_simp; try (with_reducible rfl))
              try simp only [Act.put]
              try simp only [List.setIfInBounds_toArray]
              try simp only [List.set_cons_succ]
              try simp only [List.set_cons_zero]
              refine wpT 3 ⟨some 23, .fieldAddr 25 (.tmp 1) 0, 0, "ref.go:93", #[⟨2, .guard⟩], some (2, true)⟩ undef (.inr ⟨by rfl, rfl⟩) ?_
              try simp only [Act.put]
              try simp only [List.setIfInBounds_toArray]
              try simp only [List.set_cons_succ]
              try simp only [List.set_cons_zero]
              refine wpT 4 ⟨some 24, .load 22 (.tmp 23), 22, "ref.go:93", #[⟨3, .data⟩, ⟨2, .guard⟩], some (2, true)⟩ undef (.inr ⟨by rfl, rfl⟩) ?_
              try simp only [Act.put]
              try simp only [List.setIfInBounds_toArray]
              try simp only [List.set_cons_succ]
              try simp only [List.set_cons_zero]
              refine wpT 5 ⟨some 25, .move (.tmp 3), 3, "ref.go:93", #[⟨2, .guard⟩], some (2, true)⟩ undef (.inr ⟨by rfl, rfl⟩) ?_
              try simp only [Act.put]
              try simp only [List.setIfInBounds_toArray]
              try simp only [List.set_cons_succ]
              try simp only [List.set_cons_zero]
              refine wpT 6 ⟨some 26, .binOp .sub 3 (.tmp 25) (.const (.int .i64 1)) 3, 3, "ref.go:93", #[⟨5, .data⟩, ⟨2, .guard⟩], some (2, true)⟩ undef (.inr ⟨by rfl, rfl⟩) ?_
              try simp only [Act.put]
              try simp only [List.setIfInBounds_toArray]
              try simp only [List.set_cons_succ]
              try simp only [List.set_cons_zero]
              refine wpT 7 ⟨some 27, .indexAddr 22 (.tmp 24) (.tmp 26), 0, "ref.go:93", #[⟨4, .data⟩, ⟨6, .data⟩, ⟨2, .guard⟩], some (2, true)⟩ undef (.inr ⟨by rfl, rfl⟩) ?_
              try simp only [Act.put]
              try simp only [List.setIfInBounds_toArray]
              try simp only [List.set_cons_succ]
              try simp only [List.set_cons_zero]
              refine wpT 8 ⟨some 28, .fieldAddr 47 (.tmp 27) 0, 0, "ref.go:93", #[⟨7, .data⟩, ⟨2, .guard⟩], some (2, true)⟩ undef (.inr ⟨by rfl, rfl⟩) ?_
              try simp only [Act.put]
              try simp only [List.setIfInBounds_toArray]
              try simp only [List.set_cons_succ]
              try simp only [List.set_cons_zero]
              refine wpT 9 ⟨some 29, .load 3 (.tmp 28), 3, "ref.go:93", #[⟨8, .data⟩, ⟨2, .guard⟩], some (2, true)⟩ undef (.inr ⟨by rfl, rfl⟩) ?_
              try simp only [Act.put]
              try simp only [List.setIfInBounds_toArray]
              try simp only [List.set_cons_succ]
              try simp only [List.set_cons_zero]
              refine wpT 10 ⟨some 30, .fieldAddr 47 (.tmp 4) 0, 0, "ref.go:93", #[⟨2, .guard⟩], some (2, true)⟩ undef (.inr ⟨by rfl, rfl⟩) ?_
              try simp only [Act.put]
              try simp only [List.setIfInBounds_toArray]
              try simp only [List.set_cons_succ]
              try simp only [List.set_cons_zero]
              refine wpT 11 ⟨some 31, .load 3 (.tmp 30), 3, "ref.go:93", #[⟨10, .data⟩, ⟨2, .guard⟩], some (2, true)⟩ undef (.inr ⟨by rfl, rfl⟩) ?_
              try simp only [Act.put]
              try simp only [List.setIfInBounds_toArray]
              try simp only [List.set_cons_succ]
              try simp only [List.set_cons_zero]
              refine wpT 12 ⟨some 32, .binOp .geq 3 (.tmp 29) (.tmp 31) 3, 4, "ref.go:93", #[⟨9, .data⟩, ⟨11, .data⟩, ⟨2, .guard⟩], some (2, true)⟩ undef (.inr ⟨by rfl, rfl⟩) ?_
              try simp only [Act.put]
              try simp only [List.setIfInBounds_toArray]
              try simp only [List.set_cons_succ]
              try simp only [List.set_cons_zero]
              refine wpT 13 ⟨some 33, .pick (.tmp 22) (.tmp 32) (.const (.bool false)), 4, "ref.go:93", #[⟨2, .data⟩, ⟨12, .data⟩], none⟩ ?_ (.inl ⟨by rfl, ?_⟩) ?_
              rotate_left
              · (intro W hSw; (try dsimp only at hSw); go_simp; try (with_reducible rfl))
              try simp only [Act.put]
              try simp only [List.setIfInBounds_toArray]
              try simp only [List.set_cons_succ]
              try simp only [List.set_cons_zero]
              refine wpT 14 ⟨some 34, .move (.tmp 33), 4, "ref.go:93", #[⟨13, .data⟩, ⟨2, .chain⟩], none⟩ ?_ (.inl ⟨by rfl, ?_⟩) ?_
              rotate_left
              · (intro W hSw; (try dsimp only at hSw); go_simp; try (with_reducible rfl))
              try simp only [Act.put]
              try simp only [List.setIfInBounds_toArray]
              try simp only [List.set_cons_succ]
              try simp only [List.set_cons_zero]
              refine wpT 15 ⟨some 35, .load 47 (.tmp 4), 47, "ref.go:93", #[⟨14, .guard⟩], some (14, false)⟩ ?_ (.inl ⟨by rfl, ?_⟩) ?_
              rotate_left
              · (intro W hSw; (try dsimp only at hSw); go_simp; try (with_reducible rfl))
              try simp only [Act.put]
              try simp only [List.setIfInBounds_toArray]
              try simp only [List.set_cons_succ]
              try simp only [List.set_cons_zero]
              refine wpAnyH_ready (rs := [16]) (by kernel_rfl) (by simp) ?_
              refine AllReadyH.cons (o := ⟨some 36, .call { callee := .value (.func 21), args := #[.tmp 35], argTypes := #[47] }, 50, "ref.go:93", #[⟨15, .data⟩, ⟨14, .chain⟩, ⟨14, .guard⟩], some (14, false)⟩) rfl (fun K hK => ?_) AllReadyH.nil
              go_simp
              (first
    | (go_at_call 21; refine (HRt.out _ hHeld).mono ?_; rintro e w3 ⟨rfl, hu3⟩))
              try (go_wp2_with fail)
              refine hK.out _ _ ?_ (fun hHeld => ?_)
              · (first | exact (Upd.refl No _).drew | exact hHeld.trans hu3)
              clear hK K
              try simp only [Act.put]
              try simp only [List.setIfInBounds_toArray]
              try simp only [List.set_cons_succ]
              try simp only [List.set_cons_zero]
              refine wpT 17 ⟨some 37, .binOp .neq 50 (.tmp 36) (.const (.int .i64 0)) 50, 4, "ref.go:93", #[⟨16, .data⟩, ⟨14, .guard⟩], some (14, false)⟩ ?_ (.inl ⟨by rfl, ?_⟩) ?_
              rotate_left
              · (intro W hSw; (try dsimp only at hSw); go_simp; try (with_reducible rfl))
              try simp only [Act.put]
              try simp only [List.setIfInBounds_toArray]
              try simp only [List.set_cons_succ]
              try simp only [List.set_cons_zero]
              refine wpT 18 ⟨some 38, .pick (.tmp 34) (.const (.bool true)) (.tmp 37), 4, "ref.go:93", #[⟨14, .data⟩, ⟨17, .data⟩], none⟩ ?_ (.inl ⟨by rfl, ?_⟩) ?_
              rotate_left
              · (intro W hSw; (try dsimp only at hSw); go_simp; try (with_reducible rfl))
              try simp only [Act.put]
              try simp only [List.setIfInBounds_toArray]
              try simp only [List.set_cons_succ]
              try simp only [List.set_cons_zero]
              refine wpT 19 ⟨some 39, .move (.tmp 38), 4, "ref.go:93", #[⟨18, .data⟩, ⟨16, .chain⟩], none⟩ ?_ (.inl ⟨by rfl, ?_⟩) ?_
              rotate_left
              · (intro W hSw; (try dsimp only at hSw); go_simp; try (with_reducible rfl))
              try simp only [Act.put]
              try simp only [List.setIfInBounds_toArray]
              try simp only [List.set_cons_succ]
              try simp only [List.set_cons_zero]
              refine wpT 20 ⟨some 40, .load 25 (.tmp 1), 25, "ref.go:93", #[⟨19, .guard⟩], some (19, false)⟩ ?_ (.inl ⟨by rfl, ?_⟩) ?_
              rotate_left
              · (intro W hSw; (try dsimp only at hSw); go_simp; try (with_reducible rfl))
              try simp only [Act.put]
              try simp only [List.setIfInBounds_toArray]
              try simp only [List.set_cons_succ]
              try simp only [List.set_cons_zero]
              refine wpT 21 ⟨some 41, .load 47 (.tmp 4), 47, "ref.go:93", #[⟨19, .guard⟩], some (19, false)⟩ ?_ (.inl ⟨by rfl, ?_⟩) ?_
              rotate_left
              · (intro W hSw; (try dsimp only at hSw); go_simp; try (with_reducible rfl))
              try simp only [Act.put]
              try simp only [List.setIfInBounds_toArray]
              try simp only [List.set_cons_succ]
              try simp only [List.set_cons_zero]
              refine wpAnyH_ready (rs := [22]) (by kernel_rfl) (by simp) ?_
              refine AllReadyH.cons (o := ⟨some 42, .call { callee := .value (.func 83), args := #[.tmp 40, .tmp 41], argTypes := #[25, 47] }, 4, "ref.go:93", #[⟨20, .data⟩, ⟨21, .data⟩, ⟨19, .chain⟩, ⟨19, .guard⟩], some (19, false)⟩) rfl (fun K hK => ?_) AllReadyH.nil
              go_simp
              (first
    | (go_at_call 83; refine (HN2.out _ hHeld).mono ?_; rintro e w3 ⟨rfl, hu3⟩))
              try (go_wp2_with fail)
              refine hK.out _ _ ?_ (fun hHeld => ?_)
              · (first | exact (Upd.refl No _).drew | exact hHeld.trans hu3)
              clear hK K
              try simp only [Act.put]
              try simp only [List.setIfInBounds_toArray]
              try simp only [List.set_cons_succ]
              try simp only [List.set_cons_zero]
              refine wpT 23 ⟨some 43, .unOp .not 4 (.tmp 42), 4, "ref.go:93", #[⟨22, .data⟩, ⟨19, .guard⟩], some (19, false)⟩ ?_ (.inl ⟨by rfl, ?_⟩) ?_
              rotate_left
              · (intro W hSw; (try dsimp only at hSw); go_simp; try (with_reducible rfl))
              try simp only [Act.put]
              try simp only [List.setIfInBounds_toArray]
              try simp only [List.set_cons_succ]
              try simp only [List.set_cons_zero]
              refine wpT 24 ⟨some 44, .pick (.tmp 39) (.const (.bool true)) (.tmp 43), 4, "ref.go:93", #[⟨19, .data⟩, ⟨23, .data⟩], none⟩ ?_ (.inl ⟨by rfl, ?_⟩) ?_
              rotate_left
              · (intro W hSw; (try dsimp only at hSw); go_simp; try (with_reducible rfl))
              try simp only [Act.put]
              try simp only [List.setIfInBounds_toArray]
              try simp only [List.set_cons_succ]
              try simp only [List.set_cons_zero]
              refine wpAnyH_done (by kernel_rfl) (NoPanic.normal ?_) _
              have HU := Lib.hid (UA.out.trans hHeld)
              clear hHeld e0 e1 e2 g0 g1
              go_wp2
              go_ret
              exact ⟨by rw [HS.out]; rfl, U0.out.trans HU.out⟩
            · have HS := Lib.hid (show txsR txs (txs.drop (k + 1)) (k + 1) = txsR txs txs 0 by rw [← HST.out, HA.out]; rfl)
              go_wp2
              refine wp_region_noPanic ?_
              refine wp_region_held_drew (S := (fun w' => Upd No (wr.alloc (.cells #[.int .i64 xi, .bool xd, .slice xA xo.length xc] 47)) w')) (by kernel_rfl) ?_ (fun hHeld => ?_)
              · (first | exact (Upd.refl No _).drew | exact hHeld.trans hu3)
              refine wpT 0 ⟨some 20, .move (.tmp 3), 3, "ref.go:93", #[], none⟩ ?_ (.inl ⟨by rfl, ?_⟩) ?_
              rotate_left
              · (intro W hSw; (try dsimp only at hSw); go_simp; try (with_reducible rfl))
              try simp only [Act.put]
              try simp only [List.setIfInBounds_toArray]
              try simp only [List.set_cons_succ]
              try simp only [List.set_cons_zero]
              refine wpT 1 ⟨some 21, .binOp .gtr 3 (.tmp 20) (.const (.int .i64 0)) 3, 4, "ref.go:93", #[⟨0, .data⟩], none⟩ ?_ (.inl ⟨by rfl, ?_⟩) ?_
              rotate_left
              · (intro W hSw; (try dsimp only at hSw); go_simp; try (with_reducible rfl))
              try simp only [Act.put]
              try simp only [List.setIfInBounds_toArray]
              try simp only [List.set_cons_succ]
              try simp only [List.set_cons_zero]
              refine wpT 2 ⟨some 22, .move (.tmp 21), 4, "ref.go:93", #[⟨1, .data⟩], none⟩ ?_ (.inl ⟨by rfl, ?_⟩) ?_
              rotate_left
              · (intro W hSw; (try dsimp only at hSw); go_simp; try (with_reducible rfl))
              try simp only [Act.put]
              try simp only [List.setIfInBounds_toArray]
              try simp only [List.set_cons_succ]
              try simp only [List.set_cons_zero]
              refine wpT 3 ⟨some 23, .fieldAddr 25 (.tmp 1) 0, 0, "ref.go:93", #[⟨2, .guard⟩], some (2, true)⟩ undef (.inr ⟨by rfl, rfl⟩) ?_
              try simp only [Act.put]
              try simp only [List.setIfInBounds_toArray]
              try simp only [List.set_cons_succ]
              try simp only [List.set_cons_zero]
              refine wpT 4 ⟨some 24, .load 22 (.tmp 23), 22, "ref.go:93", #[⟨3, .data⟩, ⟨2, .guard⟩], some (2, true)⟩ undef (.inr ⟨by rfl, rfl⟩) ?_
              try simp only [Act.put]
              try simp only [List.setIfInBounds_toArray]
              try simp only [List.set_cons_succ]
              try simp only [List.set_cons_zero]
              refine wpT 5 ⟨some 25, .move (.tmp 3), 3, "ref.go:93", #[⟨2, .guard⟩], some (2, true)⟩ undef (.inr ⟨by rfl, rfl⟩) ?_
              try simp only [Act.put]
              try simp only [List.setIfInBounds_toArray]
              try simp only [List.set_cons_succ]
              try simp only [List.set_cons_zero]
              refine wpT 6 ⟨some 26, .binOp .sub 3 (.tmp 25) (.const (.int .i64 1)) 3, 3, "ref.go:93", #[⟨5, .data⟩, ⟨2, .guard⟩], some (2, true)⟩ undef (.inr ⟨by rfl, rfl⟩) ?_
              try simp only [Act.put]
              try simp only [List.setIfInBounds_toArray]
              try simp only [List.set_cons_succ]
              try simp only [List.set_cons_zero]
              refine wpT 7 ⟨some 27, .indexAddr 22 (.tmp 24) (.tmp 26), 0, "ref.go:93", #[⟨4, .data⟩, ⟨6, .data⟩, ⟨2, .guard⟩], some (2, true)⟩ undef (.inr ⟨by rfl, rfl⟩) ?_
              try simp only [Act.put]
              try simp only [List.setIfInBounds_toArray]
              try simp only [List.set_cons_succ]
              try simp only [List.set_cons_zero]
              refine wpT 8 ⟨some 28, .fieldAddr 47 (.tmp 27) 0, 0, "ref.go:93", #[⟨7, .data⟩, ⟨2, .guard⟩], some (2, true)⟩ undef (.inr ⟨by rfl, rfl⟩) ?_
              try simp only [Act.put]
              try simp only [List.setIfInBounds_toArray]
              try simp only [List.set_cons_succ]
              try simp only [List.set_cons_zero]
              refine wpT 9 ⟨some 29, .load 3 (.tmp 28), 3, "ref.go:93", #[⟨8, .data⟩, ⟨2, .guard⟩], some (2, true)⟩ undef (.inr ⟨by rfl, rfl⟩) ?_
              try simp only [Act.put]
              try simp only [List.setIfInBounds_toArray]
              try simp only [List.set_cons_succ]
              try simp only [List.set_cons_zero]
              refine wpT 10 ⟨some 30, .fieldAddr 47 (.tmp 4) 0, 0, "ref.go:93", #[⟨2, .guard⟩], some (2, true)⟩ undef (.inr ⟨by rfl, rfl⟩) ?_
              try simp only [Act.put]
              try simp only [List.setIfInBounds_toArray]
              try simp only [List.set_cons_succ]
              try simp only [List.set_cons_zero]
              refine wpT 11 ⟨some 31, .load 3 (.tmp 30), 3, "ref.go:93", #[⟨10, .data⟩, ⟨2, .guard⟩], some (2, true)⟩ undef (.inr ⟨by rfl, rfl⟩) ?_
              try simp only [Act.put]
              try simp only [List.setIfInBounds_toArray]
              try simp only [List.set_cons_succ]
              try simp only [List.set_cons_zero]
              refine wpT 12 ⟨some 32, .binOp .geq 3 (.tmp 29) (.tmp 31) 3, 4, "ref.go:93", #[⟨9, .data⟩, ⟨11, .data⟩, ⟨2, .guard⟩], some (2, true)⟩ undef (.inr ⟨by rfl, rfl⟩) ?_
              try simp only [Act.put]
              try simp only [List.setIfInBounds_toArray]
              try simp only [List.set_cons_succ]
              try simp only [List.set_cons_zero]
              refine wpT 13 ⟨some 33, .pick (.tmp 22) (.tmp 32) (.const (.bool false)), 4, "ref.go:93", #[⟨2, .data⟩, ⟨12, .data⟩], none⟩ ?_ (.inl ⟨by rfl, ?_⟩) ?_
              rotate_left
              · (intro W hSw; (try dsimp only at hSw); go_simp; try (with_reducible rfl))
              try simp only [Act.put]
              try simp only [List.setIfInBounds_toArray]
              try simp only [List.set_cons_succ]
              try simp only [List.set_cons_zero]
              refine wpT 14 ⟨some 34, .move (.tmp 33), 4, "ref.go:93", #[⟨13, .data⟩, ⟨2, .chain⟩], none⟩ ?_ (.inl ⟨by rfl, ?_⟩) ?_
              rotate_left
              · (intro W hSw; (try dsimp only at hSw); go_simp; try (with_reducible rfl))
              try simp only [Act.put]
              try simp only [List.setIfInBounds_toArray]
              try simp only [List.set_cons_succ]
              try simp only [List.set_cons_zero]
              refine wpT 15 ⟨some 35, .load 47 (.tmp 4), 47, "ref.go:93", #[⟨14, .guard⟩], some (14, false)⟩ ?_ (.inl ⟨by rfl, ?_⟩) ?_
              rotate_left
              · (intro W hSw; (try dsimp only at hSw); go_simp; try (with_reducible rfl))
              try simp only [Act.put]
              try simp only [List.setIfInBounds_toArray]
              try simp only [List.set_cons_succ]
              try simp only [List.set_cons_zero]
              refine wpAnyH_ready (rs := [16]) (by kernel_rfl) (by simp) ?_
              refine AllReadyH.cons (o := ⟨some 36, .call { callee := .value (.func 21), args := #[.tmp 35], argTypes := #[47] }, 50, "ref.go:93", #[⟨15, .data⟩, ⟨14, .chain⟩, ⟨14, .guard⟩], some (14, false)⟩) rfl (fun K hK => ?_) AllReadyH.nil
              go_simp
              (first
    | (go_at_call 21; refine (HRt.out _ hHeld).mono ?_; rintro e w3 ⟨rfl, hu3⟩))
              try (go_wp2_with fail)
              refine hK.out _ _ ?_ (fun hHeld => ?_)
              · (first | exact (Upd.refl No _).drew | exact hHeld.trans hu3)
              clear hK K
              try simp only [Act.put]
              try simp only [List.setIfInBounds_toArray]
              try simp only [List.set_cons_succ]
              try simp only [List.set_cons_zero]
              refine wpT 17 ⟨some 37, .binOp .neq 50 (.tmp 36) (.const (.int .i64 0)) 50, 4, "ref.go:93", #[⟨16, .data⟩, ⟨14, .guard⟩], some (14, false)⟩ ?_ (.inl ⟨by rfl, ?_⟩) ?_
              rotate_left
              · (intro W hSw; (try dsimp only at hSw); go_simp; try (with_reducible rfl))
              try simp only [Act.put]
              try simp only [List.setIfInBounds_toArray]
              try simp only [List.set_cons_succ]
              try simp only [List.set_cons_zero]
              refine wpT 18 ⟨some 38, .pick (.tmp 34) (.const (.bool true)) (.tmp 37), 4, "ref.go:93", #[⟨14, .data⟩, ⟨17, .data⟩], none⟩ ?_ (.inl ⟨by rfl, ?_⟩) ?_
              rotate_left
              · (intro W hSw; (try dsimp only at hSw); go_simp; try (with_reducible rfl))
              try simp only [Act.put]
              try simp only [List.setIfInBounds_toArray]
              try simp only [List.set_cons_succ]
              try simp only [List.set_cons_zero]
              refine wpT 19 ⟨some 39, .move (.tmp 38), 4, "ref.go:93", #[⟨18, .data⟩, ⟨16, .chain⟩], none⟩ ?_ (.inl ⟨by rfl, ?_⟩) ?_
              rotate_left
              · (intro W hSw; (try dsimp only at hSw); go_simp; try (with_reducible rfl))
              try simp only [Act.put]
              try simp only [List.setIfInBounds_toArray]
              try simp only [List.set_cons_succ]
              try simp only [List.set_cons_zero]
              refine wpT 20 ⟨some 40, .load 25 (.tmp 1), 25, "ref.go:93", #[⟨19, .guard⟩], some (19, false)⟩ ?_ (.inl ⟨by rfl, ?_⟩) ?_
              rotate_left
              · (intro W hSw; (try dsimp only at hSw); go_simp; try (with_reducible rfl))
              try simp only [Act.put]
              try simp only [List.setIfInBounds_toArray]
              try simp only [List.set_cons_succ]
              try simp only [List.set_cons_zero]
              refine wpT 21 ⟨some 41, .load 47 (.tmp 4), 47, "ref.go:93", #[⟨19, .guard⟩], some (19, false)⟩ ?_ (.inl ⟨by rfl, ?_⟩) ?_
              rotate_left
              · (intro W hSw; (try dsimp only at hSw); go_simp; try (with_reducible rfl))
              try simp only [Act.put]
              try simp only [List.setIfInBounds_toArray]
              try simp only [List.set_cons_succ]
              try simp only [List.set_cons_zero]
              refine wpAnyH_ready (rs := [22]) (by kernel_rfl) (by simp) ?_
              refine AllReadyH.cons (o := ⟨some 42, .call { callee := .value (.func 83), args := #[.tmp 40, .tmp 41], argTypes := #[25, 47] }, 4, "ref.go:93", #[⟨20, .data⟩, ⟨21, .data⟩, ⟨19, .chain⟩, ⟨19, .guard⟩], some (19, false)⟩) rfl (fun K hK => ?_) AllReadyH.nil
              go_simp
              (first
    | (go_at_call 83; refine (HN2.out _ hHeld).mono ?_; rintro e w3 ⟨rfl, hu3⟩))
              try (go_wp2_with fail)
              refine hK.out _ _ ?_ (fun hHeld => ?_)
              · (first | exact (Upd.refl No _).drew | exact hHeld.trans hu3)
              clear hK K
              try simp only [Act.put]
              try simp only [List.setIfInBounds_toArray]
              try simp only [List.set_cons_succ]
              try simp only [List.set_cons_zero]
              refine wpT 23 ⟨some 43, .unOp .not 4 (.tmp 42), 4, "ref.go:93", #[⟨22, .data⟩, ⟨19, .guard⟩], some (19, false)⟩ ?_ (.inl ⟨by rfl, ?_⟩) ?_
              rotate_left
              · (intro W hSw; (try dsimp only at hSw); go_simp; try (with_reducible rfl))
              try simp only [Act.put]
              try simp only [List.setIfInBounds_toArray]
              try simp only [List.set_cons_succ]
              try simp only [List.set_cons_zero]
              refine wpT 24 ⟨some 44, .pick (.tmp 39) (.const (.bool true)) (.tmp 43), 4, "ref.go:93", #[⟨19, .data⟩, ⟨23, .data⟩], none⟩ ?_ (.inl ⟨by rfl, ?_⟩) ?_
              rotate_left
              · (intro W hSw; (try dsimp only at hSw); go_simp; try (with_reducible rfl))
              try simp only [Act.put]
              try simp only [List.setIfInBounds_toArray]
              try simp only [List.set_cons_succ]
              try simp only [List.set_cons_zero]
              refine wpAnyH_done (by kernel_rfl) (NoPanic.normal ?_) _
              have HU := Lib.hid (UA.out.trans hHeld)
              clear hHeld e0 e1 e2 g0 g1
              go_wp2
              go_roundg (gk - 1)
              case measure => omega
              case rel => exact ⟨k + 1, by omega, by go_num, HS, HU.out⟩
          · have hEb : (E != 0) = true := by rw [bne_iff_ne]; exact hE1
            have HS := Lib.hid (show rightS txs ords = false by rw [HV.out, ← HST.out, HA.out, beq_eq_false_iff_ne.2 hE1]; rfl)
            clear hE1
            go_wp2
            refine wp_region_noPanic ?_
            refine wp_region_held_drew (S := (fun w' => Upd No (wr.alloc (.cells #[.int .i64 xi, .bool xd, .slice xA xo.length xc] 47)) w')) (by kernel_rfl) ?_ (fun hHeld => ?_)
            · (first | exact (Upd.refl No _).drew | exact hHeld.trans hu3)
            refine wpT 0 ⟨some 20, .move (.tmp 3), 3, "ref.go:93", #[], none⟩ ?_ (.inl ⟨by rfl, ?_⟩) ?_
            rotate_left
            · (intro W hSw; (try dsimp only at hSw); go_simp; try (with_reducible rfl))
            try simp only [Act.put]
            try simp only [List.setIfInBounds_toArray]
            try simp only [List.set_cons_succ]
            try simp only [List.set_cons_zero]
            refine wpT 1 ⟨some 21, .binOp .gtr 3 (.tmp 20) (.const (.int .i64 0)) 3, 4, "ref.go:93", #[⟨0, .data⟩], none⟩ ?_ (.inl ⟨by rfl, ?_⟩) ?_
            rotate_left
            · (intro W hSw; (try dsimp only at hSw); go_simp; try (with_reducible rfl))
            try simp only [Act.put]
            try simp only [List.setIfInBounds_toArray]
            try simp only [List.set_cons_succ]
            try simp only [List.set_cons_zero]
            refine wpT 2 ⟨some 22, .move (.tmp 21), 4, "ref.go:93", #[⟨1, .data⟩], none⟩ ?_ (.inl ⟨by rfl, ?_⟩) ?_
            rotate_left
            · (intro W hSw; (try dsimp only at hSw); go_simp; try (with_reducible rfl))
            try simp only [Act.put]
            try simp only [List.setIfInBounds_toArray]
            try simp only [List.set_cons_succ]
            try simp only [List.set_cons_zero]
            refine wpT 3 ⟨some 23, .fieldAddr 25 (.tmp 1) 0, 0, "ref.go:93", #[⟨2, .guard⟩], some (2, true)⟩ undef (.inr ⟨by rfl, rfl⟩) ?_
            try simp only [Act.put]
            try simp only [List.setIfInBounds_toArray]
            try simp only [List.set_cons_succ]
            try simp only [List.set_cons_zero]
            refine wpT 4 ⟨some 24, .load 22 (.tmp 23), 22, "ref.go:93", #[⟨3, .data⟩, ⟨2, .guard⟩], some (2, true)⟩ undef (.inr ⟨by rfl, rfl⟩) ?_
            try simp only [Act.put]
            try simp only [List.setIfInBounds_toArray]
            try simp only [List.set_cons_succ]
            try simp only [List.set_cons_zero]
            refine wpT 5 ⟨some 25, .move (.tmp 3), 3, "ref.go:93", #[⟨2, .guard⟩], some (2, true)⟩ undef (.inr ⟨by rfl, rfl⟩) ?_
            try simp only [Act.put]
            try simp only [List.setIfInBounds_toArray]
            try simp only [List.set_cons_succ]
            try simp only [List.set_cons_zero]
            refine wpT 6 ⟨some 26, .binOp .sub 3 (.tmp 25) (.const (.int .i64 1)) 3, 3, "ref.go:93", #[⟨5, .data⟩, ⟨2, .guard⟩], some (2, true)⟩ undef (.inr ⟨by rfl, rfl⟩) ?_
            try simp only [Act.put]
            try simp only [List.setIfInBounds_toArray]
            try simp only [List.set_cons_succ]
            try simp only [List.set_cons_zero]
            refine wpT 7 ⟨some 27, .indexAddr 22 (.tmp 24) (.tmp 26), 0, "ref.go:93", #[⟨4, .data⟩, ⟨6, .data⟩, ⟨2, .guard⟩], some (2, true)⟩ undef (.inr ⟨by rfl, rfl⟩) ?_
            try simp only [Act.put]
            try simp only [List.setIfInBounds_toArray]
            try simp only [List.set_cons_succ]
            try simp only [List.set_cons_zero]
            refine wpT 8 ⟨some 28, .fieldAddr 47 (.tmp 27) 0, 0, "ref.go:93", #[⟨7, .data⟩, ⟨2, .guard⟩], some (2, true)⟩ undef (.inr ⟨by rfl, rfl⟩) ?_
            try simp only [Act.put]
            try simp only [List.setIfInBounds_toArray]
            try simp only [List.set_cons_succ]
            try simp only [List.set_cons_zero]
            refine wpT 9 ⟨some 29, .load 3 (.tmp 28), 3, "ref.go:93", #[⟨8, .data⟩, ⟨2, .guard⟩], some (2, true)⟩ undef (.inr ⟨by rfl, rfl⟩) ?_
            try simp only [Act.put]
            try simp only [List.setIfInBounds_toArray]
            try simp only [List.set_cons_succ]
            try simp only [List.set_cons_zero]
            refine wpT 10 ⟨some 30, .fieldAddr 47 (.tmp 4) 0, 0, "ref.go:93", #[⟨2, .guard⟩], some (2, true)⟩ undef (.inr ⟨by rfl, rfl⟩) ?_
            try simp only [Act.put]
            try simp only [List.setIfInBounds_toArray]
            try simp only [List.set_cons_succ]
            try simp only [List.set_cons_zero]
            refine wpT 11 ⟨some 31, .load 3 (.tmp 30), 3, "ref.go:93", #[⟨10, .data⟩, ⟨2, .guard⟩], some (2, true)⟩ undef (.inr ⟨by rfl, rfl⟩) ?_
            try simp only [Act.put]
            try simp only [List.setIfInBounds_toArray]
            try simp only [List.set_cons_succ]
            try simp only [List.set_cons_zero]
            refine wpT 12 ⟨some 32, .binOp .geq 3 (.tmp 29) (.tmp 31) 3, 4, "ref.go:93", #[⟨9, .data⟩, ⟨11, .data⟩, ⟨2, .guard⟩], some (2, true)⟩ undef (.inr ⟨by rfl, rfl⟩) ?_
            try simp only [Act.put]
            try simp only [List.setIfInBounds_toArray]
            try simp only [List.set_cons_succ]
            try simp only [List.set_cons_zero]
            refine wpT 13 ⟨some 33, .pick (.tmp 22) (.tmp 32) (.const (.bool false)), 4, "ref.go:93", #[⟨2, .data⟩, ⟨12, .data⟩], none⟩ ?_ (.inl ⟨by rfl, ?_⟩) ?_
            rotate_left
            · (intro W hSw; (try dsimp only at hSw); go_simp; try (with_reducible rfl))
            try simp only [Act.put]
            try simp only [List.setIfInBounds_toArray]
            try simp only [List.set_cons_succ]
            try simp only [List.set_cons_zero]
            refine wpT 14 ⟨some 34, .move (.tmp 33), 4, "ref.go:93", #[⟨13, .data⟩, ⟨2, .chain⟩], none⟩ ?_ (.inl ⟨by rfl, ?_⟩) ?_
            rotate_left
            · (intro W hSw; (try dsimp only at hSw); go_simp; try (with_reducible rfl))
            try simp only [Act.put]
            try simp only [List.setIfInBounds_toArray]
            try simp only [List.set_cons_succ]
            try simp only [List.set_cons_zero]
            refine wpT 15 ⟨some 35, .load 47 (.tmp 4), 47, "ref.go:93", #[⟨14, .guard⟩], some (14, false)⟩ ?_ (.inl ⟨by rfl, ?_⟩) ?_
            rotate_left
            · (intro W hSw; (try dsimp only at hSw); go_simp; try (with_reducible rfl))
            try simp only [Act.put]
            try simp only [List.setIfInBounds_toArray]
            try simp only [List.set_cons_succ]
            try simp only [List.set_cons_zero]
            refine wpAnyH_ready (rs := [16]) (by kernel_rfl) (by simp) ?_
            refine AllReadyH.cons (o := ⟨some 36, .call { callee := .value (.func 21), args := #[.tmp 35], argTypes := #[47] }, 50, "ref.go:93", #[⟨15, .data⟩, ⟨14, .chain⟩, ⟨14, .guard⟩], some (14, false)⟩) rfl (fun K hK => ?_) AllReadyH.nil
            go_simp
            (first
    | (go_at_call 21; refine (HRt.out _ hHeld).mono ?_; rintro e w3 ⟨rfl, hu3⟩))
            try (go_wp2_with fail)
            refine hK.out _ _ ?_ (fun hHeld => ?_)
            · (first | exact (Upd.refl No _).drew | exact hHeld.trans hu3)
            clear hK K
            try simp only [Act.put]
            try simp only [List.setIfInBounds_toArray]
            try simp only [List.set_cons_succ]
            try simp only [List.set_cons_zero]
            refine wpT 17 ⟨some 37, .binOp .neq 50 (.tmp 36) (.const (.int .i64 0)) 50, 4, "ref.go:93", #[⟨16, .data⟩, ⟨14, .guard⟩], some (14, false)⟩ ?_ (.inl ⟨by rfl, ?_⟩) ?_
            rotate_left
            · (intro W hSw; (try dsimp only at hSw); go_simp; try (with_reducible rfl))
            try simp only [Act.put]
            try simp only [List.setIfInBounds_toArray]
            try simp only [List.set_cons_succ]
            try simp only [List.set_cons_zero]
            refine wpT 18 ⟨some 38, .pick (.tmp 34) (.const (.bool true)) (.tmp 37), 4, "ref.go:93", #[⟨14, .data⟩, ⟨17, .data⟩], none⟩ ?_ (.inl ⟨by rfl, ?_⟩) ?_
            rotate_left
            · (intro W hSw; (try dsimp only at hSw); go_simp; try (with_reducible rfl))
            try simp only [Act.put]
            try simp only [List.setIfInBounds_toArray]
            try simp only [List.set_cons_succ]
            try simp only [List.set_cons_zero]
            refine wpT 19 ⟨some 39, .move (.tmp 38), 4, "ref.go:93", #[⟨18, .data⟩, ⟨16, .chain⟩], none⟩ ?_ (.inl ⟨by rfl, ?_⟩) ?_
            rotate_left
            · (intro W hSw; (try dsimp only at hSw); go_simp; try (with_reducible rfl))
            try simp only [Act.put]
            try simp only [List.setIfInBounds_toArray]
            try simp only [List.set_cons_succ]
            try simp only [List.set_cons_zero]
            refine wpT 20 ⟨some 40, .load 25 (.tmp 1), 25, "ref.go:93", #[⟨19, .guard⟩], some (19, false)⟩ undef (.inr ⟨by rfl, rfl⟩) ?_
            try simp only [Act.put]
            try simp only [List.setIfInBounds_toArray]
            try simp only [List.set_cons_succ]
            try simp only [List.set_cons_zero]
            refine wpT 21 ⟨some 41, .load 47 (.tmp 4), 47, "ref.go:93", #[⟨19, .guard⟩], some (19, false)⟩ undef (.inr ⟨by rfl, rfl⟩) ?_
            try simp only [Act.put]
            try simp only [List.setIfInBounds_toArray]
            try simp only [List.set_cons_succ]
            try simp only [List.set_cons_zero]
            refine wpAnyH_ready (rs := [22]) (by kernel_rfl) (by simp) ?_
            refine AllReadyH.cons (o := ⟨some 42, .call { callee := .value (.func 83), args := #[.tmp 40, .tmp 41], argTypes := #[25, 47] }, 4, "ref.go:93", #[⟨20, .data⟩, ⟨21, .data⟩, ⟨19, .chain⟩, ⟨19, .guard⟩], some (19, false)⟩) rfl (fun K hK => ?_) AllReadyH.nil
            go_simp
            refine hK.out _ _ ?_ (fun hHeld => ?_)
            · exact hHeld
            clear hK K
            try simp only [Act.put]
            try simp only [List.setIfInBounds_toArray]
            try simp only [List.set_cons_succ]
            try simp only [List.set_cons_zero]
            refine wpT 23 ⟨some 43, .unOp .not 4 (.tmp 42), 4, "ref.go:93", #[⟨22, .data⟩, ⟨19, .guard⟩], some (19, false)⟩ undef (.inr ⟨by rfl, rfl⟩) ?_
            try simp only [Act.put]
            try simp only [List.setIfInBounds_toArray]
            try simp only [List.set_cons_succ]
            try simp only [List.set_cons_zero]
            refine wpT 24 ⟨some 44, .pick (.tmp 39) (.const (.bool true)) (.tmp 43), 4, "ref.go:93", #[⟨19, .data⟩, ⟨23, .data⟩], none⟩ ?_ (.inl ⟨by rfl, ?_⟩) ?_
            rotate_left
            · (intro W hSw; (try dsimp only at hSw); go_simp; try (with_reducible rfl))
            try simp only [Act.put]
            try simp only [List.setIfInBounds_toArray]
            try simp only [List.set_cons_succ]
            try simp only [List.set_cons_zero]
            refine wpAnyH_done (by kernel_rfl) (NoPanic.normal ?_) _
            have HU := Lib.hid (UA.out.trans hHeld)
            clear hHeld e0 e1 e2 g0 g1
            go_wp2
            go_ret
            exact ⟨by rw [HS.out]; rfl, U0.out.trans HU.out⟩
        · have hp1 : k - 1 < txs.length := by omega
          have hq : ∀ W, Upd No (wr.alloc (.cells #[.int .i64 xi, .bool xd, .slice xA xo.length xc] 47)) W → W.cell? (ad.add ((k - 1) * 3)) = some (.int .i64 (txs[k - 1]'hp1).id) := fun W hW => by
            obtain ⟨ad2, hAd2, p0, _, _⟩ := (H.upd (U0.out.trans (UA.out.trans hW)) (fun _ _ => id)).tx_at (k := k - 1) hp1
            simp only at hAd2 p0
            cases hAd2
            exact p0
          obtain ⟨y, hy⟩ : ∃ y, (txs[k - 1]'hp1).id = y := ⟨_, rfl⟩
          rw [hy] at hq
          have HA0 := Lib.hid (show txR txs k ⟨xi, xd, xo, xA, xc⟩ = (decide (y < xi) && E == 0 && N) by
            rw [HTx.out, ahead_at hk0 hp1, hy])
          have hkk : decide ((0 : Int) < (k : Int)) = true := decide_eq_true (by omega)
          have hkn : decide (0 < k) = true := decide_eq_true (by omega)
          have hw1 : IntKind.i64.wrap ((k : Int) - 1) = (k : Int) - 1 := IntWalk.i64_in _ (by omega)
          have hw2 : (0 : Int) ≤ (k : Int) - 1 := by omega
          have hw3 : (1 : Int) ≤ (k : Int) := by omega
          have hw4 : (k : Int) - 1 < (txs.length : Int) := by omega
          have hw5 : ((k : Int) - 1).toNat = k - 1 := by omega
          clear hy hk0
          by_cases hyx : y < xi
          · have HA := Lib.hid (show txR txs k ⟨xi, xd, xo, xA, xc⟩ = (E == 0 && N) by rw [HA0.out, decide_eq_true hyx]; rfl)
            have hyn2 : decide (xi ≤ y) = false := decide_eq_false (by omega)
            clear hyx
            by_cases hE1 : E = 0
            · have HN2 := Lib.hid (HNd.out hE1)
              subst hE1
              cases N
              · have HS := Lib.hid (show rightS txs ords = false by rw [HV.out, ← HST.out, HA.out]; rfl)
                go_wp2
                refine wp_region_noPanic ?_
                refine wp_region_held_drew (S := (fun w' => Upd No (wr.alloc (.cells #[.int .i64 xi, .bool xd, .slice xA xo.length xc] 47)) w')) (by kernel_rfl) ?_ (fun hHeld => ?_)
                · (first | exact (Upd.refl No _).drew | exact hHeld.trans hu3)
                refine wpT 0 ⟨some 20, .move (.tmp 3), 3, "ref.go:93", #[], none⟩ ?_ (.inl ⟨by rfl, ?_⟩) ?_
                rotate_left
                · (intro W hSw; (try dsimp only at hSw); go_simp; try (with_reducible rfl))
                try simp only [Act.put]
                try simp only [List.setIfInBounds_toArray]
                try simp only [List.set_cons_succ]
                try simp only [List.set_cons_zero]
                refine wpT 1 ⟨some 21, .binOp .gtr 3 (.tmp 20) (.const (.int .i64 0)) 3, 4, "ref.go:93", #[⟨0, .data⟩], none⟩ ?_ (.inl ⟨by rfl, ?_⟩) ?_
                rotate_left
                · (intro W hSw; (try dsimp only at hSw); go_simp; try (with_reducible rfl))
                try simp only [Act.put]
                try simp only [List.setIfInBounds_toArray]
                try simp only [List.set_cons_succ]
                try simp only [List.set_cons_zero]
                refine wpT 2 ⟨some 22, .move (.tmp 21), 4, "ref.go:93", #[⟨1, .data⟩], none⟩ ?_ (.inl ⟨by rfl, ?_⟩) ?_
                rotate_left
                · (intro W hSw; (try dsimp only at hSw); go_simp; try (with_reducible rfl))
                try simp only [Act.put]
                try simp only [List.setIfInBounds_toArray]
                try simp only [List.set_cons_succ]
                try simp only [List.set_cons_zero]
                refine wpT 3 ⟨some 23, .fieldAddr 25 (.tmp 1) 0, 0, "ref.go:93", #[⟨2, .guard⟩], some (2, true)⟩ ?_ (.inl ⟨by rfl, ?_⟩) ?_
                rotate_left
                · (intro W hSw; (try dsimp only at hSw); go_simp; try (with_reducible rfl))
                try simp only [Act.put]
                try simp only [List.setIfInBounds_toArray]
                try simp only [List.set_cons_succ]
                try simp only [List.set_cons_zero]
                refine wpT 4 ⟨some 24, .load 22 (.tmp 23), 22, "ref.go:93", #[⟨3, .data⟩, ⟨2, .guard⟩], some (2, true)⟩ ?_ (.inl ⟨by rfl, ?_⟩) ?_
                rotate_left
                · (intro W hSw; (try dsimp only at hSw); go_simp; try (with_reducible rfl))
                try simp only [Act.put]
                try simp only [List.setIfInBounds_toArray]
                try simp only [List.set_cons_succ]
                try simp only [List.set_cons_zero]
                refine wpT 5 ⟨some 25, .move (.tmp 3), 3, "ref.go:93", #[⟨2, .guard⟩], some (2, true)⟩ ?_ (.inl ⟨by rfl, ?_⟩) ?_
                rotate_left
                · (intro W hSw; (try dsimp only at hSw); go_simp; try (with_reducible rfl))
                try simp only [Act.put]
                try simp only [List.setIfInBounds_toArray]
                try simp only [List.set_cons_succ]
                try simp only [List.set_cons_zero]
                refine wpT 6 ⟨some 26, .binOp .sub 3 (.tmp 25) (.const (.int .i64 1)) 3, 3, "ref.go:93", #[⟨5, .data⟩, ⟨2, .guard⟩], some (2, true)⟩ ?_ (.inl ⟨by rfl, ?_⟩) ?_
                rotate_left
                · (intro W hSw; (try dsimp only at hSw); go_simp; try (with_reducible rfl))
                try simp only [Act.put]
                try simp only [List.setIfInBounds_toArray]
                try simp only [List.set_cons_succ]
                try simp only [List.set_cons_zero]
                refine wpT 7 ⟨some 27, .indexAddr 22 (.tmp 24) (.tmp 26), 0, "ref.go:93", #[⟨4, .data⟩, ⟨6, .data⟩, ⟨2, .guard⟩], some (2, true)⟩ ?_ (.inl ⟨by rfl, ?_⟩) ?_
                rotate_left
                · (intro W hSw; (try dsimp only at hSw); go_simp; try (with_reducible rfl))
                try simp only [Act.put]
                try simp only [List.setIfInBounds_toArray]
                try simp only [List.set_cons_succ]
                try simp only [List.set_cons_zero]
                refine wpT 8 ⟨some 28, .fieldAddr 47 (.tmp 27) 0, 0, "ref.go:93", #[⟨7, .data⟩, ⟨2, .guard⟩], some (2, true)⟩ ?_ (.inl ⟨by rfl, ?_⟩) ?_
                rotate_left
                · (intro W hSw; (try dsimp only at hSw); go_simp; try (with_reducible rfl))
                try simp only [Act.put]
                try simp only [List.setIfInBounds_toArray]
                try simp only [List.set_cons_succ]
                try simp only [List.set_cons_zero]
                refine wpT 9 ⟨some 29, .load 3 (.tmp 28), 3, "ref.go:93", #[⟨8, .data⟩, ⟨2, .guard⟩], some (2, true)⟩ ?_ (.inl ⟨by rfl, ?_⟩) ?_
                rotate_left
                · (intro W hSw; (try dsimp only at hSw); go_simp; try (with_reducible rfl))
                try simp only [Act.put]
                try simp only [List.setIfInBounds_toArray]
                try simp only [List.set_cons_succ]
                try simp only [List.set_cons_zero]
                refine wpT 10 ⟨some 30, .fieldAddr 47 (.tmp 4) 0, 0, "ref.go:93", #[⟨2, .guard⟩], some (2, true)⟩ ?_ (.inl ⟨by rfl, ?_⟩) ?_
                rotate_left
                · (intro W hSw; (try dsimp only at hSw); go_simp; try (with_reducible rfl))
                try simp only [Act.put]
                try simp only [List.setIfInBounds_toArray]
                try simp only [List.set_cons_succ]
                try simp only [List.set_cons_zero]
                refine wpT 11 ⟨some 31, .load 3 (.tmp 30), 3, "ref.go:93", #[⟨10, .data⟩, ⟨2, .guard⟩], some (2, true)⟩ ?_ (.inl ⟨by rfl, ?_⟩) ?_
                rotate_left
                · (intro W hSw; (try dsimp only at hSw); go_simp; try (with_reducible rfl))
                try simp only [Act.put]
                try simp only [List.setIfInBounds_toArray]
                try simp only [List.set_cons_succ]
                try simp only [List.set_cons_zero]
                refine wpT 12 ⟨some 32, .binOp .geq 3 (.tmp 29) (.tmp 31) 3, 4, "ref.go:93", #[⟨9, .data⟩, ⟨11, .data⟩, ⟨2, .guard⟩], some (2, true)⟩ ?_ (.inl ⟨by rfl, ?_⟩) ?_
                rotate_left
                · (intro W hSw; (try dsimp only at hSw); go_simp; try (with_reducible rfl))
                try simp only [Act.put]
                try simp only [List.setIfInBounds_toArray]
                try simp only [List.set_cons_succ]
                try simp only [List.set_cons_zero]
                refine wpT 13 ⟨some 33, .pick (.tmp 22) (.tmp 32) (.const (.bool false)), 4, "ref.go:93", #[⟨2, .data⟩, ⟨12, .data⟩], none⟩ ?_ (.inl ⟨by rfl, ?_⟩) ?_
                rotate_left
                · (intro W hSw; (try dsimp only at hSw); go_simp; try (with_reducible rfl))
                try simp only [Act.put]
                try simp only [List.setIfInBounds_toArray]
                try simp only [List.set_cons_succ]
                try simp only [List.set_cons_zero]
                refine wpT 14 ⟨some 34, .move (.tmp 33), 4, "ref.go:93", #[⟨13, .data⟩, ⟨2, .chain⟩], none⟩ ?_ (.inl ⟨by rfl, ?_⟩) ?_
                rotate_left
                · (intro W hSw; (try dsimp only at hSw); go_simp; try (with_reducible rfl))
                try simp only [Act.put]
                try simp only [List.setIfInBounds_toArray]
                try simp only [List.set_cons_succ]
                try simp only [List.set_cons_zero]
                refine wpT 15 ⟨some 35, .load 47 (.tmp 4), 47, "ref.go:93", #[⟨14, .guard⟩], some (14, false)⟩ ?_ (.inl ⟨by rfl, ?_⟩) ?_
                rotate_left
                · (intro W hSw; (try dsimp only at hSw); go_simp; try (with_reducible rfl))
                try simp only [Act.put]
                try simp only [List.setIfInBounds_toArray]
                try simp only [List.set_cons_succ]
                try simp only [List.set_cons_zero]
                refine wpAnyH_ready (rs := [16]) (by kernel_rfl) (by simp) ?_
                refine AllReadyH.cons (o := ⟨some 36, .call { callee := .value (.func 21), args := #[.tmp 35], argTypes := #[47] }, 50, "ref.go:93", #[⟨15, .data⟩, ⟨14, .chain⟩, ⟨14, .guard⟩], some (14, false)⟩) rfl (fun K hK => ?_) AllReadyH.nil
                go_simp
                (first
    | (go_at_call 21; refine (HRt.out _ hHeld).mono ?_; rintro e w3 ⟨rfl, hu3⟩))
                try (go_wp2_with fail)
                refine hK.out _ _ ?_ (fun hHeld => ?_)
                · (first | exact (Upd.refl No _).drew | exact hHeld.trans hu3)
                clear hK K
                try simp only [Act.put]
                try simp only [List.setIfInBounds_toArray]
                try simp only [List.set_cons_succ]
                try simp only [List.set_cons_zero]
                refine wpT 17 ⟨some 37, .binOp .neq 50 (.tmp 36) (.const (.int .i64 0)) 50, 4, "ref.go:93", #[⟨16, .data⟩, ⟨14, .guard⟩], some (14, false)⟩ ?_ (.inl ⟨by rfl, ?_⟩) ?_
                rotate_left
                · (intro W hSw; (try dsimp only at hSw); go_simp; try (with_reducible rfl))
                try simp only [Act.put]
                try simp only [List.setIfInBounds_toArray]
                try simp only [List.set_cons_succ]
                try simp only [List.set_cons_zero]
                refine wpT 18 ⟨some 38, .pick (.tmp 34) (.const (.bool true)) (.tmp 37), 4, "ref.go:93", #[⟨14, .data⟩, ⟨17, .data⟩], none⟩ ?_ (.inl ⟨by rfl, ?_⟩) ?_
                rotate_left
                · (intro W hSw; (try dsimp only at hSw); go_simp; try (with_reducible rfl))
                try simp only [Act.put]
                try simp only [List.setIfInBounds_toArray]
                try simp only [List.set_cons_succ]
                try simp only [List.set_cons_zero]
                refine wpT 19 ⟨some 39, .move (.tmp 38), 4, "ref.go:93", #[⟨18, .data⟩, ⟨16, .chain⟩], none⟩ ?_ (.inl ⟨by rfl, ?_⟩) ?_
                rotate_left
                · (intro W hSw; (try dsimp only at hSw); go_simp; try (with_reducible rfl))
                try simp only [Act.put]
                try simp only [List.setIfInBounds_toArray]
                try simp only [List.set_cons_succ]
                try simp only [List.set_cons_zero]
                refine wpT 20 ⟨some 40, .load 25 (.tmp 1), 25, "ref.go:93", #[⟨19, .guard⟩], some (19, false)⟩ ?_ (.inl ⟨by rfl, ?_⟩) ?_
                rotate_left
                · (intro W hSw; (try dsimp only at hSw); go_simp; try (with_reducible rfl))
                try simp only [Act.put]
                try simp only [List.setIfInBounds_toArray]
                try simp only [List.set_cons_succ]
                try simp only [List.set_cons_zero]
                refine wpT 21 ⟨some 41, .load 47 (.tmp 4), 47, "ref.go:93", #[⟨19, .guard⟩], some (19, false)⟩ ?_ (.inl ⟨by rfl, ?_⟩) ?_
                rotate_left
                · (intro W hSw; (try dsimp only at hSw); go_simp; try (with_reducible rfl))
                try simp only [Act.put]
                try simp only [List.setIfInBounds_toArray]
                try simp only [List.set_cons_succ]
                try simp only [List.set_cons_zero]
                refine wpAnyH_ready (rs := [22]) (by kernel_rfl) (by simp) ?_
                refine AllReadyH.cons (o := ⟨some 42, .call { callee := .value (.func 83), args := #[.tmp 40, .tmp 41], argTypes := #[25, 47] }, 4, "ref.go:93", #[⟨20, .data⟩, ⟨21, .data⟩, ⟨19, .chain⟩, ⟨19, .guard⟩], some (19, false)⟩) rfl (fun K hK => ?_) AllReadyH.nil
                go_simp
                (first
    | (go_at_call 83; refine (HN2.out _ hHeld).mono ?_; rintro e w3 ⟨rfl, hu3⟩))
                try (go_wp2_with fail)
                refine hK.out _ _ ?_ (fun hHeld => ?_)
                · (first | exact (Upd.refl No _).drew | exact hHeld.trans hu3)
                clear hK K
                try simp only [Act.put]
                try simp only [List.setIfInBounds_toArray]
                try simp only [List.set_cons_succ]
                try simp only [List.set_cons_zero]
                refine wpT 23 ⟨some 43, .unOp .not 4 (.tmp 42), 4, "ref.go:93", #[⟨22, .data⟩, ⟨19, .guard⟩], some (19, false)⟩ ?_ (.inl ⟨by rfl, ?_⟩) ?_
                rotate_left
                · (intro W hSw; (try dsimp only at hSw); go_simp; try (with_reducible rfl))
                try simp only [Act.put]
                try simp only [List.setIfInBounds_toArray]
                try simp only [List.set_cons_succ]
                try simp only [List.set_cons_zero]
                refine wpT 24 ⟨some 44, .pick (.tmp 39) (.const (.bool true)) (.tmp 43), 4, "ref.go:93", #[⟨19, .data⟩, ⟨23, .data⟩], none⟩ ?_ (.inl ⟨by rfl, ?_⟩) ?_
                rotate_left
                · (intro W hSw; (try dsimp only at hSw); go_simp; try (with_reducible rfl))
                try simp only [Act.put]
                try simp only [List.setIfInBounds_toArray]
                try simp only [List.set_cons_succ]
                try simp only [List.set_cons_zero]
                refine wpAnyH_done (by kernel_rfl) (NoPanic.normal ?_) _
                have HU := Lib.hid (UA.out.trans hHeld)
                clear hHeld e0 e1 e2 g0 g1
                go_wp2
                go_ret
                exact ⟨by rw [HS.out]; rfl, U0.out.trans HU.out⟩
              · have HS := Lib.hid (show txsR txs (txs.drop (k + 1)) (k + 1) = txsR txs txs 0 by rw [← HST.out, HA.out]; rfl)
                go_wp2
                refine wp_region_noPanic ?_
                refine wp_region_held_drew (S := (fun w' => Upd No (wr.alloc (.cells #[.int .i64 xi, .bool xd, .slice xA xo.length xc] 47)) w')) (by kernel_rfl) ?_ (fun hHeld => ?_)
                · (first | exact (Upd.refl No _).drew | exact hHeld.trans hu3)
                refine wpT 0 ⟨some 20, .move (.tmp 3), 3, "ref.go:93", #[], none⟩ ?_ (.inl ⟨by rfl, ?_⟩) ?_
                rotate_left
                · (intro W hSw; (try dsimp only at hSw); go_simp; try (with_reducible rfl))
                try simp only [Act.put]
                try simp only [List.setIfInBounds_toArray]
                try simp only [List.set_cons_succ]
                try simp only [List.set_cons_zero]
                refine wpT 1 ⟨some 21, .binOp .gtr 3 (.tmp 20) (.const (.int .i64 0)) 3, 4, "ref.go:93", #[⟨0, .data⟩], none⟩ ?_ (.inl ⟨by rfl, ?_⟩) ?_
                rotate_left
                · (intro W hSw; (try dsimp only at hSw); go_simp; try (with_reducible rfl))
                try simp only [Act.put]
                try simp only [List.setIfInBounds_toArray]
                try simp only [List.set_cons_succ]
                try simp only [List.set_cons_zero]
                refine wpT 2 ⟨some 22, .move (.tmp 21), 4, "ref.go:93", #[⟨1, .data⟩], none⟩ ?_ (.inl ⟨by rfl, ?_⟩) ?_
                rotate_left
                · (intro W hSw; (try dsimp only at hSw); go_simp; try (with_reducible rfl))
                try simp only [Act.put]
                try simp only [List.setIfInBounds_toArray]
                try simp only [List.set_cons_succ]
                try simp only [List.set_cons_zero]
                refine wpT 3 ⟨some 23, .fieldAddr 25 (.tmp 1) 0, 0, "ref.go:93", #[⟨2, .guard⟩], some (2, true)⟩ ?_ (.inl ⟨by rfl, ?_⟩) ?_
                rotate_left
                · (intro W hSw; (try dsimp only at hSw); go_simp; try (with_reducible rfl))
                try simp only [Act.put]
                try simp only [List.setIfInBounds_toArray]
                try simp only [List.set_cons_succ]
                try simp only [List.set_cons_zero]
                refine wpT 4 ⟨some 24, .load 22 (.tmp 23), 22, "ref.go:93", #[⟨3, .data⟩, ⟨2, .guard⟩], some (2, true)⟩ ?_ (.inl ⟨by rfl, ?_⟩) ?_
                rotate_left
                · (intro W hSw; (try dsimp only at hSw); go_simp; try (with_reducible rfl))
                try simp only [Act.put]
                try simp only [List.setIfInBounds_toArray]
                try simp only [List.set_cons_succ]
                try simp only [List.set_cons_zero]
                refine wpT 5 ⟨some 25, .move (.tmp 3), 3, "ref.go:93", #[⟨2, .guard⟩], some (2, true)⟩ ?_ (.inl ⟨by rfl, ?_⟩) ?_
                rotate_left
                · (intro W hSw; (try dsimp only at hSw); go_simp; try (with_reducible rfl))
                try simp only [Act.put]
                try simp only [List.setIfInBounds_toArray]
                try simp only [List.set_cons_succ]
                try simp only [List.set_cons_zero]
                refine wpT 6 ⟨some 26, .binOp .sub 3 (.tmp 25) (.const (.int .i64 1)) 3, 3, "ref.go:93", #[⟨5, .data⟩, ⟨2, .guard⟩], some (2, true)⟩ ?_ (.inl ⟨by rfl, ?_⟩) ?_
                rotate_left
                · (intro W hSw; (try dsimp only at hSw); go_simp; try (with_reducible rfl))
                try simp only [Act.put]
                try simp only [List.setIfInBounds_toArray]
                try simp only [List.set_cons_succ]
                try simp only [List.set_cons_zero]
                refine wpT 7 ⟨some 27, .indexAddr 22 (.tmp 24) (.tmp 26), 0, "ref.go:93", #[⟨4, .data⟩, ⟨6, .data⟩, ⟨2, .guard⟩], some (2, true)⟩ ?_ (.inl ⟨by rfl, ?_⟩) ?_
                rotate_left
                · (intro W hSw; (try dsimp only at hSw); go_simp; try (with_reducible rfl))
                try simp only [Act.put]
                try simp only [List.setIfInBounds_toArray]
                try simp only [List.set_cons_succ]
                try simp only [List.set_cons_zero]
                refine wpT 8 ⟨some 28, .fieldAddr 47 (.tmp 27) 0, 0, "ref.go:93", #[⟨7, .data⟩, ⟨2, .guard⟩], some (2, true)⟩ ?_ (.inl ⟨by rfl, ?_⟩) ?_
                rotate_left
                · (intro W hSw; (try dsimp only at hSw); go_simp; try (with_reducible rfl))
                try simp only [Act.put]
                try simp only [List.setIfInBounds_toArray]
                try simp only [List.set_cons_succ]
                try simp only [List.set_cons_zero]
                refine wpT 9 ⟨some 29, .load 3 (.tmp 28), 3, "ref.go:93", #[⟨8, .data⟩, ⟨2, .guard⟩], some (2, true)⟩ ?_ (.inl ⟨by rfl, ?_⟩) ?_
                rotate_left
                · (intro W hSw; (try dsimp only at hSw); go_simp; try (with_reducible rfl))
                try simp only [Act.put]
                try simp only [List.setIfInBounds_toArray]
                try simp only [List.set_cons_succ]
                try simp only [List.set_cons_zero]
                refine wpT 10 ⟨some 30, .fieldAddr 47 (.tmp 4) 0, 0, "ref.go:93", #[⟨2, .guard⟩], some (2, true)⟩ ?_ (.inl ⟨by rfl, ?_⟩) ?_
                rotate_left
                · (intro W hSw; (try dsimp only at hSw); go_simp; try (with_reducible rfl))
                try simp only [Act.put]
                try simp only [List.setIfInBounds_toArray]
                try simp only [List.set_cons_succ]
                try simp only [List.set_cons_zero]
                refine wpT 11 ⟨some 31, .load 3 (.tmp 30), 3, "ref.go:93", #[⟨10, .data⟩, ⟨2, .guard⟩], some (2, true)⟩ ?_ (.inl ⟨by rfl, ?_⟩) ?_
                rotate_left
                · (intro W hSw; (try dsimp only at hSw); go_simp; try (with_reducible rfl))
                try simp only [Act.put]
                try simp only [List.setIfInBounds_toArray]
                try simp only [List.set_cons_succ]
                try simp only [List.set_cons_zero]
                refine wpT 12 ⟨some 32, .binOp .geq 3 (.tmp 29) (.tmp 31) 3, 4, "ref.go:93", #[⟨9, .data⟩, ⟨11, .data⟩, ⟨2, .guard⟩], some (2, true)⟩ ?_ (.inl ⟨by rfl, ?_⟩) ?_
                rotate_left
                · (intro W hSw; (try dsimp only at hSw); go_simp; try (with_reducible rfl))
                try simp only [Act.put]
                try simp only [List.setIfInBounds_toArray]
                try simp only [List.set_cons_succ]
                try simp only [List.set_cons_zero]
                refine wpT 13 ⟨some 33, .pick (.tmp 22) (.tmp 32) (.const (.bool false)), 4, "ref.go:93", #[⟨2, .data⟩, ⟨12, .data⟩], none⟩ ?_ (.inl ⟨by rfl, ?_⟩) ?_
                rotate_left
                · (intro W hSw; (try dsimp only at hSw); go_simp; try (with_reducible rfl))
                try simp only [Act.put]
                try simp only [List.setIfInBounds_toArray]
                try simp only [List.set_cons_succ]
                try simp only [List.set_cons_zero]
                refine wpT 14 ⟨some 34, .move (.tmp 33), 4, "ref.go:93", #[⟨13, .data⟩, ⟨2, .chain⟩], none⟩ ?_ (.inl ⟨by rfl, ?_⟩) ?_
                rotate_left
                · (intro W hSw; (try dsimp only at hSw); go_simp; try (with_reducible rfl))
                try simp only [Act.put]
                try simp only [List.setIfInBounds_toArray]
                try simp only [List.set_cons_succ]
                try simp only [List.set_cons_zero]
                refine wpT 15 ⟨some 35, .load 47 (.tmp 4), 47, "ref.go:93", #[⟨14, .guard⟩], some (14, false)⟩ ?_ (.inl ⟨by rfl, ?_⟩) ?_
                rotate_left
                · (intro W hSw; (try dsimp only at hSw); go_simp; try (with_reducible rfl))
                try simp only [Act.put]
                try simp only [List.setIfInBounds_toArray]
                try simp only [List.set_cons_succ]
                try simp only [List.set_cons_zero]
                refine wpAnyH_ready (rs := [16]) (by kernel_rfl) (by simp) ?_
                refine AllReadyH.cons (o := ⟨some 36, .call { callee := .value (.func 21), args := #[.tmp 35], argTypes := #[47] }, 50, "ref.go:93", #[⟨15, .data⟩, ⟨14, .chain⟩, ⟨14, .guard⟩], some (14, false)⟩) rfl (fun K hK => ?_) AllReadyH.nil
                go_simp
                (first
    | (go_at_call 21; refine (HRt.out _ hHeld).mono ?_; rintro e w3 ⟨rfl, hu3⟩))
                try (go_wp2_with fail)
                refine hK.out _ _ ?_ (fun hHeld => ?_)
                · (first | exact (Upd.refl No _).drew | exact hHeld.trans hu3)
                clear hK K
                try simp only [Act.put]
                try simp only [List.setIfInBounds_toArray]
                try simp only [List.set_cons_succ]
                try simp only [List.set_cons_zero]
                refine wpT 17 ⟨some 37, .binOp .neq 50 (.tmp 36) (.const (.int .i64 0)) 50, 4, "ref.go:93", #[⟨16, .data⟩, ⟨14, .guard⟩], some (14, false)⟩ ?_ (.inl ⟨by rfl, ?_⟩) ?_
                rotate_left
                · (intro W hSw; (try dsimp only at hSw); go_simp; try (with_reducible rfl))
                try simp only [Act.put]
                try simp only [List.setIfInBounds_toArray]
                try simp only [List.set_cons_succ]
                try simp only [List.set_cons_zero]
                refine wpT 18 ⟨some 38, .pick (.tmp 34) (.const (.bool true)) (.tmp 37), 4, "ref.go:93", #[⟨14, .data⟩, ⟨17, .data⟩], none⟩ ?_ (.inl ⟨by rfl, ?_⟩) ?_
                rotate_left
                · (intro W hSw; (try dsimp only at hSw); go_simp; try (with_reducible rfl))
                try simp only [Act.put]
                try simp only [List.setIfInBounds_toArray]
                try simp only [List.set_cons_succ]
                try simp only [List.set_cons_zero]
                refine wpT 19 ⟨some 39, .move (.tmp 38), 4, "ref.go:93", #[⟨18, .data⟩, ⟨16, .chain⟩], none⟩ ?_ (.inl ⟨by rfl, ?_⟩) ?_
                rotate_left
                · (intro W hSw; (try dsimp only at hSw); go_simp; try (with_reducible rfl))
                try simp only [Act.put]
                try simp only [List.setIfInBounds_toArray]
                try simp only [List.set_cons_succ]
                try simp only [List.set_cons_zero]
                refine wpT 20 ⟨some 40, .load 25 (.tmp 1), 25, "ref.go:93", #[⟨19, .guard⟩], some (19, false)⟩ ?_ (.inl ⟨by rfl, ?_⟩) ?_
                rotate_left
                · (intro W hSw; (try dsimp only at hSw); go_simp; try (with_reducible rfl))
                try simp only [Act.put]
                try simp only [List.setIfInBounds_toArray]
                try simp only [List.set_cons_succ]
                try simp only [List.set_cons_zero]
                refine wpT 21 ⟨some 41, .load 47 (.tmp 4), 47, "ref.go:93", #[⟨19, .guard⟩], some (19, false)⟩ ?_ (.inl ⟨by rfl, ?_⟩) ?_
                rotate_left
                · (intro W hSw; (try dsimp only at hSw); go_simp; try (with_reducible rfl))
                try simp only [Act.put]
                try simp only [List.setIfInBounds_toArray]
                try simp only [List.set_cons_succ]
                try simp only [List.set_cons_zero]
                refine wpAnyH_ready (rs := [22]) (by kernel_rfl) (by simp) ?_
                refine AllReadyH.cons (o := ⟨some 42, .call { callee := .value (.func 83), args := #[.tmp 40, .tmp 41], argTypes := #[25, 47] }, 4, "ref.go:93", #[⟨20, .data⟩, ⟨21, .data⟩, ⟨19, .chain⟩, ⟨19, .guard⟩], some (19, false)⟩) rfl (fun K hK => ?_) AllReadyH.nil
                go_simp
                (first
    | (go_at_call 83; refine (HN2.out _ hHeld).mono ?_; rintro e w3 ⟨rfl, hu3⟩))
                try (go_wp2_with fail)
                refine hK.out _ _ ?_ (fun hHeld => ?_)
                · (first | exact (Upd.refl No _).drew | exact hHeld.trans hu3)
                clear hK K
                try simp only [Act.put]
                try simp only [List.setIfInBounds_toArray]
                try simp only [List.set_cons_succ]
                try simp only [List.set_cons_zero]
                refine wpT 23 ⟨some 43, .unOp .not 4 (.tmp 42), 4, "ref.go:93", #[⟨22, .data⟩, ⟨19, .guard⟩], some (19, false)⟩ ?_ (.inl ⟨by rfl, ?_⟩) ?_
                rotate_left
                · (intro W hSw; (try dsimp only at hSw); go_simp; try (with_reducible rfl))
                try simp only [Act.put]
                try simp only [List.setIfInBounds_toArray]
                try simp only [List.set_cons_succ]
                try simp only [List.set_cons_zero]
                refine wpT 24 ⟨some 44, .pick (.tmp 39) (.const (.bool true)) (.tmp 43), 4, "ref.go:93", #[⟨19, .data⟩, ⟨23, .data⟩], none⟩ ?_ (.inl ⟨by rfl, ?_⟩) ?_
                rotate_left
                · (intro W hSw; (try dsimp only at hSw); go_simp; try (with_reducible rfl))
                try simp only [Act.put]
                try simp only [List.setIfInBounds_toArray]
                try simp only [List.set_cons_succ]
                try simp only [List.set_cons_zero]
                refine wpAnyH_done (by kernel_rfl) (NoPanic.normal ?_) _
                have HU := Lib.hid (UA.out.trans hHeld)
                clear hHeld e0 e1 e2 g0 g1
                go_wp2
                go_roundg (gk - 1)
                case measure => omega
                case rel => exact ⟨k + 1, by omega, by go_num, HS, HU.out⟩
            · have hEb : (E != 0) = true := by rw [bne_iff_ne]; exact hE1
              have HS := Lib.hid (show rightS txs ords = false by rw [HV.out, ← HST.out, HA.out, beq_eq_false_iff_ne.2 hE1]; rfl)
              clear hE1
              go_wp2
              refine wp_region_noPanic ?_
              refine wp_region_held_drew (S := (fun w' => Upd No (wr.alloc (.cells #[.int .i64 xi, .bool xd, .slice xA xo.length xc] 47)) w')) (by kernel_rfl) ?_ (fun hHeld => ?_)
              · (first | exact (Upd.refl No _).drew | exact hHeld.trans hu3)
              refine wpT 0 ⟨some 20, .move (.tmp 3), 3, "ref.go:93", #[], none⟩ ?_ (.inl ⟨by rfl, ?_⟩) ?_
              rotate_left
              · (intro W hSw; (try dsimp only at hSw); go_simp; try (with_reducible rfl))
              try simp only [Act.put]
              try simp only [List.setIfInBounds_toArray]
              try simp only [List.set_cons_succ]
              try simp only [List.set_cons_zero]
              refine wpT 1 ⟨some 21, .binOp .gtr 3 (.tmp 20) (.const (.int .i64 0)) 3, 4, "ref.go:93", #[⟨0, .data⟩], none⟩ ?_ (.inl ⟨by rfl, ?_⟩) ?_
              rotate_left
              · (intro W hSw; (try dsimp only at hSw); go_simp; try (with_reducible rfl))
              try simp only [Act.put]
              try simp only [List.setIfInBounds_toArray]
              try simp only [List.set_cons_succ]
              try simp only [List.set_cons_zero]
              refine wpT 2 ⟨some 22, .move (.tmp 21), 4, "ref.go:93", #[⟨1, .data⟩], none⟩ ?_ (.inl ⟨by rfl, ?_⟩) ?_
              rotate_left
              · (intro W hSw; (try dsimp only at hSw); go_simp; try (with_reducible rfl))
              try simp only [Act.put]
              try simp only [List.setIfInBounds_toArray]
              try simp only [List.set_cons_succ]
              try simp only [List.set_cons_zero]
              refine wpT 3 ⟨some 23, .fieldAddr 25 (.tmp 1) 0, 0, "ref.go:93", #[⟨2, .guard⟩], some (2, true)⟩ ?_ (.inl ⟨by rfl, ?_⟩) ?_
              rotate_left
              · (intro W hSw; (try dsimp only at hSw); go_simp; try (with_reducible rfl))
              try simp only [Act.put]
              try simp only [List.setIfInBounds_toArray]
              try simp only [List.set_cons_succ]
              try simp only [List.set_cons_zero]
              refine wpT 4 ⟨some 24, .load 22 (.tmp 23), 22, "ref.go:93", #[⟨3, .data⟩, ⟨2, .guard⟩], some (2, true)⟩ ?_ (.inl ⟨by rfl, ?_⟩) ?_
              rotate_left
              · (intro W hSw; (try dsimp only at hSw); go_simp; try (with_reducible rfl))
              try simp only [Act.put]
              try simp only [List.setIfInBounds_toArray]
              try simp only [List.set_cons_succ]
              try simp only [List.set_cons_zero]
              refine wpT 5 ⟨some 25, .move (.tmp 3), 3, "ref.go:93", #[⟨2, .guard⟩], some (2, true)⟩ ?_ (.inl ⟨by rfl, ?_⟩) ?_
              rotate_left
              · (intro W hSw; (try dsimp only at hSw); go_simp; try (with_reducible rfl))
              try simp only [Act.put]
              try simp only [List.setIfInBounds_toArray]
              try simp only [List.set_cons_succ]
              try simp only [List.set_cons_zero]
              refine wpT 6 ⟨some 26, .binOp .sub 3 (.tmp 25) (.const (.int .i64 1)) 3, 3, "ref.go:93", #[⟨5, .data⟩, ⟨2, .guard⟩], some (2, true)⟩ ?_ (.inl ⟨by rfl, ?_⟩) ?_
              rotate_left
              · (intro W hSw; (try dsimp only at hSw); go_simp; try (with_reducible rfl))
              try simp only [Act.put]
              try simp only [List.setIfInBounds_toArray]
              try simp only [List.set_cons_succ]
              try simp only [List.set_cons_zero]
              refine wpT 7 ⟨some 27, .indexAddr 22 (.tmp 24) (.tmp 26), 0, "ref.go:93", #[⟨4, .data⟩, ⟨6, .data⟩, ⟨2, .guard⟩], some (2, true)⟩ ?_ (.inl ⟨by rfl, ?_⟩) ?_
              rotate_left
              · (intro W hSw; (try dsimp only at hSw); go_simp; try (with_reducible rfl))
              try simp only [Act.put]
              try simp only [List.setIfInBounds_toArray]
              try simp only [List.set_cons_succ]
              try simp only [List.set_cons_zero]
              refine wpT 8 ⟨some 28, .fieldAddr 47 (.tmp 27) 0, 0, "ref.go:93", #[⟨7, .data⟩, ⟨2, .guard⟩], some (2, true)⟩ ?_ (.inl ⟨by rfl, ?_⟩) ?_
              rotate_left
              · (intro W hSw; (try dsimp only at hSw); go_simp; try (with_reducible rfl))
              try simp only [Act.put]
              try simp only [List.setIfInBounds_toArray]
              try simp only [List.set_cons_succ]
              try simp only [List.set_cons_zero]
              refine wpT 9 ⟨some 29, .load 3 (.tmp 28), 3, "ref.go:93", #[⟨8, .data⟩, ⟨2, .guard⟩], some (2, true)⟩ ?_ (.inl ⟨by rfl, ?_⟩) ?_
              rotate_left
              · (intro W hSw; (try dsimp only at hSw); go_simp; try (with_reducible rfl))
              try simp only [Act.put]
              try simp only [List.setIfInBounds_toArray]
              try simp only [List.set_cons_succ]
              try simp only [List.set_cons_zero]
              refine wpT 10 ⟨some 30, .fieldAddr 47 (.tmp 4) 0, 0, "ref.go:93", #[⟨2, .guard⟩], some (2, true)⟩ ?_ (.inl ⟨by rfl, ?_⟩) ?_
              rotate_left
              · (intro W hSw; (try dsimp only at hSw); go_simp; try (with_reducible rfl))
              try simp only [Act.put]
              try simp only [List.setIfInBounds_toArray]
              try simp only [List.set_cons_succ]
              try simp only [List.set_cons_zero]
              refine wpT 11 ⟨some 31, .load 3 (.tmp 30), 3, "ref.go:93", #[⟨10, .data⟩, ⟨2, .guard⟩], some (2, true)⟩ ?_ (.inl ⟨by rfl, ?_⟩) ?_
              rotate_left
              · (intro W hSw; (try dsimp only at hSw); go_simp; try (with_reducible rfl))
              try simp only [Act.put]
              try simp only [List.setIfInBounds_toArray]
              try simp only [List.set_cons_succ]
              try simp only [List.set_cons_zero]
              refine wpT 12 ⟨some 32, .binOp .geq 3 (.tmp 29) (.tmp 31) 3, 4, "ref.go:93", #[⟨9, .data⟩, ⟨11, .data⟩, ⟨2, .guard⟩], some (2, true)⟩ ?_ (.inl ⟨by rfl, ?_⟩) ?_
              rotate_left
              · (intro W hSw; (try dsimp only at hSw); go_simp; try (with_reducible rfl))
              try simp only [Act.put]
              try simp only [List.setIfInBounds_toArray]
              try simp only [List.set_cons_succ]
              try simp only [List.set_cons_zero]
              refine wpT 13 ⟨some 33, .pick (.tmp 22) (.tmp 32) (.const (.bool false)), 4, "ref.go:93", #[⟨2, .data⟩, ⟨12, .data⟩], none⟩ ?_ (.inl ⟨by rfl, ?_⟩) ?_
              rotate_left
              · (intro W hSw; (try dsimp only at hSw); go_simp; try (with_reducible rfl))
              try simp only [Act.put]
              try simp only [List.setIfInBounds_toArray]
              try simp only [List.set_cons_succ]
              try simp only [List.set_cons_zero]
              refine wpT 14 ⟨some 34, .move (.tmp 33), 4, "ref.go:93", #[⟨13, .data⟩, ⟨2, .chain⟩], none⟩ ?_ (.inl ⟨by rfl, ?_⟩) ?_
              rotate_left
              · (intro W hSw; (try dsimp only at hSw); go_simp; try (with_reducible rfl))
              try simp only [Act.put]
              try simp only [List.setIfInBounds_toArray]
              try simp only [List.set_cons_succ]
              try simp only [List.set_cons_zero]
              refine wpT 15 ⟨some 35, .load 47 (.tmp 4), 47, "ref.go:93", #[⟨14, .guard⟩], some (14, false)⟩ ?_ (.inl ⟨by rfl, ?_⟩) ?_
              rotate_left
              · (intro W hSw; (try dsimp only at hSw); go_simp; try (with_reducible rfl))
              try simp only [Act.put]
              try simp only [List.setIfInBounds_toArray]
              try simp only [List.set_cons_succ]
              try simp only [List.set_cons_zero]
              refine wpAnyH_ready (rs := [16]) (by kernel_rfl) (by simp) ?_
              refine AllReadyH.cons (o := ⟨some 36, .call { callee := .value (.func 21), args := #[.tmp 35], argTypes := #[47] }, 50, "ref.go:93", #[⟨15, .data⟩, ⟨14, .chain⟩, ⟨14, .guard⟩], some (14, false)⟩) rfl (fun K hK => ?_) AllReadyH.nil
              go_simp
              (first
    | (go_at_call 21; refine (HRt.out _ hHeld).mono ?_; rintro e w3 ⟨rfl, hu3⟩))
              try (go_wp2_with fail)
              refine hK.out _ _ ?_ (fun hHeld => ?_)
              · (first | exact (Upd.refl No _).drew | exact hHeld.trans hu3)
              clear hK K
              try simp only [Act.put]
              try simp only [List.setIfInBounds_toArray]
              try simp only [List.set_cons_succ]
              try simp only [List.set_cons_zero]
              refine wpT 17 ⟨some 37, .binOp .neq 50 (.tmp 36) (.const (.int .i64 0)) 50, 4, "ref.go:93", #[⟨16, .data⟩, ⟨14, .guard⟩], some (14, false)⟩ ?_ (.inl ⟨by rfl, ?_⟩) ?_
              rotate_left
              · (intro W hSw; (try dsimp only at hSw); go_simp; try (with_reducible rfl))
              try simp only [Act.put]
              try simp only [List.setIfInBounds_toArray]
              try simp only [List.set_cons_succ]
              try simp only [List.set_cons_zero]
              refine wpT 18 ⟨some 38, .pick (.tmp 34) (.const (.bool true)) (.tmp 37), 4, "ref.go:93", #[⟨14, .data⟩, ⟨17, .data⟩], none⟩ ?_ (.inl ⟨by rfl, ?_⟩) ?_
              rotate_left
              · (intro W hSw; (try dsimp only at hSw); go_simp; try (with_reducible rfl))
              try simp only [Act.put]
              try simp only [List.setIfInBounds_toArray]
              try simp only [List.set_cons_succ]
              try simp only [List.set_cons_zero]
              refine wpT 19 ⟨some 39, .move (.tmp 38), 4, "ref.go:93", #[⟨18, .data⟩, ⟨16, .chain⟩], none⟩ ?_ (.inl ⟨by rfl, ?_⟩) ?_
              rotate_left
              · (intro W hSw; (try dsimp only at hSw); go_simp; try (with_reducible rfl))
              try simp only [Act.put]
              try simp only [List.setIfInBounds_toArray]
              try simp only [List.set_cons_succ]
              try simp only [List.set_cons_zero]
              refine wpT 20 ⟨some 40, .load 25 (.tmp 1), 25, "ref.go:93", #[⟨19, .guard⟩], some (19, false)⟩ undef (.inr ⟨by rfl, rfl⟩) ?_
              try simp only [Act.put]
              try simp only [List.setIfInBounds_toArray]
              try simp only [List.set_cons_succ]
              try simp only [List.set_cons_zero]
              refine wpT 21 ⟨some 41, .load 47 (.tmp 4), 47, "ref.go:93", #[⟨19, .guard⟩], some (19, false)⟩ undef (.inr ⟨by rfl, rfl⟩) ?_
              try simp only [Act.put]
              try simp only [List.setIfInBounds_toArray]
              try simp only [List.set_cons_succ]
              try simp only [List.set_cons_zero]
              refine wpAnyH_ready (rs := [22]) (by kernel_rfl) (by simp) ?_
              refine AllReadyH.cons (o := ⟨some 42, .call { callee := .value (.func 83), args := #[.tmp 40, .tmp 41], argTypes := #[25, 47] }, 4, "ref.go:93", #[⟨20, .data⟩, ⟨21, .data⟩, ⟨19, .chain⟩, ⟨19, .guard⟩], some (19, false)⟩) rfl (fun K hK => ?_) AllReadyH.nil
              go_simp
              refine hK.out _ _ ?_ (fun hHeld => ?_)
              · exact hHeld
              clear hK K
              try simp only [Act.put]
              try simp only [List.setIfInBounds_toArray]
              try simp only [List.set_cons_succ]
              try simp only [List.set_cons_zero]
              refine wpT 23 ⟨some 43, .unOp .not 4 (.tmp 42), 4, "ref.go:93", #[⟨22, .data⟩, ⟨19, .guard⟩], some (19, false)⟩ undef (.inr ⟨by rfl, rfl⟩) ?_
              try simp only [Act.put]
              try simp only [List.setIfInBounds_toArray]
              try simp only [List.set_cons_succ]
              try simp only [List.set_cons_zero]
              refine wpT 24 ⟨some 44, .pick (.tmp 39) (.const (.bool true)) (.tmp 43), 4, "ref.go:93", #[⟨19, .data⟩, ⟨23, .data⟩], none⟩ ?_ (.inl ⟨by rfl, ?_⟩) ?_
              rotate_left
              · (intro W hSw; (try dsimp only at hSw); go_simp; try (with_reducible rfl))
              try simp only [Act.put]
              try simp only [List.setIfInBounds_toArray]
              try simp only [List.set_cons_succ]
              try simp only [List.set_cons_zero]
              refine wpAnyH_done (by kernel_rfl) (NoPanic.normal ?_) _
              have HU := Lib.hid (UA.out.trans hHeld)
              clear hHeld e0 e1 e2 g0 g1
              go_wp2
              go_ret
              exact ⟨by rw [HS.out]; rfl, U0.out.trans HU.out⟩
          · have HA := Lib.hid (show txR txs k ⟨xi, xd, xo, xA, xc⟩ = false by rw [HA0.out, decide_eq_false hyx]; rfl)
            have hyn2 : decide (xi ≤ y) = true := decide_eq_true (by omega)
            clear hyx
            have HS := Lib.hid (show rightS txs ords = false by rw [HV.out, ← HST.out, HA.out]; rfl)
            go_wp2
            refine wp_region_noPanic ?_
            refine wp_region_held_drew (S := (fun w' => Upd No (wr.alloc (.cells #[.int .i64 xi, .bool xd, .slice xA xo.length xc] 47)) w')) (by kernel_rfl) ?_ (fun hHeld => ?_)
            · (first | exact (Upd.refl No _).drew | exact hHeld.trans hu3)
            refine wpT 0 ⟨some 20, .move (.tmp 3), 3, "ref.go:93", #[], none⟩ ?_ (.inl ⟨by rfl, ?_⟩) ?_
            rotate_left
            · (intro W hSw; (try dsimp only at hSw); go_simp; try (with_reducible rfl))
            try simp only [Act.put]
            try simp only [List.setIfInBounds_toArray]
            try simp only [List.set_cons_succ]
            try simp only [List.set_cons_zero]
            refine wpT 1 ⟨some 21, .binOp .gtr 3 (.tmp 20) (.const (.int .i64 0)) 3, 4, "ref.go:93", #[⟨0, .data⟩], none⟩ ?_ (.inl ⟨by rfl, ?_⟩) ?_
            rotate_left
            · (intro W hSw; (try dsimp only at hSw); go_simp; try (with_reducible rfl))
            try simp only [Act.put]
            try simp only [List.setIfInBounds_toArray]
            try simp only [List.set_cons_succ]
            try simp only [List.set_cons_zero]
            refine wpT 2 ⟨some 22, .move (.tmp 21), 4, "ref.go:93", #[⟨1, .data⟩], none⟩ ?_ (.inl ⟨by rfl, ?_⟩) ?_
            rotate_left
            · (intro W hSw; (try dsimp only at hSw); go_simp; try (with_reducible rfl))
            try simp only [Act.put]
            try simp only [List.setIfInBounds_toArray]
            try simp only [List.set_cons_succ]
            try simp only [List.set_cons_zero]
            refine wpT 3 ⟨some 23, .fieldAddr 25 (.tmp 1) 0, 0, "ref.go:93", #[⟨2, .guard⟩], some (2, true)⟩ ?_ (.inl ⟨by rfl, ?_⟩) ?_
            rotate_left
            · (intro W hSw; (try dsimp only at hSw); go_simp; try (with_reducible rfl))
            try simp only [Act.put]
            try simp only [List.setIfInBounds_toArray]
            try simp only [List.set_cons_succ]
            try simp only [List.set_cons_zero]
            refine wpT 4 ⟨some 24, .load 22 (.tmp 23), 22, "ref.go:93", #[⟨3, .data⟩, ⟨2, .guard⟩], some (2, true)⟩ ?_ (.inl ⟨by rfl, ?_⟩) ?_
            rotate_left
            · (intro W hSw; (try dsimp only at hSw); go_simp; try (with_reducible rfl))
            try simp only [Act.put]
            try simp only [List.setIfInBounds_toArray]
            try simp only [List.set_cons_succ]
            try simp only [List.set_cons_zero]
            refine wpT 5 ⟨some 25, .move (.tmp 3), 3, "ref.go:93", #[⟨2, .guard⟩], some (2, true)⟩ ?_ (.inl ⟨by rfl, ?_⟩) ?_
            rotate_left
            · (intro W hSw; (try dsimp only at hSw); go_simp; try (with_reducible rfl))
            try simp only [Act.put]
            try simp only [List.setIfInBounds_toArray]
            try simp only [List.set_cons_succ]
            try simp only [List.set_cons_zero]
            refine wpT 6 ⟨some 26, .binOp .sub 3 (.tmp 25) (.const (.int .i64 1)) 3, 3, "ref.go:93", #[⟨5, .data⟩, ⟨2, .guard⟩], some (2, true)⟩ ?_ (.inl ⟨by rfl, ?_⟩) ?_
            rotate_left
            · (intro W hSw; (try dsimp only at hSw); go_simp; try (with_reducible rfl))
            try simp only [Act.put]
            try simp only [List.setIfInBounds_toArray]
            try simp only [List.set_cons_succ]
            try simp only [List.set_cons_zero]
            refine wpT 7 ⟨some 27, .indexAddr 22 (.tmp 24) (.tmp 26), 0, "ref.go:93", #[⟨4, .data⟩, ⟨6, .data⟩, ⟨2, .guard⟩], some (2, true)⟩ ?_ (.inl ⟨by rfl, ?_⟩) ?_
            rotate_left
            · (intro W hSw; (try dsimp only at hSw); go_simp; try (with_reducible rfl))
            try simp only [Act.put]
            try simp only [List.setIfInBounds_toArray]
            try simp only [List.set_cons_succ]
            try simp only [List.set_cons_zero]
            refine wpT 8 ⟨some 28, .fieldAddr 47 (.tmp 27) 0, 0, "ref.go:93", #[⟨7, .data⟩, ⟨2, .guard⟩], some (2, true)⟩ ?_ (.inl ⟨by rfl, ?_⟩) ?_
            rotate_left
            · (intro W hSw; (try dsimp only at hSw); go_simp; try (with_reducible rfl))
            try simp only [Act.put]
            try simp only [List.setIfInBounds_toArray]
            try simp only [List.set_cons_succ]
            try simp only [List.set_cons_zero]
            refine wpT 9 ⟨some 29, .load 3 (.tmp 28), 3, "ref.go:93", #[⟨8, .data⟩, ⟨2, .guard⟩], some (2, true)⟩ ?_ (.inl ⟨by rfl, ?_⟩) ?_
            rotate_left
            · (intro W hSw; (try dsimp only at hSw); go_simp; try (with_reducible rfl))
            try simp only [Act.put]
            try simp only [List.setIfInBounds_toArray]
            try simp only [List.set_cons_succ]
            try simp only [List.set_cons_zero]
            refine wpT 10 ⟨some 30, .fieldAddr 47 (.tmp 4) 0, 0, "ref.go:93", #[⟨2, .guard⟩], some (2, true)⟩ ?_ (.inl ⟨by rfl, ?_⟩) ?_
            rotate_left
            · (intro W hSw; (try dsimp only at hSw); go_simp; try (with_reducible rfl))
            try simp only [Act.put]
            try simp only [List.setIfInBounds_toArray]
            try simp only [List.set_cons_succ]
            try simp only [List.set_cons_zero]
            refine wpT 11 ⟨some 31, .load 3 (.tmp 30), 3, "ref.go:93", #[⟨10, .data⟩, ⟨2, .guard⟩], some (2, true)⟩ ?_ (.inl ⟨by rfl, ?_⟩) ?_
            rotate_left
            · (intro W hSw; (try dsimp only at hSw); go_simp; try (with_reducible rfl))
            try simp only [Act.put]
            try simp only [List.setIfInBounds_toArray]
            try simp only [List.set_cons_succ]
            try simp only [List.set_cons_zero]
            refine wpT 12 ⟨some 32, .binOp .geq 3 (.tmp 29) (.tmp 31) 3, 4, "ref.go:93", #[⟨9, .data⟩, ⟨11, .data⟩, ⟨2, .guard⟩], some (2, true)⟩ ?_ (.inl ⟨by rfl, ?_⟩) ?_
            rotate_left
            · (intro W hSw; (try dsimp only at hSw); go_simp; try (with_reducible rfl))
            try simp only [Act.put]
            try simp only [List.setIfInBounds_toArray]
            try simp only [List.set_cons_succ]
            try simp only [List.set_cons_zero]
            refine wpT 13 ⟨some 33, .pick (.tmp 22) (.tmp 32) (.const (.bool false)), 4, "ref.go:93", #[⟨2, .data⟩, ⟨12, .data⟩], none⟩ ?_ (.inl ⟨by rfl, ?_⟩) ?_
            rotate_left
            · (intro W hSw; (try dsimp only at hSw); go_simp; try (with_reducible rfl))
            try simp only [Act.put]
            try simp only [List.setIfInBounds_toArray]
            try simp only [List.set_cons_succ]
            try simp only [List.set_cons_zero]
            refine wpT 14 ⟨some 34, .move (.tmp 33), 4, "ref.go:93", #[⟨13, .data⟩, ⟨2, .chain⟩], none⟩ ?_ (.inl ⟨by rfl, ?_⟩) ?_
            rotate_left
            · (intro W hSw; (try dsimp only at hSw); go_simp; try (with_reducible rfl))
            try simp only [Act.put]
            try simp only [List.setIfInBounds_toArray]
            try simp only [List.set_cons_succ]
            try simp only [List.set_cons_zero]
            refine wpT 15 ⟨some 35, .load 47 (.tmp 4), 47, "ref.go:93", #[⟨14, .guard⟩], some (14, false)⟩ undef (.inr ⟨by rfl, rfl⟩) ?_
            try simp only [Act.put]
            try simp only [List.setIfInBounds_toArray]
            try simp only [List.set_cons_succ]
            try simp only [List.set_cons_zero]
            refine wpAnyH_ready (rs := [16]) (by kernel_rfl) (by simp) ?_
            refine AllReadyH.cons (o := ⟨some 36, .call { callee := .value (.func 21), args := #[.tmp 35], argTypes := #[47] }, 50, "ref.go:93", #[⟨15, .data⟩, ⟨14, .chain⟩, ⟨14, .guard⟩], some (14, false)⟩) rfl (fun K hK => ?_) AllReadyH.nil
            go_simp
            refine hK.out _ _ ?_ (fun hHeld => ?_)
            · exact hHeld
            clear hK K
            try simp only [Act.put]
            try simp only [List.setIfInBounds_toArray]
            try simp only [List.set_cons_succ]
            try simp only [List.set_cons_zero]
            refine wpT 17 ⟨some 37, .binOp .neq 50 (.tmp 36) (.const (.int .i64 0)) 50, 4, "ref.go:93", #[⟨16, .data⟩, ⟨14, .guard⟩], some (14, false)⟩ undef (.inr ⟨by rfl, rfl⟩) ?_
            try simp only [Act.put]
            try simp only [List.setIfInBounds_toArray]
            try simp only [List.set_cons_succ]
            try simp only [List.set_cons_zero]
            refine wpT 18 ⟨some 38, .pick (.tmp 34) (.const (.bool true)) (.tmp 37), 4, "ref.go:93", #[⟨14, .data⟩, ⟨17, .data⟩], none⟩ ?_ (.inl ⟨by rfl, ?_⟩) ?_
            rotate_left
            · (intro W hSw; (try dsimp only at hSw); go_simp; try (with_reducible rfl))
            try simp only [Act.put]
            try simp only [List.setIfInBounds_toArray]
            try simp only [List.set_cons_succ]
            try simp only [List.set_cons_zero]
            refine wpT 19 ⟨some 39, .move (.tmp 38), 4, "ref.go:93", #[⟨18, .data⟩, ⟨16, .chain⟩], none⟩ ?_ (.inl ⟨by rfl, ?_⟩) ?_
            rotate_left
            · (intro W hSw; (try dsimp only at hSw); go_simp; try (with_reducible rfl))
            try simp only [Act.put]
            try simp only [List.setIfInBounds_toArray]
            try simp only [List.set_cons_succ]
            try simp only [List.set_cons_zero]
            refine wpT 20 ⟨some 40, .load 25 (.tmp 1), 25, "ref.go:93", #[⟨19, .guard⟩], some (19, false)⟩ undef (.inr ⟨by rfl, rfl⟩) ?_
            try simp only [Act.put]
            try simp only [List.setIfInBounds_toArray]
            try simp only [List.set_cons_succ]
            try simp only [List.set_cons_zero]
            refine wpT 21 ⟨some 41, .load 47 (.tmp 4), 47, "ref.go:93", #[⟨19, .guard⟩], some (19, false)⟩ undef (.inr ⟨by rfl, rfl⟩) ?_
            try simp only [Act.put]
            try simp only [List.setIfInBounds_toArray]
            try simp only [List.set_cons_succ]
            try simp only [List.set_cons_zero]
            refine wpAnyH_ready (rs := [22]) (by kernel_rfl) (by simp) ?_
            refine AllReadyH.cons (o := ⟨some 42, .call { callee := .value (.func 83), args := #[.tmp 40, .tmp 41], argTypes := #[25, 47] }, 4, "ref.go:93", #[⟨20, .data⟩, ⟨21, .data⟩, ⟨19, .chain⟩, ⟨19, .guard⟩], some (19, false)⟩) rfl (fun K hK => ?_) AllReadyH.nil
            go_simp
            refine hK.out _ _ ?_ (fun hHeld => ?_)
            · exact hHeld
            clear hK K
            try simp only [Act.put]
            try simp only [List.setIfInBounds_toArray]
            try simp only [List.set_cons_succ]
            try simp only [List.set_cons_zero]
            refine wpT 23 ⟨some 43, .unOp .not 4 (.tmp 42), 4, "ref.go:93", #[⟨22, .data⟩, ⟨19, .guard⟩], some (19, false)⟩ undef (.inr ⟨by rfl, rfl⟩) ?_
            try simp only [Act.put]
            try simp only [List.setIfInBounds_toArray]
            try simp only [List.set_cons_succ]
            try simp only [List.set_cons_zero]
            refine wpT 24 ⟨some 44, .pick (.tmp 39) (.const (.bool true)) (.tmp 43), 4, "ref.go:93", #[⟨19, .data⟩, ⟨23, .data⟩], none⟩ ?_ (.inl ⟨by rfl, ?_⟩) ?_
            rotate_left
            · (intro W hSw; (try dsimp only at hSw); go_simp; try (with_reducible rfl))
            try simp only [Act.put]
            try simp only [List.setIfInBounds_toArray]
            try simp only [List.set_cons_succ]
            try simp only [List.set_cons_zero]
            refine wpAnyH_done (by kernel_rfl) (NoPanic.normal ?_) _
            have HU := Lib.hid (UA.out.trans hHeld)
            clear hHeld e0 e1 e2 g0 g1
            go_wp2
            go_ret
            exact ⟨by rw [HS.out]; rfl, U0.out.trans HU.out⟩
      · obtain rfl : k = txs.length := by omega
        have HT := Lib.hid (show txsR txs txs 0 = true by rw [← hs.out, List.drop_length]; rfl)
        have hall := txsR_err txs txs 0 HT.out
        have HK := Lib.hid (rKeysH F wr txs ords A c B d (H.upd (U0.out.trans hu1) (fun _ _ => id)) (by omega) (fun t ht => txErr_len (hall t ht)))
        have h0 := (bH.out.upd hu1 id).cell 0
        have h1 := (bH.out.upd hu1 id).cell 1
        simp only [List.getElem?_cons_zero, List.getElem?_cons_succ] at h0 h1
        obtain ⟨ks, hks⟩ : ∃ ks, keysHG [] txs = ks := ⟨_, rfl⟩
        rw [hks] at HK HV
        clear hall hks hs
        go_wp2_with fail
        refine (HK.out).mono ?_
        rintro e w2 ⟨A2, c2, rfl, ho2, hu2⟩
        have HI := Lib.hid (newR_ints ho2)
        have HU := Lib.hid ((U0.out.trans hu1).trans hu2)
        have HB := Lib.hid ((bH.out.upd hu1 id).upd hu2 id)
        have g1 := HB.out.cell 1
        simp only [List.getElem?_cons_zero, List.getElem?_cons_succ] at g1
        clear ho2 hu1 hu2 h0 h1
        by_cases hlen : ords.length = ks.length
        · have hlb : ((ords.length : Int) != (ks.length : Int)) = false := by rw [hlen]; simp
          have HLB := Lib.hid (show (ords.length == ks.length) = true by simpa using hlen)
          have HLE := Lib.hid hlen
          clear hlen
          have HW1 := Lib.hid fun W (hW : Upd No w2 W) => HU.out.trans hW
          go_wp2
          go_loopg [57] ords.length (fun gk i wr => ∃ (k : Nat), k + gk = ords.length ∧ i = .int .i64 k ∧ Hid (ordsR txs ks (ords.drop k) k = ordsR txs ks ords 0) ∧ Upd No w2 wr)
          case atStart => exact ⟨0, by omega, rfl, Lib.hid rfl, Upd.refl _ _⟩
          case round =>
            obtain ⟨k, hgk, rfl, hs, hu⟩ := hrel
            by_cases hlt2 : k < ords.length
            · obtain ⟨ad, hAd, q0, q1⟩ := (H.upd (HW1.out _ hu) (fun _ _ => id)).ord_at hlt2
              have hlo := H.ord ords[k] (List.getElem_mem hlt2)
              simp only at hAd q0 q1
              obtain ⟨x, hx⟩ : ∃ x, ords[k] = x := ⟨_, rfl⟩
              rw [hx] at q0 q1 hlo
              obtain ⟨xk, xl, xA, xc⟩ := x
              simp only at q0 q1
              subst hAd
              have X := Lib.hid (show ords.drop k = ⟨xk, xl, xA, xc⟩ :: ords.drop (k + 1) by rw [← hx]; exact List.drop_eq_getElem_cons hlt2)
              have HL := Lib.hid hlo
              have b1 : (0 : Int) ≤ (k : Int) := Int.natCast_nonneg _
              have b2 : (k : Int) < (ords.length : Int) := by omega
              have b3 : k < ks.length := by rw [← HLE.out]; exact hlt2
              have b4 : (k : Int) < (ks.length : Int) := by omega
              clear hx hlo
              have hst := hs.out
              rw [X.out, ordsR_cons, List.getD_eq_getElem?_getD, List.getElem?_eq_getElem b3] at hst
              have UA := Lib.hid (hu.alloc (.cells #[.int .i64 xk, .slice xA xl.length xc] 81))
              have BO := Lib.hid (Blk.new wr 81 [.int .i64 xk, .slice xA xl.length xc])
              have e0 : ∀ W, Upd No (wr.alloc (.cells #[.int .i64 xk, .slice xA xl.length xc] 81)) W → W.cell? ⟨wr.heap.size, 0, none⟩ = some (.int .i64 xk) := fun W hW => (BO.out.upd hW id).cell 0
              have e1 : ∀ W, Upd No (wr.alloc (.cells #[.int .i64 xk, .slice xA xl.length xc] 81)) W → W.cell? ⟨wr.heap.size, 1, none⟩ = some (.slice xA xl.length xc) := fun W hW => (BO.out.upd hW id).cell 1
              have g0 : ∀ W, Upd No (wr.alloc (.cells #[.int .i64 xk, .slice xA xl.length xc] 81)) W → W.cell? ⟨w.heap.size, 0, none⟩ = some (.slice A txs.length c) := fun W hW => (HB.out.upd (UA.out.trans hW) id).cell 0
              have g1 : ∀ W, Upd No (wr.alloc (.cells #[.int .i64 xk, .slice xA xl.length xc] 81)) W → W.cell? ⟨w.heap.size, 1, none⟩ = some (.slice (some ad) ords.length d) := fun W hW => (HB.out.upd (UA.out.trans hW) id).cell 1
              obtain ⟨ad2, hA2, _, _, _⟩ := (HI.out.upd hu (fun _ _ => id)).at_ b3
              have kc : ∀ W, Upd No (wr.alloc (.cells #[.int .i64 xk, .slice xA xl.length xc] 81)) W → W.cell? (ad2.add k) = some (.int .i64 ks[k]) := fun W hW => by
                obtain ⟨ad3, hA3, _, _, hc3⟩ := (HI.out.upd (UA.out.trans hW) (fun _ _ => id)).at_ b3
                rw [hA2] at hA3
                cases hA3
                exact hc3
              obtain ⟨ws, hws⟩ : ∃ ws, wrS xk [] txs = ws := ⟨_, rfl⟩
              have hwl := wrS_len xk txs []
              rw [hws] at hwl hst
              simp only [List.length_nil, Nat.zero_add] at hwl
              have HWt := Lib.hid fun W (hW : Upd No (wr.alloc (.cells #[.int .i64 xk, .slice xA xl.length xc] 81)) W) => (rWriters F W txs ords A c (some ad) d xk (H.upd (HW1.out _ (UA.out.trans hW)) (fun _ _ => id))).mono (R' := NewR W ws) (fun e w' h => by rw [hws] at h; exact h)
              obtain ⟨P, hP⟩ : ∃ P, (xl.length == ws.length && xl.all fun x => xl.count x == ws.count x) = P := ⟨_, rfl⟩
              simp only at hst
              rw [hP] at hst
              have HPm := Lib.hid fun W (hW : Upd No (wr.alloc (.cells #[.int .i64 xk, .slice xA xl.length xc] 81)) W) (G : Nat → Prop) A6 c6 (hI : Ints G W A6 ws) => rpermV (F := F) (G := G) (w := W) (A := xA) (B := A6) (c := xc) (d := c6) (HL.out.1.upd (HW1.out _ (UA.out.trans hW)) (fun _ _ => id)) hI HL.out.2.2.1 (by omega) hP
              obtain ⟨y, hy⟩ : ∃ y, ks[k] = y := ⟨_, rfl⟩
              rw [hy] at kc
              rw [show (some ks[k]).getD 0 = y from hy] at hst
              have HST := Lib.hid hst
              have HA2 := Lib.hid hA2
              subst hA2
              clear hst hws hP hy
              by_cases hky : xk = y
              · have hkb : (xk != y) = false := by rw [hky]; simp
                have hkb2 : (xk == y) = true := by simpa using hky
                clear hky
                cases P
                · have HS := Lib.hid (show rightS txs ords = false by rw [HV.out, HT.out, HLB.out, ← HST.out, hkb2]; rfl)
                  go_wp2
                  refine wp_region_noPanic ?_
                  refine wp_region_held_drew (S := (fun w' => Upd No (wr.alloc (.cells #[.int .i64 xk, .slice xA xl.length xc] 81)) w')) (by kernel_rfl) ?_ (fun hHeld => ?_)
                  · (first | exact (Upd.refl No _).drew | exact hHeld.trans hu3)
                  refine wpT 0 ⟨some 62, .fieldAddr 81 (.tmp 7) 0, 0, "ref.go:102", #[], none⟩ ?_ (.inl ⟨by rfl, ?_⟩) ?_
                  rotate_left
                  · (intro W hSw; (try dsimp only at hSw); go_simp; try (with_reducible rfl))
                  try simp only [Act.put]
                  try simp only [List.setIfInBounds_toArray]
                  try simp only [List.set_cons_succ]
                  try simp only [List.set_cons_zero]
                  refine wpT 1 ⟨some 63, .load 3 (.tmp 62), 3, "ref.go:102", #[⟨0, .data⟩], none⟩ ?_ (.inl ⟨by rfl, ?_⟩) ?_
                  rotate_left
                  · (intro W hSw; (try dsimp only at hSw); go_simp; try (with_reducible rfl))
                  try simp only [Act.put]
                  try simp only [List.setIfInBounds_toArray]
                  try simp only [List.set_cons_succ]
                  try simp only [List.set_cons_zero]
                  refine wpT 2 ⟨some 64, .move (.tmp 5), 72, "ref.go:102", #[], none⟩ ?_ (.inl ⟨by rfl, ?_⟩) ?_
                  rotate_left
                  · (intro W hSw; (try dsimp only at hSw); go_simp; try (with_reducible rfl))
                  try simp only [Act.put]
                  try simp only [List.setIfInBounds_toArray]
                  try simp only [List.set_cons_succ]
                  try simp only [List.set_cons_zero]
                  refine wpT 3 ⟨some 65, .move (.tmp 6), 3, "ref.go:102", #[], none⟩ ?_ (.inl ⟨by rfl, ?_⟩) ?_
                  rotate_left
                  · (intro W hSw; (try dsimp only at hSw); go_simp; try (with_reducible rfl))
                  try simp only [Act.put]
                  try simp only [List.setIfInBounds_toArray]
                  try simp only [List.set_cons_succ]
                  try simp only [List.set_cons_zero]
                  refine wpT 4 ⟨some 66, .indexAddr 72 (.tmp 64) (.tmp 65), 0, "ref.go:102", #[⟨2, .data⟩, ⟨3, .data⟩], none⟩ ?_ (.inl ⟨by rfl, ?_⟩) ?_
                  rotate_left
                  · (intro W hSw; (try dsimp only at hSw); go_simp; try (with_reducible rfl))
                  try simp only [Act.put]
                  try simp only [List.setIfInBounds_toArray]
                  try simp only [List.set_cons_succ]
                  try simp only [List.set_cons_zero]
                  refine wpT 5 ⟨some 67, .load 3 (.tmp 66), 3, "ref.go:102", #[⟨4, .data⟩], none⟩ ?_ (.inl ⟨by rfl, ?_⟩) ?_
                  rotate_left
                  · (intro W hSw; (try dsimp only at hSw); go_simp; try (with_reducible rfl))
                  try simp only [Act.put]
                  try simp only [List.setIfInBounds_toArray]
                  try simp only [List.set_cons_succ]
                  try simp only [List.set_cons_zero]
                  refine wpT 6 ⟨some 68, .binOp .neq 3 (.tmp 63) (.tmp 67) 3, 4, "ref.go:102", #[⟨1, .data⟩, ⟨5, .data⟩], none⟩ ?_ (.inl ⟨by rfl, ?_⟩) ?_
                  rotate_left
                  · (intro W hSw; (try dsimp only at hSw); go_simp; try (with_reducible rfl))
                  try simp only [Act.put]
                  try simp only [List.setIfInBounds_toArray]
                  try simp only [List.set_cons_succ]
                  try simp only [List.set_cons_zero]
                  refine wpT 7 ⟨some 69, .move (.tmp 68), 4, "ref.go:102", #[⟨6, .data⟩], none⟩ ?_ (.inl ⟨by rfl, ?_⟩) ?_
                  rotate_left
                  · (intro W hSw; (try dsimp only at hSw); go_simp; try (with_reducible rfl))
                  try simp only [Act.put]
                  try simp only [List.setIfInBounds_toArray]
                  try simp only [List.set_cons_succ]
                  try simp only [List.set_cons_zero]
                  refine wpT 8 ⟨some 70, .fieldAddr 81 (.tmp 7) 1, 0, "ref.go:102", #[⟨7, .guard⟩], some (7, false)⟩ ?_ (.inl ⟨by rfl, ?_⟩) ?_
                  rotate_left
                  · (intro W hSw; (try dsimp only at hSw); go_simp; try (with_reducible rfl))
                  try simp only [Act.put]
                  try simp only [List.setIfInBounds_toArray]
                  try simp only [List.set_cons_succ]
                  try simp only [List.set_cons_zero]
                  refine wpT 9 ⟨some 71, .load 72 (.tmp 70), 72, "ref.go:102", #[⟨8, .data⟩, ⟨7, .guard⟩], some (7, false)⟩ ?_ (.inl ⟨by rfl, ?_⟩) ?_
                  rotate_left
                  · (intro W hSw; (try dsimp only at hSw); go_simp; try (with_reducible rfl))
                  try simp only [Act.put]
                  try simp only [List.setIfInBounds_toArray]
                  try simp only [List.set_cons_succ]
                  try simp only [List.set_cons_zero]
                  refine wpT 10 ⟨some 72, .load 25 (.tmp 1), 25, "ref.go:102", #[⟨7, .guard⟩], some (7, false)⟩ ?_ (.inl ⟨by rfl, ?_⟩) ?_
                  rotate_left
                  · (intro W hSw; (try dsimp only at hSw); go_simp; try (with_reducible rfl))
                  try simp only [Act.put]
                  try simp only [List.setIfInBounds_toArray]
                  try simp only [List.set_cons_succ]
                  try simp only [List.set_cons_zero]
                  refine wpT 11 ⟨some 73, .fieldAddr 81 (.tmp 7) 0, 0, "ref.go:102", #[⟨7, .guard⟩], some (7, false)⟩ ?_ (.inl ⟨by rfl, ?_⟩) ?_
                  rotate_left
                  · (intro W hSw; (try dsimp only at hSw); go_simp; try (with_reducible rfl))
                  try simp only [Act.put]
                  try simp only [List.setIfInBounds_toArray]
                  try simp only [List.set_cons_succ]
                  try simp only [List.set_cons_zero]
                  refine wpT 12 ⟨some 74, .load 3 (.tmp 73), 3, "ref.go:102", #[⟨11, .data⟩, ⟨7, .guard⟩], some (7, false)⟩ ?_ (.inl ⟨by rfl, ?_⟩) ?_
                  rotate_left
                  · (intro W hSw; (try dsimp only at hSw); go_simp; try (with_reducible rfl))
                  try simp only [Act.put]
                  try simp only [List.setIfInBounds_toArray]
                  try simp only [List.set_cons_succ]
                  try simp only [List.set_cons_zero]
                  refine wpAnyH_ready (rs := [13]) (by kernel_rfl) (by simp) ?_
                  refine AllReadyH.cons (o := ⟨some 75, .call { callee := .value (.func 69), args := #[.tmp 72, .tmp 74], argTypes := #[25, 3] }, 72, "ref.go:102", #[⟨10, .data⟩, ⟨12, .data⟩, ⟨7, .chain⟩, ⟨7, .guard⟩], some (7, false)⟩) rfl (fun K hK => ?_) AllReadyH.nil
                  go_simp
                  (first
    | (go_at_call 69; refine (HWt.out _ hHeld).mono ?_; rintro e w3 ⟨A6, c6, rfl, ho6, hu3⟩; have hI6 := newR_ints ho6))
                  try (go_wp2_with fail)
                  refine hK.out _ _ ?_ (fun hHeld => ?_)
                  · (first | exact (Upd.refl No _).drew | exact hHeld.trans hu3)
                  clear hK K
                  try simp only [Act.put]
                  try simp only [List.setIfInBounds_toArray]
                  try simp only [List.set_cons_succ]
                  try simp only [List.set_cons_zero]
                  refine wpAnyH_ready (rs := [14]) (by kernel_rfl) (by simp) ?_
                  refine AllReadyH.cons (o := ⟨some 76, .call { callee := .value (.func 85), args := #[.tmp 71, .tmp 75], argTypes := #[72, 72] }, 4, "ref.go:102", #[⟨9, .data⟩, ⟨13, .data⟩, ⟨13, .chain⟩, ⟨7, .guard⟩], some (7, false)⟩) rfl (fun K hK => ?_) AllReadyH.nil
                  go_simp
                  (first
    | (go_at_call 85; refine (HPm.out _ hHeld _ A6 c6 hI6).mono ?_; rintro e w3 ⟨rfl, hu3⟩))
                  try (go_wp2_with fail)
                  refine hK.out _ _ ?_ (fun hHeld => ?_)
                  · (first | exact (Upd.refl No _).drew | exact hHeld.trans hu3)
                  clear hK K
                  try simp only [Act.put]
                  try simp only [List.setIfInBounds_toArray]
                  try simp only [List.set_cons_succ]
                  try simp only [List.set_cons_zero]
                  refine wpT 15 ⟨some 77, .unOp .not 4 (.tmp 76), 4, "ref.go:102", #[⟨14, .data⟩, ⟨7, .guard⟩], some (7, false)⟩ ?_ (.inl ⟨by rfl, ?_⟩) ?_
                  rotate_left
                  · (intro W hSw; (try dsimp only at hSw); go_simp; try (with_reducible rfl))
                  try simp only [Act.put]
                  try simp only [List.setIfInBounds_toArray]
                  try simp only [List.set_cons_succ]
                  try simp only [List.set_cons_zero]
                  refine wpT 16 ⟨some 78, .pick (.tmp 69) (.const (.bool true)) (.tmp 77), 4, "ref.go:102", #[⟨7, .data⟩, ⟨15, .data⟩], none⟩ ?_ (.inl ⟨by rfl, ?_⟩) ?_
                  rotate_left
                  · (intro W hSw; (try dsimp only at hSw); go_simp; try (with_reducible rfl))
                  try simp only [Act.put]
                  try simp only [List.setIfInBounds_toArray]
                  try simp only [List.set_cons_succ]
                  try simp only [List.set_cons_zero]
                  refine wpAnyH_done (by kernel_rfl) (NoPanic.normal ?_) _
                  have HU2 := Lib.hid (UA.out.trans hHeld)
                  clear hHeld e0 e1 g0 g1 kc
                  go_wp2
                  go_ret
                  exact ⟨by rw [HS.out]; rfl, HW1.out _ HU2.out⟩
                · have HS := Lib.hid (show ordsR txs ks (ords.drop (k + 1)) (k + 1) = ordsR txs ks ords 0 by rw [← HST.out, hkb2]; rfl)
                  go_wp2
                  refine wp_region_noPanic ?_
                  refine wp_region_held_drew (S := (fun w' => Upd No (wr.alloc (.cells #[.int .i64 xk, .slice xA xl.length xc] 81)) w')) (by kernel_rfl) ?_ (fun hHeld => ?_)
                  · (first | exact (Upd.refl No _).drew | exact hHeld.trans hu3)
                  refine wpT 0 ⟨some 62, .fieldAddr 81 (.tmp 7) 0, 0, "ref.go:102", #[], none⟩ ?_ (.inl ⟨by rfl, ?_⟩) ?_
                  rotate_left
                  · (intro W hSw; (try dsimp only at hSw); go_simp; try (with_reducible rfl))
                  try simp only [Act.put]
                  try simp only [List.setIfInBounds_toArray]
                  try simp only [List.set_cons_succ]
                  try simp only [List.set_cons_zero]
                  refine wpT 1 ⟨some 63, .load 3 (.tmp 62), 3, "ref.go:102", #[⟨0, .data⟩], none⟩ ?_ (.inl ⟨by rfl, ?_⟩) ?_
                  rotate_left
                  · (intro W hSw; (try dsimp only at hSw); go_simp; try (with_reducible rfl))
                  try simp only [Act.put]
                  try simp only [List.setIfInBounds_toArray]
                  try simp only [List.set_cons_succ]
                  try simp only [List.set_cons_zero]
                  refine wpT 2 ⟨some 64, .move (.tmp 5), 72, "ref.go:102", #[], none⟩ ?_ (.inl ⟨by rfl, ?_⟩) ?_
                  rotate_left
                  · (intro W hSw; (try dsimp only at hSw); go_simp; try (with_reducible rfl))
                  try simp only [Act.put]
                  try simp only [List.setIfInBounds_toArray]
                  try simp only [List.set_cons_succ]
                  try simp only [List.set_cons_zero]
                  refine wpT 3 ⟨some 65, .move (.tmp 6), 3, "ref.go:102", #[], none⟩ ?_ (.inl ⟨by rfl, ?_⟩) ?_
                  rotate_left
                  · (intro W hSw; (try dsimp only at hSw); go_simp; try (with_reducible rfl))
                  try simp only [Act.put]
                  try simp only [List.setIfInBounds_toArray]
                  try simp only [List.set_cons_succ]
                  try simp only [List.set_cons_zero]
                  refine wpT 4 ⟨some 66, .indexAddr 72 (.tmp 64) (.tmp 65), 0, "ref.go:102", #[⟨2, .data⟩, ⟨3, .data⟩], none⟩ ?_ (.inl ⟨by rfl, ?_⟩) ?_
                  rotate_left
                  · (intro W hSw; (try dsimp only at hSw); go_simp; try (with_reducible rfl))
                  try simp only [Act.put]
                  try simp only [List.setIfInBounds_toArray]
                  try simp only [List.set_cons_succ]
                  try simp only [List.set_cons_zero]
                  refine wpT 5 ⟨some 67, .load 3 (.tmp 66), 3, "ref.go:102", #[⟨4, .data⟩], none⟩ ?_ (.inl ⟨by rfl, ?_⟩) ?_
                  rotate_left
                  · (intro W hSw; (try dsimp only at hSw); go_simp; try (with_reducible rfl))
                  try simp only [Act.put]
                  try simp only [List.setIfInBounds_toArray]
                  try simp only [List.set_cons_succ]
                  try simp only [List.set_cons_zero]
                  refine wpT 6 ⟨some 68, .binOp .neq 3 (.tmp 63) (.tmp 67) 3, 4, "ref.go:102", #[⟨1, .data⟩, ⟨5, .data⟩], none⟩ ?_ (.inl ⟨by rfl, ?_⟩) ?_
                  rotate_left
                  · (intro W hSw; (try dsimp only at hSw); go_simp; try (with_reducible rfl))
                  try simp only [Act.put]
                  try simp only [List.setIfInBounds_toArray]
                  try simp only [List.set_cons_succ]
                  try simp only [List.set_cons_zero]
                  refine wpT 7 ⟨some 69, .move (.tmp 68), 4, "ref.go:102", #[⟨6, .data⟩], none⟩ ?_ (.inl ⟨by rfl, ?_⟩) ?_
                  rotate_left
                  · (intro W hSw; (try dsimp only at hSw); go_simp; try (with_reducible rfl))
                  try simp only [Act.put]
                  try simp only [List.setIfInBounds_toArray]
                  try simp only [List.set_cons_succ]
                  try simp only [List.set_cons_zero]
                  refine wpT 8 ⟨some 70, .fieldAddr 81 (.tmp 7) 1, 0, "ref.go:102", #[⟨7, .guard⟩], some (7, false)⟩ ?_ (.inl ⟨by rfl, ?_⟩) ?_
                  rotate_left
                  · (intro W hSw; (try dsimp only at hSw); go_simp; try (with_reducible rfl))
                  try simp only [Act.put]
                  try simp only [List.setIfInBounds_toArray]
                  try simp only [List.set_cons_succ]
                  try simp only [List.set_cons_zero]
                  refine wpT 9 ⟨some 71, .load 72 (.tmp 70), 72, "ref.go:102", #[⟨8, .data⟩, ⟨7, .guard⟩], some (7, false)⟩ ?_ (.inl ⟨by rfl, ?_⟩) ?_
                  rotate_left
                  · (intro W hSw; (try dsimp only at hSw); go_simp; try (with_reducible rfl))
                  try simp only [Act.put]
                  try simp only [List.setIfInBounds_toArray]
                  try simp only [List.set_cons_succ]
                  try simp only [List.set_cons_zero]
                  refine wpT 10 ⟨some 72, .load 25 (.tmp 1), 25, "ref.go:102", #[⟨7, .guard⟩], some (7, false)⟩ ?_ (.inl ⟨by rfl, ?_⟩) ?_
                  rotate_left
                  · (intro W hSw; (try dsimp only at hSw); go_simp; try (with_reducible rfl))
                  try simp only [Act.put]
                  try simp only [List.setIfInBounds_toArray]
                  try simp only [List.set_cons_succ]
                  try simp only [List.set_cons_zero]
                  refine wpT 11 ⟨some 73, .fieldAddr 81 (.tmp 7) 0, 0, "ref.go:102", #[⟨7, .guard⟩], some (7, false)⟩ ?_ (.inl ⟨by rfl, ?_⟩) ?_
                  rotate_left
                  · (intro W hSw; (try dsimp only at hSw); go_simp; try (with_reducible rfl))
                  try simp only [Act.put]
                  try simp only [List.setIfInBounds_toArray]
                  try simp only [List.set_cons_succ]
                  try simp only [List.set_cons_zero]
                  refine wpT 12 ⟨some 74, .load 3 (.tmp 73), 3, "ref.go:102", #[⟨11, .data⟩, ⟨7, .guard⟩], some (7, false)⟩ ?_ (.inl ⟨by rfl, ?_⟩) ?_
                  rotate_left
                  · (intro W hSw; (try dsimp only at hSw); go_simp; try (with_reducible rfl))
                  try simp only [Act.put]
                  try simp only [List.setIfInBounds_toArray]
                  try simp only [List.set_cons_succ]
                  try simp only [List.set_cons_zero]
                  refine wpAnyH_ready (rs := [13]) (by kernel_rfl) (by simp) ?_
                  refine AllReadyH.cons (o := ⟨some 75, .call { callee := .value (.func 69), args := #[.tmp 72, .tmp 74], argTypes := #[25, 3] }, 72, "ref.go:102", #[⟨10, .data⟩, ⟨12, .data⟩, ⟨7, .chain⟩, ⟨7, .guard⟩], some (7, false)⟩) rfl (fun K hK => ?_) AllReadyH.nil
                  go_simp
                  (first
    | (go_at_call 69; refine (HWt.out _ hHeld).mono ?_; rintro e w3 ⟨A6, c6, rfl, ho6, hu3⟩; have hI6 := newR_ints ho6))
                  try (go_wp2_with fail)
                  refine hK.out _ _ ?_ (fun hHeld => ?_)
                  · (first | exact (Upd.refl No _).drew | exact hHeld.trans hu3)
                  clear hK K
                  try simp only [Act.put]
                  try simp only [List.setIfInBounds_toArray]
                  try simp only [List.set_cons_succ]
                  try simp only [List.set_cons_zero]
                  refine wpAnyH_ready (rs := [14]) (by kernel_rfl) (by simp) ?_
                  refine AllReadyH.cons (o := ⟨some 76, .call { callee := .value (.func 85), args := #[.tmp 71, .tmp 75], argTypes := #[72, 72] }, 4, "ref.go:102", #[⟨9, .data⟩, ⟨13, .data⟩, ⟨13, .chain⟩, ⟨7, .guard⟩], some (7, false)⟩) rfl (fun K hK => ?_) AllReadyH.nil
                  go_simp
                  (first
    | (go_at_call 85; refine (HPm.out _ hHeld _ A6 c6 hI6).mono ?_; rintro e w3 ⟨rfl, hu3⟩))
                  try (go_wp2_with fail)
                  refine hK.out _ _ ?_ (fun hHeld => ?_)
                  · (first | exact (Upd.refl No _).drew | exact hHeld.trans hu3)
                  clear hK K
                  try simp only [Act.put]
                  try simp only [List.setIfInBounds_toArray]
                  try simp only [List.set_cons_succ]
                  try simp only [List.set_cons_zero]
                  refine wpT 15 ⟨some 77, .unOp .not 4 (.tmp 76), 4, "ref.go:102", #[⟨14, .data⟩, ⟨7, .guard⟩], some (7, false)⟩ ?_ (.inl ⟨by rfl, ?_⟩) ?_
                  rotate_left
                  · (intro W hSw; (try dsimp only at hSw); go_simp; try (with_reducible rfl))
                  try simp only [Act.put]
                  try simp only [List.setIfInBounds_toArray]
                  try simp only [List.set_cons_succ]
                  try simp only [List.set_cons_zero]
                  refine wpT 16 ⟨some 78, .pick (.tmp 69) (.const (.bool true)) (.tmp 77), 4, "ref.go:102", #[⟨7, .data⟩, ⟨15, .data⟩], none⟩ ?_ (.inl ⟨by rfl, ?_⟩) ?_
                  rotate_left
                  · (intro W hSw; (try dsimp only at hSw); go_simp; try (with_reducible rfl))
                  try simp only [Act.put]
                  try simp only [List.setIfInBounds_toArray]
                  try simp only [List.set_cons_succ]
                  try simp only [List.set_cons_zero]
                  refine wpAnyH_done (by kernel_rfl) (NoPanic.normal ?_) _
                  have HU2 := Lib.hid (UA.out.trans hHeld)
                  clear hHeld e0 e1 g0 g1 kc
                  go_wp2
                  go_roundg (gk - 1)
                  case measure => omega
                  case rel => exact ⟨k + 1, by omega, by go_num, HS, HU2.out⟩
              · have hkb : (xk != y) = true := by rw [bne_iff_ne]; exact hky
                have HS := Lib.hid (show rightS txs ords = false by rw [HV.out, HT.out, HLB.out, ← HST.out, beq_eq_false_iff_ne.2 hky]; rfl)
                clear hky
                go_wp2
                refine wp_region_noPanic ?_
                refine wp_region_held_drew (S := (fun w' => Upd No (wr.alloc (.cells #[.int .i64 xk, .slice xA xl.length xc] 81)) w')) (by kernel_rfl) ?_ (fun hHeld => ?_)
                · (first | exact (Upd.refl No _).drew | exact hHeld.trans hu3)
                refine wpT 0 ⟨some 62, .fieldAddr 81 (.tmp 7) 0, 0, "ref.go:102", #[], none⟩ ?_ (.inl ⟨by rfl, ?_⟩) ?_
                rotate_left
                · (intro W hSw; (try dsimp only at hSw); go_simp; try (with_reducible rfl))
                try simp only [Act.put]
                try simp only [List.setIfInBounds_toArray]
                try simp only [List.set_cons_succ]
                try simp only [List.set_cons_zero]
                refine wpT 1 ⟨some 63, .load 3 (.tmp 62), 3, "ref.go:102", #[⟨0, .data⟩], none⟩ ?_ (.inl ⟨by rfl, ?_⟩) ?_
                rotate_left
                · (intro W hSw; (try dsimp only at hSw); go_simp; try (with_reducible rfl))
                try simp only [Act.put]
                try simp only [List.setIfInBounds_toArray]
                try simp only [List.set_cons_succ]
                try simp only [List.set_cons_zero]
                refine wpT 2 ⟨some 64, .move (.tmp 5), 72, "ref.go:102", #[], none⟩ ?_ (.inl ⟨by rfl, ?_⟩) ?_
                rotate_left
                · (intro W hSw; (try dsimp only at hSw); go_simp; try (with_reducible rfl))
                try simp only [Act.put]
                try simp only [List.setIfInBounds_toArray]
                try simp only [List.set_cons_succ]
                try simp only [List.set_cons_zero]
                refine wpT 3 ⟨some 65, .move (.tmp 6), 3, "ref.go:102", #[], none⟩ ?_ (.inl ⟨by rfl, ?_⟩) ?_
                rotate_left
                · (intro W hSw; (try dsimp only at hSw); go_simp; try (with_reducible rfl))
                try simp only [Act.put]
                try simp only [List.setIfInBounds_toArray]
                try simp only [List.set_cons_succ]
                try simp only [List.set_cons_zero]
                refine wpT 4 ⟨some 66, .indexAddr 72 (.tmp 64) (.tmp 65), 0, "ref.go:102", #[⟨2, .data⟩, ⟨3, .data⟩], none⟩ ?_ (.inl ⟨by rfl, ?_⟩) ?_
                rotate_left
                · (intro W hSw; (try dsimp only at hSw); go_simp; try (with_reducible rfl))
                try simp only [Act.put]
                try simp only [List.setIfInBounds_toArray]
                try simp only [List.set_cons_succ]
                try simp only [List.set_cons_zero]
                refine wpT 5 ⟨some 67, .load 3 (.tmp 66), 3, "ref.go:102", #[⟨4, .data⟩], none⟩ ?_ (.inl ⟨by rfl, ?_⟩) ?_
                rotate_left
                · (intro W hSw; (try dsimp only at hSw); go_simp; try (with_reducible rfl))
                try simp only [Act.put]
                try simp only [List.setIfInBounds_toArray]
                try simp only [List.set_cons_succ]
                try simp only [List.set_cons_zero]
                refine wpT 6 ⟨some 68, .binOp .neq 3 (.tmp 63) (.tmp 67) 3, 4, "ref.go:102", #[⟨1, .data⟩, ⟨5, .data⟩], none⟩ ?_ (.inl ⟨by rfl, ?_⟩) ?_
                rotate_left
                · (intro W hSw; (try dsimp only at hSw); go_simp; try (with_reducible rfl))
                try simp only [Act.put]
                try simp only [List.setIfInBounds_toArray]
                try simp only [List.set_cons_succ]
                try simp only [List.set_cons_zero]
                refine wpT 7 ⟨some 69, .move (.tmp 68), 4, "ref.go:102", #[⟨6, .data⟩], none⟩ ?_ (.inl ⟨by rfl, ?_⟩) ?_
                rotate_left
                · (intro W hSw; (try dsimp only at hSw); go_simp; try (with_reducible rfl))
                try simp only [Act.put]
                try simp only [List.setIfInBounds_toArray]
                try simp only [List.set_cons_succ]
                try simp only [List.set_cons_zero]
                refine wpT 8 ⟨some 70, .fieldAddr 81 (.tmp 7) 1, 0, "ref.go:102", #[⟨7, .guard⟩], some (7, false)⟩ undef (.inr ⟨by rfl, rfl⟩) ?_
                try simp only [Act.put]
                try simp only [List.setIfInBounds_toArray]
                try simp only [List.set_cons_succ]
                try simp only [List.set_cons_zero]
                refine wpT 9 ⟨some 71, .load 72 (.tmp 70), 72, "ref.go:102", #[⟨8, .data⟩, ⟨7, .guard⟩], some (7, false)⟩ undef (.inr ⟨by rfl, rfl⟩) ?_
                try simp only [Act.put]
                try simp only [List.setIfInBounds_toArray]
                try simp only [List.set_cons_succ]
                try simp only [List.set_cons_zero]
                refine wpT 10 ⟨some 72, .load 25 (.tmp 1), 25, "ref.go:102", #[⟨7, .guard⟩], some (7, false)⟩ undef (.inr ⟨by rfl, rfl⟩) ?_
                try simp only [Act.put]
                try simp only [List.setIfInBounds_toArray]
                try simp only [List.set_cons_succ]
                try simp only [List.set_cons_zero]
                refine wpT 11 ⟨some 73, .fieldAddr 81 (.tmp 7) 0, 0, "ref.go:102", #[⟨7, .guard⟩], some (7, false)⟩ undef (.inr ⟨by rfl, rfl⟩) ?_
                try simp only [Act.put]
                try simp only [List.setIfInBounds_toArray]
                try simp only [List.set_cons_succ]
                try simp only [List.set_cons_zero]
                refine wpT 12 ⟨some 74, .load 3 (.tmp 73), 3, "ref.go:102", #[⟨11, .data⟩, ⟨7, .guard⟩], some (7, false)⟩ undef (.inr ⟨by rfl, rfl⟩) ?_
                try simp only [Act.put]
                try simp only [List.setIfInBounds_toArray]
                try simp only [List.set_cons_succ]
                try simp only [List.set_cons_zero]
                refine wpAnyH_ready (rs := [13]) (by kernel_rfl) (by simp) ?_
                refine AllReadyH.cons (o := ⟨some 75, .call { callee := .value (.func 69), args := #[.tmp 72, .tmp 74], argTypes := #[25, 3] }, 72, "ref.go:102", #[⟨10, .data⟩, ⟨12, .data⟩, ⟨7, .chain⟩, ⟨7, .guard⟩], some (7, false)⟩) rfl (fun K hK => ?_) AllReadyH.nil
                go_simp
                refine hK.out _ _ ?_ (fun hHeld => ?_)
                · exact hHeld
                clear hK K
                try simp only [Act.put]
                try simp only [List.setIfInBounds_toArray]
                try simp only [List.set_cons_succ]
                try simp only [List.set_cons_zero]
                refine wpAnyH_ready (rs := [14]) (by kernel_rfl) (by simp) ?_
                refine AllReadyH.cons (o := ⟨some 76, .call { callee := .value (.func 85), args := #[.tmp 71, .tmp 75], argTypes := #[72, 72] }, 4, "ref.go:102", #[⟨9, .data⟩, ⟨13, .data⟩, ⟨13, .chain⟩, ⟨7, .guard⟩], some (7, false)⟩) rfl (fun K hK => ?_) AllReadyH.nil
                go_simp
                refine hK.out _ _ ?_ (fun hHeld => ?_)
                · exact hHeld
                clear hK K
                try simp only [Act.put]
                try simp only [List.setIfInBounds_toArray]
                try simp only [List.set_cons_succ]
                try simp only [List.set_cons_zero]
                refine wpT 15 ⟨some 77, .unOp .not 4 (.tmp 76), 4, "ref.go:102", #[⟨14, .data⟩, ⟨7, .guard⟩], some (7, false)⟩ undef (.inr ⟨by rfl, rfl⟩) ?_
                try simp only [Act.put]
                try simp only [List.setIfInBounds_toArray]
                try simp only [List.set_cons_succ]
                try simp only [List.set_cons_zero]
                refine wpT 16 ⟨some 78, .pick (.tmp 69) (.const (.bool true)) (.tmp 77), 4, "ref.go:102", #[⟨7, .data⟩, ⟨15, .data⟩], none⟩ ?_ (.inl ⟨by rfl, ?_⟩) ?_
                rotate_left
                · (intro W hSw; (try dsimp only at hSw); go_simp; try (with_reducible rfl))
                try simp only [Act.put]
                try simp only [List.setIfInBounds_toArray]
                try simp only [List.set_cons_succ]
                try simp only [List.set_cons_zero]
                refine wpAnyH_done (by kernel_rfl) (NoPanic.normal ?_) _
                have HU2 := Lib.hid (UA.out.trans hHeld)
                clear hHeld e0 e1 g0 g1 kc
                go_wp2
                go_ret
                exact ⟨by rw [HS.out]; rfl, HW1.out _ HU2.out⟩
            · obtain rfl : k = ords.length := by omega
              have HS := Lib.hid (show rightS txs ords = true by rw [HV.out, HT.out, HLB.out, ← hs.out, List.drop_length]; rfl)
              go_wp2
              go_ret
              exact ⟨by rw [HS.out]; rfl, HW1.out _ hu⟩
        · have hlb : ((ords.length : Int) != (ks.length : Int)) = true := by rw [bne_iff_ne]; omega
          have HS := Lib.hid (show rightS txs ords = false by rw [HV.out, HT.out, show (ords.length == ks.length) = false by simpa using hlen]; rfl)
          clear hlen
          go_wp2
          go_ret
          exact ⟨by rw [HS.out]; rfl, HU.out⟩
end Go.Proofs.YtaicemjckagcaaaGreat
