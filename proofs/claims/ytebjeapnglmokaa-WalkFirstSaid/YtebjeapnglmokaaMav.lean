/- Digraphs: where an end stands among others. -/
import Derived.IntWalk
import Derived.Test.YtebjeapnglmokaaProg
import Derived.Deep.RegionHeld3
import Derived.Test.YtebjeapnglmokaaMau
namespace Go.Proofs.Ytebjeapnglmokaa
set_option linter.unusedVariables false
open Go.RowKit
def DEnds (F : Nat → Prop) (w : World) (A : Option Addr) (l : List DEnd) : Prop := Recs F w A 3 (l.map DEnd.cells)
theorem DEnds.at_ {F : Nat → Prop} {w : World} {A : Option Addr} {l : List DEnd} (h : DEnds F w A l) {k : Nat} (hk : k < l.length) : ∃ ad, A = some ad ∧
    w.cell? (ad.add (k * 3)) = some (.int .i64 l[k].kind) ∧ w.cell? ⟨(ad.add (k * 3)).block, (ad.add (k * 3)).off + 1, none⟩ = some (.int .i64 l[k].label) ∧
    w.cell? ⟨(ad.add (k * 3)).block, (ad.add (k * 3)).off + 2, none⟩ = some (.int .i64 l[k].node) := by
  have hk' : k < (l.map DEnd.cells).length := by simpa using hk
  obtain ⟨ad, e, _, _, hc⟩ := Recs.at_ h hk'
  rw [List.getElem_map] at hc
  exact ⟨ad, e, by simpa using hc 0 _ rfl, by simpa using hc 1 _ rfl, by simpa using hc 2 _ rfl⟩
theorem DEnds.upd {F S : Nat → Prop} {w w' : World} {A : Option Addr} {l : List DEnd} (h : DEnds F w A l) (k : Upd S w w') (hn : ∀ i, F i → ¬ S i) : DEnds F w' A l := Recs.upd h k hn
/-- place p parts what is less than e from the rest -/
def Parts (l : List DEnd) (e : DEnd) (p : Nat) : Prop := p ≤ l.length ∧ ∀ k (hk : k < l.length), (cmpD l[k] e < 0 ↔ k < p)
def isAt (l : List DEnd) (e : DEnd) (p : Nat) : Bool := match l[p]? with | some x => cmpD x e == 0 | none => false
set_option maxRecDepth 100000 in
set_option maxHeartbeats 1000000 in
theorem dfind (F : Nat → Prop) (w : World) (A : Option Addr) (c : Nat) (l : List DEnd) (e : DEnd) (p : Nat) (h : DEnds F w A l) (hl : l.length ≤ 1000000) (hp : Parts l e p) :
    Calls Try.prog 62 #[.slice A l.length c, .agg e.cells.toArray, .func (.func 63) #[] #[]] w fun r w' => r = .returned (.tuple #[.int .i64 (p : Int), .bool (isAt l e p)]) ∧ Upd No w w' := by
  obtain ⟨ek, el, en⟩ := e
  unfold DEnd.cells
  have bE := Lib.hid (Blk.new w 88 [.int .i64 ek, .int .i64 el, .int .i64 en])
  have u0 := (Upd.refl No w).alloc (.cells #[.int .i64 ek, .int .i64 el, .int .i64 en] 88)
  have U0 := Lib.hid u0
  have hc : ∀ W (x : DEnd), Calls Try.prog 63 #[.agg #[.int .i64 x.kind, .int .i64 x.label, .int .i64 x.node], .agg #[.int .i64 ek, .int .i64 el, .int .i64 en]] W fun r w' => r = .returned (.int .i64 (cmpD x ⟨ek, el, en⟩)) ∧ Upd No W w' := fun W x => dcompare W x ⟨ek, el, en⟩
  have HC := Lib.hid hc
  have HP := Lib.hid hp.2
  have hp1 := hp.1
  clear u0 hc hp
  go_enter Try.func62, Try.ntmps62
  go_wp2
  go_loopg [9, 10] l.length (fun gk s9 s10 wr => ∃ i j : Nat, i + gk = j ∧ s9 = .int .i64 i ∧ s10 = .int .i64 j ∧ i ≤ p ∧ p ≤ j ∧ j ≤ l.length ∧ Upd No (w.alloc (.cells #[.int .i64 ek, .int .i64 el, .int .i64 en] 88)) wr)
  case atStart => exact ⟨0, l.length, by omega, rfl, rfl, by omega, by omega, by omega, Upd.refl _ _⟩
  case round =>
    obtain ⟨i, j, hgk, rfl, rfl, hi, hj, hjn, hu⟩ := hrel
    have e0 : ∀ W, Upd No wr W → W.cell? ⟨w.heap.size, 0, none⟩ = some (.int .i64 ek) := fun W hW => (bE.out.upd (hu.trans hW) id).cell 0
    have e1 : ∀ W, Upd No wr W → W.cell? ⟨w.heap.size, 1, none⟩ = some (.int .i64 el) := fun W hW => (bE.out.upd (hu.trans hW) id).cell 1
    have e2 : ∀ W, Upd No wr W → W.cell? ⟨w.heap.size, 2, none⟩ = some (.int .i64 en) := fun W hW => (bE.out.upd (hu.trans hW) id).cell 2
    have hr : Upd No wr wr := Upd.refl _ _
    by_cases hlt : i < j
    · have b1 : (i : Int) < (j : Int) := by omega
      have b2 : (0 : Int) ≤ (i : Int) := Int.natCast_nonneg _
      have b3 : (j : Int) ≤ 1000000 := by omega
      obtain ⟨m, hm⟩ : ∃ m : Nat, (i + j) / 2 = m := ⟨_, rfl⟩
      have hmi : ((i : Int) + (j : Int)) / 2 = (m : Int) := by omega
      have hm1 : i ≤ m := by omega
      have hm2 : m < j := by omega
      have hml : m < l.length := by omega
      have b4 : (0 : Int) ≤ (m : Int) := Int.natCast_nonneg _
      have b5 : (m : Int) < (l.length : Int) := by omega
      obtain ⟨ad, hA, _⟩ := (h.upd (U0.out.trans hu) (fun _ _ => id)).at_ hml
      have hq := fun W (hW : Upd No wr W) => (h.upd (U0.out.trans (hu.trans hW)) (fun _ _ => id)).at_ hml
      obtain ⟨x, hx⟩ : ∃ x, l[m] = x := ⟨_, rfl⟩
      rw [hx] at hq
      have q0 : ∀ W, Upd No wr W → W.cell? (ad.add (m * 3)) = some (.int .i64 x.kind) := fun W hW => by
        obtain ⟨ad', e, c0, _⟩ := hq W hW
        rw [hA] at e
        cases e
        exact c0
      have q1 : ∀ W, Upd No wr W → W.cell? ⟨(ad.add (m * 3)).block, (ad.add (m * 3)).off + 1, none⟩ = some (.int .i64 x.label) := fun W hW => by
        obtain ⟨ad', e, _, c1, _⟩ := hq W hW
        rw [hA] at e
        cases e
        exact c1
      have q2 : ∀ W, Upd No wr W → W.cell? ⟨(ad.add (m * 3)).block, (ad.add (m * 3)).off + 2, none⟩ = some (.int .i64 x.node) := fun W hW => by
        obtain ⟨ad', e, _, _, c2⟩ := hq W hW
        rw [hA] at e
        cases e
        exact c2
      have hpx := HP.out m hml
      rw [hx] at hpx
      subst hA
      clear hq hx hm
      by_cases hlt2 : cmpD x ⟨ek, el, en⟩ < 0
      · have hmp := hpx.1 hlt2
        have hd : decide (cmpD x ⟨ek, el, en⟩ < 0) = true := decide_eq_true hlt2
        clear hpx hlt2
        go_wp2
        refine wp_region_noPanic ?_
        refine wp_region_held_drew (S := (fun w' => Upd No wr w')) (by kernel_rfl) ?_ (fun hHeld => ?_)
        · (first | exact (Upd.refl No _).drew | exact hHeld.trans hu3)
        refine wpT 0 ⟨some 24, .move (.tmp 2), 115, "sort.go:160", #[], none⟩ ?_ (.inl ⟨by rfl, ?_⟩) ?_
        rotate_left
        · (intro W hSw; (try dsimp only at hSw); go_simp; try (with_reducible rfl))
        try simp only [Act.put]
        try simp only [List.setIfInBounds_toArray]
        try simp only [List.set_cons_succ]
        try simp only [List.set_cons_zero]
        refine wpT 1 ⟨some 25, .move (.tmp 0), 91, "sort.go:160", #[], none⟩ ?_ (.inl ⟨by rfl, ?_⟩) ?_
        rotate_left
        · (intro W hSw; (try dsimp only at hSw); go_simp; try (with_reducible rfl))
        try simp only [Act.put]
        try simp only [List.setIfInBounds_toArray]
        try simp only [List.set_cons_succ]
        try simp only [List.set_cons_zero]
        refine wpT 2 ⟨some 26, .move (.tmp 11), 3, "sort.go:160", #[], none⟩ ?_ (.inl ⟨by rfl, ?_⟩) ?_
        rotate_left
        · (intro W hSw; (try dsimp only at hSw); go_simp; try (with_reducible rfl))
        try simp only [Act.put]
        try simp only [List.setIfInBounds_toArray]
        try simp only [List.set_cons_succ]
        try simp only [List.set_cons_zero]
        refine wpT 3 ⟨some 27, .indexAddr 91 (.tmp 25) (.tmp 26), 0, "sort.go:160", #[⟨1, .data⟩, ⟨2, .data⟩], none⟩ ?_ (.inl ⟨by rfl, ?_⟩) ?_
        rotate_left
        · (intro W hSw; (try dsimp only at hSw); go_simp; try (with_reducible rfl))
        try simp only [Act.put]
        try simp only [List.setIfInBounds_toArray]
        try simp only [List.set_cons_succ]
        try simp only [List.set_cons_zero]
        refine wpT 4 ⟨some 28, .load 88 (.tmp 27), 88, "sort.go:160", #[⟨3, .data⟩], none⟩ ?_ (.inl ⟨by rfl, ?_⟩) ?_
        rotate_left
        · (intro W hSw; (try dsimp only at hSw); go_simp; try (with_reducible rfl))
        try simp only [Act.put]
        try simp only [List.setIfInBounds_toArray]
        try simp only [List.set_cons_succ]
        try simp only [List.set_cons_zero]
        refine wpT 5 ⟨some 29, .load 88 (.tmp 4), 88, "sort.go:160", #[], none⟩ ?_ (.inl ⟨by rfl, ?_⟩) ?_
        rotate_left
        · (intro W hSw; (try dsimp only at hSw); go_simp; try (with_reducible rfl))
        try simp only [Act.put]
        try simp only [List.setIfInBounds_toArray]
        try simp only [List.set_cons_succ]
        try simp only [List.set_cons_zero]
        refine wpAnyH_ready (rs := [6]) (by kernel_rfl) (by simp) ?_
        refine AllReadyH.cons (o := ⟨some 30, .call { callee := .value (.tmp 24), args := #[.tmp 28, .tmp 29], argTypes := #[88, 88] }, 3, "sort.go:160", #[⟨0, .data⟩, ⟨4, .data⟩, ⟨5, .data⟩], none⟩) rfl (fun K hK => ?_) AllReadyH.nil
        go_simp
        (first
    | (go_at_call 63; refine (HC.out _ x).mono ?_; rintro e w3 ⟨rfl, hu3⟩))
        try (go_wp2_with fail)
        refine hK.out _ _ ?_ (fun hHeld => ?_)
        · (first | exact (Upd.refl No _).drew | exact hHeld.trans hu3)
        clear hK K
        try simp only [Act.put]
        try simp only [List.setIfInBounds_toArray]
        try simp only [List.set_cons_succ]
        try simp only [List.set_cons_zero]
        refine wpT 7 ⟨some 31, .binOp .lss 3 (.tmp 30) (.const (.int .i64 0)) 3, 4, "sort.go:160", #[⟨6, .data⟩], none⟩ ?_ (.inl ⟨by rfl, ?_⟩) ?_
        rotate_left
        · (intro W hSw; (try dsimp only at hSw); go_simp; try (with_reducible rfl))
        try simp only [Act.put]
        try simp only [List.setIfInBounds_toArray]
        try simp only [List.set_cons_succ]
        try simp only [List.set_cons_zero]
        refine wpAnyH_done (by kernel_rfl) (NoPanic.normal ?_) _
        have HU := Lib.hid (hu.trans hHeld)
        clear hHeld q0 q1 q2 e0 e1 e2
        go_wp2
        go_roundg (j - (m + 1))
        case measure => omega
        case rel => exact ⟨m + 1, j, by omega, by go_num, rfl, by omega, by omega, by omega, HU.out⟩
      · have hmp : ¬ m < p := fun e => hlt2 (hpx.2 e)
        have hd : decide (cmpD x ⟨ek, el, en⟩ < 0) = false := decide_eq_false hlt2
        clear hpx hlt2
        go_wp2
        refine wp_region_noPanic ?_
        refine wp_region_held_drew (S := (fun w' => Upd No wr w')) (by kernel_rfl) ?_ (fun hHeld => ?_)
        · (first | exact (Upd.refl No _).drew | exact hHeld.trans hu3)
        refine wpT 0 ⟨some 24, .move (.tmp 2), 115, "sort.go:160", #[], none⟩ ?_ (.inl ⟨by rfl, ?_⟩) ?_
        rotate_left
        · (intro W hSw; (try dsimp only at hSw); go_simp; try (with_reducible rfl))
        try simp only [Act.put]
        try simp only [List.setIfInBounds_toArray]
        try simp only [List.set_cons_succ]
        try simp only [List.set_cons_zero]
        refine wpT 1 ⟨some 25, .move (.tmp 0), 91, "sort.go:160", #[], none⟩ ?_ (.inl ⟨by rfl, ?_⟩) ?_
        rotate_left
        · (intro W hSw; (try dsimp only at hSw); go_simp; try (with_reducible rfl))
        try simp only [Act.put]
        try simp only [List.setIfInBounds_toArray]
        try simp only [List.set_cons_succ]
        try simp only [List.set_cons_zero]
        refine wpT 2 ⟨some 26, .move (.tmp 11), 3, "sort.go:160", #[], none⟩ ?_ (.inl ⟨by rfl, ?_⟩) ?_
        rotate_left
        · (intro W hSw; (try dsimp only at hSw); go_simp; try (with_reducible rfl))
        try simp only [Act.put]
        try simp only [List.setIfInBounds_toArray]
        try simp only [List.set_cons_succ]
        try simp only [List.set_cons_zero]
        refine wpT 3 ⟨some 27, .indexAddr 91 (.tmp 25) (.tmp 26), 0, "sort.go:160", #[⟨1, .data⟩, ⟨2, .data⟩], none⟩ ?_ (.inl ⟨by rfl, ?_⟩) ?_
        rotate_left
        · (intro W hSw; (try dsimp only at hSw); go_simp; try (with_reducible rfl))
        try simp only [Act.put]
        try simp only [List.setIfInBounds_toArray]
        try simp only [List.set_cons_succ]
        try simp only [List.set_cons_zero]
        refine wpT 4 ⟨some 28, .load 88 (.tmp 27), 88, "sort.go:160", #[⟨3, .data⟩], none⟩ ?_ (.inl ⟨by rfl, ?_⟩) ?_
        rotate_left
        · (intro W hSw; (try dsimp only at hSw); go_simp; try (with_reducible rfl))
        try simp only [Act.put]
        try simp only [List.setIfInBounds_toArray]
        try simp only [List.set_cons_succ]
        try simp only [List.set_cons_zero]
        refine wpT 5 ⟨some 29, .load 88 (.tmp 4), 88, "sort.go:160", #[], none⟩ ?_ (.inl ⟨by rfl, ?_⟩) ?_
        rotate_left
        · (intro W hSw; (try dsimp only at hSw); go_simp; try (with_reducible rfl))
        try simp only [Act.put]
        try simp only [List.setIfInBounds_toArray]
        try simp only [List.set_cons_succ]
        try simp only [List.set_cons_zero]
        refine wpAnyH_ready (rs := [6]) (by kernel_rfl) (by simp) ?_
        refine AllReadyH.cons (o := ⟨some 30, .call { callee := .value (.tmp 24), args := #[.tmp 28, .tmp 29], argTypes := #[88, 88] }, 3, "sort.go:160", #[⟨0, .data⟩, ⟨4, .data⟩, ⟨5, .data⟩], none⟩) rfl (fun K hK => ?_) AllReadyH.nil
        go_simp
        (first
    | (go_at_call 63; refine (HC.out _ x).mono ?_; rintro e w3 ⟨rfl, hu3⟩))
        try (go_wp2_with fail)
        refine hK.out _ _ ?_ (fun hHeld => ?_)
        · (first | exact (Upd.refl No _).drew | exact hHeld.trans hu3)
        clear hK K
        try simp only [Act.put]
        try simp only [List.setIfInBounds_toArray]
        try simp only [List.set_cons_succ]
        try simp only [List.set_cons_zero]
        refine wpT 7 ⟨some 31, .binOp .lss 3 (.tmp 30) (.const (.int .i64 0)) 3, 4, "sort.go:160", #[⟨6, .data⟩], none⟩ ?_ (.inl ⟨by rfl, ?_⟩) ?_
        rotate_left
        · (intro W hSw; (try dsimp only at hSw); go_simp; try (with_reducible rfl))
        try simp only [Act.put]
        try simp only [List.setIfInBounds_toArray]
        try simp only [List.set_cons_succ]
        try simp only [List.set_cons_zero]
        refine wpAnyH_done (by kernel_rfl) (NoPanic.normal ?_) _
        have HU := Lib.hid (hu.trans hHeld)
        clear hHeld q0 q1 q2 e0 e1 e2
        go_wp2
        go_roundg (m - i)
        case measure => omega
        case rel => exact ⟨i, m, by omega, rfl, by go_num, by omega, by omega, by omega, HU.out⟩
    · have hip : i = p := by omega
      have hjp : j = p := by omega
      subst hip
      subst hjp
      by_cases hpn : j < l.length
      · obtain ⟨ad, hA, _⟩ := (h.upd (U0.out.trans hu) (fun _ _ => id)).at_ hpn
        have hq := fun W (hW : Upd No wr W) => (h.upd (U0.out.trans (hu.trans hW)) (fun _ _ => id)).at_ hpn
        obtain ⟨x, hx⟩ : ∃ x, l[j] = x := ⟨_, rfl⟩
        rw [hx] at hq
        have q0 : ∀ W, Upd No wr W → W.cell? (ad.add (j * 3)) = some (.int .i64 x.kind) := fun W hW => by
          obtain ⟨ad', e, c0, _⟩ := hq W hW
          rw [hA] at e
          cases e
          exact c0
        have q1 : ∀ W, Upd No wr W → W.cell? ⟨(ad.add (j * 3)).block, (ad.add (j * 3)).off + 1, none⟩ = some (.int .i64 x.label) := fun W hW => by
          obtain ⟨ad', e, _, c1, _⟩ := hq W hW
          rw [hA] at e
          cases e
          exact c1
        have q2 : ∀ W, Upd No wr W → W.cell? ⟨(ad.add (j * 3)).block, (ad.add (j * 3)).off + 2, none⟩ = some (.int .i64 x.node) := fun W hW => by
          obtain ⟨ad', e, _, _, c2⟩ := hq W hW
          rw [hA] at e
          cases e
          exact c2
        have HV := Lib.hid (show isAt l ⟨ek, el, en⟩ j = (cmpD x ⟨ek, el, en⟩ == 0) by unfold isAt; rw [List.getElem?_eq_getElem hpn, hx])
        have b1 : (j : Int) < (l.length : Int) := by omega
        have b2 : (0 : Int) ≤ (j : Int) := Int.natCast_nonneg _
        have hpd : decide (j < l.length) = true := decide_eq_true hpn
        have hlt' : ¬ (j : Int) < (j : Int) := by omega
        subst hA
        clear hq hx
        go_wp2
        refine wp_region_noPanic ?_
        refine wp_region_held_drew (S := (fun w' => Upd No wr w')) (by kernel_rfl) ?_ (fun hHeld => ?_)
        · (first | exact (Upd.refl No _).drew | exact hHeld.trans hu3)
        refine wpT 0 ⟨some 35, .move (.tmp 9), 3, "sort.go:167", #[], none⟩ ?_ (.inl ⟨by rfl, ?_⟩) ?_
        rotate_left
        · (intro W hSw; (try dsimp only at hSw); go_simp; try (with_reducible rfl))
        try simp only [Act.put]
        try simp only [List.setIfInBounds_toArray]
        try simp only [List.set_cons_succ]
        try simp only [List.set_cons_zero]
        refine wpT 1 ⟨some 36, .move (.tmp 9), 3, "sort.go:167", #[], none⟩ ?_ (.inl ⟨by rfl, ?_⟩) ?_
        rotate_left
        · (intro W hSw; (try dsimp only at hSw); go_simp; try (with_reducible rfl))
        try simp only [Act.put]
        try simp only [List.setIfInBounds_toArray]
        try simp only [List.set_cons_succ]
        try simp only [List.set_cons_zero]
        refine wpT 2 ⟨some 37, .move (.tmp 8), 3, "sort.go:167", #[], none⟩ ?_ (.inl ⟨by rfl, ?_⟩) ?_
        rotate_left
        · (intro W hSw; (try dsimp only at hSw); go_simp; try (with_reducible rfl))
        try simp only [Act.put]
        try simp only [List.setIfInBounds_toArray]
        try simp only [List.set_cons_succ]
        try simp only [List.set_cons_zero]
        refine wpT 3 ⟨some 38, .binOp .lss 3 (.tmp 36) (.tmp 37) 3, 4, "sort.go:167", #[⟨1, .data⟩, ⟨2, .data⟩], none⟩ ?_ (.inl ⟨by rfl, ?_⟩) ?_
        rotate_left
        · (intro W hSw; (try dsimp only at hSw); go_simp; try (with_reducible rfl))
        try simp only [Act.put]
        try simp only [List.setIfInBounds_toArray]
        try simp only [List.set_cons_succ]
        try simp only [List.set_cons_zero]
        refine wpT 4 ⟨some 39, .move (.tmp 38), 4, "sort.go:167", #[⟨3, .data⟩], none⟩ ?_ (.inl ⟨by rfl, ?_⟩) ?_
        rotate_left
        · (intro W hSw; (try dsimp only at hSw); go_simp; try (with_reducible rfl))
        try simp only [Act.put]
        try simp only [List.setIfInBounds_toArray]
        try simp only [List.set_cons_succ]
        try simp only [List.set_cons_zero]
        refine wpT 5 ⟨some 40, .move (.tmp 2), 115, "sort.go:167", #[⟨4, .guard⟩], some (4, true)⟩ ?_ (.inl ⟨by rfl, ?_⟩) ?_
        rotate_left
        · (intro W hSw; (try dsimp only at hSw); go_simp; try (with_reducible rfl))
        try simp only [Act.put]
        try simp only [List.setIfInBounds_toArray]
        try simp only [List.set_cons_succ]
        try simp only [List.set_cons_zero]
        refine wpT 6 ⟨some 41, .move (.tmp 0), 91, "sort.go:167", #[⟨4, .guard⟩], some (4, true)⟩ ?_ (.inl ⟨by rfl, ?_⟩) ?_
        rotate_left
        · (intro W hSw; (try dsimp only at hSw); go_simp; try (with_reducible rfl))
        try simp only [Act.put]
        try simp only [List.setIfInBounds_toArray]
        try simp only [List.set_cons_succ]
        try simp only [List.set_cons_zero]
        refine wpT 7 ⟨some 42, .move (.tmp 9), 3, "sort.go:167", #[⟨4, .guard⟩], some (4, true)⟩ ?_ (.inl ⟨by rfl, ?_⟩) ?_
        rotate_left
        · (intro W hSw; (try dsimp only at hSw); go_simp; try (with_reducible rfl))
        try simp only [Act.put]
        try simp only [List.setIfInBounds_toArray]
        try simp only [List.set_cons_succ]
        try simp only [List.set_cons_zero]
        refine wpT 8 ⟨some 43, .indexAddr 91 (.tmp 41) (.tmp 42), 0, "sort.go:167", #[⟨6, .data⟩, ⟨7, .data⟩, ⟨4, .guard⟩], some (4, true)⟩ ?_ (.inl ⟨by rfl, ?_⟩) ?_
        rotate_left
        · (intro W hSw; (try dsimp only at hSw); go_simp; try (with_reducible rfl))
        try simp only [Act.put]
        try simp only [List.setIfInBounds_toArray]
        try simp only [List.set_cons_succ]
        try simp only [List.set_cons_zero]
        refine wpT 9 ⟨some 44, .load 88 (.tmp 43), 88, "sort.go:167", #[⟨8, .data⟩, ⟨4, .guard⟩], some (4, true)⟩ ?_ (.inl ⟨by rfl, ?_⟩) ?_
        rotate_left
        · (intro W hSw; (try dsimp only at hSw); go_simp; try (with_reducible rfl))
        try simp only [Act.put]
        try simp only [List.setIfInBounds_toArray]
        try simp only [List.set_cons_succ]
        try simp only [List.set_cons_zero]
        refine wpT 10 ⟨some 45, .load 88 (.tmp 4), 88, "sort.go:167", #[⟨4, .guard⟩], some (4, true)⟩ ?_ (.inl ⟨by rfl, ?_⟩) ?_
        rotate_left
        · (intro W hSw; (try dsimp only at hSw); go_simp; try (with_reducible rfl))
        try simp only [Act.put]
        try simp only [List.setIfInBounds_toArray]
        try simp only [List.set_cons_succ]
        try simp only [List.set_cons_zero]
        refine wpAnyH_ready (rs := [11]) (by kernel_rfl) (by simp) ?_
        refine AllReadyH.cons (o := ⟨some 46, .call { callee := .value (.tmp 40), args := #[.tmp 44, .tmp 45], argTypes := #[88, 88] }, 3, "sort.go:167", #[⟨5, .data⟩, ⟨9, .data⟩, ⟨10, .data⟩, ⟨4, .chain⟩, ⟨4, .guard⟩], some (4, true)⟩) rfl (fun K hK => ?_) AllReadyH.nil
        go_simp
        (first
    | (go_at_call 63; refine (HC.out _ x).mono ?_; rintro e w3 ⟨rfl, hu3⟩))
        try (go_wp2_with fail)
        refine hK.out _ _ ?_ (fun hHeld => ?_)
        · (first | exact (Upd.refl No _).drew | exact hHeld.trans hu3)
        clear hK K
        try simp only [Act.put]
        try simp only [List.setIfInBounds_toArray]
        try simp only [List.set_cons_succ]
        try simp only [List.set_cons_zero]
        refine wpT 12 ⟨some 47, .binOp .eql 3 (.tmp 46) (.const (.int .i64 0)) 3, 4, "sort.go:167", #[⟨11, .data⟩, ⟨4, .guard⟩, { on := 14, ground := Go.Ground.gcOnly Go.Departure.lateStores }], some (4, true)⟩ ?_ (.inl ⟨by rfl, ?_⟩) ?_
        rotate_left
        · (intro W hSw; (try dsimp only at hSw); go_simp; try (with_reducible rfl))
        try simp only [Act.put]
        try simp only [List.setIfInBounds_toArray]
        try simp only [List.set_cons_succ]
        try simp only [List.set_cons_zero]
        refine wpT 13 ⟨some 48, .pick (.tmp 39) (.tmp 47) (.const (.bool false)), 4, "sort.go:167", #[⟨4, .data⟩, ⟨12, .data⟩, { on := 14, ground := Go.Ground.gcOnly Go.Departure.lateStores }], none⟩ ?_ (.inl ⟨by rfl, ?_⟩) ?_
        rotate_left
        · (intro W hSw; (try dsimp only at hSw); go_simp; try (with_reducible rfl))
        try simp only [Act.put]
        try simp only [List.setIfInBounds_toArray]
        try simp only [List.set_cons_succ]
        try simp only [List.set_cons_zero]
        refine wpT 14 ⟨some 6, .assign (.tmp 35), 3, "sort.go:167", #[⟨0, .data⟩, ⟨11, .chain⟩, ⟨0, .phase⟩, { on := 1, ground := Go.Ground.textOnly Go.Departure.lateStores }, { on := 2, ground := Go.Ground.textOnly Go.Departure.lateStores }, { on := 3, ground := Go.Ground.textOnly Go.Departure.lateStores }, { on := 4, ground := Go.Ground.textOnly Go.Departure.lateStores }, { on := 5, ground := Go.Ground.textOnly Go.Departure.lateStores }, { on := 6, ground := Go.Ground.textOnly Go.Departure.lateStores }, { on := 7, ground := Go.Ground.textOnly Go.Departure.lateStores }, { on := 8, ground := Go.Ground.textOnly Go.Departure.lateStores }, { on := 9, ground := Go.Ground.textOnly Go.Departure.lateStores }, { on := 10, ground := Go.Ground.textOnly Go.Departure.lateStores }, { on := 11, ground := Go.Ground.textOnly Go.Departure.lateStoresUnsure }, { on := 12, ground := Go.Ground.textOnly Go.Departure.lateStores }, { on := 13, ground := Go.Ground.textOnly Go.Departure.lateStores }], none⟩ ?_ (.inl ⟨by rfl, ?_⟩) ?_
        rotate_left
        · (intro W hSw; (try dsimp only at hSw); go_simp; try (with_reducible rfl))
        try simp only [Act.put]
        try simp only [List.setIfInBounds_toArray]
        try simp only [List.set_cons_succ]
        try simp only [List.set_cons_zero]
        refine wpT 15 ⟨some 7, .assign (.tmp 48), 4, "sort.go:167", #[⟨13, .data⟩, ⟨14, .chain⟩, ⟨0, .phase⟩, ⟨1, .phase⟩, ⟨2, .phase⟩, ⟨3, .phase⟩, ⟨4, .phase⟩, ⟨5, .phase⟩, ⟨6, .phase⟩, ⟨7, .phase⟩, ⟨8, .phase⟩, ⟨9, .phase⟩, ⟨10, .phase⟩, ⟨11, .phase⟩, ⟨12, .phase⟩, ⟨13, .phase⟩, ⟨14, .phase⟩], none⟩ ?_ (.inl ⟨by rfl, ?_⟩) ?_
        rotate_left
        · (intro W hSw; (try dsimp only at hSw); go_simp; try (with_reducible rfl))
        try simp only [Act.put]
        try simp only [List.setIfInBounds_toArray]
        try simp only [List.set_cons_succ]
        try simp only [List.set_cons_zero]
        refine wpAnyH_done (by kernel_rfl) (NoPanic.normal ?_) _
        have HU := Lib.hid (U0.out.trans (hu.trans hHeld))
        clear hHeld
        go_wp2
        go_ret2
        exact ⟨by rw [HV.out]; rfl, HU.out⟩
      · have HV := Lib.hid (show isAt l ⟨ek, el, en⟩ j = false by unfold isAt; rw [List.getElem?_eq_none (by omega)])
        have b1 : ¬ (j : Int) < (l.length : Int) := by omega
        have hpd : decide (j < l.length) = false := decide_eq_false hpn
        have hlt' : ¬ (j : Int) < (j : Int) := by omega
        clear hpn
        go_wp2
        refine wp_region_noPanic ?_
        refine wp_region_held_drew (S := (fun w' => Upd No wr w')) (by kernel_rfl) ?_ (fun hHeld => ?_)
        · (first | exact (Upd.refl No _).drew | exact hHeld.trans hu3)
        refine wpT 0 ⟨some 35, .move (.tmp 9), 3, "sort.go:167", #[], none⟩ ?_ (.inl ⟨by rfl, ?_⟩) ?_
        rotate_left
        · (intro W hSw; (try dsimp only at hSw); go_simp; try (with_reducible rfl))
        try simp only [Act.put]
        try simp only [List.setIfInBounds_toArray]
        try simp only [List.set_cons_succ]
        try simp only [List.set_cons_zero]
        refine wpT 1 ⟨some 36, .move (.tmp 9), 3, "sort.go:167", #[], none⟩ ?_ (.inl ⟨by rfl, ?_⟩) ?_
        rotate_left
        · (intro W hSw; (try dsimp only at hSw); go_simp; try (with_reducible rfl))
        try simp only [Act.put]
        try simp only [List.setIfInBounds_toArray]
        try simp only [List.set_cons_succ]
        try simp only [List.set_cons_zero]
        refine wpT 2 ⟨some 37, .move (.tmp 8), 3, "sort.go:167", #[], none⟩ ?_ (.inl ⟨by rfl, ?_⟩) ?_
        rotate_left
        · (intro W hSw; (try dsimp only at hSw); go_simp; try (with_reducible rfl))
        try simp only [Act.put]
        try simp only [List.setIfInBounds_toArray]
        try simp only [List.set_cons_succ]
        try simp only [List.set_cons_zero]
        refine wpT 3 ⟨some 38, .binOp .lss 3 (.tmp 36) (.tmp 37) 3, 4, "sort.go:167", #[⟨1, .data⟩, ⟨2, .data⟩], none⟩ ?_ (.inl ⟨by rfl, ?_⟩) ?_
        rotate_left
        · (intro W hSw; (try dsimp only at hSw); go_simp; try (with_reducible rfl))
        try simp only [Act.put]
        try simp only [List.setIfInBounds_toArray]
        try simp only [List.set_cons_succ]
        try simp only [List.set_cons_zero]
        refine wpT 4 ⟨some 39, .move (.tmp 38), 4, "sort.go:167", #[⟨3, .data⟩], none⟩ ?_ (.inl ⟨by rfl, ?_⟩) ?_
        rotate_left
        · (intro W hSw; (try dsimp only at hSw); go_simp; try (with_reducible rfl))
        try simp only [Act.put]
        try simp only [List.setIfInBounds_toArray]
        try simp only [List.set_cons_succ]
        try simp only [List.set_cons_zero]
        refine wpT 5 ⟨some 40, .move (.tmp 2), 115, "sort.go:167", #[⟨4, .guard⟩], some (4, true)⟩ undef (.inr ⟨by rfl, rfl⟩) ?_
        try simp only [Act.put]
        try simp only [List.setIfInBounds_toArray]
        try simp only [List.set_cons_succ]
        try simp only [List.set_cons_zero]
        refine wpT 6 ⟨some 41, .move (.tmp 0), 91, "sort.go:167", #[⟨4, .guard⟩], some (4, true)⟩ undef (.inr ⟨by rfl, rfl⟩) ?_
        try simp only [Act.put]
        try simp only [List.setIfInBounds_toArray]
        try simp only [List.set_cons_succ]
        try simp only [List.set_cons_zero]
        refine wpT 7 ⟨some 42, .move (.tmp 9), 3, "sort.go:167", #[⟨4, .guard⟩], some (4, true)⟩ undef (.inr ⟨by rfl, rfl⟩) ?_
        try simp only [Act.put]
        try simp only [List.setIfInBounds_toArray]
        try simp only [List.set_cons_succ]
        try simp only [List.set_cons_zero]
        refine wpT 8 ⟨some 43, .indexAddr 91 (.tmp 41) (.tmp 42), 0, "sort.go:167", #[⟨6, .data⟩, ⟨7, .data⟩, ⟨4, .guard⟩], some (4, true)⟩ undef (.inr ⟨by rfl, rfl⟩) ?_
        try simp only [Act.put]
        try simp only [List.setIfInBounds_toArray]
        try simp only [List.set_cons_succ]
        try simp only [List.set_cons_zero]
        refine wpT 9 ⟨some 44, .load 88 (.tmp 43), 88, "sort.go:167", #[⟨8, .data⟩, ⟨4, .guard⟩], some (4, true)⟩ undef (.inr ⟨by rfl, rfl⟩) ?_
        try simp only [Act.put]
        try simp only [List.setIfInBounds_toArray]
        try simp only [List.set_cons_succ]
        try simp only [List.set_cons_zero]
        refine wpT 10 ⟨some 45, .load 88 (.tmp 4), 88, "sort.go:167", #[⟨4, .guard⟩], some (4, true)⟩ undef (.inr ⟨by rfl, rfl⟩) ?_
        try simp only [Act.put]
        try simp only [List.setIfInBounds_toArray]
        try simp only [List.set_cons_succ]
        try simp only [List.set_cons_zero]
        refine wpAnyH_ready (rs := [11]) (by kernel_rfl) (by simp) ?_
        refine AllReadyH.cons (o := ⟨some 46, .call { callee := .value (.tmp 40), args := #[.tmp 44, .tmp 45], argTypes := #[88, 88] }, 3, "sort.go:167", #[⟨5, .data⟩, ⟨9, .data⟩, ⟨10, .data⟩, ⟨4, .chain⟩, ⟨4, .guard⟩], some (4, true)⟩) rfl (fun K hK => ?_) AllReadyH.nil
        go_simp
        refine hK.out _ _ ?_ (fun hHeld => ?_)
        · exact hHeld
        clear hK K
        try simp only [Act.put]
        try simp only [List.setIfInBounds_toArray]
        try simp only [List.set_cons_succ]
        try simp only [List.set_cons_zero]
        refine wpT 12 ⟨some 47, .binOp .eql 3 (.tmp 46) (.const (.int .i64 0)) 3, 4, "sort.go:167", #[⟨11, .data⟩, ⟨4, .guard⟩, { on := 14, ground := Go.Ground.gcOnly Go.Departure.lateStores }], some (4, true)⟩ undef (.inr ⟨by rfl, rfl⟩) ?_
        try simp only [Act.put]
        try simp only [List.setIfInBounds_toArray]
        try simp only [List.set_cons_succ]
        try simp only [List.set_cons_zero]
        refine wpT 13 ⟨some 48, .pick (.tmp 39) (.tmp 47) (.const (.bool false)), 4, "sort.go:167", #[⟨4, .data⟩, ⟨12, .data⟩, { on := 14, ground := Go.Ground.gcOnly Go.Departure.lateStores }], none⟩ ?_ (.inl ⟨by rfl, ?_⟩) ?_
        rotate_left
        · (intro W hSw; (try dsimp only at hSw); go_simp; try (with_reducible rfl))
        try simp only [Act.put]
        try simp only [List.setIfInBounds_toArray]
        try simp only [List.set_cons_succ]
        try simp only [List.set_cons_zero]
        refine wpT 14 ⟨some 6, .assign (.tmp 35), 3, "sort.go:167", #[⟨0, .data⟩, ⟨11, .chain⟩, ⟨0, .phase⟩, { on := 1, ground := Go.Ground.textOnly Go.Departure.lateStores }, { on := 2, ground := Go.Ground.textOnly Go.Departure.lateStores }, { on := 3, ground := Go.Ground.textOnly Go.Departure.lateStores }, { on := 4, ground := Go.Ground.textOnly Go.Departure.lateStores }, { on := 5, ground := Go.Ground.textOnly Go.Departure.lateStores }, { on := 6, ground := Go.Ground.textOnly Go.Departure.lateStores }, { on := 7, ground := Go.Ground.textOnly Go.Departure.lateStores }, { on := 8, ground := Go.Ground.textOnly Go.Departure.lateStores }, { on := 9, ground := Go.Ground.textOnly Go.Departure.lateStores }, { on := 10, ground := Go.Ground.textOnly Go.Departure.lateStores }, { on := 11, ground := Go.Ground.textOnly Go.Departure.lateStoresUnsure }, { on := 12, ground := Go.Ground.textOnly Go.Departure.lateStores }, { on := 13, ground := Go.Ground.textOnly Go.Departure.lateStores }], none⟩ ?_ (.inl ⟨by rfl, ?_⟩) ?_
        rotate_left
        · (intro W hSw; (try dsimp only at hSw); go_simp; try (with_reducible rfl))
        try simp only [Act.put]
        try simp only [List.setIfInBounds_toArray]
        try simp only [List.set_cons_succ]
        try simp only [List.set_cons_zero]
        refine wpT 15 ⟨some 7, .assign (.tmp 48), 4, "sort.go:167", #[⟨13, .data⟩, ⟨14, .chain⟩, ⟨0, .phase⟩, ⟨1, .phase⟩, ⟨2, .phase⟩, ⟨3, .phase⟩, ⟨4, .phase⟩, ⟨5, .phase⟩, ⟨6, .phase⟩, ⟨7, .phase⟩, ⟨8, .phase⟩, ⟨9, .phase⟩, ⟨10, .phase⟩, ⟨11, .phase⟩, ⟨12, .phase⟩, ⟨13, .phase⟩, ⟨14, .phase⟩], none⟩ ?_ (.inl ⟨by rfl, ?_⟩) ?_
        rotate_left
        · (intro W hSw; (try dsimp only at hSw); go_simp; try (with_reducible rfl))
        try simp only [Act.put]
        try simp only [List.setIfInBounds_toArray]
        try simp only [List.set_cons_succ]
        try simp only [List.set_cons_zero]
        refine wpAnyH_done (by kernel_rfl) (NoPanic.normal ?_) _
        have HU := Lib.hid (U0.out.trans (hu.trans hHeld))
        clear hHeld
        go_wp2
        go_ret2
        exact ⟨by rw [HV.out]; rfl, HU.out⟩
end Go.Proofs.Ytebjeapnglmokaa

/- Walks held against one another, from whichever places they begin. -/
namespace Go.Proofs.Ytebjeapnglmokaa
set_option linter.unusedVariables false
open Go.RowKit

def lexB : List Edge → List Edge → Bool
  | x :: xs, y :: ys => if x = y then lexB xs ys else ltE x y
  | _, _ => false
theorem lexB_at : ∀ {xs ys : List Edge} {n : Nat} {x y : Edge}, xs.take n = ys.take n → xs[n]? = some x → ys[n]? = some y → x ≠ y → lexB xs ys = ltE x y
  | a :: xs, b :: ys, 0, x, y, _, hx, hy, hne => by
    simp only [List.getElem?_cons_zero, Option.some.injEq] at hx hy
    subst hx; subst hy
    simp [lexB, hne]
  | a :: xs, b :: ys, n + 1, x, y, h, hx, hy, hne => by
    simp only [List.take_succ_cons, List.cons.injEq, List.getElem?_cons_succ] at h hx hy
    obtain ⟨rfl, h⟩ := h
    simp only [lexB, if_true]
    exact lexB_at h hx hy hne
  | [], _, n, x, y, _, hx, _, _ => by simp at hx
  | a :: xs, [], n, x, y, _, _, hy, _ => by simp at hy
theorem lexB_self : ∀ (xs : List Edge), lexB xs xs = false
  | [] => rfl
  | x :: xs => by simp [lexB, lexB_self xs]
/-- a walk begun at a place -/
def rot (l : List Edge) (i : Nat) : List Edge := l.drop i ++ l.take i
theorem rot_len (l : List Edge) {i : Nat} (hi : i ≤ l.length) : (rot l i).length = l.length := by unfold rot; rw [List.length_append, List.length_drop, List.length_take]; omega
theorem rot_zero (l : List Edge) : rot l 0 = l := by simp [rot]
theorem rot_at {l : List Edge} {i n : Nat} (hi : i ≤ l.length) (hn : n < l.length) : (rot l i)[n]? = l[(i + n) % l.length]? := by
  unfold rot
  rw [List.getElem?_append, List.length_drop]
  split
  · rw [List.getElem?_drop, Nat.mod_eq_of_lt (by omega)]
  · rw [List.getElem?_take, if_pos (by omega), show (i + n) % l.length = n - (l.length - i) by rw [show i + n = (n - (l.length - i)) + l.length by omega, Nat.add_mod_right, Nat.mod_eq_of_lt (by omega)]]
theorem rot_get {l : List Edge} {i n : Nat} (hi : i ≤ l.length) (hn : n < l.length) {m : Nat} (hm : (i + n) % l.length = m) {x : Edge} (hx : l[m]? = some x) : (rot l i)[n]? = some x := by rw [rot_at hi hn, hm, hx]

set_option maxRecDepth 100000 in
set_option maxHeartbeats 1000000 in
theorem wahead (F G : Nat → Prop) (w : World) (A B : Option Addr) (c d : Nat) (a b : List Edge) (i j : Nat) (ha : Walk F w A a) (hb : Walk G w B b) (hl : a.length ≤ 1000000) (hab : a.length = b.length) (hi : i ≤ a.length) (hj : j ≤ b.length) :
    Calls Try.prog 23 #[.slice A a.length c, .slice B b.length d, .int .i64 i, .int .i64 j] w fun e w' => e = .returned (.bool (lexB (rot a i) (rot b j))) ∧ Upd No w w' := by
  have qN := edge_neq
  have qG : ∀ (op : BinOp) (x y : Operand) (xs ys : Array Value) (w : World), (eqGuard op 29 x y (.agg xs) (.agg ys)).run Try.prog w = .ok () w := fun op x y xs ys w => run_eqGuard_agg w op _ x y xs ys (by kernel_rfl)
  have Hab := Lib.hid hab
  have hlb : b.length ≤ 1000000 := by omega
  have hlen : a.length ≤ b.length ∧ b.length ≤ a.length := by omega
  clear hab
  go_enter Try.func23, Try.ntmps23
  go_wp2
  go_loopg [14] a.length (fun gk n wr => ∃ k : Nat, k + gk = a.length ∧ n = .int .i64 k ∧ Hid ((rot a i).take k = (rot b j).take k) ∧ Upd No w wr)
  case atStart => exact ⟨0, by omega, rfl, Lib.hid (by simp), Upd.refl _ _⟩
  case round =>
    obtain ⟨k, hgk, rfl, hok, hu⟩ := hrel
    by_cases hlt : k < a.length
    · have hma : (i + k) % a.length < a.length := Nat.mod_lt _ (by omega)
      have hmb : (j + k) % b.length < b.length := Nat.mod_lt _ (by omega)
      obtain ⟨ad, rfl, c0, c1, c2, c3⟩ := (ha.upd hu (fun _ _ => id)).at_ hma
      obtain ⟨bd, rfl, d0, d1, d2, d3⟩ := (hb.upd hu (fun _ _ => id)).at_ hmb
      obtain ⟨x, hx⟩ : ∃ x, a[(i + k) % a.length] = x := ⟨_, rfl⟩
      obtain ⟨y, hy⟩ : ∃ y, b[(j + k) % b.length] = y := ⟨_, rfl⟩
      rw [hx] at c0 c1 c2 c3
      rw [hy] at d0 d1 d2 d3
      have hX := rot_get hi hlt rfl (by rw [List.getElem?_eq_getElem hma, hx])
      have hY := rot_get hj (show k < b.length by omega) rfl (by rw [List.getElem?_eq_getElem hmb, hy])
      have hca : ((i : Int) + (k : Int)).tmod (a.length : Int) = (((i + k) % a.length : Nat) : Int) := by rw [Int.tmod_eq_emod_of_nonneg (by omega), Int.natCast_emod]; rfl
      have hca2 : ((i : Int) + (k : Int)) % (a.length : Int) = (((i + k) % a.length : Nat) : Int) := by rw [Int.natCast_emod]; rfl
      have hcb : ((j : Int) + (k : Int)).tmod (b.length : Int) = (((j + k) % b.length : Nat) : Int) := by rw [Int.tmod_eq_emod_of_nonneg (by omega), Int.natCast_emod]; rfl
      have hcb2 : ((j : Int) + (k : Int)) % (b.length : Int) = (((j + k) % b.length : Nat) : Int) := by rw [Int.natCast_emod]; rfl
      generalize (i + k) % a.length = m at *
      generalize (j + k) % b.length = n at *
      have b1 : (0 : Int) ≤ (k : Int) := Int.natCast_nonneg _
      have b3 : (m : Int) < (a.length : Int) := by omega
      have b4 : (0 : Int) ≤ (m : Int) := Int.natCast_nonneg _
      have b8 : (n : Int) < (b.length : Int) := by omega
      have b9 : (0 : Int) ≤ (n : Int) := Int.natCast_nonneg _
      have b5 : IntKind.i64.wrap ((i : Int) + (k : Int)) = (i : Int) + (k : Int) := IntWalk.i64_in _ (by omega)
      have b6 : IntKind.i64.wrap ((j : Int) + (k : Int)) = (j : Int) + (k : Int) := IntWalk.i64_in _ (by omega)
      have hnl : ¬ a = [] := fun e => by rw [e] at hlt; simp at hlt
      have hnz : ¬ (a.length : Int) = 0 := by omega
      have hml : ¬ b = [] := fun e => by rw [e] at hmb; simp at hmb
      have hmz : ¬ (b.length : Int) = 0 := by omega
      clear hx hy
      go_wp2
      go_region_held3 (fun w' => w'.cell? (ad.add (m * 4)) = some (.int .i64 x.f) ∧ w'.cell? ⟨(ad.add (m * 4)).block, (ad.add (m * 4)).off + 1, none⟩ = some (.int .i64 x.t) ∧ w'.cell? ⟨(ad.add (m * 4)).block, (ad.add (m * 4)).off + 2, none⟩ = some (.int .i64 x.k) ∧ w'.cell? ⟨(ad.add (m * 4)).block, (ad.add (m * 4)).off + 3, none⟩ = some (.int .i64 x.key) ∧
          w'.cell? (bd.add (n * 4)) = some (.int .i64 y.f) ∧ w'.cell? ⟨(bd.add (n * 4)).block, (bd.add (n * 4)).off + 1, none⟩ = some (.int .i64 y.t) ∧ w'.cell? ⟨(bd.add (n * 4)).block, (bd.add (n * 4)).off + 2, none⟩ = some (.int .i64 y.k) ∧ w'.cell? ⟨(bd.add (n * 4)).block, (bd.add (n * 4)).off + 3, none⟩ = some (.int .i64 y.key))
        (first | exact ⟨c0, c1, c2, c3, d0, d1, d2, d3⟩ | (go_split_ands; refine ⟨?_, ?_, ?_, ?_, ?_, ?_, ?_, ?_⟩ <;> first | with_reducible assumption | (with_reducible exact ((Upd.refl No _).alloc _).keepNo (by with_reducible assumption)) | go_keep)) (fail)
      all_goals
        clear hca hca2 hcb hcb2 b5 b6
        by_cases he : x = y
        · have heb : (x != y) = false := by rw [he]; simp
          have Hok := Lib.hid (show (rot a i).take (k + 1) = (rot b j).take (k + 1) by
            rw [List.take_add_one, List.take_add_one, hok.out, hX, hY, he])
          clear he hX hY
          go_wp2
          go_roundg (gk - 1)
          case measure => omega
          case rel => exact ⟨k + 1, by omega, by go_num, Hok, ((hu.alloc _).alloc _).drew⟩
        · have heb : (x != y) = true := by simpa using he
          have Hok := Lib.hid (lexB_at hok.out hX hY he)
          clear he hX hY
          go_wp2_with fail
          refine (pless _ x y).mono ?_
          rintro e w3 ⟨rfl, hu3⟩
          go_wp2
          go_ret
          exact ⟨by rw [Hok.out]; rfl, ((hu.alloc _).alloc _).drew.trans hu3⟩
    · obtain rfl : k = a.length := by omega
      have Hok := Lib.hid (show lexB (rot a i) (rot b j) = false by
        have h1 := hok.out
        rw [List.take_of_length_le (by rw [rot_len _ hi]; exact Nat.le_refl _), List.take_of_length_le (by rw [rot_len _ hj]; omega)] at h1
        rw [h1, lexB_self])
      go_wp2
      go_ret
      exact ⟨by rw [Hok.out]; rfl, hu⟩

def lessB (a b : List Edge) : Bool := if a.length = b.length then lexB a b else decide (a.length < b.length)
theorem wless (F G : Nat → Prop) (w : World) (A B : Option Addr) (c d : Nat) (a b : List Edge) (ha : Walk F w A a) (hb : Walk G w B b) (hl : a.length ≤ 1000000) :
    Calls Try.prog 11 #[.slice A a.length c, .slice B b.length d] w fun e w' => e = .returned (.bool (lessB a b)) ∧ Upd No w w' := by
  by_cases h : a.length = b.length
  · have hz : ((a.length : Int) != (b.length : Int)) = false := by rw [h]; simp
    have H := Lib.hid (show lessB a b = lexB (rot a 0) (rot b 0) by unfold lessB; rw [if_pos h, rot_zero, rot_zero])
    have h' := Lib.hid h
    clear h
    go_enter Try.func11, Try.ntmps11
    go_wp2_with fail
    refine (wahead F G _ A B c d a b 0 0 ha hb hl h'.out (Nat.zero_le _) (Nat.zero_le _)).mono ?_
    rintro e w1 ⟨rfl, hu⟩
    go_wp2
    go_ret
    exact ⟨by rw [H.out]; rfl, hu⟩
  · have hz : ((a.length : Int) != (b.length : Int)) = true := by rw [bne_iff_ne]; omega
    have H := Lib.hid (show lessB a b = decide (a.length < b.length) by unfold lessB; rw [if_neg h])
    clear h
    go_enter Try.func11, Try.ntmps11
    go_wp2
    go_ret
    exact ⟨by rw [H.out]; first | rfl | (simp), Upd.refl _ _⟩
end Go.Proofs.Ytebjeapnglmokaa
