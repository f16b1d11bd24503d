/- Edges held against one another: by the program and by the document. -/
import Derived.Test.YtaicemjckagcaaaProg
import Derived.Sort.Grow
import Derived.IntWalk
import Derived.Deep.RegionHeld3
import Derived.Test.YtaicemjckagcaaaMah
import Derived.Test.YtaicemjckagcaaaMaq
namespace Go.Proofs.Ytaicemjckagcaaa
set_option linter.unusedVariables false
open Go.RowKit

def cmpI (a b : Int) : Int := if a < b then -1 else if b < a then 1 else 0
def ltE (a b : Edge) : Bool := if a.f ≠ b.f then decide (a.f < b.f) else if a.k ≠ b.k then decide (a.k < b.k) else if a.key ≠ b.key then decide (a.key < b.key) else decide (a.t < b.t)
theorem isnan (w : World) (n : Int) : Calls Try.prog 192 #[.int .i64 n] w fun e w' => e = .returned (.bool false) ∧ w = w' := by
  have hb : (n != n) = false := by simp
  go_enter Try.func192, Try.ntmps192
  go_wp2
  go_ret
  exact ⟨rfl, rfl⟩
theorem cmpint (w : World) (a b : Int) : Calls Try.prog 151 #[.int .i64 a, .int .i64 b] w fun e w' => e = .returned (.int .i64 (cmpI a b)) ∧ w = w' := by
  by_cases h1 : a < b
  · have H := Lib.hid (show cmpI a b = -1 by unfold cmpI; rw [if_pos h1])
    go_enter Try.func151, Try.ntmps151
    go_wp2_with fail
    refine (isnan _ _).mono ?_
    rintro e w' ⟨rfl, rfl⟩
    go_wp2_with fail
    refine (isnan _ _).mono ?_
    rintro e w' ⟨rfl, rfl⟩
    go_wp2
    go_ret
    exact ⟨by rw [H.out]; rfl, rfl⟩
  · by_cases h2 : b < a
    · have H := Lib.hid (show cmpI a b = 1 by unfold cmpI; rw [if_neg h1, if_pos h2])
      go_enter Try.func151, Try.ntmps151
      go_wp2_with fail
      refine (isnan _ _).mono ?_
      rintro e w' ⟨rfl, rfl⟩
      go_wp2_with fail
      refine (isnan _ _).mono ?_
      rintro e w' ⟨rfl, rfl⟩
      go_wp2
      go_ret
      exact ⟨by rw [H.out]; rfl, rfl⟩
    · have H := Lib.hid (show cmpI a b = 0 by unfold cmpI; rw [if_neg h1, if_neg h2])
      go_enter Try.func151, Try.ntmps151
      go_wp2_with fail
      refine (isnan _ _).mono ?_
      rintro e w' ⟨rfl, rfl⟩
      go_wp2_with fail
      refine (isnan _ _).mono ?_
      rintro e w' ⟨rfl, rfl⟩
      go_wp2
      go_ret
      exact ⟨by rw [H.out]; rfl, rfl⟩

/-- new blocks, and draws, and no more -/
def Grw (w w' : World) : Prop := ∃ q os', w' = Sort.grow (w.drewN q) os'
theorem Grw.refl (w : World) : Grw w w := ⟨0, #[], by unfold Sort.grow World.drewN; simp⟩
theorem Grw.alloc {w w' : World} (h : Grw w w') (o : Obj) : Grw w (w'.alloc o) := by
  obtain ⟨q, os', rfl⟩ := h
  exact ⟨q, os'.push o, by unfold Sort.grow World.drewN World.alloc; simp⟩
theorem Grw.drewN {w w' : World} (h : Grw w w') (n : Nat) : Grw w (w'.drewN n) := by
  obtain ⟨q, os', rfl⟩ := h
  exact ⟨q + n, os', by unfold Sort.grow World.drewN; simp [Nat.add_assoc]⟩
theorem Grw.upd {w w' : World} (h : Grw w w') : Upd No w w' := by
  obtain ⟨q, os', rfl⟩ := h
  exact ⟨rfl, rfl, rfl, by unfold Sort.grow World.drewN; simp, fun k hk _ => by unfold Sort.grow World.drewN; simp [Array.getElem?_append_left hk]⟩
end Go.Proofs.Ytaicemjckagcaaa

/- Digraphs: ends held against one another. -/
namespace Go.Proofs.Ytaicemjckagcaaa
set_option linter.unusedVariables false
open Go.RowKit
/-- an arc seen from one of its nodes -/
structure DEnd where
  kind : Int
  label : Int
  node : Int
deriving DecidableEq
def DEnd.cells (e : DEnd) : List Value := [.int .i64 e.kind, .int .i64 e.label, .int .i64 e.node]
/-- the first that is not 0 -/
def orI : List Int → Int
  | [] => 0
  | x :: l => if x = 0 then orI l else x
theorem orI_cons (x : Int) (l : List Int) : orI (x :: l) = if x = 0 then orI l else x := rfl
set_option maxRecDepth 100000 in
theorem cmpor (F : Nat → Prop) (w : World) (A : Option Addr) (c : Nat) (l : List Int) (h : Ints F w A l) (hl : l.length ≤ 1000000) :
    Calls Try.prog 161 #[.slice A l.length c] w fun e w' => e = .returned (.int .i64 (orI l)) ∧ Upd No w w' := by
  go_enter Try.func161, Try.ntmps161
  go_wp2
  go_loopg [8] l.length (fun gk i wr => ∃ k : Nat, k + gk = l.length ∧ i = .int .i64 k ∧ Hid (orI (l.drop k) = orI l) ∧ Upd No w wr)
  case atStart => exact ⟨0, by omega, rfl, Lib.hid rfl, Upd.refl _ _⟩
  case round =>
    obtain ⟨k, hgk, rfl, hs, hu⟩ := hrel
    by_cases hlt : k < l.length
    · obtain ⟨ad, hA, _, _, hc⟩ := (h.upd hu (fun _ _ => id)).at_ hlt
      obtain ⟨y, hy⟩ : ∃ y, l[k] = y := ⟨_, rfl⟩
      rw [hy] at hc
      subst hA
      have X := Lib.hid (show l.drop k = y :: l.drop (k + 1) by rw [← hy]; exact List.drop_eq_getElem_cons hlt)
      clear hy
      have b1 : (0 : Int) ≤ (k : Int) := Int.natCast_nonneg _
      have b2 : (k : Int) < (l.length : Int) := by omega
      have hst := hs.out
      rw [X.out, orI_cons] at hst
      by_cases he : y = 0
      · have heb : (y != 0) = false := by rw [he]; rfl
        rw [if_pos he] at hst
        have HS := Lib.hid hst
        clear hst he
        go_wp2
        go_roundg (gk - 1)
        case measure => omega
        case rel => exact ⟨k + 1, by omega, by go_num, HS, hu⟩
      · have heb : (y != 0) = true := by rw [bne_iff_ne]; exact he
        rw [if_neg he] at hst
        have HS := Lib.hid hst
        clear hst he
        go_wp2
        go_ret
        exact ⟨by rw [← HS.out]; rfl, hu⟩
    · obtain rfl : k = l.length := by omega
      have HS := Lib.hid (show (0 : Int) = orI l by rw [← hs.out, List.drop_length]; rfl)
      go_wp2
      go_ret
      exact ⟨by rw [← HS.out]; rfl, hu⟩
def cmpD (a b : DEnd) : Int := orI [cmpI a.kind b.kind, cmpI a.label b.label, cmpI a.node b.node]
set_option maxRecDepth 100000 in
theorem dcompare (w : World) (a b : DEnd) : Calls Try.prog 139 #[.agg a.cells.toArray, .agg b.cells.toArray] w fun e w' => e = .returned (.int .i64 (cmpD a b)) ∧ Upd No w w' := by
  obtain ⟨ak, al, an⟩ := a
  obtain ⟨bk, bl, bn⟩ := b
  unfold DEnd.cells
  have b1 := (Blk.new w 139 [.int .i64 ak, .int .i64 al, .int .i64 an]).alloc (.cells #[.int .i64 bk, .int .i64 bl, .int .i64 bn] 139)
  have b2 := Blk.new (w.alloc (.cells #[.int .i64 ak, .int .i64 al, .int .i64 an] 139)) 139 [.int .i64 bk, .int .i64 bl, .int .i64 bn]
  simp only [World.size_alloc] at b2
  have uA := ((Upd.refl No w).alloc (.cells #[.int .i64 ak, .int .i64 al, .int .i64 an] 139)).alloc (.cells #[.int .i64 bk, .int .i64 bl, .int .i64 bn] 139)
  obtain ⟨wb, hwb⟩ : ∃ wb, (w.alloc (.cells #[.int .i64 ak, .int .i64 al, .int .i64 an] 139)).alloc (.cells #[.int .i64 bk, .int .i64 bl, .int .i64 bn] 139) = wb := ⟨_, rfl⟩
  rw [hwb] at b1 b2 uA
  have a0 : ∀ W, Upd No wb W → W.cell? ⟨w.heap.size, 0, none⟩ = some (.int .i64 ak) := fun W hW => (b1.upd hW id).cell 0
  have a1 : ∀ W, Upd No wb W → W.cell? ⟨w.heap.size, 1, none⟩ = some (.int .i64 al) := fun W hW => (b1.upd hW id).cell 1
  have a2 : ∀ W, Upd No wb W → W.cell? ⟨w.heap.size, 2, none⟩ = some (.int .i64 an) := fun W hW => (b1.upd hW id).cell 2
  have c0 : ∀ W, Upd No wb W → W.cell? ⟨w.heap.size + 1, 0, none⟩ = some (.int .i64 bk) := fun W hW => (b2.upd hW id).cell 0
  have c1 : ∀ W, Upd No wb W → W.cell? ⟨w.heap.size + 1, 1, none⟩ = some (.int .i64 bl) := fun W hW => (b2.upd hW id).cell 1
  have c2 : ∀ W, Upd No wb W → W.cell? ⟨w.heap.size + 1, 2, none⟩ = some (.int .i64 bn) := fun W hW => (b2.upd hW id).cell 2
  have HWB := Lib.hid hwb
  have UA := Lib.hid uA
  have hor := cmpor (fun i => i = wb.heap.size) ((wb.alloc (.cells #[.int .i64 (cmpI ak bk), .int .i64 (cmpI al bl), .int .i64 (cmpI an bn)] 3)).drew) (some ⟨wb.heap.size, 0, none⟩) 3 [cmpI ak bk, cmpI al bl, cmpI an bn] (Ints.drew (lit_ints (W := wb) [cmpI ak bk, cmpI al bl, cmpI an bn] 3)) (by simp)
  have HOr := Lib.hid hor
  have HV := Lib.hid (show cmpD ⟨ak, al, an⟩ ⟨bk, bl, bn⟩ = orI [cmpI ak bk, cmpI al bl, cmpI an bn] from rfl)
  clear hwb uA b1 b2 hor
  go_enter Try.func139, Try.ntmps139
  go_wp2
  rw [HWB.out]
  refine wp_region_noPanic ?_
  refine wp_region_held_drew (S := (fun w' => Upd No wb w')) (by kernel_rfl) ?_ (fun hHeld => ?_)
  · (first | exact (Upd.refl No _).drew | exact hHeld.trans hu3 | exact hHeld.alloc _)
  refine wpT 0 ⟨some 5, .fieldAddr 139 (.tmp 2) 0, 0, "digraph.go:16", #[], none⟩ ?_ (.inl ⟨by rfl, ?_⟩) ?_
  rotate_left
  · (intro W hSw; (try dsimp only at hSw); go_simp; try (with_reducible rfl))
  try simp only [Act.put]
  try simp only [List.setIfInBounds_toArray]
  try simp only [List.set_cons_succ]
  try simp only [List.set_cons_zero]
  refine wpT 1 ⟨some 6, .load 3 (.tmp 5), 3, "digraph.go:16", #[⟨0, .data⟩], none⟩ ?_ (.inl ⟨by rfl, ?_⟩) ?_
  rotate_left
  · (intro W hSw; (try dsimp only at hSw); go_simp; try (with_reducible rfl))
  try simp only [Act.put]
  try simp only [List.setIfInBounds_toArray]
  try simp only [List.set_cons_succ]
  try simp only [List.set_cons_zero]
  refine wpT 2 ⟨some 7, .fieldAddr 139 (.tmp 3) 0, 0, "digraph.go:16", #[], none⟩ ?_ (.inl ⟨by rfl, ?_⟩) ?_
  rotate_left
  · (intro W hSw; (try dsimp only at hSw); go_simp; try (with_reducible rfl))
  try simp only [Act.put]
  try simp only [List.setIfInBounds_toArray]
  try simp only [List.set_cons_succ]
  try simp only [List.set_cons_zero]
  refine wpT 3 ⟨some 8, .load 3 (.tmp 7), 3, "digraph.go:16", #[⟨2, .data⟩], none⟩ ?_ (.inl ⟨by rfl, ?_⟩) ?_
  rotate_left
  · (intro W hSw; (try dsimp only at hSw); go_simp; try (with_reducible rfl))
  try simp only [Act.put]
  try simp only [List.setIfInBounds_toArray]
  try simp only [List.set_cons_succ]
  try simp only [List.set_cons_zero]
  refine wpT 5 ⟨some 10, .fieldAddr 139 (.tmp 2) 1, 0, "digraph.go:16", #[], none⟩ ?_ (.inl ⟨by rfl, ?_⟩) ?_
  rotate_left
  · (intro W hSw; (try dsimp only at hSw); go_simp; try (with_reducible rfl))
  try simp only [Act.put]
  try simp only [List.setIfInBounds_toArray]
  try simp only [List.set_cons_succ]
  try simp only [List.set_cons_zero]
  refine wpT 6 ⟨some 11, .load 3 (.tmp 10), 3, "digraph.go:16", #[⟨5, .data⟩], none⟩ ?_ (.inl ⟨by rfl, ?_⟩) ?_
  rotate_left
  · (intro W hSw; (try dsimp only at hSw); go_simp; try (with_reducible rfl))
  try simp only [Act.put]
  try simp only [List.setIfInBounds_toArray]
  try simp only [List.set_cons_succ]
  try simp only [List.set_cons_zero]
  refine wpT 7 ⟨some 12, .fieldAddr 139 (.tmp 3) 1, 0, "digraph.go:16", #[], none⟩ ?_ (.inl ⟨by rfl, ?_⟩) ?_
  rotate_left
  · (intro W hSw; (try dsimp only at hSw); go_simp; try (with_reducible rfl))
  try simp only [Act.put]
  try simp only [List.setIfInBounds_toArray]
  try simp only [List.set_cons_succ]
  try simp only [List.set_cons_zero]
  refine wpT 8 ⟨some 13, .load 3 (.tmp 12), 3, "digraph.go:16", #[⟨7, .data⟩], none⟩ ?_ (.inl ⟨by rfl, ?_⟩) ?_
  rotate_left
  · (intro W hSw; (try dsimp only at hSw); go_simp; try (with_reducible rfl))
  try simp only [Act.put]
  try simp only [List.setIfInBounds_toArray]
  try simp only [List.set_cons_succ]
  try simp only [List.set_cons_zero]
  refine wpT 10 ⟨some 15, .fieldAddr 139 (.tmp 2) 2, 0, "digraph.go:16", #[], none⟩ ?_ (.inl ⟨by rfl, ?_⟩) ?_
  rotate_left
  · (intro W hSw; (try dsimp only at hSw); go_simp; try (with_reducible rfl))
  try simp only [Act.put]
  try simp only [List.setIfInBounds_toArray]
  try simp only [List.set_cons_succ]
  try simp only [List.set_cons_zero]
  refine wpT 11 ⟨some 16, .load 3 (.tmp 15), 3, "digraph.go:16", #[⟨10, .data⟩], none⟩ ?_ (.inl ⟨by rfl, ?_⟩) ?_
  rotate_left
  · (intro W hSw; (try dsimp only at hSw); go_simp; try (with_reducible rfl))
  try simp only [Act.put]
  try simp only [List.setIfInBounds_toArray]
  try simp only [List.set_cons_succ]
  try simp only [List.set_cons_zero]
  refine wpT 12 ⟨some 17, .fieldAddr 139 (.tmp 3) 2, 0, "digraph.go:16", #[], none⟩ ?_ (.inl ⟨by rfl, ?_⟩) ?_
  rotate_left
  · (intro W hSw; (try dsimp only at hSw); go_simp; try (with_reducible rfl))
  try simp only [Act.put]
  try simp only [List.setIfInBounds_toArray]
  try simp only [List.set_cons_succ]
  try simp only [List.set_cons_zero]
  refine wpT 13 ⟨some 18, .load 3 (.tmp 17), 3, "digraph.go:16", #[⟨12, .data⟩], none⟩ ?_ (.inl ⟨by rfl, ?_⟩) ?_
  rotate_left
  · (intro W hSw; (try dsimp only at hSw); go_simp; try (with_reducible rfl))
  try simp only [Act.put]
  try simp only [List.setIfInBounds_toArray]
  try simp only [List.set_cons_succ]
  try simp only [List.set_cons_zero]
  refine wpAnyH_ready (rs := [4]) (by kernel_rfl) (by simp) ?_
  refine AllReadyH.cons (o := ⟨some 9, .call { callee := .value (.func 151), args := #[.tmp 6, .tmp 8], argTypes := #[3, 3] }, 3, "digraph.go:16", #[⟨1, .data⟩, ⟨3, .data⟩], none⟩) rfl (fun K hK => ?_) AllReadyH.nil
  go_simp
  (first
    | (go_at_call 151; refine (cmpint _ _ _).mono ?_; rintro e w3 ⟨rfl, rfl⟩; have hu3 := hHeld))
  try (go_wp2_with fail)
  refine hK.out _ _ ?_ (fun hHeld => ?_)
  · (first | exact (Upd.refl No _).drew | exact hHeld.trans hu3 | exact hHeld.alloc _)
  clear hK K
  try simp only [Act.put]
  try simp only [List.setIfInBounds_toArray]
  try simp only [List.set_cons_succ]
  try simp only [List.set_cons_zero]
  refine wpAnyH_ready (rs := [9]) (by kernel_rfl) (by simp) ?_
  refine AllReadyH.cons (o := ⟨some 14, .call { callee := .value (.func 151), args := #[.tmp 11, .tmp 13], argTypes := #[3, 3] }, 3, "digraph.go:16", #[⟨6, .data⟩, ⟨8, .data⟩, ⟨4, .chain⟩], none⟩) rfl (fun K hK => ?_) AllReadyH.nil
  go_simp
  (first
    | (go_at_call 151; refine (cmpint _ _ _).mono ?_; rintro e w3 ⟨rfl, rfl⟩; have hu3 := hHeld))
  try (go_wp2_with fail)
  refine hK.out _ _ ?_ (fun hHeld => ?_)
  · (first | exact (Upd.refl No _).drew | exact hHeld.trans hu3 | exact hHeld.alloc _)
  clear hK K
  try simp only [Act.put]
  try simp only [List.setIfInBounds_toArray]
  try simp only [List.set_cons_succ]
  try simp only [List.set_cons_zero]
  refine wpAnyH_ready (rs := [14]) (by kernel_rfl) (by simp) ?_
  refine AllReadyH.cons (o := ⟨some 19, .call { callee := .value (.func 151), args := #[.tmp 16, .tmp 18], argTypes := #[3, 3] }, 3, "digraph.go:16", #[⟨11, .data⟩, ⟨13, .data⟩, ⟨9, .chain⟩], none⟩) rfl (fun K hK => ?_) AllReadyH.nil
  go_simp
  (first
    | (go_at_call 151; refine (cmpint _ _ _).mono ?_; rintro e w3 ⟨rfl, rfl⟩; have hu3 := hHeld))
  try (go_wp2_with fail)
  refine hK.out _ _ ?_ (fun hHeld => ?_)
  · (first | exact (Upd.refl No _).drew | exact hHeld.trans hu3 | exact hHeld.alloc _)
  clear hK K
  try simp only [Act.put]
  try simp only [List.setIfInBounds_toArray]
  try simp only [List.set_cons_succ]
  try simp only [List.set_cons_zero]
  refine wpAnyH_ready (rs := [15]) (by kernel_rfl) (by simp) ?_
  refine AllReadyH.cons (o := ⟨some 20, .buildSlice 22 3 #[(0, .tmp 9), (1, .tmp 14), (2, .tmp 19)], 22, "digraph.go:16", #[⟨4, .data⟩, ⟨9, .data⟩, ⟨14, .data⟩], none⟩) rfl (fun K hK => ?_) AllReadyH.nil
  go_simp
  refine hK.out _ _ ?_ (fun hHeld => ?_)
  · (first | exact (Upd.refl No _).drew | exact hHeld.trans hu3 | exact hHeld.alloc _)
  clear hK K
  try simp only [Act.put]
  try simp only [List.setIfInBounds_toArray]
  try simp only [List.set_cons_succ]
  try simp only [List.set_cons_zero]
  refine wpAnyH_ready (rs := [16]) (by kernel_rfl) (by simp) ?_
  refine AllReadyH.cons (o := ⟨some 21, .call { callee := .value (.func 161), args := #[.tmp 20], argTypes := #[22] }, 3, "digraph.go:16", #[⟨15, .data⟩, ⟨14, .chain⟩], none⟩) rfl (fun K hK => ?_) AllReadyH.nil
  go_simp
  (first
    | (go_at_call 161; refine (HOr.out).mono ?_; rintro e w3 ⟨rfl, hu3⟩))
  try (go_wp2_with fail)
  refine hK.out _ _ ?_ (fun hHeld => ?_)
  · (first | exact (Upd.refl No _).drew | exact hHeld.trans hu3 | exact hHeld.alloc _)
  clear hK K
  try simp only [Act.put]
  try simp only [List.setIfInBounds_toArray]
  try simp only [List.set_cons_succ]
  try simp only [List.set_cons_zero]
  refine wpT 17 ⟨some 4, .assign (.tmp 21), 3, "digraph.go:16", #[⟨16, .data⟩, ⟨16, .chain⟩, ⟨0, .phase⟩, ⟨1, .phase⟩, ⟨2, .phase⟩, ⟨3, .phase⟩, ⟨4, .phase⟩, ⟨5, .phase⟩, ⟨6, .phase⟩, ⟨7, .phase⟩, ⟨8, .phase⟩, ⟨9, .phase⟩, ⟨10, .phase⟩, ⟨11, .phase⟩, ⟨12, .phase⟩, ⟨13, .phase⟩, ⟨14, .phase⟩, ⟨15, .phase⟩, ⟨16, .phase⟩], none⟩ ?_ (.inl ⟨by rfl, ?_⟩) ?_
  rotate_left
  · (intro W hSw; (try dsimp only at hSw); go_simp; try (with_reducible rfl))
  try simp only [Act.put]
  try simp only [List.setIfInBounds_toArray]
  try simp only [List.set_cons_succ]
  try simp only [List.set_cons_zero]
  refine wpAnyH_done (by kernel_rfl) (NoPanic.normal ?_) _
  have HU := Lib.hid (UA.out.trans hHeld)
  clear hHeld
  go_wp2
  go_ret
  exact ⟨by rw [HV.out]; rfl, HU.out⟩
end Go.Proofs.Ytaicemjckagcaaa

/- Digraphs: where an end stands among others. -/
namespace Go.Proofs.Ytaicemjckagcaaa
set_option linter.unusedVariables false
open Go.RowKit
def DEnds (F : Nat → Prop) (w : World) (A : Option Addr) (l : List DEnd) : Prop := Recs F w A 3 (l.map DEnd.cells)
theorem DEnds.at_ {F : Nat → Prop} {w : World} {A : Option Addr} {l : List DEnd} (h : DEnds F w A l) {k : Nat} (hk : k < l.length) : ∃ ad, A = some ad ∧
    w.cell? (ad.add (k * 3)) = some (.int .i64 l[k].kind) ∧ w.cell? ⟨(ad.add (k * 3)).block, (ad.add (k * 3)).off + 1, none⟩ = some (.int .i64 l[k].label) ∧
    w.cell? ⟨(ad.add (k * 3)).block, (ad.add (k * 3)).off + 2, none⟩ = some (.int .i64 l[k].node) := by
  have hk' : k < (l.map DEnd.cells).length := by simpa using hk
  obtain ⟨ad, e, _, _, hc⟩ := Recs.at_ h hk'
  rw [List.getElem_map] at hc
  exact ⟨ad, e, by simpa using hc 0 _ rfl, by simpa using hc 1 _ rfl, by simpa using hc 2 _ rfl⟩
theorem DEnds.upd {F S : Nat → Prop} {w w' : World} {A : Option Addr} {l : List DEnd} (h : DEnds F w A l) (k : Upd S w w') (hn : ∀ i, F i → ¬ S i) : DEnds F w' A l := Recs.upd h k hn
/-- place p parts what is less than e from the rest -/
def Parts (l : List DEnd) (e : DEnd) (p : Nat) : Prop := p ≤ l.length ∧ ∀ k (hk : k < l.length), (cmpD l[k] e < 0 ↔ k < p)
def isAt (l : List DEnd) (e : DEnd) (p : Nat) : Bool := match l[p]? with | some x => cmpD x e == 0 | none => false
set_option maxRecDepth 100000 in
set_option maxHeartbeats 1000000 in
theorem dfind (F : Nat → Prop) (w : World) (A : Option Addr) (c : Nat) (l : List DEnd) (e : DEnd) (p : Nat) (h : DEnds F w A l) (hl : l.length ≤ 1000000) (hp : Parts l e p) :
    Calls Try.prog 138 #[.slice A l.length c, .agg e.cells.toArray, .func (.func 139) #[] #[]] w fun r w' => r = .returned (.tuple #[.int .i64 (p : Int), .bool (isAt l e p)]) ∧ Upd No w w' := by
  obtain ⟨ek, el, en⟩ := e
  unfold DEnd.cells
  have bE := Lib.hid (Blk.new w 139 [.int .i64 ek, .int .i64 el, .int .i64 en])
  have u0 := (Upd.refl No w).alloc (.cells #[.int .i64 ek, .int .i64 el, .int .i64 en] 139)
  have U0 := Lib.hid u0
  have hc : ∀ W (x : DEnd), Calls Try.prog 139 #[.agg #[.int .i64 x.kind, .int .i64 x.label, .int .i64 x.node], .agg #[.int .i64 ek, .int .i64 el, .int .i64 en]] W fun r w' => r = .returned (.int .i64 (cmpD x ⟨ek, el, en⟩)) ∧ Upd No W w' := fun W x => dcompare W x ⟨ek, el, en⟩
  have HC := Lib.hid hc
  have HP := Lib.hid hp.2
  have hp1 := hp.1
  clear u0 hc hp
  go_enter Try.func138, Try.ntmps138
  go_wp2
  go_loopg [9, 10] l.length (fun gk s9 s10 wr => ∃ i j : Nat, i + gk = j ∧ s9 = .int .i64 i ∧ s10 = .int .i64 j ∧ i ≤ p ∧ p ≤ j ∧ j ≤ l.length ∧ Upd No (w.alloc (.cells #[.int .i64 ek, .int .i64 el, .int .i64 en] 139)) wr)
  case atStart => exact ⟨0, l.length, by omega, rfl, rfl, by omega, by omega, by omega, Upd.refl _ _⟩
  case round =>
    obtain ⟨i, j, hgk, rfl, rfl, hi, hj, hjn, hu⟩ := hrel
    have e0 : ∀ W, Upd No wr W → W.cell? ⟨w.heap.size, 0, none⟩ = some (.int .i64 ek) := fun W hW => (bE.out.upd (hu.trans hW) id).cell 0
    have e1 : ∀ W, Upd No wr W → W.cell? ⟨w.heap.size, 1, none⟩ = some (.int .i64 el) := fun W hW => (bE.out.upd (hu.trans hW) id).cell 1
    have e2 : ∀ W, Upd No wr W → W.cell? ⟨w.heap.size, 2, none⟩ = some (.int .i64 en) := fun W hW => (bE.out.upd (hu.trans hW) id).cell 2
    have hr : Upd No wr wr := Upd.refl _ _
    by_cases hlt : i < j
    · have b1 : (i : Int) < (j : Int) := by omega
      have b2 : (0 : Int) ≤ (i : Int) := Int.natCast_nonneg _
      have b3 : (j : Int) ≤ 1000000 := by omega
      obtain ⟨m, hm⟩ : ∃ m : Nat, (i + j) / 2 = m := ⟨_, rfl⟩
      have hmi : ((i : Int) + (j : Int)) / 2 = (m : Int) := by omega
      have hm1 : i ≤ m := by omega
      have hm2 : m < j := by omega
      have hml : m < l.length := by omega
      have b4 : (0 : Int) ≤ (m : Int) := Int.natCast_nonneg _
      have b5 : (m : Int) < (l.length : Int) := by omega
      obtain ⟨ad, hA, _⟩ := (h.upd (U0.out.trans hu) (fun _ _ => id)).at_ hml
      have hq := fun W (hW : Upd No wr W) => (h.upd (U0.out.trans (hu.trans hW)) (fun _ _ => id)).at_ hml
      obtain ⟨x, hx⟩ : ∃ x, l[m] = x := ⟨_, rfl⟩
      rw [hx] at hq
      have q0 : ∀ W, Upd No wr W → W.cell? (ad.add (m * 3)) = some (.int .i64 x.kind) := fun W hW => by
        obtain ⟨ad', e, c0, _⟩ := hq W hW
        rw [hA] at e
        cases e
        exact c0
      have q1 : ∀ W, Upd No wr W → W.cell? ⟨(ad.add (m * 3)).block, (ad.add (m * 3)).off + 1, none⟩ = some (.int .i64 x.label) := fun W hW => by
        obtain ⟨ad', e, _, c1, _⟩ := hq W hW
        rw [hA] at e
        cases e
        exact c1
      have q2 : ∀ W, Upd No wr W → W.cell? ⟨(ad.add (m * 3)).block, (ad.add (m * 3)).off + 2, none⟩ = some (.int .i64 x.node) := fun W hW => by
        obtain ⟨ad', e, _, _, c2⟩ := hq W hW
        rw [hA] at e
        cases e
        exact c2
      have hpx := HP.out m hml
      rw [hx] at hpx
      subst hA
      clear hq hx hm
      by_cases hlt2 : cmpD x ⟨ek, el, en⟩ < 0
      · have hmp := hpx.1 hlt2
        have hd : decide (cmpD x ⟨ek, el, en⟩ < 0) = true := decide_eq_true hlt2
        clear hpx hlt2
        go_wp2
        refine wp_region_noPanic ?_
        refine wp_region_held_drew (S := (fun w' => Upd No wr w')) (by kernel_rfl) ?_ (fun hHeld => ?_)
        · (first | exact (Upd.refl No _).drew | exact hHeld.trans hu3)
        refine wpT 0 ⟨some 24, .move (.tmp 2), 205, "sort.go:160", #[], none⟩ ?_ (.inl ⟨by rfl, ?_⟩) ?_
        rotate_left
        · (intro W hSw; (try dsimp only at hSw); go_simp; try (with_reducible rfl))
        try simp only [Act.put]
        try simp only [List.setIfInBounds_toArray]
        try simp only [List.set_cons_succ]
        try simp only [List.set_cons_zero]
        refine wpT 1 ⟨some 25, .move (.tmp 0), 133, "sort.go:160", #[], none⟩ ?_ (.inl ⟨by rfl, ?_⟩) ?_
        rotate_left
        · (intro W hSw; (try dsimp only at hSw); go_simp; try (with_reducible rfl))
        try simp only [Act.put]
        try simp only [List.setIfInBounds_toArray]
        try simp only [List.set_cons_succ]
        try simp only [List.set_cons_zero]
        refine wpT 2 ⟨some 26, .move (.tmp 11), 3, "sort.go:160", #[], none⟩ ?_ (.inl ⟨by rfl, ?_⟩) ?_
        rotate_left
        · (intro W hSw; (try dsimp only at hSw); go_simp; try (with_reducible rfl))
        try simp only [Act.put]
        try simp only [List.setIfInBounds_toArray]
        try simp only [List.set_cons_succ]
        try simp only [List.set_cons_zero]
        refine wpT 3 ⟨some 27, .indexAddr 133 (.tmp 25) (.tmp 26), 0, "sort.go:160", #[⟨1, .data⟩, ⟨2, .data⟩], none⟩ ?_ (.inl ⟨by rfl, ?_⟩) ?_
        rotate_left
        · (intro W hSw; (try dsimp only at hSw); go_simp; try (with_reducible rfl))
        try simp only [Act.put]
        try simp only [List.setIfInBounds_toArray]
        try simp only [List.set_cons_succ]
        try simp only [List.set_cons_zero]
        refine wpT 4 ⟨some 28, .load 139 (.tmp 27), 139, "sort.go:160", #[⟨3, .data⟩], none⟩ ?_ (.inl ⟨by rfl, ?_⟩) ?_
        rotate_left
        · (intro W hSw; (try dsimp only at hSw); go_simp; try (with_reducible rfl))
        try simp only [Act.put]
        try simp only [List.setIfInBounds_toArray]
        try simp only [List.set_cons_succ]
        try simp only [List.set_cons_zero]
        refine wpT 5 ⟨some 29, .load 139 (.tmp 4), 139, "sort.go:160", #[], none⟩ ?_ (.inl ⟨by rfl, ?_⟩) ?_
        rotate_left
        · (intro W hSw; (try dsimp only at hSw); go_simp; try (with_reducible rfl))
        try simp only [Act.put]
        try simp only [List.setIfInBounds_toArray]
        try simp only [List.set_cons_succ]
        try simp only [List.set_cons_zero]
        refine wpAnyH_ready (rs := [6]) (by kernel_rfl) (by simp) ?_
        refine AllReadyH.cons (o := ⟨some 30, .call { callee := .value (.tmp 24), args := #[.tmp 28, .tmp 29], argTypes := #[139, 139] }, 3, "sort.go:160", #[⟨0, .data⟩, ⟨4, .data⟩, ⟨5, .data⟩], none⟩) rfl (fun K hK => ?_) AllReadyH.nil
        go_simp
        (first
    | (go_at_call 139; refine (HC.out _ x).mono ?_; rintro e w3 ⟨rfl, hu3⟩))
        try (go_wp2_with fail)
        refine hK.out _ _ ?_ (fun hHeld => ?_)
        · (first | exact (Upd.refl No _).drew | exact hHeld.trans hu3)
        clear hK K
        try simp only [Act.put]
        try simp only [List.setIfInBounds_toArray]
        try simp only [List.set_cons_succ]
        try simp only [List.set_cons_zero]
        refine wpT 7 ⟨some 31, .binOp .lss 3 (.tmp 30) (.const (.int .i64 0)) 3, 4, "sort.go:160", #[⟨6, .data⟩], none⟩ ?_ (.inl ⟨by rfl, ?_⟩) ?_
        rotate_left
        · (intro W hSw; (try dsimp only at hSw); go_simp; try (with_reducible rfl))
        try simp only [Act.put]
        try simp only [List.setIfInBounds_toArray]
        try simp only [List.set_cons_succ]
        try simp only [List.set_cons_zero]
        refine wpAnyH_done (by kernel_rfl) (NoPanic.normal ?_) _
        have HU := Lib.hid (hu.trans hHeld)
        clear hHeld q0 q1 q2 e0 e1 e2
        go_wp2
        go_roundg (j - (m + 1))
        case measure => omega
        case rel => exact ⟨m + 1, j, by omega, by go_num, rfl, by omega, by omega, by omega, HU.out⟩
      · have hmp : ¬ m < p := fun e => hlt2 (hpx.2 e)
        have hd : decide (cmpD x ⟨ek, el, en⟩ < 0) = false := decide_eq_false hlt2
        clear hpx hlt2
        go_wp2
        refine wp_region_noPanic ?_
        refine wp_region_held_drew (S := (fun w' => Upd No wr w')) (by kernel_rfl) ?_ (fun hHeld => ?_)
        · (first | exact (Upd.refl No _).drew | exact hHeld.trans hu3)
        refine wpT 0 ⟨some 24, .move (.tmp 2), 205, "sort.go:160", #[], none⟩ ?_ (.inl ⟨by rfl, ?_⟩) ?_
        rotate_left
        · (intro W hSw; (try dsimp only at hSw); go_simp; try (with_reducible rfl))
        try simp only [Act.put]
        try simp only [List.setIfInBounds_toArray]
        try simp only [List.set_cons_succ]
        try simp only [List.set_cons_zero]
        refine wpT 1 ⟨some 25, .move (.tmp 0), 133, "sort.go:160", #[], none⟩ ?_ (.inl ⟨by rfl, ?_⟩) ?_
        rotate_left
        · (intro W hSw; (try dsimp only at hSw); go_simp; try (with_reducible rfl))
        try simp only [Act.put]
        try simp only [List.setIfInBounds_toArray]
        try simp only [List.set_cons_succ]
        try simp only [List.set_cons_zero]
        refine wpT 2 ⟨some 26, .move (.tmp 11), 3, "sort.go:160", #[], none⟩ ?_ (.inl ⟨by rfl, ?_⟩) ?_
        rotate_left
        · (intro W hSw; (try dsimp only at hSw); go_simp; try (with_reducible rfl))
        try simp only [Act.put]
        try simp only [List.setIfInBounds_toArray]
        try simp only [List.set_cons_succ]
        try simp only [List.set_cons_zero]
        refine wpT 3 ⟨some 27, .indexAddr 133 (.tmp 25) (.tmp 26), 0, "sort.go:160", #[⟨1, .data⟩, ⟨2, .data⟩], none⟩ ?_ (.inl ⟨by rfl, ?_⟩) ?_
        rotate_left
        · (intro W hSw; (try dsimp only at hSw); go_simp; try (with_reducible rfl))
        try simp only [Act.put]
        try simp only [List.setIfInBounds_toArray]
        try simp only [List.set_cons_succ]
        try simp only [List.set_cons_zero]
        refine wpT 4 ⟨some 28, .load 139 (.tmp 27), 139, "sort.go:160", #[⟨3, .data⟩], none⟩ ?_ (.inl ⟨by rfl, ?_⟩) ?_
        rotate_left
        · (intro W hSw; (try dsimp only at hSw); go_simp; try (with_reducible rfl))
        try simp only [Act.put]
        try simp only [List.setIfInBounds_toArray]
        try simp only [List.set_cons_succ]
        try simp only [List.set_cons_zero]
        refine wpT 5 ⟨some 29, .load 139 (.tmp 4), 139, "sort.go:160", #[], none⟩ ?_ (.inl ⟨by rfl, ?_⟩) ?_
        rotate_left
        · (intro W hSw; (try dsimp only at hSw); go_simp; try (with_reducible rfl))
        try simp only [Act.put]
        try simp only [List.setIfInBounds_toArray]
        try simp only [List.set_cons_succ]
        try simp only [List.set_cons_zero]
        refine wpAnyH_ready (rs := [6]) (by kernel_rfl) (by simp) ?_
        refine AllReadyH.cons (o := ⟨some 30, .call { callee := .value (.tmp 24), args := #[.tmp 28, .tmp 29], argTypes := #[139, 139] }, 3, "sort.go:160", #[⟨0, .data⟩, ⟨4, .data⟩, ⟨5, .data⟩], none⟩) rfl (fun K hK => ?_) AllReadyH.nil
        go_simp
        (first
    | (go_at_call 139; refine (HC.out _ x).mono ?_; rintro e w3 ⟨rfl, hu3⟩))
        try (go_wp2_with fail)
        refine hK.out _ _ ?_ (fun hHeld => ?_)
        · (first | exact (Upd.refl No _).drew | exact hHeld.trans hu3)
        clear hK K
        try simp only [Act.put]
        try simp only [List.setIfInBounds_toArray]
        try simp only [List.set_cons_succ]
        try simp only [List.set_cons_zero]
        refine wpT 7 ⟨some 31, .binOp .lss 3 (.tmp 30) (.const (.int .i64 0)) 3, 4, "sort.go:160", #[⟨6, .data⟩], none⟩ ?_ (.inl ⟨by rfl, ?_⟩) ?_
        rotate_left
        · (intro W hSw; (try dsimp only at hSw); go_simp; try (with_reducible rfl))
        try simp only [Act.put]
        try simp only [List.setIfInBounds_toArray]
        try simp only [List.set_cons_succ]
        try simp only [List.set_cons_zero]
        refine wpAnyH_done (by kernel_rfl) (NoPanic.normal ?_) _
        have HU := Lib.hid (hu.trans hHeld)
        clear hHeld q0 q1 q2 e0 e1 e2
        go_wp2
        go_roundg (m - i)
        case measure => omega
        case rel => exact ⟨i, m, by omega, rfl, by go_num, by omega, by omega, by omega, HU.out⟩
    · have hip : i = p := by omega
      have hjp : j = p := by omega
      subst hip
      subst hjp
      by_cases hpn : j < l.length
      · obtain ⟨ad, hA, _⟩ := (h.upd (U0.out.trans hu) (fun _ _ => id)).at_ hpn
        have hq := fun W (hW : Upd No wr W) => (h.upd (U0.out.trans (hu.trans hW)) (fun _ _ => id)).at_ hpn
        obtain ⟨x, hx⟩ : ∃ x, l[j] = x := ⟨_, rfl⟩
        rw [hx] at hq
        have q0 : ∀ W, Upd No wr W → W.cell? (ad.add (j * 3)) = some (.int .i64 x.kind) := fun W hW => by
          obtain ⟨ad', e, c0, _⟩ := hq W hW
          rw [hA] at e
          cases e
          exact c0
        have q1 : ∀ W, Upd No wr W → W.cell? ⟨(ad.add (j * 3)).block, (ad.add (j * 3)).off + 1, none⟩ = some (.int .i64 x.label) := fun W hW => by
          obtain ⟨ad', e, _, c1, _⟩ := hq W hW
          rw [hA] at e
          cases e
          exact c1
        have q2 : ∀ W, Upd No wr W → W.cell? ⟨(ad.add (j * 3)).block, (ad.add (j * 3)).off + 2, none⟩ = some (.int .i64 x.node) := fun W hW => by
          obtain ⟨ad', e, _, _, c2⟩ := hq W hW
          rw [hA] at e
          cases e
          exact c2
        have HV := Lib.hid (show isAt l ⟨ek, el, en⟩ j = (cmpD x ⟨ek, el, en⟩ == 0) by unfold isAt; rw [List.getElem?_eq_getElem hpn, hx])
        have b1 : (j : Int) < (l.length : Int) := by omega
        have b2 : (0 : Int) ≤ (j : Int) := Int.natCast_nonneg _
        have hpd : decide (j < l.length) = true := decide_eq_true hpn
        have hlt' : ¬ (j : Int) < (j : Int) := by omega
        subst hA
        clear hq hx
        go_wp2
        refine wp_region_noPanic ?_
        refine wp_region_held_drew (S := (fun w' => Upd No wr w')) (by kernel_rfl) ?_ (fun hHeld => ?_)
        · (first | exact (Upd.refl No _).drew | exact hHeld.trans hu3)
        refine wpT 0 ⟨some 35, .move (.tmp 9), 3, "sort.go:167", #[], none⟩ ?_ (.inl ⟨by rfl, ?_⟩) ?_
        rotate_left
        · (intro W hSw; (try dsimp only at hSw); go_simp; try (with_reducible rfl))
        try simp only [Act.put]
        try simp only [List.setIfInBounds_toArray]
        try simp only [List.set_cons_succ]
        try simp only [List.set_cons_zero]
        refine wpT 1 ⟨some 36, .move (.tmp 9), 3, "sort.go:167", #[], none⟩ ?_ (.inl ⟨by rfl, ?_⟩) ?_
        rotate_left
        · (intro W hSw; (try dsimp only at hSw); go_simp; try (with_reducible rfl))
        try simp only [Act.put]
        try simp only [List.setIfInBounds_toArray]
        try simp only [List.set_cons_succ]
        try simp only [List.set_cons_zero]
        refine wpT 2 ⟨some 37, .move (.tmp 8), 3, "sort.go:167", #[], none⟩ ?_ (.inl ⟨by rfl, ?_⟩) ?_
        rotate_left
        · (intro W hSw; (try dsimp only at hSw); go_simp; try (with_reducible rfl))
        try simp only [Act.put]
        try simp only [List.setIfInBounds_toArray]
        try simp only [List.set_cons_succ]
        try simp only [List.set_cons_zero]
        refine wpT 3 ⟨some 38, .binOp .lss 3 (.tmp 36) (.tmp 37) 3, 4, "sort.go:167", #[⟨1, .data⟩, ⟨2, .data⟩], none⟩ ?_ (.inl ⟨by rfl, ?_⟩) ?_
        rotate_left
        · (intro W hSw; (try dsimp only at hSw); go_simp; try (with_reducible rfl))
        try simp only [Act.put]
        try simp only [List.setIfInBounds_toArray]
        try simp only [List.set_cons_succ]
        try simp only [List.set_cons_zero]
        refine wpT 4 ⟨some 39, .move (.tmp 38), 4, "sort.go:167", #[⟨3, .data⟩], none⟩ ?_ (.inl ⟨by rfl, ?_⟩) ?_
        rotate_left
        · (intro W hSw; (try dsimp only at hSw); go_simp; try (with_reducible rfl))
        try simp only [Act.put]
        try simp only [List.setIfInBounds_toArray]
        try simp only [List.set_cons_succ]
        try simp only [List.set_cons_zero]
        refine wpT 5 ⟨some 40, .move (.tmp 2), 205, "sort.go:167", #[⟨4, .guard⟩], some (4, true)⟩ ?_ (.inl ⟨by rfl, ?_⟩) ?_
        rotate_left
        · (intro W hSw; (try dsimp only at hSw); go_simp; try (with_reducible rfl))
        try simp only [Act.put]
        try simp only [List.setIfInBounds_toArray]
        try simp only [List.set_cons_succ]
        try simp only [List.set_cons_zero]
        refine wpT 6 ⟨some 41, .move (.tmp 0), 133, "sort.go:167", #[⟨4, .guard⟩], some (4, true)⟩ ?_ (.inl ⟨by rfl, ?_⟩) ?_
        rotate_left
        · (intro W hSw; (try dsimp only at hSw); go_simp; try (with_reducible rfl))
        try simp only [Act.put]
        try simp only [List.setIfInBounds_toArray]
        try simp only [List.set_cons_succ]
        try simp only [List.set_cons_zero]
        refine wpT 7 ⟨some 42, .move (.tmp 9), 3, "sort.go:167", #[⟨4, .guard⟩], some (4, true)⟩ ?_ (.inl ⟨by rfl, ?_⟩) ?_
        rotate_left
        · (intro W hSw; (try dsimp only at hSw); go_simp; try (with_reducible rfl))
        try simp only [Act.put]
        try simp only [List.setIfInBounds_toArray]
        try simp only [List.set_cons_succ]
        try simp only [List.set_cons_zero]
        refine wpT 8 ⟨some 43, .indexAddr 133 (.tmp 41) (.tmp 42), 0, "sort.go:167", #[⟨6, .data⟩, ⟨7, .data⟩, ⟨4, .guard⟩], some (4, true)⟩ ?_ (.inl ⟨by rfl, ?_⟩) ?_
        rotate_left
        · (intro W hSw; (try dsimp only at hSw); go_simp; try (with_reducible rfl))
        try simp only [Act.put]
        try simp only [List.setIfInBounds_toArray]
        try simp only [List.set_cons_succ]
        try simp only [List.set_cons_zero]
        refine wpT 9 ⟨some 44, .load 139 (.tmp 43), 139, "sort.go:167", #[⟨8, .data⟩, ⟨4, .guard⟩], some (4, true)⟩ ?_ (.inl ⟨by rfl, ?_⟩) ?_
        rotate_left
        · (intro W hSw; (try dsimp only at hSw); go_simp; try (with_reducible rfl))
        try simp only [Act.put]
        try simp only [List.setIfInBounds_toArray]
        try simp only [List.set_cons_succ]
        try simp only [List.set_cons_zero]
        refine wpT 10 ⟨some 45, .load 139 (.tmp 4), 139, "sort.go:167", #[⟨4, .guard⟩], some (4, true)⟩ ?_ (.inl ⟨by rfl, ?_⟩) ?_
        rotate_left
        · (intro W hSw; (try dsimp only at hSw); go_simp; try (with_reducible rfl))
        try simp only [Act.put]
        try simp only [List.setIfInBounds_toArray]
        try simp only [List.set_cons_succ]
        try simp only [List.set_cons_zero]
        refine wpAnyH_ready (rs := [11]) (by kernel_rfl) (by simp) ?_
        refine AllReadyH.cons (o := ⟨some 46, .call { callee := .value (.tmp 40), args := #[.tmp 44, .tmp 45], argTypes := #[139, 139] }, 3, "sort.go:167", #[⟨5, .data⟩, ⟨9, .data⟩, ⟨10, .data⟩, ⟨4, .chain⟩, ⟨4, .guard⟩], some (4, true)⟩) rfl (fun K hK => ?_) AllReadyH.nil
        go_simp
        (first
    | (go_at_call 139; refine (HC.out _ x).mono ?_; rintro e w3 ⟨rfl, hu3⟩))
        try (go_wp2_with fail)
        refine hK.out _ _ ?_ (fun hHeld => ?_)
        · (first | exact (Upd.refl No _).drew | exact hHeld.trans hu3)
        clear hK K
        try simp only [Act.put]
        try simp only [List.setIfInBounds_toArray]
        try simp only [List.set_cons_succ]
        try simp only [List.set_cons_zero]
        refine wpT 12 ⟨some 47, .binOp .eql 3 (.tmp 46) (.const (.int .i64 0)) 3, 4, "sort.go:167", #[⟨11, .data⟩, ⟨4, .guard⟩, { on := 14, ground := Go.Ground.gcOnly Go.Departure.lateStores }], some (4, true)⟩ ?_ (.inl ⟨by rfl, ?_⟩) ?_
        rotate_left
        · (intro W hSw; (try dsimp only at hSw); go_simp; try (with_reducible rfl))
        try simp only [Act.put]
        try simp only [List.setIfInBounds_toArray]
        try simp only [List.set_cons_succ]
        try simp only [List.set_cons_zero]
        refine wpT 13 ⟨some 48, .pick (.tmp 39) (.tmp 47) (.const (.bool false)), 4, "sort.go:167", #[⟨4, .data⟩, ⟨12, .data⟩, { on := 14, ground := Go.Ground.gcOnly Go.Departure.lateStores }], none⟩ ?_ (.inl ⟨by rfl, ?_⟩) ?_
        rotate_left
        · (intro W hSw; (try dsimp only at hSw); go_simp; try (with_reducible rfl))
        try simp only [Act.put]
        try simp only [List.setIfInBounds_toArray]
        try simp only [List.set_cons_succ]
        try simp only [List.set_cons_zero]
        refine wpT 14 ⟨some 6, .assign (.tmp 35), 3, "sort.go:167", #[⟨0, .data⟩, ⟨11, .chain⟩, ⟨0, .phase⟩, { on := 1, ground := Go.Ground.textOnly Go.Departure.lateStores }, { on := 2, ground := Go.Ground.textOnly Go.Departure.lateStores }, { on := 3, ground := Go.Ground.textOnly Go.Departure.lateStores }, { on := 4, ground := Go.Ground.textOnly Go.Departure.lateStores }, { on := 5, ground := Go.Ground.textOnly Go.Departure.lateStores }, { on := 6, ground := Go.Ground.textOnly Go.Departure.lateStores }, { on := 7, ground := Go.Ground.textOnly Go.Departure.lateStores }, { on := 8, ground := Go.Ground.textOnly Go.Departure.lateStores }, { on := 9, ground := Go.Ground.textOnly Go.Departure.lateStores }, { on := 10, ground := Go.Ground.textOnly Go.Departure.lateStores }, { on := 11, ground := Go.Ground.textOnly Go.Departure.lateStoresUnsure }, { on := 12, ground := Go.Ground.textOnly Go.Departure.lateStores }, { on := 13, ground := Go.Ground.textOnly Go.Departure.lateStores }], none⟩ ?_ (.inl ⟨by rfl, ?_⟩) ?_
        rotate_left
        · (intro W hSw; (try dsimp only at hSw); go_simp; try (with_reducible rfl))
        try simp only [Act.put]
        try simp only [List.setIfInBounds_toArray]
        try simp only [List.set_cons_succ]
        try simp only [List.set_cons_zero]
        refine wpT 15 ⟨some 7, .assign (.tmp 48), 4, "sort.go:167", #[⟨13, .data⟩, ⟨14, .chain⟩, ⟨0, .phase⟩, ⟨1, .phase⟩, ⟨2, .phase⟩, ⟨3, .phase⟩, ⟨4, .phase⟩, ⟨5, .phase⟩, ⟨6, .phase⟩, ⟨7, .phase⟩, ⟨8, .phase⟩, ⟨9, .phase⟩, ⟨10, .phase⟩, ⟨11, .phase⟩, ⟨12, .phase⟩, ⟨13, .phase⟩, ⟨14, .phase⟩], none⟩ ?_ (.inl ⟨by rfl, ?_⟩) ?_
        rotate_left
        · (intro W hSw; (try dsimp only at hSw); go_simp; try (with_reducible rfl))
        try simp only [Act.put]
        try simp only [List.setIfInBounds_toArray]
        try simp only [List.set_cons_succ]
        try simp only [List.set_cons_zero]
        refine wpAnyH_done (by kernel_rfl) (NoPanic.normal ?_) _
        have HU := Lib.hid (U0.out.trans (hu.trans hHeld))
        clear hHeld
        go_wp2
        go_ret2
        exact ⟨by rw [HV.out]; rfl, HU.out⟩
      · have HV := Lib.hid (show isAt l ⟨ek, el, en⟩ j = false by unfold isAt; rw [List.getElem?_eq_none (by omega)])
        have b1 : ¬ (j : Int) < (l.length : Int) := by omega
        have hpd : decide (j < l.length) = false := decide_eq_false hpn
        have hlt' : ¬ (j : Int) < (j : Int) := by omega
        clear hpn
        go_wp2
        refine wp_region_noPanic ?_
        refine wp_region_held_drew (S := (fun w' => Upd No wr w')) (by kernel_rfl) ?_ (fun hHeld => ?_)
        · (first | exact (Upd.refl No _).drew | exact hHeld.trans hu3)
        refine wpT 0 ⟨some 35, .move (.tmp 9), 3, "sort.go:167", #[], none⟩ ?_ (.inl ⟨by rfl, ?_⟩) ?_
        rotate_left
        · (intro W hSw; (try dsimp only at hSw); go_simp; try (with_reducible rfl))
        try simp only [Act.put]
        try simp only [List.setIfInBounds_toArray]
        try simp only [List.set_cons_succ]
        try simp only [List.set_cons_zero]
        refine wpT 1 ⟨some 36, .move (.tmp 9), 3, "sort.go:167", #[], none⟩ ?_ (.inl ⟨by rfl, ?_⟩) ?_
        rotate_left
        · (intro W hSw; (try dsimp only at hSw); go_simp; try (with_reducible rfl))
        try simp only [Act.put]
        try simp only [List.setIfInBounds_toArray]
        try simp only [List.set_cons_succ]
        try simp only [List.set_cons_zero]
        refine wpT 2 ⟨some 37, .move (.tmp 8), 3, "sort.go:167", #[], none⟩ ?_ (.inl ⟨by rfl, ?_⟩) ?_
        rotate_left
        · (intro W hSw; (try dsimp only at hSw); go_simp; try (with_reducible rfl))
        try simp only [Act.put]
        try simp only [List.setIfInBounds_toArray]
        try simp only [List.set_cons_succ]
        try simp only [List.set_cons_zero]
        refine wpT 3 ⟨some 38, .binOp .lss 3 (.tmp 36) (.tmp 37) 3, 4, "sort.go:167", #[⟨1, .data⟩, ⟨2, .data⟩], none⟩ ?_ (.inl ⟨by rfl, ?_⟩) ?_
        rotate_left
        · (intro W hSw; (try dsimp only at hSw); go_simp; try (with_reducible rfl))
        try simp only [Act.put]
        try simp only [List.setIfInBounds_toArray]
        try simp only [List.set_cons_succ]
        try simp only [List.set_cons_zero]
        refine wpT 4 ⟨some 39, .move (.tmp 38), 4, "sort.go:167", #[⟨3, .data⟩], none⟩ ?_ (.inl ⟨by rfl, ?_⟩) ?_
        rotate_left
        · (intro W hSw; (try dsimp only at hSw); go_simp; try (with_reducible rfl))
        try simp only [Act.put]
        try simp only [List.setIfInBounds_toArray]
        try simp only [List.set_cons_succ]
        try simp only [List.set_cons_zero]
        refine wpT 5 ⟨some 40, .move (.tmp 2), 205, "sort.go:167", #[⟨4, .guard⟩], some (4, true)⟩ undef (.inr ⟨by rfl, rfl⟩) ?_
        try simp only [Act.put]
        try simp only [List.setIfInBounds_toArray]
        try simp only [List.set_cons_succ]
        try simp only [List.set_cons_zero]
        refine wpT 6 ⟨some 41, .move (.tmp 0), 133, "sort.go:167", #[⟨4, .guard⟩], some (4, true)⟩ undef (.inr ⟨by rfl, rfl⟩) ?_
        try simp only [Act.put]
        try simp only [List.setIfInBounds_toArray]
        try simp only [List.set_cons_succ]
        try simp only [List.set_cons_zero]
        refine wpT 7 ⟨some 42, .move (.tmp 9), 3, "sort.go:167", #[⟨4, .guard⟩], some (4, true)⟩ undef (.inr ⟨by rfl, rfl⟩) ?_
        try simp only [Act.put]
        try simp only [List.setIfInBounds_toArray]
        try simp only [List.set_cons_succ]
        try simp only [List.set_cons_zero]
        refine wpT 8 ⟨some 43, .indexAddr 133 (.tmp 41) (.tmp 42), 0, "sort.go:167", #[⟨6, .data⟩, ⟨7, .data⟩, ⟨4, .guard⟩], some (4, true)⟩ undef (.inr ⟨by rfl, rfl⟩) ?_
        try simp only [Act.put]
        try simp only [List.setIfInBounds_toArray]
        try simp only [List.set_cons_succ]
        try simp only [List.set_cons_zero]
        refine wpT 9 ⟨some 44, .load 139 (.tmp 43), 139, "sort.go:167", #[⟨8, .data⟩, ⟨4, .guard⟩], some (4, true)⟩ undef (.inr ⟨by rfl, rfl⟩) ?_
        try simp only [Act.put]
        try simp only [List.setIfInBounds_toArray]
        try simp only [List.set_cons_succ]
        try simp only [List.set_cons_zero]
        refine wpT 10 ⟨some 45, .load 139 (.tmp 4), 139, "sort.go:167", #[⟨4, .guard⟩], some (4, true)⟩ undef (.inr ⟨by rfl, rfl⟩) ?_
        try simp only [Act.put]
        try simp only [List.setIfInBounds_toArray]
        try simp only [List.set_cons_succ]
        try simp only [List.set_cons_zero]
        refine wpAnyH_ready (rs := [11]) (by kernel_rfl) (by simp) ?_
        refine AllReadyH.cons (o := ⟨some 46, .call { callee := .value (.tmp 40), args := #[.tmp 44, .tmp 45], argTypes := #[139, 139] }, 3, "sort.go:167", #[⟨5, .data⟩, ⟨9, .data⟩, ⟨10, .data⟩, ⟨4, .chain⟩, ⟨4, .guard⟩], some (4, true)⟩) rfl (fun K hK => ?_) AllReadyH.nil
        go_simp
        refine hK.out _ _ ?_ (fun hHeld => ?_)
        · exact hHeld
        clear hK K
        try simp only [Act.put]
        try simp only [List.setIfInBounds_toArray]
        try simp only [List.set_cons_succ]
        try simp only [List.set_cons_zero]
        refine wpT 12 ⟨some 47, .binOp .eql 3 (.tmp 46) (.const (.int .i64 0)) 3, 4, "sort.go:167", #[⟨11, .data⟩, ⟨4, .guard⟩, { on := 14, ground := Go.Ground.gcOnly Go.Departure.lateStores }], some (4, true)⟩ undef (.inr ⟨by rfl, rfl⟩) ?_
        try simp only [Act.put]
        try simp only [List.setIfInBounds_toArray]
        try simp only [List.set_cons_succ]
        try simp only [List.set_cons_zero]
        refine wpT 13 ⟨some 48, .pick (.tmp 39) (.tmp 47) (.const (.bool false)), 4, "sort.go:167", #[⟨4, .data⟩, ⟨12, .data⟩, { on := 14, ground := Go.Ground.gcOnly Go.Departure.lateStores }], none⟩ ?_ (.inl ⟨by rfl, ?_⟩) ?_
        rotate_left
        · (intro W hSw; (try dsimp only at hSw); go_simp; try (with_reducible rfl))
        try simp only [Act.put]
        try simp only [List.setIfInBounds_toArray]
        try simp only [List.set_cons_succ]
        try simp only [List.set_cons_zero]
        refine wpT 14 ⟨some 6, .assign (.tmp 35), 3, "sort.go:167", #[⟨0, .data⟩, ⟨11, .chain⟩, ⟨0, .phase⟩, { on := 1, ground := Go.Ground.textOnly Go.Departure.lateStores }, { on := 2, ground := Go.Ground.textOnly Go.Departure.lateStores }, { on := 3, ground := Go.Ground.textOnly Go.Departure.lateStores }, { on := 4, ground := Go.Ground.textOnly Go.Departure.lateStores }, { on := 5, ground := Go.Ground.textOnly Go.Departure.lateStores }, { on := 6, ground := Go.Ground.textOnly Go.Departure.lateStores }, { on := 7, ground := Go.Ground.textOnly Go.Departure.lateStores }, { on := 8, ground := Go.Ground.textOnly Go.Departure.lateStores }, { on := 9, ground := Go.Ground.textOnly Go.Departure.lateStores }, { on := 10, ground := Go.Ground.textOnly Go.Departure.lateStores }, { on := 11, ground := Go.Ground.textOnly Go.Departure.lateStoresUnsure }, { on := 12, ground := Go.Ground.textOnly Go.Departure.lateStores }, { on := 13, ground := Go.Ground.textOnly Go.Departure.lateStores }], none⟩ ?_ (.inl ⟨by rfl, ?_⟩) ?_
        rotate_left
        · (intro W hSw; (try dsimp only at hSw); go_simp; try (with_reducible rfl))
        try simp only [Act.put]
        try simp only [List.setIfInBounds_toArray]
        try simp only [List.set_cons_succ]
        try simp only [List.set_cons_zero]
        refine wpT 15 ⟨some 7, .assign (.tmp 48), 4, "sort.go:167", #[⟨13, .data⟩, ⟨14, .chain⟩, ⟨0, .phase⟩, ⟨1, .phase⟩, ⟨2, .phase⟩, ⟨3, .phase⟩, ⟨4, .phase⟩, ⟨5, .phase⟩, ⟨6, .phase⟩, ⟨7, .phase⟩, ⟨8, .phase⟩, ⟨9, .phase⟩, ⟨10, .phase⟩, ⟨11, .phase⟩, ⟨12, .phase⟩, ⟨13, .phase⟩, ⟨14, .phase⟩], none⟩ ?_ (.inl ⟨by rfl, ?_⟩) ?_
        rotate_left
        · (intro W hSw; (try dsimp only at hSw); go_simp; try (with_reducible rfl))
        try simp only [Act.put]
        try simp only [List.setIfInBounds_toArray]
        try simp only [List.set_cons_succ]
        try simp only [List.set_cons_zero]
        refine wpAnyH_done (by kernel_rfl) (NoPanic.normal ?_) _
        have HU := Lib.hid (U0.out.trans (hu.trans hHeld))
        clear hHeld
        go_wp2
        go_ret2
        exact ⟨by rw [HV.out]; rfl, HU.out⟩
end Go.Proofs.Ytaicemjckagcaaa

/- Walks held against one another, from whichever places they begin. -/
namespace Go.Proofs.Ytaicemjckagcaaa
set_option linter.unusedVariables false
open Go.RowKit

end Go.Proofs.Ytaicemjckagcaaa
