/- Closed walks: the answers that the document gives. -/
import Derived.Test.YtmnhgdedkniafaaMbo
namespace Go.Proofs.Ytmnhgdedkniafaa
set_option linter.unusedVariables false
open Go.RowKit
def ea : Edge := ⟨1, 2, 1, 5⟩
def eb : Edge := ⟨2, 1, 3, 5⟩
def ec : Edge := ⟨2, 1, 3, 4⟩
def ez : Edge := ⟨3, 3, 2, -7⟩
theorem doc1 : docS [ea, eb, ec] 14 0 = [ea, ec] := by kernel_rfl
theorem doc2 : docS [ea, eb, ec] 6 0 = [] := by kernel_rfl
theorem doc3 : docS [ez] 14 0 = [ez] := by kernel_rfl
theorem doc4 : docS [ez] 14 8 = [] := by kernel_rfl
theorem doc5 : docS [] 14 0 = [] := by kernel_rfl
theorem doc6 : docS [ea, eb, ec] 14 8 = [ea, ec] := by kernel_rfl
section
variable {F : Nat → Prop} {w : World} {A : Option Addr} {c : Nat} {l d : List Edge} {mask must : Int}
theorem shYes (hW : Walk F w A l) (hl : l.length ≤ 2000) {n m : Nat} (hn : l.length = n) (hd : docS l mask must = d) (hm : d.length = m) (h0 : 0 < m) :
    Calls Try.prog 69 #[.slice A n c, .int .i64 mask, .int .i64 must] w fun e w' => ∃ A' c', e = .returned (.tuple #[.slice A' m c', .int .i64 0]) ∧ Walk (fun i => w.heap.size ≤ i) w' A' d ∧ Upd No w w' := by
  subst hn hm
  refine (cShortest F w A c l mask must hW hl).mono ?_
  rw [hd]
  rintro e w' ⟨A', c', rfl, ho, hu⟩
  have h1 : ¬ d.length = 0 := by omega
  rw [if_neg h1]
  have hr := Recs.of_own (rows := d.map Edge.cells) edges_len (by omega) ho
  exact ⟨A', c', rfl, Recs.weak hr (fun i _ e => (ho.lt i e).1), hu⟩
theorem shNo (hW : Walk F w A l) (hl : l.length ≤ 2000) {n : Nat} (hn : l.length = n) (hd : docS l mask must = []) :
    Calls Try.prog 69 #[.slice A n c, .int .i64 mask, .int .i64 must] w fun e w' => ∃ A' c', e = .returned (.tuple #[.slice A' 0 c', .int .i64 3]) ∧ Upd No w w' := by
  subst hn
  refine (cShortest F w A c l mask must hW hl).mono ?_
  rw [hd]
  rintro e w' ⟨A', c', rfl, ho, hu⟩
  exact ⟨A', c', rfl, hu⟩
end
set_option maxRecDepth 100000 in
set_option maxHeartbeats 8000000 in
theorem lives27 (w : World) : Calls Try.prog 68 #[] w fun e w' => e = .returned (.bool true) ∧ Upd No w w' := by
  obtain ⟨wb, hwb⟩ : ∃ wb, (((w.alloc (.cells #[.int .i64 1, .int .i64 2, .int .i64 1, .int .i64 5] 96)).alloc (.cells #[.int .i64 2, .int .i64 1, .int .i64 3, .int .i64 5] 96)).alloc (.cells #[.int .i64 2, .int .i64 1, .int .i64 3, .int .i64 4] 96)).alloc
    (.cells #[.int .i64 1, .int .i64 2, .int .i64 1, .int .i64 5, .int .i64 2, .int .i64 1, .int .i64 3, .int .i64 5, .int .i64 2, .int .i64 1, .int .i64 3, .int .i64 4] 96) = wb := ⟨_, rfl⟩
  have u0 : Upd No w wb := by rw [← hwb]; exact ((((Upd.refl No w).alloc _).alloc _).alloc _).alloc _
  have bA : Blk wb w.heap.size 96 [.int .i64 1, .int .i64 2, .int .i64 1, .int .i64 5] := by rw [← hwb]; exact (((Blk.new w _ _).alloc _).alloc _).alloc _
  have bC : Blk wb (w.heap.size + 1 + 1) 96 [.int .i64 2, .int .i64 1, .int .i64 3, .int .i64 4] := by
    rw [← hwb]
    have := (Blk.new ((w.alloc (.cells #[.int .i64 1, .int .i64 2, .int .i64 1, .int .i64 5] 96)).alloc (.cells #[.int .i64 2, .int .i64 1, .int .i64 3, .int .i64 5] 96)) 96 [.int .i64 2, .int .i64 1, .int .i64 3, .int .i64 4]).alloc (.cells #[.int .i64 1, .int .i64 2, .int .i64 1, .int .i64 5, .int .i64 2, .int .i64 1, .int .i64 3, .int .i64 5, .int .i64 2, .int .i64 1, .int .i64 3, .int .i64 4] 96)
    simpa using this
  have bL : Blk wb (w.heap.size + 1 + 1 + 1) 96 [.int .i64 1, .int .i64 2, .int .i64 1, .int .i64 5, .int .i64 2, .int .i64 1, .int .i64 3, .int .i64 5, .int .i64 2, .int .i64 1, .int .i64 3, .int .i64 4] := by
    rw [← hwb]
    have := Blk.new (((w.alloc (.cells #[.int .i64 1, .int .i64 2, .int .i64 1, .int .i64 5] 96)).alloc (.cells #[.int .i64 2, .int .i64 1, .int .i64 3, .int .i64 5] 96)).alloc (.cells #[.int .i64 2, .int .i64 1, .int .i64 3, .int .i64 4] 96)) 96 [.int .i64 1, .int .i64 2, .int .i64 1, .int .i64 5, .int .i64 2, .int .i64 1, .int .i64 3, .int .i64 5, .int .i64 2, .int .i64 1, .int .i64 3, .int .i64 4]
    simpa using this
  have hL := walk_blk (l := [ea, eb, ec]) bL rfl
  have a0 : ∀ W, Upd No wb W → W.cell? ⟨w.heap.size, 0, none⟩ = some (.int .i64 1) := fun W u => (bA.upd u id).cell 0
  have a1 : ∀ W, Upd No wb W → W.cell? ⟨w.heap.size, 1, none⟩ = some (.int .i64 2) := fun W u => (bA.upd u id).cell 1
  have a2 : ∀ W, Upd No wb W → W.cell? ⟨w.heap.size, 2, none⟩ = some (.int .i64 1) := fun W u => (bA.upd u id).cell 2
  have a3 : ∀ W, Upd No wb W → W.cell? ⟨w.heap.size, 3, none⟩ = some (.int .i64 5) := fun W u => (bA.upd u id).cell 3
  have c0 : ∀ W, Upd No wb W → W.cell? ⟨w.heap.size + 1 + 1, 0, none⟩ = some (.int .i64 2) := fun W u => (bC.upd u id).cell 0
  have c1 : ∀ W, Upd No wb W → W.cell? ⟨w.heap.size + 1 + 1, 1, none⟩ = some (.int .i64 1) := fun W u => (bC.upd u id).cell 1
  have c2 : ∀ W, Upd No wb W → W.cell? ⟨w.heap.size + 1 + 1, 2, none⟩ = some (.int .i64 3) := fun W u => (bC.upd u id).cell 2
  have c3 : ∀ W, Upd No wb W → W.cell? ⟨w.heap.size + 1 + 1, 3, none⟩ = some (.int .i64 4) := fun W u => (bC.upd u id).cell 3
  have H1 := Lib.hid (fun (W : World) (u : Upd No wb W) => shYes (c := 3) (hL.upd u (fun _ _ => id)) (by simp) rfl doc1 rfl (by decide))
  have H2 := Lib.hid (fun (W : World) (u : Upd No wb W) => shNo (c := 3) (hL.upd u (fun _ _ => id)) (by simp) rfl doc2)
  have H6 := Lib.hid (fun (W : World) (u : Upd No wb W) => shYes (c := 3) (hL.upd u (fun _ _ => id)) (by simp) rfl doc6 rfl (by decide))
  have hZ := fun (W : World) => walk_blk (l := [ez]) (Blk.new W 96 [.int .i64 3, .int .i64 3, .int .i64 2, .int .i64 (-7)]) rfl
  have H3 := Lib.hid (fun (W : World) => shYes (c := 1) (hZ W) (by simp) rfl doc3 rfl (by decide))
  have H4 := Lib.hid (fun (W : World) => shNo (c := 1) (hZ W) (by simp) rfl doc4)
  have H5 := Lib.hid (fun (W : World) => shNo (F := fun _ => True) (w := W) (A := none) (c := 0) (fun h => absurd rfl h) (by simp) rfl doc5)
  have HAC := Lib.hid (fun (W : World) => walk_blk (l := [ea, ec]) (Blk.new W 96 [.int .i64 1, .int .i64 2, .int .i64 1, .int .i64 5, .int .i64 2, .int .i64 1, .int .i64 3, .int .i64 4]) rfl)
  have U0 := Lib.hid u0
  have hr : Upd No wb wb := Upd.refl _ _
  clear u0 bA bC bL hL hZ
  go_enter Try.func68, Try.ntmps68
  go_wp2_with fail
  refine (H1.out wb (Upd.refl _ _)).mono ?_
  rintro e w1 ⟨X, cx, rfl, hx, hu1⟩
  have HX := Lib.hid hx
  clear hx hwb
  go_wp2_with fail
  refine (H2.out w1 hu1).mono ?_
  rintro e w2 ⟨Y, cy, rfl, hu2'⟩
  have hu2 := hu1.trans hu2'
  have HX2 := Lib.hid (Walk.upd HX.out hu2' (fun _ _ => id) : Walk (fun i => wb.heap.size ≤ i) w2 X [ea, ec])
  go_wp2_with fail
  refine (H3.out w2).mono ?_
  rintro e w3 ⟨Z, cz, rfl, hz3, hu3'⟩
  have hu3 := (hu2.alloc (.cells #[.int .i64 3, .int .i64 3, .int .i64 2, .int .i64 (-7)] 96)).trans hu3'
  have HX3 := Lib.hid (Walk.upd HX2.out (((Upd.refl No w2).alloc _).trans hu3') (fun _ _ => id))
  clear hz3 hu3' hu2'
  go_wp2_with fail
  refine (H4.out w3).mono ?_
  rintro e w4 ⟨Z4, cz4, rfl, hu4'⟩
  have hu4 := (hu3.alloc (.cells #[.int .i64 3, .int .i64 3, .int .i64 2, .int .i64 (-7)] 96)).trans hu4'
  have HX4 := Lib.hid (Walk.upd HX3.out (((Upd.refl No w3).alloc _).trans hu4') (fun _ _ => id))
  clear hu4'
  go_wp2_with fail
  refine (H5.out w4).mono ?_
  rintro e w5 ⟨Z5, cz5, rfl, hu5'⟩
  have hu5 := hu4.trans hu5'
  have HX5 := Lib.hid (Walk.upd HX4.out hu5' (fun _ _ => id))
  clear hu5'
  go_wp2_with fail
  refine (H6.out w5 hu5).mono ?_
  rintro e w6 ⟨V, cv, rfl, hv, hu6'⟩
  have hu6 := hu5.trans hu6'
  have HX6 := Lib.hid (Walk.upd HX5.out hu6' (fun _ _ => id))
  have HV6 := Lib.hid hv
  clear hu6' hv
  have HS1 := Lib.hid (sameedges (w6.alloc (.cells #[.int .i64 1, .int .i64 2, .int .i64 1, .int .i64 5, .int .i64 2, .int .i64 1, .int .i64 3, .int .i64 4] 96)) _ _ X (some ⟨w6.heap.size, 0, none⟩) cx 2 [ea, ec] [ea, ec] (Walk.upd HX6.out ((Upd.refl No w6).alloc _) (fun _ _ => id)) (HAC.out w6) (by simp) (by simp))
  rw [show ([ea, ec] == [ea, ec]) = true from by decide] at HS1
  have HS2 := Lib.hid (fun (W : World) (u : Upd No w6 W) => sameedges W _ _ V X cv cx [ea, ec] [ea, ec] (Walk.upd HV6.out u (fun _ _ => id)) (Walk.upd HX6.out u (fun _ _ => id)) (by simp) (by simp))
  rw [show ([ea, ec] == [ea, ec]) = true from by decide] at HS2
  go_wp2_with fail
  refine (HS1.out).mono ?_
  rintro e w7 ⟨rfl, hu7'⟩
  have hu7 := ((Upd.refl No w6).alloc (.cells #[.int .i64 1, .int .i64 2, .int .i64 1, .int .i64 5, .int .i64 2, .int .i64 1, .int .i64 3, .int .i64 4] 96)).trans hu7'
  clear hu7'
  go_wp2_with fail
  refine (HS2.out w7 hu7).mono ?_
  rintro e w8 ⟨rfl, hu8⟩
  go_wp2
  go_ret
  exact ⟨rfl, U0.out.trans ((hu6.trans hu7).trans hu8)⟩
end Go.Proofs.Ytmnhgdedkniafaa

/- Closed walks, the document's: edges in order, and their ids. -/
namespace Go.Proofs.Ytmnhgdedkniafaa
set_option linter.unusedVariables false
open Go.RowKit
theorem walk_ownR {w : World} {base : Nat} {A : Option Addr} {c : Nat} {l : List Edge} (ho : w.ownsRow base 96 4 (.slice A l.length c) l.length (edgesF l)) : Walk (Own (.slice A l.length c)) w A l :=
  Recs.of_own (rows := l.map Edge.cells) edges_len (by omega) ho
set_option maxRecDepth 100000 in
set_option maxHeartbeats 2000000 in
theorem rsort (F : Nat → Prop) (w : World) (A : Option Addr) (c : Nat) (l : List Edge) (h : Walk F w A l) (hl : l.length ≤ 100000) :
    Calls Try.prog 132 #[.slice A l.length c] w (NewEd w (edAll [] l)) := by
  have HA := Lib.hid h
  obtain ⟨R, hR⟩ : ∃ R, edAll [] l = R := ⟨_, rfl⟩
  rw [hR]
  have HR := Lib.hid hR
  clear h hR
  go_enter Try.func132, Try.ntmps132
  go_wp2
  go_loopg [3, 8] l.length (fun gk s i wr => ∃ (k : Nat) (A5 : Option Addr) (c5 : Nat) (xs : List Edge), k + gk = l.length ∧ i = .int .i64 k ∧ s = .slice A5 xs.length c5 ∧ Hid (edAll xs (l.drop k) = R) ∧ xs.length ≤ k ∧
    wr.ownsRow w.heap.size 96 4 (.slice A5 xs.length c5) xs.length (edgesF xs) ∧ Upd No w wr)
  case atStart => exact ⟨0, none, 0, [], by omega, rfl, rfl, HR, by simp, World.ownsRow_nil _ _ _ _, Upd.refl _ _⟩
  case round =>
    obtain ⟨k, A5, c5, xs, hgk, rfl, rfl, hs, hxl, hown, hu⟩ := hrel
    by_cases hlt : k < l.length
    · obtain ⟨ax, rfl, q0, q1, q2, q3⟩ := (HA.out.upd hu (fun _ _ => id)).at_ hlt
      obtain ⟨x, hx⟩ : ∃ x, l[k] = x := ⟨_, rfl⟩
      have hdr := List.drop_eq_getElem_cons hlt
      rw [hx] at q0 q1 q2 q3 hdr
      have HS := Lib.hid (show edAll (putEd x xs) (l.drop (k + 1)) = R by rw [← hs.out, hdr]; rfl)
      have i1 : (0 : Int) ≤ (k : Int) := Int.natCast_nonneg _
      have i2 : (k : Int) < (l.length : Int) := by omega
      have hpl := edPut_len x xs
      obtain ⟨wx, hwx⟩ : ∃ wx, wr.alloc (.cells #[.int .i64 x.f, .int .i64 x.t, .int .i64 x.k, .int .i64 x.key] 96) = wx := ⟨_, rfl⟩
      have ux : Upd No wr wx := by rw [← hwx]; exact (Upd.refl No wr).alloc _
      have bo : Blk wx wr.heap.size 96 [.int .i64 x.f, .int .i64 x.t, .int .i64 x.k, .int .i64 x.key] := by rw [← hwx]; exact Blk.new wr _ _
      have g0 := bo.cell 0
      have g1 := bo.cell 1
      have g2 := bo.cell 2
      have g3 := bo.cell 3
      simp only [List.getElem?_cons_zero, List.getElem?_cons_succ] at g0 g1 g2 g3
      have HC := Lib.hid (putET_eq x xs ▸ reput _ wx A5 c5 xs x (walk_ownR (own_upd hown ux (fun _ _ => id))) (by omega))
      have HUX := Lib.hid (hu.trans ux)
      unfold Edge.cells at HC
      clear hs hdr hx ux bo hown
      go_wp2_with fail
      refine (HC.out).mono ?_
      rintro e w2 ⟨A6, c6, rfl, ho6, hu6⟩
      have HO6 := Lib.hid (own_base ho6 HUX.out.size)
      have HU6 := Lib.hid (HUX.out.trans hu6)
      clear ho6 hu6 HC
      go_wp2
      go_roundg (gk - 1)
      case measure => omega
      case rel => exact ⟨k + 1, A6, c6, _, by omega, by go_num, rfl, HS, by omega, HO6.out, HU6.out⟩
    · obtain rfl : k = l.length := by omega
      have hxR : xs = R := by have := hs.out; rw [List.drop_length] at this; exact this
      have HXR := Lib.hid hxR
      clear hxR hs
      go_wp2
      go_ret
      rw [← HXR.out]
      exact ⟨A5, c5, rfl, hown, hu⟩
set_option maxRecDepth 100000 in
set_option maxHeartbeats 2000000 in
theorem rids (F : Nat → Prop) (w : World) (A : Option Addr) (c : Nat) (l : List Edge) (h : Walk F w A l) (hl : l.length ≤ 100000) :
    Calls Try.prog 134 #[.slice A l.length c] w (NewI w (idsR [] l)) := by
  have HA := Lib.hid h
  obtain ⟨R, hR⟩ : ∃ R, idsR [] l = R := ⟨_, rfl⟩
  rw [hR]
  have HR := Lib.hid hR
  clear h hR
  go_enter Try.func134, Try.ntmps134
  go_wp2
  go_loopg [3, 8] l.length (fun gk s i wr => ∃ (k : Nat) (A5 : Option Addr) (c5 : Nat) (xs : List Int), k + gk = l.length ∧ i = .int .i64 k ∧ s = .slice A5 xs.length c5 ∧ Hid (idsR xs (l.drop k) = R) ∧ xs.length ≤ 2 * k ∧
    wr.ownsRow w.heap.size 3 1 (.slice A5 xs.length c5) xs.length (xs.map (Value.int .i64)) ∧ Upd No w wr)
  case atStart => exact ⟨0, none, 0, [], by omega, rfl, rfl, HR, by simp, World.ownsRow_nil _ _ _ _, Upd.refl _ _⟩
  case round =>
    obtain ⟨k, A5, c5, xs, hgk, rfl, rfl, hs, hxl, hown, hu⟩ := hrel
    by_cases hlt : k < l.length
    · obtain ⟨ax, rfl, q0, q1, q2, q3⟩ := (HA.out.upd hu (fun _ _ => id)).at_ hlt
      obtain ⟨x, hx⟩ : ∃ x, l[k] = x := ⟨_, rfl⟩
      have hdr := List.drop_eq_getElem_cons hlt
      rw [hx] at q0 q1 q2 q3 hdr
      have HS := Lib.hid (show idsR (putL x.t (putL x.f xs)) (l.drop (k + 1)) = R by rw [← hs.out, hdr]; rfl)
      have i1 : (0 : Int) ≤ (k : Int) := Int.natCast_nonneg _
      have i2 : (k : Int) < (l.length : Int) := by omega
      have hp1 := putL_len x.f xs
      have hp2 := putL_len x.t (putL x.f xs)
      obtain ⟨wx, hwx⟩ : ∃ wx, wr.alloc (.cells #[.int .i64 x.f, .int .i64 x.t, .int .i64 x.k, .int .i64 x.key] 96) = wx := ⟨_, rfl⟩
      have ux : Upd No wr wx := by rw [← hwx]; exact (Upd.refl No wr).alloc _
      have bo : Blk wx wr.heap.size 96 [.int .i64 x.f, .int .i64 x.t, .int .i64 x.k, .int .i64 x.key] := by rw [← hwx]; exact Blk.new wr _ _
      have g0 : ∀ W, Upd No wx W → W.cell? ⟨wr.heap.size, 0, none⟩ = some (.int .i64 x.f) := fun W u => by have := (bo.upd u id).cell 0; simpa using this
      have g1 : ∀ W, Upd No wx W → W.cell? ⟨wr.heap.size, 1, none⟩ = some (.int .i64 x.t) := fun W u => by have := (bo.upd u id).cell 1; simpa using this
      have HP := Lib.hid (fun (W : World) (u : Upd No wx W) => rPut _ W A5 c5 xs x.f (Ints.of_owned (own_upd hown (ux.trans u) (fun _ _ => id))) (by omega))
      have HP2 := Lib.hid (fun (W : World) (A : Option Addr) (c : Nat) (ho : Ints (fun _ => True) W A (putL x.f xs)) => rPut _ W A c (putL x.f xs) x.t ho (by omega))
      have HUX := Lib.hid (hu.trans ux)
      clear hs hdr hx ux bo hown
      go_wp2_with fail
      refine wp_region_noPanic ?_
      refine wp_region_held_drew (S := (fun W' => Upd No wx W')) (by kernel_rfl) ?_ (fun hHeld => ?_)
      · (first | exact (Upd.refl No _).drew | exact hHeld.trans hu6 | exact hHeld.trans hu8)
      refine wpT 0 ⟨some 12, .move (.tmp 3), 50, "ref.go:32", #[], none⟩ ?_ (.inl ⟨by rfl, ?_⟩) ?_
      rotate_left
      · (intro W hSw; (try dsimp only at hSw); go_simp; try (with_reducible rfl))
      try simp only [Act.put]
      try simp only [List.setIfInBounds_toArray]
      try simp only [List.set_cons_succ]
      try simp only [List.set_cons_zero]
      refine wpT 1 ⟨some 13, .fieldAddr 96 (.tmp 5) 0, 0, "ref.go:32", #[], none⟩ ?_ (.inl ⟨by rfl, ?_⟩) ?_
      rotate_left
      · (intro W hSw; (try dsimp only at hSw); go_simp; try (with_reducible rfl))
      try simp only [Act.put]
      try simp only [List.setIfInBounds_toArray]
      try simp only [List.set_cons_succ]
      try simp only [List.set_cons_zero]
      refine wpT 2 ⟨some 14, .load 3 (.tmp 13), 3, "ref.go:32", #[⟨1, .data⟩], none⟩ ?_ (.inl ⟨by rfl, ?_⟩) ?_
      rotate_left
      · (intro W hSw; (try dsimp only at hSw); go_simp; try (with_reducible rfl))
      try simp only [Act.put]
      try simp only [List.setIfInBounds_toArray]
      try simp only [List.set_cons_succ]
      try simp only [List.set_cons_zero]
      refine wpT 4 ⟨some 16, .fieldAddr 96 (.tmp 5) 1, 0, "ref.go:32", #[], none⟩ ?_ (.inl ⟨by rfl, ?_⟩) ?_
      rotate_left
      · (intro W hSw; (try dsimp only at hSw); go_simp; try (with_reducible rfl))
      try simp only [Act.put]
      try simp only [List.setIfInBounds_toArray]
      try simp only [List.set_cons_succ]
      try simp only [List.set_cons_zero]
      refine wpT 5 ⟨some 17, .load 3 (.tmp 16), 3, "ref.go:32", #[⟨4, .data⟩], none⟩ ?_ (.inl ⟨by rfl, ?_⟩) ?_
      rotate_left
      · (intro W hSw; (try dsimp only at hSw); go_simp; try (with_reducible rfl))
      try simp only [Act.put]
      try simp only [List.setIfInBounds_toArray]
      try simp only [List.set_cons_succ]
      try simp only [List.set_cons_zero]
      refine wpAnyH_ready (rs := [3]) (by kernel_rfl) (by simp) ?_
      refine AllReadyH.cons (o := ⟨some 15, .call { callee := .value (.func 96), args := #[.tmp 12, .tmp 14], argTypes := #[50, 3] }, 50, "ref.go:32", #[⟨0, .data⟩, ⟨2, .data⟩], none⟩) rfl (fun K hK => ?_) AllReadyH.nil
      go_simp
      (first
    | (go_at_call 96; refine (HP.out _ hHeld).mono ?_; rintro e w6 ⟨A6, c6, rfl, ho6, hu6⟩; have hz6 : wx.heap.size ≤ w6.heap.size := Nat.le_trans (Upd.size hHeld) hu6.size))
      try (go_wp2_with fail)
      refine hK.out _ _ ?_ (fun hHeld => ?_)
      · (first | exact (Upd.refl No _).drew | exact hHeld.trans hu6 | exact hHeld.trans hu8)
      clear hK K
      try simp only [Act.put]
      try simp only [List.setIfInBounds_toArray]
      try simp only [List.set_cons_succ]
      try simp only [List.set_cons_zero]
      refine wpAnyH_ready (rs := [6]) (by kernel_rfl) (by simp) ?_
      refine AllReadyH.cons (o := ⟨some 18, .call { callee := .value (.func 96), args := #[.tmp 15, .tmp 17], argTypes := #[50, 3] }, 50, "ref.go:32", #[⟨3, .data⟩, ⟨5, .data⟩, ⟨3, .chain⟩], none⟩) rfl (fun K hK => ?_) AllReadyH.nil
      go_simp
      (first
    | (go_at_call 96; refine (HP2.out _ A6 c6 ((Ints.of_owned ho6).weak (fun _ _ _ => trivial))).mono ?_; rintro e w8 ⟨A8, c8, rfl, ho8, hu8⟩))
      try (go_wp2_with fail)
      refine hK.out _ _ ?_ (fun hHeld => ?_)
      · (first | exact (Upd.refl No _).drew | exact hHeld.trans hu6 | exact hHeld.trans hu8)
      clear hK K
      try simp only [Act.put]
      try simp only [List.setIfInBounds_toArray]
      try simp only [List.set_cons_succ]
      try simp only [List.set_cons_zero]
      refine wpT 7 ⟨some 3, .assign (.tmp 18), 50, "ref.go:32", #[⟨6, .data⟩, ⟨6, .chain⟩, ⟨0, .phase⟩, ⟨1, .phase⟩, ⟨2, .phase⟩, ⟨3, .phase⟩, ⟨4, .phase⟩, ⟨5, .phase⟩, ⟨6, .phase⟩], none⟩ ?_ (.inl ⟨by rfl, ?_⟩) ?_
      rotate_left
      · (intro W hSw; (try dsimp only at hSw); go_simp; try (with_reducible rfl))
      try simp only [Act.put]
      try simp only [List.setIfInBounds_toArray]
      try simp only [List.set_cons_succ]
      try simp only [List.set_cons_zero]
      refine wpAnyH_done (by kernel_rfl) (NoPanic.normal ?_) _
      have HO8 := Lib.hid (own_base ho8 (Nat.le_trans HUX.out.size hz6))
      have HU8 := Lib.hid (HUX.out.trans hHeld)
      clear ho8 ho6 hu6 hu8 hHeld HP HP2
      go_wp2
      go_roundg (gk - 1)
      case measure => omega
      case rel => exact ⟨k + 1, A8, c8, _, by omega, by go_num, rfl, HS, by omega, HO8.out, HU8.out⟩
    · obtain rfl : k = l.length := by omega
      have hxR : xs = R := by have := hs.out; rw [List.drop_length] at this; exact this
      have HXR := Lib.hid hxR
      clear hxR hs
      go_wp2
      go_ret
      rw [← HXR.out]
      exact ⟨A5, c5, rfl, hown, hu⟩
end Go.Proofs.Ytmnhgdedkniafaa

/- Closed walks, the document's: the ids from which so many steps lead to one. -/
namespace Go.Proofs.Ytmnhgdedkniafaa
set_option linter.unusedVariables false
open Go.RowKit
theorem slt_rowsR : SlT Try.prog 83 50 1 24 := SlT.mk_ Try.underlying83 (z := .slice none 0 0) (by kernel_rfl) rfl (by omega)
theorem own_isR {a n c i : Nat} (e : Own (.slice (some ⟨a, 0, none⟩) n c) i) : a = i := by simpa [Own, Value.ownBlock] using e
/-- a slice of numbers, lying in blocks of F -/
def RowOk (F : Nat → Prop) (w : World) (v : Value) (l : List Int) : Prop := ∃ B c, v = .slice B l.length c ∧ Ints F w B l
theorem RowOk.upd {F S : Nat → Prop} {w w' : World} {v : Value} {l : List Int} (h : RowOk F w v l) (u : Upd S w w') (hn : ∀ i, F i → ¬ S i) : RowOk F w' v l := by
  obtain ⟨B, c, e, h⟩ := h
  exact ⟨B, c, e, h.upd u hn⟩
theorem RowOk.weak {F G : Nat → Prop} {w : World} {v : Value} {l : List Int} (h : RowOk F w v l) (hg : ∀ i, i < w.heap.size → F i → G i) : RowOk G w v l := by
  obtain ⟨B, c, e, h⟩ := h
  exact ⟨B, c, e, h.weak hg⟩
/-- the rows of all steps up to one, as values -/
structure RowsOk (F : Nat → Prop) (w : World) (vs : List Value) (f : Nat → List Int) : Prop where
  ok : ∀ (j : Nat) (h : j < vs.length), RowOk F w vs[j] (f j)
theorem RowsOk.upd {F S : Nat → Prop} {w w' : World} {vs : List Value} {f : Nat → List Int} (h : RowsOk F w vs f) (u : Upd S w w') (hn : ∀ i, F i → ¬ S i) : RowsOk F w' vs f := ⟨fun j hj => (h.ok j hj).upd u hn⟩
theorem RowsOk.weak {F G : Nat → Prop} {w : World} {vs : List Value} {f : Nat → List Int} (h : RowsOk F w vs f) (hg : ∀ i, i < w.heap.size → F i → G i) : RowsOk G w vs f := ⟨fun j hj => (h.ok j hj).weak hg⟩
theorem RowsOk.app {F : Nat → Prop} {w : World} {vs : List Value} {f : Nat → List Int} {v : Value} (h : RowsOk F w vs f) (k : RowOk F w v (f vs.length)) : RowsOk F w (vs ++ [v]) f := ⟨fun j hj => by
  rw [List.length_append, List.length_singleton] at hj
  by_cases h1 : j < vs.length
  · rw [List.getElem_append_left h1]
    exact h.ok j h1
  · have h2 : j = vs.length := by omega
    subst h2
    rw [List.getElem_append_right (Nat.le_refl _)]
    simpa using k⟩
/-- rows of rows as they are read: at ad, so many, each a slice of numbers -/
structure RowsAt (w : World) (A : Option Addr) (n : Nat) (f : Nat → List Int) : Prop where
  at_ : ∀ j, j < n → ∃ ad B c, A = some ad ∧ w.cell? (ad.add j) = some (.slice B (f j).length c) ∧ Ints (fun _ => True) w B (f j)
theorem RowsAt.upd {w w' : World} {A : Option Addr} {n : Nat} {f : Nat → List Int} (h : RowsAt w A n f) (u : Upd No w w') : RowsAt w' A n f := ⟨fun j hj => by
  obtain ⟨ad, B, c, e, h1, h2⟩ := h.at_ j hj
  exact ⟨ad, B, c, e, u.keepNo h1, h2.upd u (fun _ _ => id)⟩⟩
theorem rowsAt_own {w : World} {base : Nat} {A : Option Addr} {n c : Nat} {vs : List Value} {F : Nat → Prop} {f : Nat → List Int} (ho : w.ownsRow base 50 1 (.slice A n c) n vs) (hv : vs.length = n) (h : RowsOk F w vs f) : RowsAt w A n f := ⟨fun j hj => by
  obtain ⟨g, cur, rfl, hgb, hB, hnc, hcl, hct, hcm⟩ := own_blk ho (by omega)
  obtain ⟨B, c', e, hi⟩ := h.ok j (by omega)
  refine ⟨_, B, c', rfl, ?_, hi.weak (fun _ _ _ => trivial)⟩
  rw [lit_add, Nat.zero_add, hB.cell]
  have h1 : (cur.take (n * 1))[j]? = some (.slice B (f j).length c') := by rw [hct, List.getElem?_eq_getElem (by omega), e]
  rw [List.getElem?_take] at h1
  split at h1
  · exact h1
  · cases h1⟩
/-- what the search is in memory: a struct of two slices of rows -/
structure BackAt (w : World) (v : Value) (steps : Nat) (f : Nat → List Int × List Int) : Prop where
  is_ : ∃ A1 c1 A2 c2, v = .agg #[.slice A1 (steps + 1) c1, .slice A2 (steps + 1) c2] ∧ RowsAt w A1 (steps + 1) (fun j => (f j).1) ∧ RowsAt w A2 (steps + 1) (fun j => (f j).2)
theorem rowsW_len (must : Int) (l : List Edge) (tgt : Int) : ∀ n, (rowsW must l tgt n).1.length ≤ 2 * l.length + 1 ∧ (rowsW must l tgt n).2.length ≤ 2 * l.length + 1 := by
  have h : ∀ (pa pn : List Int) (m : List Edge) (a b : List Int), (stepR must pa pn a b m).1.length ≤ a.length + 2 * m.length ∧ (stepR must pa pn a b m).2.length ≤ b.length + 2 * m.length := by
    intro pa pn m
    induction m with
    | nil => intro a b; simp [stepR]
    | cons e m ih =>
      intro a b
      have h1 := ih (stepA pa a e) (stepN must pa pn b e)
      have h2 : (stepA pa a e).length ≤ a.length + 1 := by
        unfold stepA
        split
        · exact putL_len _ _
        · omega
      have h3 : ∀ x : List Int, (if (decide (e.t ∈ pa) && bitR must e.k) = true then putL e.f x else x).length ≤ x.length + 1 := by
        intro x
        split
        · exact putL_len _ _
        · omega
      have h4 : (stepN must pa pn b e).length ≤ b.length + 2 := by
        unfold stepN
        have := h3 b
        split
        · have := putL_len e.f (if (decide (e.t ∈ pa) && bitR must e.k) = true then putL e.f b else b)
          omega
        · omega
      show (stepR must pa pn (stepA pa a e) (stepN must pa pn b e) m).1.length ≤ _ ∧ (stepR must pa pn (stepA pa a e) (stepN must pa pn b e) m).2.length ≤ _
      simp only [List.length_cons]
      omega
  intro n
  cases n with
  | zero => exact ⟨by show [tgt].length ≤ _; simp, by show ([] : List Int).length ≤ _; simp⟩
  | succ n =>
    have := h (rowsW must l tgt n).1 (rowsW must l tgt n).2 l [] []
    simp only [List.length_nil] at this
    show (stepR must (rowsW must l tgt n).1 (rowsW must l tgt n).2 [] [] l).1.length ≤ _ ∧ (stepR must (rowsW must l tgt n).1 (rowsW must l tgt n).2 [] [] l).2.length ≤ _
    omega
end Go.Proofs.Ytmnhgdedkniafaa
