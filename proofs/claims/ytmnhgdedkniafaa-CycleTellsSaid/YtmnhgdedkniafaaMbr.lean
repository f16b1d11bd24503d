/- Closed walks, the document's: the first walk of so many steps. -/
import Derived.Test.YtmnhgdedkniafaaMbq
namespace Go.Proofs.Ytmnhgdedkniafaa
set_option linter.unusedVariables false
open Go.RowKit
theorem edrop_findN {p : Edge → Bool} {l : List Edge} {k : Nat} {x : Edge} (hk : k < l.length) (hx : l[k] = x) (hp : p x = false) : (l.drop k).find? p = (l.drop (k + 1)).find? p := by
  rw [List.drop_eq_getElem_cons hk, hx, List.find?_cons_of_neg (by rw [hp]; decide)]
theorem edrop_findY {p : Edge → Bool} {l : List Edge} {k : Nat} {x : Edge} (hk : k < l.length) (hx : l[k] = x) (hp : p x = true) : (l.drop k).find? p = some x := by
  rw [List.drop_eq_getElem_cons hk, hx, List.find?_cons_of_pos hp]
theorem firstR_some {must : Int} {l : List Edge} {f : Nat → List Int × List Int} {n : Nat} {here : Int} {need : Bool} {e : Edge} (h : l.find? (isR must (f n).1 (f n).2 here need) = some e) :
    firstR must l f (n + 1) here need = e :: firstR must l f n e.t (need && !bitR must e.k) := by
  show (match l.find? (isR must (f n).1 (f n).2 here need) with | some e => e :: firstR must l f n e.t (need && !bitR must e.k) | none => firstR must l f n here need) = _
  rw [h]
theorem firstR_none {must : Int} {l : List Edge} {f : Nat → List Int × List Int} {n : Nat} {here : Int} {need : Bool} (h : l.find? (isR must (f n).1 (f n).2 here need) = none) :
    firstR must l f (n + 1) here need = firstR must l f n here need := by
  show (match l.find? (isR must (f n).1 (f n).2 here need) with | some e => e :: firstR must l f n e.t (need && !bitR must e.k) | none => firstR must l f n here need) = _
  rw [h]
theorem isR_val {must : Int} {pa pn : List Int} {here : Int} {need : Bool} {e : Edge} {c0 st c1 : Bool} (h0 : (e.f == here) = c0) (h1 : (need && !bitR must e.k) = st) (h2 : (if st = true then decide (e.t ∈ pn) else decide (e.t ∈ pa)) = c1) :
    isR must pa pn here need e = (c0 && c1) := by
  unfold isR
  rw [h0, h1, h2]
set_option maxRecDepth 100000 in
set_option maxHeartbeats 16000000 in
theorem rfirst (F : Nat → Prop) (w : World) (A : Option Addr) (c : Nat) (l : List Edge) (v : Value) (must here : Int) (n N : Nat) (need : Bool) (f : Nat → List Int × List Int) (h : Walk F w A l) (hl : l.length ≤ 10000) (hn : n ≤ N) (hN : N ≤ 100000) (hv : BackAt w v N f)
    (hf : ∀ j, (f j).1.length ≤ 100000 ∧ (f j).2.length ≤ 100000) :
    Calls Try.prog 137 #[.slice A l.length c, v, .int .i64 must, .int .i64 here, .int .i64 (n : Int), .bool need] w (NewEd w (firstR must l f n here need)) := by
  obtain ⟨A1, c1, A2, c2, rfl, hr1, hr2⟩ := hv
  obtain ⟨wb, hwb⟩ : ∃ wb, w.alloc (.cells #[.slice A1 (N + 1) c1, .slice A2 (N + 1) c2] 186) = wb := ⟨_, rfl⟩
  have u0 : Upd No w wb := by rw [← hwb]; exact (Upd.refl No w).alloc _
  have bB : Blk wb w.heap.size 186 [.slice A1 (N + 1) c1, .slice A2 (N + 1) c2] := by rw [← hwb]; exact Blk.new w _ _
  have HW := Lib.hid (fun (W : World) (u : Upd No wb W) => h.upd (u0.trans u) (fun _ _ => id))
  have HR1 := Lib.hid (fun (W : World) (u : Upd No wb W) => hr1.upd (u0.trans u))
  have HR2' := Lib.hid (fun (W : World) (u : Upd No wb W) => hr2.upd (u0.trans u))
  have HBB := Lib.hid (fun (W : World) (u : Upd No wb W) => bB.upd u id)
  have U0 := Lib.hid u0
  have HF := Lib.hid hf
  obtain ⟨R, hR⟩ : ∃ R, firstR must l f n here need = R := ⟨_, rfl⟩
  have HR := Lib.hid hR
  rw [hR]
  clear h hr1 hr2 u0 bB hR hf
  go_enter Try.func137, Try.ntmps137
  go_wp2
  clear hwb
  go_loopg [5, 13, 14, 15] n (fun gk sd s a i wr => ∃ (nd : Bool) (A5 : Option Addr) (c5 : Nat) (xs : List Edge) (ai : Int), sd = .bool nd ∧ s = .slice A5 xs.length c5 ∧ a = .int .i64 ai ∧ i = .int .i64 (gk : Int) ∧ Hid (xs ++ firstR must l f gk ai nd = R) ∧
    xs.length + gk ≤ n ∧ wr.ownsRow wb.heap.size 96 4 (.slice A5 xs.length c5) xs.length (edgesF xs) ∧ Upd No wb wr)
  case atStart => exact ⟨need, none, 0, [], here, rfl, rfl, rfl, rfl, Lib.hid (by rw [List.nil_append]; exact HR.out), by simp, World.ownsRow_nil _ _ _ _, Upd.refl _ _⟩
  case round =>
    obtain ⟨nd, A5, c5, xs, ai, rfl, rfl, rfl, rfl, hR, hxl, hown, hu⟩ := hrel
    cases gk with
    | zero =>
      have HRx := Lib.hid (show xs = R by have := hR.out; simpa [firstR] using this)
      clear hR
      go_wp2
      go_ret
      have := U0.out.size
      rw [← HRx.out]
      exact ⟨A5, c5, rfl, own_base hown this, U0.out.trans hu⟩
    | succ g1 =>
      obtain ⟨ad1, P, cp, e1, y1, hP⟩ := (HR1.out wr hu).at_ g1 (by omega)
      obtain ⟨ad2, Q, cq, e2, y2, hQ⟩ := (HR2'.out wr hu).at_ g1 (by omega)
      subst e1
      subst e2
      have hln := HF.out g1
      obtain ⟨pa, hpa⟩ : ∃ pa, (f g1).1 = pa := ⟨_, rfl⟩
      obtain ⟨pn, hpn⟩ : ∃ pn, (f g1).2 = pn := ⟨_, rfl⟩
      rw [hpa] at y1 hP hln
      rw [hpn] at y2 hQ hln
      have HPA := Lib.hid hpa
      have HPN := Lib.hid hpn
      have HLN := Lib.hid hln
      have HR2 := hR
      have hg0 : (0 : Int) < ((g1 + 1 : Nat) : Int) := by omega
      obtain ⟨ng, hng⟩ : ∃ ng : Int, ((g1 + 1 : Nat) : Int) = ng := ⟨_, rfl⟩
      have hng2 : ng - 1 = (g1 : Int) := by omega
      rw [hng] at hg0
      have hw1 : IntKind.i64.wrap (ng - 1) = (g1 : Int) := by rw [hng2]; exact IntWalk.i64_in _ (by omega)
      have HG1 := Lib.hid (show (g1 : Int) = ng - 1 by omega)
      have i6 : (0 : Int) ≤ (g1 : Int) := Int.natCast_nonneg _
      have i7 : (g1 : Int) < ((N + 1 : Nat) : Int) := by omega
      have i8 : (g1 : Int) < (N : Int) + 1 := by omega
      have hxl' : xs.length + (g1 + 1) ≤ n := hxl
      generalize hgg : g1 + 1 = m0 at *
      rw [hng]
      obtain ⟨w3, hw3⟩ : ∃ w3, w3 = wr := ⟨_, rfl⟩
      subst hw3
      have HO3 := Lib.hid hown
      have HU3 := Lib.hid hu
      have HLT := Lib.hid (HBB.out w3 hu).lt
      obtain ⟨fo, hfo⟩ : ∃ fo, l.find? (isR must pa pn ai nd) = fo := ⟨_, rfl⟩
      have HFO := Lib.hid hfo
      clear hpa hpn hln hown hfo hR hng2
      go_wp2
      go_loopg [5, 13, 14, 27] l.length (fun gk sd s a j wr => ∃ (k : Nat), k + gk = l.length ∧ j = .int .i64 k ∧ sd = .bool nd ∧ s = .slice A5 xs.length c5 ∧ a = .int .i64 ai ∧ Hid ((l.drop k).find? (isR must pa pn ai nd) = fo) ∧ Upd No w3 wr)
      case atStart => exact ⟨0, by omega, rfl, rfl, rfl, rfl, HFO, Upd.refl _ _⟩
      case round =>
        obtain ⟨k, hgj, rfl, rfl, rfl, rfl, hfi, huj⟩ := hrel
        by_cases hk : k < l.length
        · obtain ⟨ax, rfl, q0, q1, q2, q3⟩ := (HW.out wr (HU3.out.trans huj)).at_ hk
          obtain ⟨x, hx⟩ : ∃ x, l[k] = x := ⟨_, rfl⟩
          rw [hx] at q0 q1 q2 q3
          have HXK := Lib.hid hx
          have i1 : (0 : Int) ≤ (k : Int) := Int.natCast_nonneg _
          have i2 : (k : Int) < (l.length : Int) := by omega
          obtain ⟨wx, hwx⟩ : ∃ wx, wr.alloc (.cells #[.int .i64 x.f, .int .i64 x.t, .int .i64 x.k, .int .i64 x.key] 96) = wx := ⟨_, rfl⟩
          have ux : Upd No wr wx := by rw [← hwx]; exact (Upd.refl No wr).alloc _
          have bo : Blk wx wr.heap.size 96 [.int .i64 x.f, .int .i64 x.t, .int .i64 x.k, .int .i64 x.key] := by rw [← hwx]; exact Blk.new wr _ _
          have huw3 := huj.trans ux
          have hszr := huj.size
          have bw := HBB.out wx (HU3.out.trans huw3)
          have g0' : ∀ W, Upd No wx W → W.cell? ⟨wr.heap.size, 0, none⟩ = some (.int .i64 x.f) := fun W u => by have := (bo.upd u id).cell 0; simpa using this
          have g1' : ∀ W, Upd No wx W → W.cell? ⟨wr.heap.size, 1, none⟩ = some (.int .i64 x.t) := fun W u => by have := (bo.upd u id).cell 1; simpa using this
          have g2 : ∀ W, Upd No wx W → W.cell? ⟨wr.heap.size, 2, none⟩ = some (.int .i64 x.k) := fun W u => by have := (bo.upd u id).cell 2; simpa using this
          have g3 : ∀ W, Upd No wx W → W.cell? ⟨wr.heap.size, 3, none⟩ = some (.int .i64 x.key) := fun W u => by have := (bo.upd u id).cell 3; simpa using this
          have k0 : ∀ W, Upd No wx W → W.cell? ⟨w.heap.size, 0, none⟩ = some (.slice (some ad1) (N + 1) c1) := fun W u => by have := (bw.upd u id).cell 0; simpa using this
          have k1 : ∀ W, Upd No wx W → W.cell? ⟨w.heap.size, 1, none⟩ = some (.slice (some ad2) (N + 1) c2) := fun W u => by have := (bw.upd u id).cell 1; simpa using this
          have r1 : ∀ W, Upd No wx W → W.cell? (ad1.add g1) = some (.slice P pa.length cp) := fun W u => (huw3.trans u).keepNo y1
          have r2 : ∀ W, Upd No wx W → W.cell? (ad2.add g1) = some (.slice Q pn.length cq) := fun W u => (huw3.trans u).keepNo y2
          have HPP := Lib.hid (fun (W : World) (u : Upd No wx W) => hP.upd (huw3.trans u) (fun _ _ => id))
          have HQ := Lib.hid (fun (W : World) (u : Upd No wx W) => hQ.upd (huw3.trans u) (fun _ _ => id))
          have HUW := Lib.hid huw3
          have HBO := Lib.hid (fun (W : World) (u : Upd No wx W) => bo.upd u id)
          have hxr : Upd No wx wx := Upd.refl _ _
          clear hx ux bo bw
          cases nd
          · have hxz := hxr
            by_cases hf : x.f = ai
            · have f1 : (x.f == ai) = true := by simpa using hf
              have f2 : (x.f != ai) = false := by simpa using hf
              cases htn : decide (x.t ∈ pa)
              · have HIN := Lib.hid (fun (W : World) (u : Upd No wx W) => rin01u W _ P cp pa x.t (HPP.out W u) (by have := HLN.out; omega) htn)
                have HNX := Lib.hid (show (l.drop (k + 1)).find? (isR must pa pn ai false) = fo by rw [← hfi.out, edrop_findN hk HXK.out (by rw [isR_val f1 (show (false && !bitR must x.k) = false from rfl) (c1 := false) (by rw [if_neg (by decide)]; exact htn)]; rfl)])
                clear hf f1 htn
                go_wp2
                refine wp_region_noPanic ?_
                refine wp_region_held_drew (S := (fun W' => Upd No wx W')) (by kernel_rfl) ?_ (fun hHeld => ?_)
                · (first | exact (Upd.drew hxz) | exact hHeld.trans hu4 | exact hHeld)
                refine wpT 0 ⟨some 39, .fieldAddr 96 (.tmp 17) 0, 0, "ref.go:72", #[], none⟩ ?_ (.inl ⟨by rfl, ?_⟩) ?_
                rotate_left
                · (intro W hSw; (try dsimp only at hSw); go_simp; try (with_reducible rfl))
                try simp only [Act.put]
                try simp only [List.setIfInBounds_toArray]
                try simp only [List.set_cons_succ]
                try simp only [List.set_cons_zero]
                refine wpT 1 ⟨some 40, .load 3 (.tmp 39), 3, "ref.go:72", #[⟨0, .data⟩], none⟩ ?_ (.inl ⟨by rfl, ?_⟩) ?_
                rotate_left
                · (intro W hSw; (try dsimp only at hSw); go_simp; try (with_reducible rfl))
                try simp only [Act.put]
                try simp only [List.setIfInBounds_toArray]
                try simp only [List.set_cons_succ]
                try simp only [List.set_cons_zero]
                refine wpT 2 ⟨some 41, .move (.tmp 14), 3, "ref.go:72", #[], none⟩ ?_ (.inl ⟨by rfl, ?_⟩) ?_
                rotate_left
                · (intro W hSw; (try dsimp only at hSw); go_simp; try (with_reducible rfl))
                try simp only [Act.put]
                try simp only [List.setIfInBounds_toArray]
                try simp only [List.set_cons_succ]
                try simp only [List.set_cons_zero]
                refine wpT 3 ⟨some 42, .binOp .neq 3 (.tmp 40) (.tmp 41) 3, 4, "ref.go:72", #[⟨1, .data⟩, ⟨2, .data⟩], none⟩ ?_ (.inl ⟨by rfl, ?_⟩) ?_
                rotate_left
                · (intro W hSw; (try dsimp only at hSw); go_simp; try (with_reducible rfl))
                try simp only [Act.put]
                try simp only [List.setIfInBounds_toArray]
                try simp only [List.set_cons_succ]
                try simp only [List.set_cons_zero]
                refine wpT 4 ⟨some 43, .move (.tmp 42), 4, "ref.go:72", #[⟨3, .data⟩], none⟩ ?_ (.inl ⟨by rfl, ?_⟩) ?_
                rotate_left
                · (intro W hSw; (try dsimp only at hSw); go_simp; try (with_reducible rfl))
                try simp only [Act.put]
                try simp only [List.setIfInBounds_toArray]
                try simp only [List.set_cons_succ]
                try simp only [List.set_cons_zero]
                refine wpT 5 ⟨some 44, .move (.tmp 18), 4, "ref.go:72", #[⟨4, .guard⟩], some (4, false)⟩ ?_ (.inl ⟨by rfl, ?_⟩) ?_
                rotate_left
                · (intro W hSw; (try dsimp only at hSw); go_simp; try (with_reducible rfl))
                try simp only [Act.put]
                try simp only [List.setIfInBounds_toArray]
                try simp only [List.set_cons_succ]
                try simp only [List.set_cons_zero]
                refine wpT 6 ⟨some 45, .move (.tmp 44), 4, "ref.go:72", #[⟨5, .data⟩, ⟨4, .chain⟩, ⟨4, .guard⟩], some (4, false)⟩ ?_ (.inl ⟨by rfl, ?_⟩) ?_
                rotate_left
                · (intro W hSw; (try dsimp only at hSw); go_simp; try (with_reducible rfl))
                try simp only [Act.put]
                try simp only [List.setIfInBounds_toArray]
                try simp only [List.set_cons_succ]
                try simp only [List.set_cons_zero]
                refine wpT 7 ⟨some 46, .fieldAddr 186 (.tmp 7) 1, 0, "ref.go:72", #[⟨6, .guard⟩], some (6, true)⟩ undef (.inr ⟨by rfl, rfl⟩) ?_
                try simp only [Act.put]
                try simp only [List.setIfInBounds_toArray]
                try simp only [List.set_cons_succ]
                try simp only [List.set_cons_zero]
                refine wpT 8 ⟨some 47, .load 83 (.tmp 46), 83, "ref.go:72", #[⟨7, .data⟩, ⟨6, .guard⟩], some (6, true)⟩ undef (.inr ⟨by rfl, rfl⟩) ?_
                try simp only [Act.put]
                try simp only [List.setIfInBounds_toArray]
                try simp only [List.set_cons_succ]
                try simp only [List.set_cons_zero]
                refine wpT 9 ⟨some 48, .move (.tmp 15), 3, "ref.go:72", #[⟨6, .guard⟩], some (6, true)⟩ undef (.inr ⟨by rfl, rfl⟩) ?_
                try simp only [Act.put]
                try simp only [List.setIfInBounds_toArray]
                try simp only [List.set_cons_succ]
                try simp only [List.set_cons_zero]
                refine wpT 10 ⟨some 49, .binOp .sub 3 (.tmp 48) (.const (.int .i64 1)) 3, 3, "ref.go:72", #[⟨9, .data⟩, ⟨6, .guard⟩], some (6, true)⟩ undef (.inr ⟨by rfl, rfl⟩) ?_
                try simp only [Act.put]
                try simp only [List.setIfInBounds_toArray]
                try simp only [List.set_cons_succ]
                try simp only [List.set_cons_zero]
                refine wpT 11 ⟨some 50, .indexAddr 83 (.tmp 47) (.tmp 49), 0, "ref.go:72", #[⟨8, .data⟩, ⟨10, .data⟩, ⟨6, .guard⟩], some (6, true)⟩ undef (.inr ⟨by rfl, rfl⟩) ?_
                try simp only [Act.put]
                try simp only [List.setIfInBounds_toArray]
                try simp only [List.set_cons_succ]
                try simp only [List.set_cons_zero]
                refine wpT 12 ⟨some 51, .load 50 (.tmp 50), 50, "ref.go:72", #[⟨11, .data⟩, ⟨6, .guard⟩], some (6, true)⟩ undef (.inr ⟨by rfl, rfl⟩) ?_
                try simp only [Act.put]
                try simp only [List.setIfInBounds_toArray]
                try simp only [List.set_cons_succ]
                try simp only [List.set_cons_zero]
                refine wpT 13 ⟨some 52, .fieldAddr 96 (.tmp 17) 1, 0, "ref.go:72", #[⟨6, .guard⟩], some (6, true)⟩ undef (.inr ⟨by rfl, rfl⟩) ?_
                try simp only [Act.put]
                try simp only [List.setIfInBounds_toArray]
                try simp only [List.set_cons_succ]
                try simp only [List.set_cons_zero]
                refine wpT 14 ⟨some 53, .load 3 (.tmp 52), 3, "ref.go:72", #[⟨13, .data⟩, ⟨6, .guard⟩], some (6, true)⟩ undef (.inr ⟨by rfl, rfl⟩) ?_
                try simp only [Act.put]
                try simp only [List.setIfInBounds_toArray]
                try simp only [List.set_cons_succ]
                try simp only [List.set_cons_zero]
                refine wpAnyH_ready (rs := [15]) (by kernel_rfl) (by simp) ?_
                refine AllReadyH.cons (o := ⟨some 54, .call { callee := .value (.func 36), args := #[.tmp 51, .tmp 53], argTypes := #[50, 3] }, 4, "ref.go:72", #[⟨12, .data⟩, ⟨14, .data⟩, ⟨6, .chain⟩, ⟨6, .guard⟩], some (6, true)⟩) rfl (fun K hK => ?_) AllReadyH.nil
                go_simp
                refine hK.out _ _ ?_ (fun hHeld => ?_)
                · exact hHeld
                clear hK K
                try simp only [Act.put]
                try simp only [List.setIfInBounds_toArray]
                try simp only [List.set_cons_succ]
                try simp only [List.set_cons_zero]
                refine wpT 16 ⟨some 55, .unOp .not 4 (.tmp 54), 4, "ref.go:72", #[⟨15, .data⟩, ⟨6, .guard⟩], some (6, true)⟩ undef (.inr ⟨by rfl, rfl⟩) ?_
                try simp only [Act.put]
                try simp only [List.setIfInBounds_toArray]
                try simp only [List.set_cons_succ]
                try simp only [List.set_cons_zero]
                refine wpT 17 ⟨some 56, .pick (.tmp 45) (.tmp 55) (.const (.bool false)), 4, "ref.go:72", #[⟨6, .data⟩, ⟨16, .data⟩, ⟨4, .guard⟩], some (4, false)⟩ ?_ (.inl ⟨by rfl, ?_⟩) ?_
                rotate_left
                · (intro W hSw; (try dsimp only at hSw); go_simp; try (with_reducible rfl))
                try simp only [Act.put]
                try simp only [List.setIfInBounds_toArray]
                try simp only [List.set_cons_succ]
                try simp only [List.set_cons_zero]
                refine wpT 18 ⟨some 57, .pick (.tmp 43) (.const (.bool true)) (.tmp 56), 4, "ref.go:72", #[⟨4, .data⟩, ⟨17, .data⟩], none⟩ ?_ (.inl ⟨by rfl, ?_⟩) ?_
                rotate_left
                · (intro W hSw; (try dsimp only at hSw); go_simp; try (with_reducible rfl))
                try simp only [Act.put]
                try simp only [List.setIfInBounds_toArray]
                try simp only [List.set_cons_succ]
                try simp only [List.set_cons_zero]
                refine wpT 19 ⟨some 58, .move (.tmp 57), 4, "ref.go:72", #[⟨18, .data⟩, ⟨15, .chain⟩], none⟩ ?_ (.inl ⟨by rfl, ?_⟩) ?_
                rotate_left
                · (intro W hSw; (try dsimp only at hSw); go_simp; try (with_reducible rfl))
                try simp only [Act.put]
                try simp only [List.setIfInBounds_toArray]
                try simp only [List.set_cons_succ]
                try simp only [List.set_cons_zero]
                refine wpT 20 ⟨some 59, .move (.tmp 18), 4, "ref.go:72", #[⟨19, .guard⟩], some (19, false)⟩ ?_ (.inl ⟨by rfl, ?_⟩) ?_
                rotate_left
                · (intro W hSw; (try dsimp only at hSw); go_simp; try (with_reducible rfl))
                try simp only [Act.put]
                try simp only [List.setIfInBounds_toArray]
                try simp only [List.set_cons_succ]
                try simp only [List.set_cons_zero]
                refine wpT 21 ⟨some 60, .unOp .not 4 (.tmp 59), 4, "ref.go:72", #[⟨20, .data⟩, ⟨19, .guard⟩], some (19, false)⟩ ?_ (.inl ⟨by rfl, ?_⟩) ?_
                rotate_left
                · (intro W hSw; (try dsimp only at hSw); go_simp; try (with_reducible rfl))
                try simp only [Act.put]
                try simp only [List.setIfInBounds_toArray]
                try simp only [List.set_cons_succ]
                try simp only [List.set_cons_zero]
                refine wpT 22 ⟨some 61, .move (.tmp 60), 4, "ref.go:72", #[⟨21, .data⟩, ⟨19, .chain⟩, ⟨19, .guard⟩], some (19, false)⟩ ?_ (.inl ⟨by rfl, ?_⟩) ?_
                rotate_left
                · (intro W hSw; (try dsimp only at hSw); go_simp; try (with_reducible rfl))
                try simp only [Act.put]
                try simp only [List.setIfInBounds_toArray]
                try simp only [List.set_cons_succ]
                try simp only [List.set_cons_zero]
                refine wpT 23 ⟨some 62, .fieldAddr 186 (.tmp 7) 0, 0, "ref.go:72", #[⟨22, .guard⟩], some (22, true)⟩ ?_ (.inl ⟨by rfl, ?_⟩) ?_
                rotate_left
                · (intro W hSw; (try dsimp only at hSw); go_simp; try (with_reducible rfl))
                try simp only [Act.put]
                try simp only [List.setIfInBounds_toArray]
                try simp only [List.set_cons_succ]
                try simp only [List.set_cons_zero]
                refine wpT 24 ⟨some 63, .load 83 (.tmp 62), 83, "ref.go:72", #[⟨23, .data⟩, ⟨22, .guard⟩], some (22, true)⟩ ?_ (.inl ⟨by rfl, ?_⟩) ?_
                rotate_left
                · (intro W hSw; (try dsimp only at hSw); go_simp; try (with_reducible rfl))
                try simp only [Act.put]
                try simp only [List.setIfInBounds_toArray]
                try simp only [List.set_cons_succ]
                try simp only [List.set_cons_zero]
                refine wpT 25 ⟨some 64, .move (.tmp 15), 3, "ref.go:72", #[⟨22, .guard⟩], some (22, true)⟩ ?_ (.inl ⟨by rfl, ?_⟩) ?_
                rotate_left
                · (intro W hSw; (try dsimp only at hSw); go_simp; try (with_reducible rfl))
                try simp only [Act.put]
                try simp only [List.setIfInBounds_toArray]
                try simp only [List.set_cons_succ]
                try simp only [List.set_cons_zero]
                refine wpT 26 ⟨some 65, .binOp .sub 3 (.tmp 64) (.const (.int .i64 1)) 3, 3, "ref.go:72", #[⟨25, .data⟩, ⟨22, .guard⟩], some (22, true)⟩ ?_ (.inl ⟨by rfl, ?_⟩) ?_
                rotate_left
                · (intro W hSw; (try dsimp only at hSw); go_simp; try (with_reducible rfl))
                try simp only [Act.put]
                try simp only [List.setIfInBounds_toArray]
                try simp only [List.set_cons_succ]
                try simp only [List.set_cons_zero]
                refine wpT 27 ⟨some 66, .indexAddr 83 (.tmp 63) (.tmp 65), 0, "ref.go:72", #[⟨24, .data⟩, ⟨26, .data⟩, ⟨22, .guard⟩], some (22, true)⟩ ?_ (.inl ⟨by rfl, ?_⟩) ?_
                rotate_left
                · (intro W hSw; (try dsimp only at hSw); go_simp; try (with_reducible rfl))
                try simp only [Act.put]
                try simp only [List.setIfInBounds_toArray]
                try simp only [List.set_cons_succ]
                try simp only [List.set_cons_zero]
                refine wpT 28 ⟨some 67, .load 50 (.tmp 66), 50, "ref.go:72", #[⟨27, .data⟩, ⟨22, .guard⟩], some (22, true)⟩ ?_ (.inl ⟨by rfl, ?_⟩) ?_
                rotate_left
                · (intro W hSw; (try dsimp only at hSw); go_simp; try (with_reducible rfl))
                try simp only [Act.put]
                try simp only [List.setIfInBounds_toArray]
                try simp only [List.set_cons_succ]
                try simp only [List.set_cons_zero]
                refine wpT 29 ⟨some 68, .fieldAddr 96 (.tmp 17) 1, 0, "ref.go:72", #[⟨22, .guard⟩], some (22, true)⟩ ?_ (.inl ⟨by rfl, ?_⟩) ?_
                rotate_left
                · (intro W hSw; (try dsimp only at hSw); go_simp; try (with_reducible rfl))
                try simp only [Act.put]
                try simp only [List.setIfInBounds_toArray]
                try simp only [List.set_cons_succ]
                try simp only [List.set_cons_zero]
                refine wpT 30 ⟨some 69, .load 3 (.tmp 68), 3, "ref.go:72", #[⟨29, .data⟩, ⟨22, .guard⟩], some (22, true)⟩ ?_ (.inl ⟨by rfl, ?_⟩) ?_
                rotate_left
                · (intro W hSw; (try dsimp only at hSw); go_simp; try (with_reducible rfl))
                try simp only [Act.put]
                try simp only [List.setIfInBounds_toArray]
                try simp only [List.set_cons_succ]
                try simp only [List.set_cons_zero]
                refine wpAnyH_ready (rs := [31]) (by kernel_rfl) (by simp) ?_
                refine AllReadyH.cons (o := ⟨some 70, .call { callee := .value (.func 36), args := #[.tmp 67, .tmp 69], argTypes := #[50, 3] }, 4, "ref.go:72", #[⟨28, .data⟩, ⟨30, .data⟩, ⟨22, .chain⟩, ⟨22, .guard⟩], some (22, true)⟩) rfl (fun K hK => ?_) AllReadyH.nil
                go_simp
                (first
    | (go_at_call 36; refine (HIN.out _ hHeld).mono ?_; rintro e w4 ⟨rfl, hu4⟩))
                try (go_wp2_with fail)
                refine hK.out _ _ ?_ (fun hHeld => ?_)
                · (first | exact (Upd.drew hxz) | exact hHeld.trans hu4 | exact hHeld)
                clear hK K
                try simp only [Act.put]
                try simp only [List.setIfInBounds_toArray]
                try simp only [List.set_cons_succ]
                try simp only [List.set_cons_zero]
                refine wpT 32 ⟨some 71, .unOp .not 4 (.tmp 70), 4, "ref.go:72", #[⟨31, .data⟩, ⟨22, .guard⟩], some (22, true)⟩ ?_ (.inl ⟨by rfl, ?_⟩) ?_
                rotate_left
                · (intro W hSw; (try dsimp only at hSw); go_simp; try (with_reducible rfl))
                try simp only [Act.put]
                try simp only [List.setIfInBounds_toArray]
                try simp only [List.set_cons_succ]
                try simp only [List.set_cons_zero]
                refine wpT 33 ⟨some 72, .pick (.tmp 61) (.tmp 71) (.const (.bool false)), 4, "ref.go:72", #[⟨22, .data⟩, ⟨32, .data⟩, ⟨19, .guard⟩], some (19, false)⟩ ?_ (.inl ⟨by rfl, ?_⟩) ?_
                rotate_left
                · (intro W hSw; (try dsimp only at hSw); go_simp; try (with_reducible rfl))
                try simp only [Act.put]
                try simp only [List.setIfInBounds_toArray]
                try simp only [List.set_cons_succ]
                try simp only [List.set_cons_zero]
                refine wpT 34 ⟨some 73, .pick (.tmp 58) (.const (.bool true)) (.tmp 72), 4, "ref.go:72", #[⟨19, .data⟩, ⟨33, .data⟩], none⟩ ?_ (.inl ⟨by rfl, ?_⟩) ?_
                rotate_left
                · (intro W hSw; (try dsimp only at hSw); go_simp; try (with_reducible rfl))
                try simp only [Act.put]
                try simp only [List.setIfInBounds_toArray]
                try simp only [List.set_cons_succ]
                try simp only [List.set_cons_zero]
                refine wpAnyH_done (by kernel_rfl) (NoPanic.normal ?_) _
                go_wp2
                go_roundg (gk - 1)
                case measure => omega
                case rel => exact ⟨k + 1, by omega, by go_num, rfl, rfl, rfl, HNX, HUW.out.trans hHeld⟩
              · have HIN := Lib.hid (fun (W : World) (u : Upd No wx W) => rin01u W _ P cp pa x.t (HPP.out W u) (by have := HLN.out; omega) htn)
                have HFX := Lib.hid (show fo = some x by rw [← hfi.out, edrop_findY hk HXK.out (by rw [isR_val f1 (show (false && !bitR must x.k) = false from rfl) (c1 := true) (by rw [if_neg (by decide)]; exact htn)]; rfl)])
                have HRX := Lib.hid (show (xs ++ [x]) ++ firstR must l f g1 x.t false = R by
                  have := HR2.out
                  rw [← hgg, firstR_some (by rw [HPA.out, HPN.out, HFO.out, HFX.out]), (show (false && !bitR must x.k) = false from rfl)] at this
                  rw [List.append_assoc]
                  exact this)
                clear hf f1 htn
                go_wp2
                refine wp_region_noPanic ?_
                refine wp_region_held_drew (S := (fun W' => Upd No wx W')) (by kernel_rfl) ?_ (fun hHeld => ?_)
                · (first | exact (Upd.drew hxz) | exact hHeld.trans hu4 | exact hHeld)
                refine wpT 0 ⟨some 39, .fieldAddr 96 (.tmp 17) 0, 0, "ref.go:72", #[], none⟩ ?_ (.inl ⟨by rfl, ?_⟩) ?_
                rotate_left
                · (intro W hSw; (try dsimp only at hSw); go_simp; try (with_reducible rfl))
                try simp only [Act.put]
                try simp only [List.setIfInBounds_toArray]
                try simp only [List.set_cons_succ]
                try simp only [List.set_cons_zero]
                refine wpT 1 ⟨some 40, .load 3 (.tmp 39), 3, "ref.go:72", #[⟨0, .data⟩], none⟩ ?_ (.inl ⟨by rfl, ?_⟩) ?_
                rotate_left
                · (intro W hSw; (try dsimp only at hSw); go_simp; try (with_reducible rfl))
                try simp only [Act.put]
                try simp only [List.setIfInBounds_toArray]
                try simp only [List.set_cons_succ]
                try simp only [List.set_cons_zero]
                refine wpT 2 ⟨some 41, .move (.tmp 14), 3, "ref.go:72", #[], none⟩ ?_ (.inl ⟨by rfl, ?_⟩) ?_
                rotate_left
                · (intro W hSw; (try dsimp only at hSw); go_simp; try (with_reducible rfl))
                try simp only [Act.put]
                try simp only [List.setIfInBounds_toArray]
                try simp only [List.set_cons_succ]
                try simp only [List.set_cons_zero]
                refine wpT 3 ⟨some 42, .binOp .neq 3 (.tmp 40) (.tmp 41) 3, 4, "ref.go:72", #[⟨1, .data⟩, ⟨2, .data⟩], none⟩ ?_ (.inl ⟨by rfl, ?_⟩) ?_
                rotate_left
                · (intro W hSw; (try dsimp only at hSw); go_simp; try (with_reducible rfl))
                try simp only [Act.put]
                try simp only [List.setIfInBounds_toArray]
                try simp only [List.set_cons_succ]
                try simp only [List.set_cons_zero]
                refine wpT 4 ⟨some 43, .move (.tmp 42), 4, "ref.go:72", #[⟨3, .data⟩], none⟩ ?_ (.inl ⟨by rfl, ?_⟩) ?_
                rotate_left
                · (intro W hSw; (try dsimp only at hSw); go_simp; try (with_reducible rfl))
                try simp only [Act.put]
                try simp only [List.setIfInBounds_toArray]
                try simp only [List.set_cons_succ]
                try simp only [List.set_cons_zero]
                refine wpT 5 ⟨some 44, .move (.tmp 18), 4, "ref.go:72", #[⟨4, .guard⟩], some (4, false)⟩ ?_ (.inl ⟨by rfl, ?_⟩) ?_
                rotate_left
                · (intro W hSw; (try dsimp only at hSw); go_simp; try (with_reducible rfl))
                try simp only [Act.put]
                try simp only [List.setIfInBounds_toArray]
                try simp only [List.set_cons_succ]
                try simp only [List.set_cons_zero]
                refine wpT 6 ⟨some 45, .move (.tmp 44), 4, "ref.go:72", #[⟨5, .data⟩, ⟨4, .chain⟩, ⟨4, .guard⟩], some (4, false)⟩ ?_ (.inl ⟨by rfl, ?_⟩) ?_
                rotate_left
                · (intro W hSw; (try dsimp only at hSw); go_simp; try (with_reducible rfl))
                try simp only [Act.put]
                try simp only [List.setIfInBounds_toArray]
                try simp only [List.set_cons_succ]
                try simp only [List.set_cons_zero]
                refine wpT 7 ⟨some 46, .fieldAddr 186 (.tmp 7) 1, 0, "ref.go:72", #[⟨6, .guard⟩], some (6, true)⟩ undef (.inr ⟨by rfl, rfl⟩) ?_
                try simp only [Act.put]
                try simp only [List.setIfInBounds_toArray]
                try simp only [List.set_cons_succ]
                try simp only [List.set_cons_zero]
                refine wpT 8 ⟨some 47, .load 83 (.tmp 46), 83, "ref.go:72", #[⟨7, .data⟩, ⟨6, .guard⟩], some (6, true)⟩ undef (.inr ⟨by rfl, rfl⟩) ?_
                try simp only [Act.put]
                try simp only [List.setIfInBounds_toArray]
                try simp only [List.set_cons_succ]
                try simp only [List.set_cons_zero]
                refine wpT 9 ⟨some 48, .move (.tmp 15), 3, "ref.go:72", #[⟨6, .guard⟩], some (6, true)⟩ undef (.inr ⟨by rfl, rfl⟩) ?_
                try simp only [Act.put]
                try simp only [List.setIfInBounds_toArray]
                try simp only [List.set_cons_succ]
                try simp only [List.set_cons_zero]
                refine wpT 10 ⟨some 49, .binOp .sub 3 (.tmp 48) (.const (.int .i64 1)) 3, 3, "ref.go:72", #[⟨9, .data⟩, ⟨6, .guard⟩], some (6, true)⟩ undef (.inr ⟨by rfl, rfl⟩) ?_
                try simp only [Act.put]
                try simp only [List.setIfInBounds_toArray]
                try simp only [List.set_cons_succ]
                try simp only [List.set_cons_zero]
                refine wpT 11 ⟨some 50, .indexAddr 83 (.tmp 47) (.tmp 49), 0, "ref.go:72", #[⟨8, .data⟩, ⟨10, .data⟩, ⟨6, .guard⟩], some (6, true)⟩ undef (.inr ⟨by rfl, rfl⟩) ?_
                try simp only [Act.put]
                try simp only [List.setIfInBounds_toArray]
                try simp only [List.set_cons_succ]
                try simp only [List.set_cons_zero]
                refine wpT 12 ⟨some 51, .load 50 (.tmp 50), 50, "ref.go:72", #[⟨11, .data⟩, ⟨6, .guard⟩], some (6, true)⟩ undef (.inr ⟨by rfl, rfl⟩) ?_
                try simp only [Act.put]
                try simp only [List.setIfInBounds_toArray]
                try simp only [List.set_cons_succ]
                try simp only [List.set_cons_zero]
                refine wpT 13 ⟨some 52, .fieldAddr 96 (.tmp 17) 1, 0, "ref.go:72", #[⟨6, .guard⟩], some (6, true)⟩ undef (.inr ⟨by rfl, rfl⟩) ?_
                try simp only [Act.put]
                try simp only [List.setIfInBounds_toArray]
                try simp only [List.set_cons_succ]
                try simp only [List.set_cons_zero]
                refine wpT 14 ⟨some 53, .load 3 (.tmp 52), 3, "ref.go:72", #[⟨13, .data⟩, ⟨6, .guard⟩], some (6, true)⟩ undef (.inr ⟨by rfl, rfl⟩) ?_
                try simp only [Act.put]
                try simp only [List.setIfInBounds_toArray]
                try simp only [List.set_cons_succ]
                try simp only [List.set_cons_zero]
                refine wpAnyH_ready (rs := [15]) (by kernel_rfl) (by simp) ?_
                refine AllReadyH.cons (o := ⟨some 54, .call { callee := .value (.func 36), args := #[.tmp 51, .tmp 53], argTypes := #[50, 3] }, 4, "ref.go:72", #[⟨12, .data⟩, ⟨14, .data⟩, ⟨6, .chain⟩, ⟨6, .guard⟩], some (6, true)⟩) rfl (fun K hK => ?_) AllReadyH.nil
                go_simp
                refine hK.out _ _ ?_ (fun hHeld => ?_)
                · exact hHeld
                clear hK K
                try simp only [Act.put]
                try simp only [List.setIfInBounds_toArray]
                try simp only [List.set_cons_succ]
                try simp only [List.set_cons_zero]
                refine wpT 16 ⟨some 55, .unOp .not 4 (.tmp 54), 4, "ref.go:72", #[⟨15, .data⟩, ⟨6, .guard⟩], some (6, true)⟩ undef (.inr ⟨by rfl, rfl⟩) ?_
                try simp only [Act.put]
                try simp only [List.setIfInBounds_toArray]
                try simp only [List.set_cons_succ]
                try simp only [List.set_cons_zero]
                refine wpT 17 ⟨some 56, .pick (.tmp 45) (.tmp 55) (.const (.bool false)), 4, "ref.go:72", #[⟨6, .data⟩, ⟨16, .data⟩, ⟨4, .guard⟩], some (4, false)⟩ ?_ (.inl ⟨by rfl, ?_⟩) ?_
                rotate_left
                · (intro W hSw; (try dsimp only at hSw); go_simp; try (with_reducible rfl))
                try simp only [Act.put]
                try simp only [List.setIfInBounds_toArray]
                try simp only [List.set_cons_succ]
                try simp only [List.set_cons_zero]
                refine wpT 18 ⟨some 57, .pick (.tmp 43) (.const (.bool true)) (.tmp 56), 4, "ref.go:72", #[⟨4, .data⟩, ⟨17, .data⟩], none⟩ ?_ (.inl ⟨by rfl, ?_⟩) ?_
                rotate_left
                · (intro W hSw; (try dsimp only at hSw); go_simp; try (with_reducible rfl))
                try simp only [Act.put]
                try simp only [List.setIfInBounds_toArray]
                try simp only [List.set_cons_succ]
                try simp only [List.set_cons_zero]
                refine wpT 19 ⟨some 58, .move (.tmp 57), 4, "ref.go:72", #[⟨18, .data⟩, ⟨15, .chain⟩], none⟩ ?_ (.inl ⟨by rfl, ?_⟩) ?_
                rotate_left
                · (intro W hSw; (try dsimp only at hSw); go_simp; try (with_reducible rfl))
                try simp only [Act.put]
                try simp only [List.setIfInBounds_toArray]
                try simp only [List.set_cons_succ]
                try simp only [List.set_cons_zero]
                refine wpT 20 ⟨some 59, .move (.tmp 18), 4, "ref.go:72", #[⟨19, .guard⟩], some (19, false)⟩ ?_ (.inl ⟨by rfl, ?_⟩) ?_
                rotate_left
                · (intro W hSw; (try dsimp only at hSw); go_simp; try (with_reducible rfl))
                try simp only [Act.put]
                try simp only [List.setIfInBounds_toArray]
                try simp only [List.set_cons_succ]
                try simp only [List.set_cons_zero]
                refine wpT 21 ⟨some 60, .unOp .not 4 (.tmp 59), 4, "ref.go:72", #[⟨20, .data⟩, ⟨19, .guard⟩], some (19, false)⟩ ?_ (.inl ⟨by rfl, ?_⟩) ?_
                rotate_left
                · (intro W hSw; (try dsimp only at hSw); go_simp; try (with_reducible rfl))
                try simp only [Act.put]
                try simp only [List.setIfInBounds_toArray]
                try simp only [List.set_cons_succ]
                try simp only [List.set_cons_zero]
                refine wpT 22 ⟨some 61, .move (.tmp 60), 4, "ref.go:72", #[⟨21, .data⟩, ⟨19, .chain⟩, ⟨19, .guard⟩], some (19, false)⟩ ?_ (.inl ⟨by rfl, ?_⟩) ?_
                rotate_left
                · (intro W hSw; (try dsimp only at hSw); go_simp; try (with_reducible rfl))
                try simp only [Act.put]
                try simp only [List.setIfInBounds_toArray]
                try simp only [List.set_cons_succ]
                try simp only [List.set_cons_zero]
                refine wpT 23 ⟨some 62, .fieldAddr 186 (.tmp 7) 0, 0, "ref.go:72", #[⟨22, .guard⟩], some (22, true)⟩ ?_ (.inl ⟨by rfl, ?_⟩) ?_
                rotate_left
                · (intro W hSw; (try dsimp only at hSw); go_simp; try (with_reducible rfl))
                try simp only [Act.put]
                try simp only [List.setIfInBounds_toArray]
                try simp only [List.set_cons_succ]
                try simp only [List.set_cons_zero]
                refine wpT 24 ⟨some 63, .load 83 (.tmp 62), 83, "ref.go:72", #[⟨23, .data⟩, ⟨22, .guard⟩], some (22, true)⟩ ?_ (.inl ⟨by rfl, ?_⟩) ?_
                rotate_left
                · (intro W hSw; (try dsimp only at hSw); go_simp; try (with_reducible rfl))
                try simp only [Act.put]
                try simp only [List.setIfInBounds_toArray]
                try simp only [List.set_cons_succ]
                try simp only [List.set_cons_zero]
                refine wpT 25 ⟨some 64, .move (.tmp 15), 3, "ref.go:72", #[⟨22, .guard⟩], some (22, true)⟩ ?_ (.inl ⟨by rfl, ?_⟩) ?_
                rotate_left
                · (intro W hSw; (try dsimp only at hSw); go_simp; try (with_reducible rfl))
                try simp only [Act.put]
                try simp only [List.setIfInBounds_toArray]
                try simp only [List.set_cons_succ]
                try simp only [List.set_cons_zero]
                refine wpT 26 ⟨some 65, .binOp .sub 3 (.tmp 64) (.const (.int .i64 1)) 3, 3, "ref.go:72", #[⟨25, .data⟩, ⟨22, .guard⟩], some (22, true)⟩ ?_ (.inl ⟨by rfl, ?_⟩) ?_
                rotate_left
                · (intro W hSw; (try dsimp only at hSw); go_simp; try (with_reducible rfl))
                try simp only [Act.put]
                try simp only [List.setIfInBounds_toArray]
                try simp only [List.set_cons_succ]
                try simp only [List.set_cons_zero]
                refine wpT 27 ⟨some 66, .indexAddr 83 (.tmp 63) (.tmp 65), 0, "ref.go:72", #[⟨24, .data⟩, ⟨26, .data⟩, ⟨22, .guard⟩], some (22, true)⟩ ?_ (.inl ⟨by rfl, ?_⟩) ?_
                rotate_left
                · (intro W hSw; (try dsimp only at hSw); go_simp; try (with_reducible rfl))
                try simp only [Act.put]
                try simp only [List.setIfInBounds_toArray]
                try simp only [List.set_cons_succ]
                try simp only [List.set_cons_zero]
                refine wpT 28 ⟨some 67, .load 50 (.tmp 66), 50, "ref.go:72", #[⟨27, .data⟩, ⟨22, .guard⟩], some (22, true)⟩ ?_ (.inl ⟨by rfl, ?_⟩) ?_
                rotate_left
                · (intro W hSw; (try dsimp only at hSw); go_simp; try (with_reducible rfl))
                try simp only [Act.put]
                try simp only [List.setIfInBounds_toArray]
                try simp only [List.set_cons_succ]
                try simp only [List.set_cons_zero]
                refine wpT 29 ⟨some 68, .fieldAddr 96 (.tmp 17) 1, 0, "ref.go:72", #[⟨22, .guard⟩], some (22, true)⟩ ?_ (.inl ⟨by rfl, ?_⟩) ?_
                rotate_left
                · (intro W hSw; (try dsimp only at hSw); go_simp; try (with_reducible rfl))
                try simp only [Act.put]
                try simp only [List.setIfInBounds_toArray]
                try simp only [List.set_cons_succ]
                try simp only [List.set_cons_zero]
                refine wpT 30 ⟨some 69, .load 3 (.tmp 68), 3, "ref.go:72", #[⟨29, .data⟩, ⟨22, .guard⟩], some (22, true)⟩ ?_ (.inl ⟨by rfl, ?_⟩) ?_
                rotate_left
                · (intro W hSw; (try dsimp only at hSw); go_simp; try (with_reducible rfl))
                try simp only [Act.put]
                try simp only [List.setIfInBounds_toArray]
                try simp only [List.set_cons_succ]
                try simp only [List.set_cons_zero]
                refine wpAnyH_ready (rs := [31]) (by kernel_rfl) (by simp) ?_
                refine AllReadyH.cons (o := ⟨some 70, .call { callee := .value (.func 36), args := #[.tmp 67, .tmp 69], argTypes := #[50, 3] }, 4, "ref.go:72", #[⟨28, .data⟩, ⟨30, .data⟩, ⟨22, .chain⟩, ⟨22, .guard⟩], some (22, true)⟩) rfl (fun K hK => ?_) AllReadyH.nil
                go_simp
                (first
    | (go_at_call 36; refine (HIN.out _ hHeld).mono ?_; rintro e w4 ⟨rfl, hu4⟩))
                try (go_wp2_with fail)
                refine hK.out _ _ ?_ (fun hHeld => ?_)
                · (first | exact (Upd.drew hxz) | exact hHeld.trans hu4 | exact hHeld)
                clear hK K
                try simp only [Act.put]
                try simp only [List.setIfInBounds_toArray]
                try simp only [List.set_cons_succ]
                try simp only [List.set_cons_zero]
                refine wpT 32 ⟨some 71, .unOp .not 4 (.tmp 70), 4, "ref.go:72", #[⟨31, .data⟩, ⟨22, .guard⟩], some (22, true)⟩ ?_ (.inl ⟨by rfl, ?_⟩) ?_
                rotate_left
                · (intro W hSw; (try dsimp only at hSw); go_simp; try (with_reducible rfl))
                try simp only [Act.put]
                try simp only [List.setIfInBounds_toArray]
                try simp only [List.set_cons_succ]
                try simp only [List.set_cons_zero]
                refine wpT 33 ⟨some 72, .pick (.tmp 61) (.tmp 71) (.const (.bool false)), 4, "ref.go:72", #[⟨22, .data⟩, ⟨32, .data⟩, ⟨19, .guard⟩], some (19, false)⟩ ?_ (.inl ⟨by rfl, ?_⟩) ?_
                rotate_left
                · (intro W hSw; (try dsimp only at hSw); go_simp; try (with_reducible rfl))
                try simp only [Act.put]
                try simp only [List.setIfInBounds_toArray]
                try simp only [List.set_cons_succ]
                try simp only [List.set_cons_zero]
                refine wpT 34 ⟨some 73, .pick (.tmp 58) (.const (.bool true)) (.tmp 72), 4, "ref.go:72", #[⟨19, .data⟩, ⟨33, .data⟩], none⟩ ?_ (.inl ⟨by rfl, ?_⟩) ?_
                rotate_left
                · (intro W hSw; (try dsimp only at hSw); go_simp; try (with_reducible rfl))
                try simp only [Act.put]
                try simp only [List.setIfInBounds_toArray]
                try simp only [List.set_cons_succ]
                try simp only [List.set_cons_zero]
                refine wpAnyH_done (by kernel_rfl) (NoPanic.normal ?_) _
                have hx4 : Upd No wx w4 := hHeld
                clear hHeld hu4
                have hown4 := own_upd HO3.out (huw3.trans hx4) (fun _ _ => id)
                have HGE := Lib.hid (fun i e => (hown4.lt i e))
                have HBX := Lib.hid (HBO.out w4 hx4)
                have HLE := Lib.hid (edgesF_len xs)
                have hzz := (HUW.out.trans hx4).size
                have HUZ := Lib.hid (HUW.out.trans hx4)
                have hlw := HLT.out
                have hzb := HU3.out.size
                have HBS := Lib.hid (fun i (e : Own (.slice A5 xs.length c5) i) => (HO3.out.lt i e).2)
                go_wp2_with (at_builtin; refine app1s rfl rfl slt_edges (v := .slice A5 xs.length c5) (n := xs.length) (xs := edgesF xs) (cells := [.int .i64 x.f, .int .i64 x.t, .int .i64 x.k, .int .i64 x.key]) (by rfl) rfl hown4 rfl rfl (by omega) (by omega) (by omega) ?_; intro g8 c8 w8 hown8 hu8 hg8 hlt8; have e1 := (HBX.out.upd hu8 (fun e => by have := HBS.out _ e; omega)).cell 1; simp only [List.getElem?_cons_zero, List.getElem?_cons_succ] at e1)
                go_roundg g1
                case measure => omega
                case rel => exact ⟨false, some ⟨g8, 0, none⟩, c8, xs ++ [x], x.t, rfl, by simp, rfl, by rw [HG1.out], HRX, by simp; omega, by simpa [edgesF, Edge.cells] using hown8, (HU3.out.trans HUZ.out).then_ hu8 fun i e => .inr (by have := (HGE.out i e).1; omega)⟩
            · have f1 : (x.f == ai) = false := by simpa using hf
              have f2 : (x.f != ai) = true := by simpa using hf
              have HNX := Lib.hid (show (l.drop (k + 1)).find? (isR must pa pn ai false) = fo by rw [← hfi.out, edrop_findN hk HXK.out (by rw [isR_val f1 rfl rfl]; rfl)])
              clear hf f1
              go_wp2
              refine wp_region_noPanic ?_
              refine wp_region_held_drew (S := (fun W' => Upd No wx W')) (by kernel_rfl) ?_ (fun hHeld => ?_)
              · (first | exact (Upd.drew hxz) | exact hHeld)
              refine wpT 0 ⟨some 39, .fieldAddr 96 (.tmp 17) 0, 0, "ref.go:72", #[], none⟩ ?_ (.inl ⟨by rfl, ?_⟩) ?_
              rotate_left
              · (intro W hSw; (try dsimp only at hSw); go_simp; try (with_reducible rfl))
              try simp only [Act.put]
              try simp only [List.setIfInBounds_toArray]
              try simp only [List.set_cons_succ]
              try simp only [List.set_cons_zero]
              refine wpT 1 ⟨some 40, .load 3 (.tmp 39), 3, "ref.go:72", #[⟨0, .data⟩], none⟩ ?_ (.inl ⟨by rfl, ?_⟩) ?_
              rotate_left
              · (intro W hSw; (try dsimp only at hSw); go_simp; try (with_reducible rfl))
              try simp only [Act.put]
              try simp only [List.setIfInBounds_toArray]
              try simp only [List.set_cons_succ]
              try simp only [List.set_cons_zero]
              refine wpT 2 ⟨some 41, .move (.tmp 14), 3, "ref.go:72", #[], none⟩ ?_ (.inl ⟨by rfl, ?_⟩) ?_
              rotate_left
              · (intro W hSw; (try dsimp only at hSw); go_simp; try (with_reducible rfl))
              try simp only [Act.put]
              try simp only [List.setIfInBounds_toArray]
              try simp only [List.set_cons_succ]
              try simp only [List.set_cons_zero]
              refine wpT 3 ⟨some 42, .binOp .neq 3 (.tmp 40) (.tmp 41) 3, 4, "ref.go:72", #[⟨1, .data⟩, ⟨2, .data⟩], none⟩ ?_ (.inl ⟨by rfl, ?_⟩) ?_
              rotate_left
              · (intro W hSw; (try dsimp only at hSw); go_simp; try (with_reducible rfl))
              try simp only [Act.put]
              try simp only [List.setIfInBounds_toArray]
              try simp only [List.set_cons_succ]
              try simp only [List.set_cons_zero]
              refine wpT 4 ⟨some 43, .move (.tmp 42), 4, "ref.go:72", #[⟨3, .data⟩], none⟩ ?_ (.inl ⟨by rfl, ?_⟩) ?_
              rotate_left
              · (intro W hSw; (try dsimp only at hSw); go_simp; try (with_reducible rfl))
              try simp only [Act.put]
              try simp only [List.setIfInBounds_toArray]
              try simp only [List.set_cons_succ]
              try simp only [List.set_cons_zero]
              refine wpT 5 ⟨some 44, .move (.tmp 18), 4, "ref.go:72", #[⟨4, .guard⟩], some (4, false)⟩ undef (.inr ⟨by rfl, rfl⟩) ?_
              try simp only [Act.put]
              try simp only [List.setIfInBounds_toArray]
              try simp only [List.set_cons_succ]
              try simp only [List.set_cons_zero]
              refine wpT 6 ⟨some 45, .move (.tmp 44), 4, "ref.go:72", #[⟨5, .data⟩, ⟨4, .chain⟩, ⟨4, .guard⟩], some (4, false)⟩ undef (.inr ⟨by rfl, rfl⟩) ?_
              try simp only [Act.put]
              try simp only [List.setIfInBounds_toArray]
              try simp only [List.set_cons_succ]
              try simp only [List.set_cons_zero]
              refine wpT 7 ⟨some 46, .fieldAddr 186 (.tmp 7) 1, 0, "ref.go:72", #[⟨6, .guard⟩], some (6, true)⟩ undef (.inr ⟨by rfl, rfl⟩) ?_
              try simp only [Act.put]
              try simp only [List.setIfInBounds_toArray]
              try simp only [List.set_cons_succ]
              try simp only [List.set_cons_zero]
              refine wpT 8 ⟨some 47, .load 83 (.tmp 46), 83, "ref.go:72", #[⟨7, .data⟩, ⟨6, .guard⟩], some (6, true)⟩ undef (.inr ⟨by rfl, rfl⟩) ?_
              try simp only [Act.put]
              try simp only [List.setIfInBounds_toArray]
              try simp only [List.set_cons_succ]
              try simp only [List.set_cons_zero]
              refine wpT 9 ⟨some 48, .move (.tmp 15), 3, "ref.go:72", #[⟨6, .guard⟩], some (6, true)⟩ undef (.inr ⟨by rfl, rfl⟩) ?_
              try simp only [Act.put]
              try simp only [List.setIfInBounds_toArray]
              try simp only [List.set_cons_succ]
              try simp only [List.set_cons_zero]
              refine wpT 10 ⟨some 49, .binOp .sub 3 (.tmp 48) (.const (.int .i64 1)) 3, 3, "ref.go:72", #[⟨9, .data⟩, ⟨6, .guard⟩], some (6, true)⟩ undef (.inr ⟨by rfl, rfl⟩) ?_
              try simp only [Act.put]
              try simp only [List.setIfInBounds_toArray]
              try simp only [List.set_cons_succ]
              try simp only [List.set_cons_zero]
              refine wpT 11 ⟨some 50, .indexAddr 83 (.tmp 47) (.tmp 49), 0, "ref.go:72", #[⟨8, .data⟩, ⟨10, .data⟩, ⟨6, .guard⟩], some (6, true)⟩ undef (.inr ⟨by rfl, rfl⟩) ?_
              try simp only [Act.put]
              try simp only [List.setIfInBounds_toArray]
              try simp only [List.set_cons_succ]
              try simp only [List.set_cons_zero]
              refine wpT 12 ⟨some 51, .load 50 (.tmp 50), 50, "ref.go:72", #[⟨11, .data⟩, ⟨6, .guard⟩], some (6, true)⟩ undef (.inr ⟨by rfl, rfl⟩) ?_
              try simp only [Act.put]
              try simp only [List.setIfInBounds_toArray]
              try simp only [List.set_cons_succ]
              try simp only [List.set_cons_zero]
              refine wpT 13 ⟨some 52, .fieldAddr 96 (.tmp 17) 1, 0, "ref.go:72", #[⟨6, .guard⟩], some (6, true)⟩ undef (.inr ⟨by rfl, rfl⟩) ?_
              try simp only [Act.put]
              try simp only [List.setIfInBounds_toArray]
              try simp only [List.set_cons_succ]
              try simp only [List.set_cons_zero]
              refine wpT 14 ⟨some 53, .load 3 (.tmp 52), 3, "ref.go:72", #[⟨13, .data⟩, ⟨6, .guard⟩], some (6, true)⟩ undef (.inr ⟨by rfl, rfl⟩) ?_
              try simp only [Act.put]
              try simp only [List.setIfInBounds_toArray]
              try simp only [List.set_cons_succ]
              try simp only [List.set_cons_zero]
              refine wpAnyH_ready (rs := [15]) (by kernel_rfl) (by simp) ?_
              refine AllReadyH.cons (o := ⟨some 54, .call { callee := .value (.func 36), args := #[.tmp 51, .tmp 53], argTypes := #[50, 3] }, 4, "ref.go:72", #[⟨12, .data⟩, ⟨14, .data⟩, ⟨6, .chain⟩, ⟨6, .guard⟩], some (6, true)⟩) rfl (fun K hK => ?_) AllReadyH.nil
              go_simp
              refine hK.out _ _ ?_ (fun hHeld => ?_)
              · exact hHeld
              clear hK K
              try simp only [Act.put]
              try simp only [List.setIfInBounds_toArray]
              try simp only [List.set_cons_succ]
              try simp only [List.set_cons_zero]
              refine wpT 16 ⟨some 55, .unOp .not 4 (.tmp 54), 4, "ref.go:72", #[⟨15, .data⟩, ⟨6, .guard⟩], some (6, true)⟩ undef (.inr ⟨by rfl, rfl⟩) ?_
              try simp only [Act.put]
              try simp only [List.setIfInBounds_toArray]
              try simp only [List.set_cons_succ]
              try simp only [List.set_cons_zero]
              refine wpT 17 ⟨some 56, .pick (.tmp 45) (.tmp 55) (.const (.bool false)), 4, "ref.go:72", #[⟨6, .data⟩, ⟨16, .data⟩, ⟨4, .guard⟩], some (4, false)⟩ undef (.inr ⟨by rfl, rfl⟩) ?_
              try simp only [Act.put]
              try simp only [List.setIfInBounds_toArray]
              try simp only [List.set_cons_succ]
              try simp only [List.set_cons_zero]
              refine wpT 18 ⟨some 57, .pick (.tmp 43) (.const (.bool true)) (.tmp 56), 4, "ref.go:72", #[⟨4, .data⟩, ⟨17, .data⟩], none⟩ ?_ (.inl ⟨by rfl, ?_⟩) ?_
              rotate_left
              · (intro W hSw; (try dsimp only at hSw); go_simp; try (with_reducible rfl))
              try simp only [Act.put]
              try simp only [List.setIfInBounds_toArray]
              try simp only [List.set_cons_succ]
              try simp only [List.set_cons_zero]
              refine wpT 19 ⟨some 58, .move (.tmp 57), 4, "ref.go:72", #[⟨18, .data⟩, ⟨15, .chain⟩], none⟩ ?_ (.inl ⟨by rfl, ?_⟩) ?_
              rotate_left
              · (intro W hSw; (try dsimp only at hSw); go_simp; try (with_reducible rfl))
              try simp only [Act.put]
              try simp only [List.setIfInBounds_toArray]
              try simp only [List.set_cons_succ]
              try simp only [List.set_cons_zero]
              refine wpT 20 ⟨some 59, .move (.tmp 18), 4, "ref.go:72", #[⟨19, .guard⟩], some (19, false)⟩ undef (.inr ⟨by rfl, rfl⟩) ?_
              try simp only [Act.put]
              try simp only [List.setIfInBounds_toArray]
              try simp only [List.set_cons_succ]
              try simp only [List.set_cons_zero]
              refine wpT 21 ⟨some 60, .unOp .not 4 (.tmp 59), 4, "ref.go:72", #[⟨20, .data⟩, ⟨19, .guard⟩], some (19, false)⟩ undef (.inr ⟨by rfl, rfl⟩) ?_
              try simp only [Act.put]
              try simp only [List.setIfInBounds_toArray]
              try simp only [List.set_cons_succ]
              try simp only [List.set_cons_zero]
              refine wpT 22 ⟨some 61, .move (.tmp 60), 4, "ref.go:72", #[⟨21, .data⟩, ⟨19, .chain⟩, ⟨19, .guard⟩], some (19, false)⟩ undef (.inr ⟨by rfl, rfl⟩) ?_
              try simp only [Act.put]
              try simp only [List.setIfInBounds_toArray]
              try simp only [List.set_cons_succ]
              try simp only [List.set_cons_zero]
              refine wpT 23 ⟨some 62, .fieldAddr 186 (.tmp 7) 0, 0, "ref.go:72", #[⟨22, .guard⟩], some (22, true)⟩ undef (.inr ⟨by rfl, rfl⟩) ?_
              try simp only [Act.put]
              try simp only [List.setIfInBounds_toArray]
              try simp only [List.set_cons_succ]
              try simp only [List.set_cons_zero]
              refine wpT 24 ⟨some 63, .load 83 (.tmp 62), 83, "ref.go:72", #[⟨23, .data⟩, ⟨22, .guard⟩], some (22, true)⟩ undef (.inr ⟨by rfl, rfl⟩) ?_
              try simp only [Act.put]
              try simp only [List.setIfInBounds_toArray]
              try simp only [List.set_cons_succ]
              try simp only [List.set_cons_zero]
              refine wpT 25 ⟨some 64, .move (.tmp 15), 3, "ref.go:72", #[⟨22, .guard⟩], some (22, true)⟩ undef (.inr ⟨by rfl, rfl⟩) ?_
              try simp only [Act.put]
              try simp only [List.setIfInBounds_toArray]
              try simp only [List.set_cons_succ]
              try simp only [List.set_cons_zero]
              refine wpT 26 ⟨some 65, .binOp .sub 3 (.tmp 64) (.const (.int .i64 1)) 3, 3, "ref.go:72", #[⟨25, .data⟩, ⟨22, .guard⟩], some (22, true)⟩ undef (.inr ⟨by rfl, rfl⟩) ?_
              try simp only [Act.put]
              try simp only [List.setIfInBounds_toArray]
              try simp only [List.set_cons_succ]
              try simp only [List.set_cons_zero]
              refine wpT 27 ⟨some 66, .indexAddr 83 (.tmp 63) (.tmp 65), 0, "ref.go:72", #[⟨24, .data⟩, ⟨26, .data⟩, ⟨22, .guard⟩], some (22, true)⟩ undef (.inr ⟨by rfl, rfl⟩) ?_
              try simp only [Act.put]
              try simp only [List.setIfInBounds_toArray]
              try simp only [List.set_cons_succ]
              try simp only [List.set_cons_zero]
              refine wpT 28 ⟨some 67, .load 50 (.tmp 66), 50, "ref.go:72", #[⟨27, .data⟩, ⟨22, .guard⟩], some (22, true)⟩ undef (.inr ⟨by rfl, rfl⟩) ?_
              try simp only [Act.put]
              try simp only [List.setIfInBounds_toArray]
              try simp only [List.set_cons_succ]
              try simp only [List.set_cons_zero]
              refine wpT 29 ⟨some 68, .fieldAddr 96 (.tmp 17) 1, 0, "ref.go:72", #[⟨22, .guard⟩], some (22, true)⟩ undef (.inr ⟨by rfl, rfl⟩) ?_
              try simp only [Act.put]
              try simp only [List.setIfInBounds_toArray]
              try simp only [List.set_cons_succ]
              try simp only [List.set_cons_zero]
              refine wpT 30 ⟨some 69, .load 3 (.tmp 68), 3, "ref.go:72", #[⟨29, .data⟩, ⟨22, .guard⟩], some (22, true)⟩ undef (.inr ⟨by rfl, rfl⟩) ?_
              try simp only [Act.put]
              try simp only [List.setIfInBounds_toArray]
              try simp only [List.set_cons_succ]
              try simp only [List.set_cons_zero]
              refine wpAnyH_ready (rs := [31]) (by kernel_rfl) (by simp) ?_
              refine AllReadyH.cons (o := ⟨some 70, .call { callee := .value (.func 36), args := #[.tmp 67, .tmp 69], argTypes := #[50, 3] }, 4, "ref.go:72", #[⟨28, .data⟩, ⟨30, .data⟩, ⟨22, .chain⟩, ⟨22, .guard⟩], some (22, true)⟩) rfl (fun K hK => ?_) AllReadyH.nil
              go_simp
              refine hK.out _ _ ?_ (fun hHeld => ?_)
              · exact hHeld
              clear hK K
              try simp only [Act.put]
              try simp only [List.setIfInBounds_toArray]
              try simp only [List.set_cons_succ]
              try simp only [List.set_cons_zero]
              refine wpT 32 ⟨some 71, .unOp .not 4 (.tmp 70), 4, "ref.go:72", #[⟨31, .data⟩, ⟨22, .guard⟩], some (22, true)⟩ undef (.inr ⟨by rfl, rfl⟩) ?_
              try simp only [Act.put]
              try simp only [List.setIfInBounds_toArray]
              try simp only [List.set_cons_succ]
              try simp only [List.set_cons_zero]
              refine wpT 33 ⟨some 72, .pick (.tmp 61) (.tmp 71) (.const (.bool false)), 4, "ref.go:72", #[⟨22, .data⟩, ⟨32, .data⟩, ⟨19, .guard⟩], some (19, false)⟩ undef (.inr ⟨by rfl, rfl⟩) ?_
              try simp only [Act.put]
              try simp only [List.setIfInBounds_toArray]
              try simp only [List.set_cons_succ]
              try simp only [List.set_cons_zero]
              refine wpT 34 ⟨some 73, .pick (.tmp 58) (.const (.bool true)) (.tmp 72), 4, "ref.go:72", #[⟨19, .data⟩, ⟨33, .data⟩], none⟩ ?_ (.inl ⟨by rfl, ?_⟩) ?_
              rotate_left
              · (intro W hSw; (try dsimp only at hSw); go_simp; try (with_reducible rfl))
              try simp only [Act.put]
              try simp only [List.setIfInBounds_toArray]
              try simp only [List.set_cons_succ]
              try simp only [List.set_cons_zero]
              refine wpAnyH_done (by kernel_rfl) (NoPanic.normal ?_) _
              go_wp2
              go_roundg (gk - 1)
              case measure => omega
              case rel => exact ⟨k + 1, by omega, by go_num, rfl, rfl, rfl, HNX, HUW.out.trans hHeld⟩
          · cases hbk : bitR must x.k
            · have HB5 := Lib.hid (rbit27v wx must x.k hbk)
              have HBK := Lib.hid hbk
              clear hbk
              go_wp2_with fail
              refine (HB5.out).mono ?_
              rintro e w5 ⟨rfl, hxz⟩
              by_cases hf : x.f = ai
              · have f1 : (x.f == ai) = true := by simpa using hf
                have f2 : (x.f != ai) = false := by simpa using hf
                cases htn : decide (x.t ∈ pn)
                · have HIN := Lib.hid (fun (W : World) (u : Upd No wx W) => rin01u W _ Q cq pn x.t (HQ.out W u) (by have := HLN.out; omega) htn)
                  have HNX := Lib.hid (show (l.drop (k + 1)).find? (isR must pa pn ai true) = fo by rw [← hfi.out, edrop_findN hk HXK.out (by rw [isR_val f1 (show (true && !bitR must x.k) = true by rw [HBK.out]; rfl) (c1 := false) (by rw [if_pos rfl]; exact htn)]; rfl)])
                  clear hf f1 htn
                  go_wp2
                  refine wp_region_noPanic ?_
                  refine wp_region_held_drew (S := (fun W' => Upd No wx W')) (by kernel_rfl) ?_ (fun hHeld => ?_)
                  · (first | exact (Upd.drew hxz) | exact hHeld.trans hu4 | exact hHeld)
                  refine wpT 0 ⟨some 39, .fieldAddr 96 (.tmp 17) 0, 0, "ref.go:72", #[], none⟩ ?_ (.inl ⟨by rfl, ?_⟩) ?_
                  rotate_left
                  · (intro W hSw; (try dsimp only at hSw); go_simp; try (with_reducible rfl))
                  try simp only [Act.put]
                  try simp only [List.setIfInBounds_toArray]
                  try simp only [List.set_cons_succ]
                  try simp only [List.set_cons_zero]
                  refine wpT 1 ⟨some 40, .load 3 (.tmp 39), 3, "ref.go:72", #[⟨0, .data⟩], none⟩ ?_ (.inl ⟨by rfl, ?_⟩) ?_
                  rotate_left
                  · (intro W hSw; (try dsimp only at hSw); go_simp; try (with_reducible rfl))
                  try simp only [Act.put]
                  try simp only [List.setIfInBounds_toArray]
                  try simp only [List.set_cons_succ]
                  try simp only [List.set_cons_zero]
                  refine wpT 2 ⟨some 41, .move (.tmp 14), 3, "ref.go:72", #[], none⟩ ?_ (.inl ⟨by rfl, ?_⟩) ?_
                  rotate_left
                  · (intro W hSw; (try dsimp only at hSw); go_simp; try (with_reducible rfl))
                  try simp only [Act.put]
                  try simp only [List.setIfInBounds_toArray]
                  try simp only [List.set_cons_succ]
                  try simp only [List.set_cons_zero]
                  refine wpT 3 ⟨some 42, .binOp .neq 3 (.tmp 40) (.tmp 41) 3, 4, "ref.go:72", #[⟨1, .data⟩, ⟨2, .data⟩], none⟩ ?_ (.inl ⟨by rfl, ?_⟩) ?_
                  rotate_left
                  · (intro W hSw; (try dsimp only at hSw); go_simp; try (with_reducible rfl))
                  try simp only [Act.put]
                  try simp only [List.setIfInBounds_toArray]
                  try simp only [List.set_cons_succ]
                  try simp only [List.set_cons_zero]
                  refine wpT 4 ⟨some 43, .move (.tmp 42), 4, "ref.go:72", #[⟨3, .data⟩], none⟩ ?_ (.inl ⟨by rfl, ?_⟩) ?_
                  rotate_left
                  · (intro W hSw; (try dsimp only at hSw); go_simp; try (with_reducible rfl))
                  try simp only [Act.put]
                  try simp only [List.setIfInBounds_toArray]
                  try simp only [List.set_cons_succ]
                  try simp only [List.set_cons_zero]
                  refine wpT 5 ⟨some 44, .move (.tmp 18), 4, "ref.go:72", #[⟨4, .guard⟩], some (4, false)⟩ ?_ (.inl ⟨by rfl, ?_⟩) ?_
                  rotate_left
                  · (intro W hSw; (try dsimp only at hSw); go_simp; try (with_reducible rfl))
                  try simp only [Act.put]
                  try simp only [List.setIfInBounds_toArray]
                  try simp only [List.set_cons_succ]
                  try simp only [List.set_cons_zero]
                  refine wpT 6 ⟨some 45, .move (.tmp 44), 4, "ref.go:72", #[⟨5, .data⟩, ⟨4, .chain⟩, ⟨4, .guard⟩], some (4, false)⟩ ?_ (.inl ⟨by rfl, ?_⟩) ?_
                  rotate_left
                  · (intro W hSw; (try dsimp only at hSw); go_simp; try (with_reducible rfl))
                  try simp only [Act.put]
                  try simp only [List.setIfInBounds_toArray]
                  try simp only [List.set_cons_succ]
                  try simp only [List.set_cons_zero]
                  refine wpT 7 ⟨some 46, .fieldAddr 186 (.tmp 7) 1, 0, "ref.go:72", #[⟨6, .guard⟩], some (6, true)⟩ ?_ (.inl ⟨by rfl, ?_⟩) ?_
                  rotate_left
                  · (intro W hSw; (try dsimp only at hSw); go_simp; try (with_reducible rfl))
                  try simp only [Act.put]
                  try simp only [List.setIfInBounds_toArray]
                  try simp only [List.set_cons_succ]
                  try simp only [List.set_cons_zero]
                  refine wpT 8 ⟨some 47, .load 83 (.tmp 46), 83, "ref.go:72", #[⟨7, .data⟩, ⟨6, .guard⟩], some (6, true)⟩ ?_ (.inl ⟨by rfl, ?_⟩) ?_
                  rotate_left
                  · (intro W hSw; (try dsimp only at hSw); go_simp; try (with_reducible rfl))
                  try simp only [Act.put]
                  try simp only [List.setIfInBounds_toArray]
                  try simp only [List.set_cons_succ]
                  try simp only [List.set_cons_zero]
                  refine wpT 9 ⟨some 48, .move (.tmp 15), 3, "ref.go:72", #[⟨6, .guard⟩], some (6, true)⟩ ?_ (.inl ⟨by rfl, ?_⟩) ?_
                  rotate_left
                  · (intro W hSw; (try dsimp only at hSw); go_simp; try (with_reducible rfl))
                  try simp only [Act.put]
                  try simp only [List.setIfInBounds_toArray]
                  try simp only [List.set_cons_succ]
                  try simp only [List.set_cons_zero]
                  refine wpT 10 ⟨some 49, .binOp .sub 3 (.tmp 48) (.const (.int .i64 1)) 3, 3, "ref.go:72", #[⟨9, .data⟩, ⟨6, .guard⟩], some (6, true)⟩ ?_ (.inl ⟨by rfl, ?_⟩) ?_
                  rotate_left
                  · (intro W hSw; (try dsimp only at hSw); go_simp; try (with_reducible rfl))
                  try simp only [Act.put]
                  try simp only [List.setIfInBounds_toArray]
                  try simp only [List.set_cons_succ]
                  try simp only [List.set_cons_zero]
                  refine wpT 11 ⟨some 50, .indexAddr 83 (.tmp 47) (.tmp 49), 0, "ref.go:72", #[⟨8, .data⟩, ⟨10, .data⟩, ⟨6, .guard⟩], some (6, true)⟩ ?_ (.inl ⟨by rfl, ?_⟩) ?_
                  rotate_left
                  · (intro W hSw; (try dsimp only at hSw); go_simp; try (with_reducible rfl))
                  try simp only [Act.put]
                  try simp only [List.setIfInBounds_toArray]
                  try simp only [List.set_cons_succ]
                  try simp only [List.set_cons_zero]
                  refine wpT 12 ⟨some 51, .load 50 (.tmp 50), 50, "ref.go:72", #[⟨11, .data⟩, ⟨6, .guard⟩], some (6, true)⟩ ?_ (.inl ⟨by rfl, ?_⟩) ?_
                  rotate_left
                  · (intro W hSw; (try dsimp only at hSw); go_simp; try (with_reducible rfl))
                  try simp only [Act.put]
                  try simp only [List.setIfInBounds_toArray]
                  try simp only [List.set_cons_succ]
                  try simp only [List.set_cons_zero]
                  refine wpT 13 ⟨some 52, .fieldAddr 96 (.tmp 17) 1, 0, "ref.go:72", #[⟨6, .guard⟩], some (6, true)⟩ ?_ (.inl ⟨by rfl, ?_⟩) ?_
                  rotate_left
                  · (intro W hSw; (try dsimp only at hSw); go_simp; try (with_reducible rfl))
                  try simp only [Act.put]
                  try simp only [List.setIfInBounds_toArray]
                  try simp only [List.set_cons_succ]
                  try simp only [List.set_cons_zero]
                  refine wpT 14 ⟨some 53, .load 3 (.tmp 52), 3, "ref.go:72", #[⟨13, .data⟩, ⟨6, .guard⟩], some (6, true)⟩ ?_ (.inl ⟨by rfl, ?_⟩) ?_
                  rotate_left
                  · (intro W hSw; (try dsimp only at hSw); go_simp; try (with_reducible rfl))
                  try simp only [Act.put]
                  try simp only [List.setIfInBounds_toArray]
                  try simp only [List.set_cons_succ]
                  try simp only [List.set_cons_zero]
                  refine wpAnyH_ready (rs := [15]) (by kernel_rfl) (by simp) ?_
                  refine AllReadyH.cons (o := ⟨some 54, .call { callee := .value (.func 36), args := #[.tmp 51, .tmp 53], argTypes := #[50, 3] }, 4, "ref.go:72", #[⟨12, .data⟩, ⟨14, .data⟩, ⟨6, .chain⟩, ⟨6, .guard⟩], some (6, true)⟩) rfl (fun K hK => ?_) AllReadyH.nil
                  go_simp
                  (first
    | (go_at_call 36; refine (HIN.out _ hHeld).mono ?_; rintro e w4 ⟨rfl, hu4⟩))
                  try (go_wp2_with fail)
                  refine hK.out _ _ ?_ (fun hHeld => ?_)
                  · (first | exact (Upd.drew hxz) | exact hHeld.trans hu4 | exact hHeld)
                  clear hK K
                  try simp only [Act.put]
                  try simp only [List.setIfInBounds_toArray]
                  try simp only [List.set_cons_succ]
                  try simp only [List.set_cons_zero]
                  refine wpT 16 ⟨some 55, .unOp .not 4 (.tmp 54), 4, "ref.go:72", #[⟨15, .data⟩, ⟨6, .guard⟩], some (6, true)⟩ ?_ (.inl ⟨by rfl, ?_⟩) ?_
                  rotate_left
                  · (intro W hSw; (try dsimp only at hSw); go_simp; try (with_reducible rfl))
                  try simp only [Act.put]
                  try simp only [List.setIfInBounds_toArray]
                  try simp only [List.set_cons_succ]
                  try simp only [List.set_cons_zero]
                  refine wpT 17 ⟨some 56, .pick (.tmp 45) (.tmp 55) (.const (.bool false)), 4, "ref.go:72", #[⟨6, .data⟩, ⟨16, .data⟩, ⟨4, .guard⟩], some (4, false)⟩ ?_ (.inl ⟨by rfl, ?_⟩) ?_
                  rotate_left
                  · (intro W hSw; (try dsimp only at hSw); go_simp; try (with_reducible rfl))
                  try simp only [Act.put]
                  try simp only [List.setIfInBounds_toArray]
                  try simp only [List.set_cons_succ]
                  try simp only [List.set_cons_zero]
                  refine wpT 18 ⟨some 57, .pick (.tmp 43) (.const (.bool true)) (.tmp 56), 4, "ref.go:72", #[⟨4, .data⟩, ⟨17, .data⟩], none⟩ ?_ (.inl ⟨by rfl, ?_⟩) ?_
                  rotate_left
                  · (intro W hSw; (try dsimp only at hSw); go_simp; try (with_reducible rfl))
                  try simp only [Act.put]
                  try simp only [List.setIfInBounds_toArray]
                  try simp only [List.set_cons_succ]
                  try simp only [List.set_cons_zero]
                  refine wpT 19 ⟨some 58, .move (.tmp 57), 4, "ref.go:72", #[⟨18, .data⟩, ⟨15, .chain⟩], none⟩ ?_ (.inl ⟨by rfl, ?_⟩) ?_
                  rotate_left
                  · (intro W hSw; (try dsimp only at hSw); go_simp; try (with_reducible rfl))
                  try simp only [Act.put]
                  try simp only [List.setIfInBounds_toArray]
                  try simp only [List.set_cons_succ]
                  try simp only [List.set_cons_zero]
                  refine wpT 20 ⟨some 59, .move (.tmp 18), 4, "ref.go:72", #[⟨19, .guard⟩], some (19, false)⟩ undef (.inr ⟨by rfl, rfl⟩) ?_
                  try simp only [Act.put]
                  try simp only [List.setIfInBounds_toArray]
                  try simp only [List.set_cons_succ]
                  try simp only [List.set_cons_zero]
                  refine wpT 21 ⟨some 60, .unOp .not 4 (.tmp 59), 4, "ref.go:72", #[⟨20, .data⟩, ⟨19, .guard⟩], some (19, false)⟩ undef (.inr ⟨by rfl, rfl⟩) ?_
                  try simp only [Act.put]
                  try simp only [List.setIfInBounds_toArray]
                  try simp only [List.set_cons_succ]
                  try simp only [List.set_cons_zero]
                  refine wpT 22 ⟨some 61, .move (.tmp 60), 4, "ref.go:72", #[⟨21, .data⟩, ⟨19, .chain⟩, ⟨19, .guard⟩], some (19, false)⟩ undef (.inr ⟨by rfl, rfl⟩) ?_
                  try simp only [Act.put]
                  try simp only [List.setIfInBounds_toArray]
                  try simp only [List.set_cons_succ]
                  try simp only [List.set_cons_zero]
                  refine wpT 23 ⟨some 62, .fieldAddr 186 (.tmp 7) 0, 0, "ref.go:72", #[⟨22, .guard⟩], some (22, true)⟩ undef (.inr ⟨by rfl, rfl⟩) ?_
                  try simp only [Act.put]
                  try simp only [List.setIfInBounds_toArray]
                  try simp only [List.set_cons_succ]
                  try simp only [List.set_cons_zero]
                  refine wpT 24 ⟨some 63, .load 83 (.tmp 62), 83, "ref.go:72", #[⟨23, .data⟩, ⟨22, .guard⟩], some (22, true)⟩ undef (.inr ⟨by rfl, rfl⟩) ?_
                  try simp only [Act.put]
                  try simp only [List.setIfInBounds_toArray]
                  try simp only [List.set_cons_succ]
                  try simp only [List.set_cons_zero]
                  refine wpT 25 ⟨some 64, .move (.tmp 15), 3, "ref.go:72", #[⟨22, .guard⟩], some (22, true)⟩ undef (.inr ⟨by rfl, rfl⟩) ?_
                  try simp only [Act.put]
                  try simp only [List.setIfInBounds_toArray]
                  try simp only [List.set_cons_succ]
                  try simp only [List.set_cons_zero]
                  refine wpT 26 ⟨some 65, .binOp .sub 3 (.tmp 64) (.const (.int .i64 1)) 3, 3, "ref.go:72", #[⟨25, .data⟩, ⟨22, .guard⟩], some (22, true)⟩ undef (.inr ⟨by rfl, rfl⟩) ?_
                  try simp only [Act.put]
                  try simp only [List.setIfInBounds_toArray]
                  try simp only [List.set_cons_succ]
                  try simp only [List.set_cons_zero]
                  refine wpT 27 ⟨some 66, .indexAddr 83 (.tmp 63) (.tmp 65), 0, "ref.go:72", #[⟨24, .data⟩, ⟨26, .data⟩, ⟨22, .guard⟩], some (22, true)⟩ undef (.inr ⟨by rfl, rfl⟩) ?_
                  try simp only [Act.put]
                  try simp only [List.setIfInBounds_toArray]
                  try simp only [List.set_cons_succ]
                  try simp only [List.set_cons_zero]
                  refine wpT 28 ⟨some 67, .load 50 (.tmp 66), 50, "ref.go:72", #[⟨27, .data⟩, ⟨22, .guard⟩], some (22, true)⟩ undef (.inr ⟨by rfl, rfl⟩) ?_
                  try simp only [Act.put]
                  try simp only [List.setIfInBounds_toArray]
                  try simp only [List.set_cons_succ]
                  try simp only [List.set_cons_zero]
                  refine wpT 29 ⟨some 68, .fieldAddr 96 (.tmp 17) 1, 0, "ref.go:72", #[⟨22, .guard⟩], some (22, true)⟩ undef (.inr ⟨by rfl, rfl⟩) ?_
                  try simp only [Act.put]
                  try simp only [List.setIfInBounds_toArray]
                  try simp only [List.set_cons_succ]
                  try simp only [List.set_cons_zero]
                  refine wpT 30 ⟨some 69, .load 3 (.tmp 68), 3, "ref.go:72", #[⟨29, .data⟩, ⟨22, .guard⟩], some (22, true)⟩ undef (.inr ⟨by rfl, rfl⟩) ?_
                  try simp only [Act.put]
                  try simp only [List.setIfInBounds_toArray]
                  try simp only [List.set_cons_succ]
                  try simp only [List.set_cons_zero]
                  refine wpAnyH_ready (rs := [31]) (by kernel_rfl) (by simp) ?_
                  refine AllReadyH.cons (o := ⟨some 70, .call { callee := .value (.func 36), args := #[.tmp 67, .tmp 69], argTypes := #[50, 3] }, 4, "ref.go:72", #[⟨28, .data⟩, ⟨30, .data⟩, ⟨22, .chain⟩, ⟨22, .guard⟩], some (22, true)⟩) rfl (fun K hK => ?_) AllReadyH.nil
                  go_simp
                  refine hK.out _ _ ?_ (fun hHeld => ?_)
                  · exact hHeld
                  clear hK K
                  try simp only [Act.put]
                  try simp only [List.setIfInBounds_toArray]
                  try simp only [List.set_cons_succ]
                  try simp only [List.set_cons_zero]
                  refine wpT 32 ⟨some 71, .unOp .not 4 (.tmp 70), 4, "ref.go:72", #[⟨31, .data⟩, ⟨22, .guard⟩], some (22, true)⟩ undef (.inr ⟨by rfl, rfl⟩) ?_
                  try simp only [Act.put]
                  try simp only [List.setIfInBounds_toArray]
                  try simp only [List.set_cons_succ]
                  try simp only [List.set_cons_zero]
                  refine wpT 33 ⟨some 72, .pick (.tmp 61) (.tmp 71) (.const (.bool false)), 4, "ref.go:72", #[⟨22, .data⟩, ⟨32, .data⟩, ⟨19, .guard⟩], some (19, false)⟩ undef (.inr ⟨by rfl, rfl⟩) ?_
                  try simp only [Act.put]
                  try simp only [List.setIfInBounds_toArray]
                  try simp only [List.set_cons_succ]
                  try simp only [List.set_cons_zero]
                  refine wpT 34 ⟨some 73, .pick (.tmp 58) (.const (.bool true)) (.tmp 72), 4, "ref.go:72", #[⟨19, .data⟩, ⟨33, .data⟩], none⟩ ?_ (.inl ⟨by rfl, ?_⟩) ?_
                  rotate_left
                  · (intro W hSw; (try dsimp only at hSw); go_simp; try (with_reducible rfl))
                  try simp only [Act.put]
                  try simp only [List.setIfInBounds_toArray]
                  try simp only [List.set_cons_succ]
                  try simp only [List.set_cons_zero]
                  refine wpAnyH_done (by kernel_rfl) (NoPanic.normal ?_) _
                  go_wp2
                  go_roundg (gk - 1)
                  case measure => omega
                  case rel => exact ⟨k + 1, by omega, by go_num, rfl, rfl, rfl, HNX, HUW.out.trans hHeld⟩
                · have HIN := Lib.hid (fun (W : World) (u : Upd No wx W) => rin01u W _ Q cq pn x.t (HQ.out W u) (by have := HLN.out; omega) htn)
                  have HFX := Lib.hid (show fo = some x by rw [← hfi.out, edrop_findY hk HXK.out (by rw [isR_val f1 (show (true && !bitR must x.k) = true by rw [HBK.out]; rfl) (c1 := true) (by rw [if_pos rfl]; exact htn)]; rfl)])
                  have HRX := Lib.hid (show (xs ++ [x]) ++ firstR must l f g1 x.t true = R by
                    have := HR2.out
                    rw [← hgg, firstR_some (by rw [HPA.out, HPN.out, HFO.out, HFX.out]), (show (true && !bitR must x.k) = true by rw [HBK.out]; rfl)] at this
                    rw [List.append_assoc]
                    exact this)
                  clear hf f1 htn
                  go_wp2
                  refine wp_region_noPanic ?_
                  refine wp_region_held_drew (S := (fun W' => Upd No wx W')) (by kernel_rfl) ?_ (fun hHeld => ?_)
                  · (first | exact (Upd.drew hxz) | exact hHeld.trans hu4 | exact hHeld)
                  refine wpT 0 ⟨some 39, .fieldAddr 96 (.tmp 17) 0, 0, "ref.go:72", #[], none⟩ ?_ (.inl ⟨by rfl, ?_⟩) ?_
                  rotate_left
                  · (intro W hSw; (try dsimp only at hSw); go_simp; try (with_reducible rfl))
                  try simp only [Act.put]
                  try simp only [List.setIfInBounds_toArray]
                  try simp only [List.set_cons_succ]
                  try simp only [List.set_cons_zero]
                  refine wpT 1 ⟨some 40, .load 3 (.tmp 39), 3, "ref.go:72", #[⟨0, .data⟩], none⟩ ?_ (.inl ⟨by rfl, ?_⟩) ?_
                  rotate_left
                  · (intro W hSw; (try dsimp only at hSw); go_simp; try (with_reducible rfl))
                  try simp only [Act.put]
                  try simp only [List.setIfInBounds_toArray]
                  try simp only [List.set_cons_succ]
                  try simp only [List.set_cons_zero]
                  refine wpT 2 ⟨some 41, .move (.tmp 14), 3, "ref.go:72", #[], none⟩ ?_ (.inl ⟨by rfl, ?_⟩) ?_
                  rotate_left
                  · (intro W hSw; (try dsimp only at hSw); go_simp; try (with_reducible rfl))
                  try simp only [Act.put]
                  try simp only [List.setIfInBounds_toArray]
                  try simp only [List.set_cons_succ]
                  try simp only [List.set_cons_zero]
                  refine wpT 3 ⟨some 42, .binOp .neq 3 (.tmp 40) (.tmp 41) 3, 4, "ref.go:72", #[⟨1, .data⟩, ⟨2, .data⟩], none⟩ ?_ (.inl ⟨by rfl, ?_⟩) ?_
                  rotate_left
                  · (intro W hSw; (try dsimp only at hSw); go_simp; try (with_reducible rfl))
                  try simp only [Act.put]
                  try simp only [List.setIfInBounds_toArray]
                  try simp only [List.set_cons_succ]
                  try simp only [List.set_cons_zero]
                  refine wpT 4 ⟨some 43, .move (.tmp 42), 4, "ref.go:72", #[⟨3, .data⟩], none⟩ ?_ (.inl ⟨by rfl, ?_⟩) ?_
                  rotate_left
                  · (intro W hSw; (try dsimp only at hSw); go_simp; try (with_reducible rfl))
                  try simp only [Act.put]
                  try simp only [List.setIfInBounds_toArray]
                  try simp only [List.set_cons_succ]
                  try simp only [List.set_cons_zero]
                  refine wpT 5 ⟨some 44, .move (.tmp 18), 4, "ref.go:72", #[⟨4, .guard⟩], some (4, false)⟩ ?_ (.inl ⟨by rfl, ?_⟩) ?_
                  rotate_left
                  · (intro W hSw; (try dsimp only at hSw); go_simp; try (with_reducible rfl))
                  try simp only [Act.put]
                  try simp only [List.setIfInBounds_toArray]
                  try simp only [List.set_cons_succ]
                  try simp only [List.set_cons_zero]
                  refine wpT 6 ⟨some 45, .move (.tmp 44), 4, "ref.go:72", #[⟨5, .data⟩, ⟨4, .chain⟩, ⟨4, .guard⟩], some (4, false)⟩ ?_ (.inl ⟨by rfl, ?_⟩) ?_
                  rotate_left
                  · (intro W hSw; (try dsimp only at hSw); go_simp; try (with_reducible rfl))
                  try simp only [Act.put]
                  try simp only [List.setIfInBounds_toArray]
                  try simp only [List.set_cons_succ]
                  try simp only [List.set_cons_zero]
                  refine wpT 7 ⟨some 46, .fieldAddr 186 (.tmp 7) 1, 0, "ref.go:72", #[⟨6, .guard⟩], some (6, true)⟩ ?_ (.inl ⟨by rfl, ?_⟩) ?_
                  rotate_left
                  · (intro W hSw; (try dsimp only at hSw); go_simp; try (with_reducible rfl))
                  try simp only [Act.put]
                  try simp only [List.setIfInBounds_toArray]
                  try simp only [List.set_cons_succ]
                  try simp only [List.set_cons_zero]
                  refine wpT 8 ⟨some 47, .load 83 (.tmp 46), 83, "ref.go:72", #[⟨7, .data⟩, ⟨6, .guard⟩], some (6, true)⟩ ?_ (.inl ⟨by rfl, ?_⟩) ?_
                  rotate_left
                  · (intro W hSw; (try dsimp only at hSw); go_simp; try (with_reducible rfl))
                  try simp only [Act.put]
                  try simp only [List.setIfInBounds_toArray]
                  try simp only [List.set_cons_succ]
                  try simp only [List.set_cons_zero]
                  refine wpT 9 ⟨some 48, .move (.tmp 15), 3, "ref.go:72", #[⟨6, .guard⟩], some (6, true)⟩ ?_ (.inl ⟨by rfl, ?_⟩) ?_
                  rotate_left
                  · (intro W hSw; (try dsimp only at hSw); go_simp; try (with_reducible rfl))
                  try simp only [Act.put]
                  try simp only [List.setIfInBounds_toArray]
                  try simp only [List.set_cons_succ]
                  try simp only [List.set_cons_zero]
                  refine wpT 10 ⟨some 49, .binOp .sub 3 (.tmp 48) (.const (.int .i64 1)) 3, 3, "ref.go:72", #[⟨9, .data⟩, ⟨6, .guard⟩], some (6, true)⟩ ?_ (.inl ⟨by rfl, ?_⟩) ?_
                  rotate_left
                  · (intro W hSw; (try dsimp only at hSw); go_simp; try (with_reducible rfl))
                  try simp only [Act.put]
                  try simp only [List.setIfInBounds_toArray]
                  try simp only [List.set_cons_succ]
                  try simp only [List.set_cons_zero]
                  refine wpT 11 ⟨some 50, .indexAddr 83 (.tmp 47) (.tmp 49), 0, "ref.go:72", #[⟨8, .data⟩, ⟨10, .data⟩, ⟨6, .guard⟩], some (6, true)⟩ ?_ (.inl ⟨by rfl, ?_⟩) ?_
                  rotate_left
                  · (intro W hSw; (try dsimp only at hSw); go_simp; try (with_reducible rfl))
                  try simp only [Act.put]
                  try simp only [List.setIfInBounds_toArray]
                  try simp only [List.set_cons_succ]
                  try simp only [List.set_cons_zero]
                  refine wpT 12 ⟨some 51, .load 50 (.tmp 50), 50, "ref.go:72", #[⟨11, .data⟩, ⟨6, .guard⟩], some (6, true)⟩ ?_ (.inl ⟨by rfl, ?_⟩) ?_
                  rotate_left
                  · (intro W hSw; (try dsimp only at hSw); go_simp; try (with_reducible rfl))
                  try simp only [Act.put]
                  try simp only [List.setIfInBounds_toArray]
                  try simp only [List.set_cons_succ]
                  try simp only [List.set_cons_zero]
                  refine wpT 13 ⟨some 52, .fieldAddr 96 (.tmp 17) 1, 0, "ref.go:72", #[⟨6, .guard⟩], some (6, true)⟩ ?_ (.inl ⟨by rfl, ?_⟩) ?_
                  rotate_left
                  · (intro W hSw; (try dsimp only at hSw); go_simp; try (with_reducible rfl))
                  try simp only [Act.put]
                  try simp only [List.setIfInBounds_toArray]
                  try simp only [List.set_cons_succ]
                  try simp only [List.set_cons_zero]
                  refine wpT 14 ⟨some 53, .load 3 (.tmp 52), 3, "ref.go:72", #[⟨13, .data⟩, ⟨6, .guard⟩], some (6, true)⟩ ?_ (.inl ⟨by rfl, ?_⟩) ?_
                  rotate_left
                  · (intro W hSw; (try dsimp only at hSw); go_simp; try (with_reducible rfl))
                  try simp only [Act.put]
                  try simp only [List.setIfInBounds_toArray]
                  try simp only [List.set_cons_succ]
                  try simp only [List.set_cons_zero]
                  refine wpAnyH_ready (rs := [15]) (by kernel_rfl) (by simp) ?_
                  refine AllReadyH.cons (o := ⟨some 54, .call { callee := .value (.func 36), args := #[.tmp 51, .tmp 53], argTypes := #[50, 3] }, 4, "ref.go:72", #[⟨12, .data⟩, ⟨14, .data⟩, ⟨6, .chain⟩, ⟨6, .guard⟩], some (6, true)⟩) rfl (fun K hK => ?_) AllReadyH.nil
                  go_simp
                  (first
    | (go_at_call 36; refine (HIN.out _ hHeld).mono ?_; rintro e w4 ⟨rfl, hu4⟩))
                  try (go_wp2_with fail)
                  refine hK.out _ _ ?_ (fun hHeld => ?_)
                  · (first | exact (Upd.drew hxz) | exact hHeld.trans hu4 | exact hHeld)
                  clear hK K
                  try simp only [Act.put]
                  try simp only [List.setIfInBounds_toArray]
                  try simp only [List.set_cons_succ]
                  try simp only [List.set_cons_zero]
                  refine wpT 16 ⟨some 55, .unOp .not 4 (.tmp 54), 4, "ref.go:72", #[⟨15, .data⟩, ⟨6, .guard⟩], some (6, true)⟩ ?_ (.inl ⟨by rfl, ?_⟩) ?_
                  rotate_left
                  · (intro W hSw; (try dsimp only at hSw); go_simp; try (with_reducible rfl))
                  try simp only [Act.put]
                  try simp only [List.setIfInBounds_toArray]
                  try simp only [List.set_cons_succ]
                  try simp only [List.set_cons_zero]
                  refine wpT 17 ⟨some 56, .pick (.tmp 45) (.tmp 55) (.const (.bool false)), 4, "ref.go:72", #[⟨6, .data⟩, ⟨16, .data⟩, ⟨4, .guard⟩], some (4, false)⟩ ?_ (.inl ⟨by rfl, ?_⟩) ?_
                  rotate_left
                  · (intro W hSw; (try dsimp only at hSw); go_simp; try (with_reducible rfl))
                  try simp only [Act.put]
                  try simp only [List.setIfInBounds_toArray]
                  try simp only [List.set_cons_succ]
                  try simp only [List.set_cons_zero]
                  refine wpT 18 ⟨some 57, .pick (.tmp 43) (.const (.bool true)) (.tmp 56), 4, "ref.go:72", #[⟨4, .data⟩, ⟨17, .data⟩], none⟩ ?_ (.inl ⟨by rfl, ?_⟩) ?_
                  rotate_left
                  · (intro W hSw; (try dsimp only at hSw); go_simp; try (with_reducible rfl))
                  try simp only [Act.put]
                  try simp only [List.setIfInBounds_toArray]
                  try simp only [List.set_cons_succ]
                  try simp only [List.set_cons_zero]
                  refine wpT 19 ⟨some 58, .move (.tmp 57), 4, "ref.go:72", #[⟨18, .data⟩, ⟨15, .chain⟩], none⟩ ?_ (.inl ⟨by rfl, ?_⟩) ?_
                  rotate_left
                  · (intro W hSw; (try dsimp only at hSw); go_simp; try (with_reducible rfl))
                  try simp only [Act.put]
                  try simp only [List.setIfInBounds_toArray]
                  try simp only [List.set_cons_succ]
                  try simp only [List.set_cons_zero]
                  refine wpT 20 ⟨some 59, .move (.tmp 18), 4, "ref.go:72", #[⟨19, .guard⟩], some (19, false)⟩ ?_ (.inl ⟨by rfl, ?_⟩) ?_
                  rotate_left
                  · (intro W hSw; (try dsimp only at hSw); go_simp; try (with_reducible rfl))
                  try simp only [Act.put]
                  try simp only [List.setIfInBounds_toArray]
                  try simp only [List.set_cons_succ]
                  try simp only [List.set_cons_zero]
                  refine wpT 21 ⟨some 60, .unOp .not 4 (.tmp 59), 4, "ref.go:72", #[⟨20, .data⟩, ⟨19, .guard⟩], some (19, false)⟩ ?_ (.inl ⟨by rfl, ?_⟩) ?_
                  rotate_left
                  · (intro W hSw; (try dsimp only at hSw); go_simp; try (with_reducible rfl))
                  try simp only [Act.put]
                  try simp only [List.setIfInBounds_toArray]
                  try simp only [List.set_cons_succ]
                  try simp only [List.set_cons_zero]
                  refine wpT 22 ⟨some 61, .move (.tmp 60), 4, "ref.go:72", #[⟨21, .data⟩, ⟨19, .chain⟩, ⟨19, .guard⟩], some (19, false)⟩ ?_ (.inl ⟨by rfl, ?_⟩) ?_
                  rotate_left
                  · (intro W hSw; (try dsimp only at hSw); go_simp; try (with_reducible rfl))
                  try simp only [Act.put]
                  try simp only [List.setIfInBounds_toArray]
                  try simp only [List.set_cons_succ]
                  try simp only [List.set_cons_zero]
                  refine wpT 23 ⟨some 62, .fieldAddr 186 (.tmp 7) 0, 0, "ref.go:72", #[⟨22, .guard⟩], some (22, true)⟩ undef (.inr ⟨by rfl, rfl⟩) ?_
                  try simp only [Act.put]
                  try simp only [List.setIfInBounds_toArray]
                  try simp only [List.set_cons_succ]
                  try simp only [List.set_cons_zero]
                  refine wpT 24 ⟨some 63, .load 83 (.tmp 62), 83, "ref.go:72", #[⟨23, .data⟩, ⟨22, .guard⟩], some (22, true)⟩ undef (.inr ⟨by rfl, rfl⟩) ?_
                  try simp only [Act.put]
                  try simp only [List.setIfInBounds_toArray]
                  try simp only [List.set_cons_succ]
                  try simp only [List.set_cons_zero]
                  refine wpT 25 ⟨some 64, .move (.tmp 15), 3, "ref.go:72", #[⟨22, .guard⟩], some (22, true)⟩ undef (.inr ⟨by rfl, rfl⟩) ?_
                  try simp only [Act.put]
                  try simp only [List.setIfInBounds_toArray]
                  try simp only [List.set_cons_succ]
                  try simp only [List.set_cons_zero]
                  refine wpT 26 ⟨some 65, .binOp .sub 3 (.tmp 64) (.const (.int .i64 1)) 3, 3, "ref.go:72", #[⟨25, .data⟩, ⟨22, .guard⟩], some (22, true)⟩ undef (.inr ⟨by rfl, rfl⟩) ?_
                  try simp only [Act.put]
                  try simp only [List.setIfInBounds_toArray]
                  try simp only [List.set_cons_succ]
                  try simp only [List.set_cons_zero]
                  refine wpT 27 ⟨some 66, .indexAddr 83 (.tmp 63) (.tmp 65), 0, "ref.go:72", #[⟨24, .data⟩, ⟨26, .data⟩, ⟨22, .guard⟩], some (22, true)⟩ undef (.inr ⟨by rfl, rfl⟩) ?_
                  try simp only [Act.put]
                  try simp only [List.setIfInBounds_toArray]
                  try simp only [List.set_cons_succ]
                  try simp only [List.set_cons_zero]
                  refine wpT 28 ⟨some 67, .load 50 (.tmp 66), 50, "ref.go:72", #[⟨27, .data⟩, ⟨22, .guard⟩], some (22, true)⟩ undef (.inr ⟨by rfl, rfl⟩) ?_
                  try simp only [Act.put]
                  try simp only [List.setIfInBounds_toArray]
                  try simp only [List.set_cons_succ]
                  try simp only [List.set_cons_zero]
                  refine wpT 29 ⟨some 68, .fieldAddr 96 (.tmp 17) 1, 0, "ref.go:72", #[⟨22, .guard⟩], some (22, true)⟩ undef (.inr ⟨by rfl, rfl⟩) ?_
                  try simp only [Act.put]
                  try simp only [List.setIfInBounds_toArray]
                  try simp only [List.set_cons_succ]
                  try simp only [List.set_cons_zero]
                  refine wpT 30 ⟨some 69, .load 3 (.tmp 68), 3, "ref.go:72", #[⟨29, .data⟩, ⟨22, .guard⟩], some (22, true)⟩ undef (.inr ⟨by rfl, rfl⟩) ?_
                  try simp only [Act.put]
                  try simp only [List.setIfInBounds_toArray]
                  try simp only [List.set_cons_succ]
                  try simp only [List.set_cons_zero]
                  refine wpAnyH_ready (rs := [31]) (by kernel_rfl) (by simp) ?_
                  refine AllReadyH.cons (o := ⟨some 70, .call { callee := .value (.func 36), args := #[.tmp 67, .tmp 69], argTypes := #[50, 3] }, 4, "ref.go:72", #[⟨28, .data⟩, ⟨30, .data⟩, ⟨22, .chain⟩, ⟨22, .guard⟩], some (22, true)⟩) rfl (fun K hK => ?_) AllReadyH.nil
                  go_simp
                  refine hK.out _ _ ?_ (fun hHeld => ?_)
                  · exact hHeld
                  clear hK K
                  try simp only [Act.put]
                  try simp only [List.setIfInBounds_toArray]
                  try simp only [List.set_cons_succ]
                  try simp only [List.set_cons_zero]
                  refine wpT 32 ⟨some 71, .unOp .not 4 (.tmp 70), 4, "ref.go:72", #[⟨31, .data⟩, ⟨22, .guard⟩], some (22, true)⟩ undef (.inr ⟨by rfl, rfl⟩) ?_
                  try simp only [Act.put]
                  try simp only [List.setIfInBounds_toArray]
                  try simp only [List.set_cons_succ]
                  try simp only [List.set_cons_zero]
                  refine wpT 33 ⟨some 72, .pick (.tmp 61) (.tmp 71) (.const (.bool false)), 4, "ref.go:72", #[⟨22, .data⟩, ⟨32, .data⟩, ⟨19, .guard⟩], some (19, false)⟩ ?_ (.inl ⟨by rfl, ?_⟩) ?_
                  rotate_left
                  · (intro W hSw; (try dsimp only at hSw); go_simp; try (with_reducible rfl))
                  try simp only [Act.put]
                  try simp only [List.setIfInBounds_toArray]
                  try simp only [List.set_cons_succ]
                  try simp only [List.set_cons_zero]
                  refine wpT 34 ⟨some 73, .pick (.tmp 58) (.const (.bool true)) (.tmp 72), 4, "ref.go:72", #[⟨19, .data⟩, ⟨33, .data⟩], none⟩ ?_ (.inl ⟨by rfl, ?_⟩) ?_
                  rotate_left
                  · (intro W hSw; (try dsimp only at hSw); go_simp; try (with_reducible rfl))
                  try simp only [Act.put]
                  try simp only [List.setIfInBounds_toArray]
                  try simp only [List.set_cons_succ]
                  try simp only [List.set_cons_zero]
                  refine wpAnyH_done (by kernel_rfl) (NoPanic.normal ?_) _
                  have hx4 : Upd No wx w4 := hHeld
                  clear hHeld hu4
                  have hown4 := own_upd HO3.out (huw3.trans hx4) (fun _ _ => id)
                  have HGE := Lib.hid (fun i e => (hown4.lt i e))
                  have HBX := Lib.hid (HBO.out w4 hx4)
                  have HLE := Lib.hid (edgesF_len xs)
                  have hzz := (HUW.out.trans hx4).size
                  have HUZ := Lib.hid (HUW.out.trans hx4)
                  have hlw := HLT.out
                  have hzb := HU3.out.size
                  have HBS := Lib.hid (fun i (e : Own (.slice A5 xs.length c5) i) => (HO3.out.lt i e).2)
                  go_wp2_with (at_builtin; refine app1s rfl rfl slt_edges (v := .slice A5 xs.length c5) (n := xs.length) (xs := edgesF xs) (cells := [.int .i64 x.f, .int .i64 x.t, .int .i64 x.k, .int .i64 x.key]) (by rfl) rfl hown4 rfl rfl (by omega) (by omega) (by omega) ?_; intro g8 c8 w8 hown8 hu8 hg8 hlt8; have e1 := (HBX.out.upd hu8 (fun e => by have := HBS.out _ e; omega)).cell 1; simp only [List.getElem?_cons_zero, List.getElem?_cons_succ] at e1)
                  go_roundg g1
                  case measure => omega
                  case rel => exact ⟨true, some ⟨g8, 0, none⟩, c8, xs ++ [x], x.t, rfl, by simp, rfl, by rw [HG1.out], HRX, by simp; omega, by simpa [edgesF, Edge.cells] using hown8, (HU3.out.trans HUZ.out).then_ hu8 fun i e => .inr (by have := (HGE.out i e).1; omega)⟩
              · have f1 : (x.f == ai) = false := by simpa using hf
                have f2 : (x.f != ai) = true := by simpa using hf
                have HNX := Lib.hid (show (l.drop (k + 1)).find? (isR must pa pn ai true) = fo by rw [← hfi.out, edrop_findN hk HXK.out (by rw [isR_val f1 rfl rfl]; rfl)])
                clear hf f1
                go_wp2
                refine wp_region_noPanic ?_
                refine wp_region_held_drew (S := (fun W' => Upd No wx W')) (by kernel_rfl) ?_ (fun hHeld => ?_)
                · (first | exact (Upd.drew hxz) | exact hHeld)
                refine wpT 0 ⟨some 39, .fieldAddr 96 (.tmp 17) 0, 0, "ref.go:72", #[], none⟩ ?_ (.inl ⟨by rfl, ?_⟩) ?_
                rotate_left
                · (intro W hSw; (try dsimp only at hSw); go_simp; try (with_reducible rfl))
                try simp only [Act.put]
                try simp only [List.setIfInBounds_toArray]
                try simp only [List.set_cons_succ]
                try simp only [List.set_cons_zero]
                refine wpT 1 ⟨some 40, .load 3 (.tmp 39), 3, "ref.go:72", #[⟨0, .data⟩], none⟩ ?_ (.inl ⟨by rfl, ?_⟩) ?_
                rotate_left
                · (intro W hSw; (try dsimp only at hSw); go_simp; try (with_reducible rfl))
                try simp only [Act.put]
                try simp only [List.setIfInBounds_toArray]
                try simp only [List.set_cons_succ]
                try simp only [List.set_cons_zero]
                refine wpT 2 ⟨some 41, .move (.tmp 14), 3, "ref.go:72", #[], none⟩ ?_ (.inl ⟨by rfl, ?_⟩) ?_
                rotate_left
                · (intro W hSw; (try dsimp only at hSw); go_simp; try (with_reducible rfl))
                try simp only [Act.put]
                try simp only [List.setIfInBounds_toArray]
                try simp only [List.set_cons_succ]
                try simp only [List.set_cons_zero]
                refine wpT 3 ⟨some 42, .binOp .neq 3 (.tmp 40) (.tmp 41) 3, 4, "ref.go:72", #[⟨1, .data⟩, ⟨2, .data⟩], none⟩ ?_ (.inl ⟨by rfl, ?_⟩) ?_
                rotate_left
                · (intro W hSw; (try dsimp only at hSw); go_simp; try (with_reducible rfl))
                try simp only [Act.put]
                try simp only [List.setIfInBounds_toArray]
                try simp only [List.set_cons_succ]
                try simp only [List.set_cons_zero]
                refine wpT 4 ⟨some 43, .move (.tmp 42), 4, "ref.go:72", #[⟨3, .data⟩], none⟩ ?_ (.inl ⟨by rfl, ?_⟩) ?_
                rotate_left
                · (intro W hSw; (try dsimp only at hSw); go_simp; try (with_reducible rfl))
                try simp only [Act.put]
                try simp only [List.setIfInBounds_toArray]
                try simp only [List.set_cons_succ]
                try simp only [List.set_cons_zero]
                refine wpT 5 ⟨some 44, .move (.tmp 18), 4, "ref.go:72", #[⟨4, .guard⟩], some (4, false)⟩ undef (.inr ⟨by rfl, rfl⟩) ?_
                try simp only [Act.put]
                try simp only [List.setIfInBounds_toArray]
                try simp only [List.set_cons_succ]
                try simp only [List.set_cons_zero]
                refine wpT 6 ⟨some 45, .move (.tmp 44), 4, "ref.go:72", #[⟨5, .data⟩, ⟨4, .chain⟩, ⟨4, .guard⟩], some (4, false)⟩ undef (.inr ⟨by rfl, rfl⟩) ?_
                try simp only [Act.put]
                try simp only [List.setIfInBounds_toArray]
                try simp only [List.set_cons_succ]
                try simp only [List.set_cons_zero]
                refine wpT 7 ⟨some 46, .fieldAddr 186 (.tmp 7) 1, 0, "ref.go:72", #[⟨6, .guard⟩], some (6, true)⟩ undef (.inr ⟨by rfl, rfl⟩) ?_
                try simp only [Act.put]
                try simp only [List.setIfInBounds_toArray]
                try simp only [List.set_cons_succ]
                try simp only [List.set_cons_zero]
                refine wpT 8 ⟨some 47, .load 83 (.tmp 46), 83, "ref.go:72", #[⟨7, .data⟩, ⟨6, .guard⟩], some (6, true)⟩ undef (.inr ⟨by rfl, rfl⟩) ?_
                try simp only [Act.put]
                try simp only [List.setIfInBounds_toArray]
                try simp only [List.set_cons_succ]
                try simp only [List.set_cons_zero]
                refine wpT 9 ⟨some 48, .move (.tmp 15), 3, "ref.go:72", #[⟨6, .guard⟩], some (6, true)⟩ undef (.inr ⟨by rfl, rfl⟩) ?_
                try simp only [Act.put]
                try simp only [List.setIfInBounds_toArray]
                try simp only [List.set_cons_succ]
                try simp only [List.set_cons_zero]
                refine wpT 10 ⟨some 49, .binOp .sub 3 (.tmp 48) (.const (.int .i64 1)) 3, 3, "ref.go:72", #[⟨9, .data⟩, ⟨6, .guard⟩], some (6, true)⟩ undef (.inr ⟨by rfl, rfl⟩) ?_
                try simp only [Act.put]
                try simp only [List.setIfInBounds_toArray]
                try simp only [List.set_cons_succ]
                try simp only [List.set_cons_zero]
                refine wpT 11 ⟨some 50, .indexAddr 83 (.tmp 47) (.tmp 49), 0, "ref.go:72", #[⟨8, .data⟩, ⟨10, .data⟩, ⟨6, .guard⟩], some (6, true)⟩ undef (.inr ⟨by rfl, rfl⟩) ?_
                try simp only [Act.put]
                try simp only [List.setIfInBounds_toArray]
                try simp only [List.set_cons_succ]
                try simp only [List.set_cons_zero]
                refine wpT 12 ⟨some 51, .load 50 (.tmp 50), 50, "ref.go:72", #[⟨11, .data⟩, ⟨6, .guard⟩], some (6, true)⟩ undef (.inr ⟨by rfl, rfl⟩) ?_
                try simp only [Act.put]
                try simp only [List.setIfInBounds_toArray]
                try simp only [List.set_cons_succ]
                try simp only [List.set_cons_zero]
                refine wpT 13 ⟨some 52, .fieldAddr 96 (.tmp 17) 1, 0, "ref.go:72", #[⟨6, .guard⟩], some (6, true)⟩ undef (.inr ⟨by rfl, rfl⟩) ?_
                try simp only [Act.put]
                try simp only [List.setIfInBounds_toArray]
                try simp only [List.set_cons_succ]
                try simp only [List.set_cons_zero]
                refine wpT 14 ⟨some 53, .load 3 (.tmp 52), 3, "ref.go:72", #[⟨13, .data⟩, ⟨6, .guard⟩], some (6, true)⟩ undef (.inr ⟨by rfl, rfl⟩) ?_
                try simp only [Act.put]
                try simp only [List.setIfInBounds_toArray]
                try simp only [List.set_cons_succ]
                try simp only [List.set_cons_zero]
                refine wpAnyH_ready (rs := [15]) (by kernel_rfl) (by simp) ?_
                refine AllReadyH.cons (o := ⟨some 54, .call { callee := .value (.func 36), args := #[.tmp 51, .tmp 53], argTypes := #[50, 3] }, 4, "ref.go:72", #[⟨12, .data⟩, ⟨14, .data⟩, ⟨6, .chain⟩, ⟨6, .guard⟩], some (6, true)⟩) rfl (fun K hK => ?_) AllReadyH.nil
                go_simp
                refine hK.out _ _ ?_ (fun hHeld => ?_)
                · exact hHeld
                clear hK K
                try simp only [Act.put]
                try simp only [List.setIfInBounds_toArray]
                try simp only [List.set_cons_succ]
                try simp only [List.set_cons_zero]
                refine wpT 16 ⟨some 55, .unOp .not 4 (.tmp 54), 4, "ref.go:72", #[⟨15, .data⟩, ⟨6, .guard⟩], some (6, true)⟩ undef (.inr ⟨by rfl, rfl⟩) ?_
                try simp only [Act.put]
                try simp only [List.setIfInBounds_toArray]
                try simp only [List.set_cons_succ]
                try simp only [List.set_cons_zero]
                refine wpT 17 ⟨some 56, .pick (.tmp 45) (.tmp 55) (.const (.bool false)), 4, "ref.go:72", #[⟨6, .data⟩, ⟨16, .data⟩, ⟨4, .guard⟩], some (4, false)⟩ undef (.inr ⟨by rfl, rfl⟩) ?_
                try simp only [Act.put]
                try simp only [List.setIfInBounds_toArray]
                try simp only [List.set_cons_succ]
                try simp only [List.set_cons_zero]
                refine wpT 18 ⟨some 57, .pick (.tmp 43) (.const (.bool true)) (.tmp 56), 4, "ref.go:72", #[⟨4, .data⟩, ⟨17, .data⟩], none⟩ ?_ (.inl ⟨by rfl, ?_⟩) ?_
                rotate_left
                · (intro W hSw; (try dsimp only at hSw); go_simp; try (with_reducible rfl))
                try simp only [Act.put]
                try simp only [List.setIfInBounds_toArray]
                try simp only [List.set_cons_succ]
                try simp only [List.set_cons_zero]
                refine wpT 19 ⟨some 58, .move (.tmp 57), 4, "ref.go:72", #[⟨18, .data⟩, ⟨15, .chain⟩], none⟩ ?_ (.inl ⟨by rfl, ?_⟩) ?_
                rotate_left
                · (intro W hSw; (try dsimp only at hSw); go_simp; try (with_reducible rfl))
                try simp only [Act.put]
                try simp only [List.setIfInBounds_toArray]
                try simp only [List.set_cons_succ]
                try simp only [List.set_cons_zero]
                refine wpT 20 ⟨some 59, .move (.tmp 18), 4, "ref.go:72", #[⟨19, .guard⟩], some (19, false)⟩ undef (.inr ⟨by rfl, rfl⟩) ?_
                try simp only [Act.put]
                try simp only [List.setIfInBounds_toArray]
                try simp only [List.set_cons_succ]
                try simp only [List.set_cons_zero]
                refine wpT 21 ⟨some 60, .unOp .not 4 (.tmp 59), 4, "ref.go:72", #[⟨20, .data⟩, ⟨19, .guard⟩], some (19, false)⟩ undef (.inr ⟨by rfl, rfl⟩) ?_
                try simp only [Act.put]
                try simp only [List.setIfInBounds_toArray]
                try simp only [List.set_cons_succ]
                try simp only [List.set_cons_zero]
                refine wpT 22 ⟨some 61, .move (.tmp 60), 4, "ref.go:72", #[⟨21, .data⟩, ⟨19, .chain⟩, ⟨19, .guard⟩], some (19, false)⟩ undef (.inr ⟨by rfl, rfl⟩) ?_
                try simp only [Act.put]
                try simp only [List.setIfInBounds_toArray]
                try simp only [List.set_cons_succ]
                try simp only [List.set_cons_zero]
                refine wpT 23 ⟨some 62, .fieldAddr 186 (.tmp 7) 0, 0, "ref.go:72", #[⟨22, .guard⟩], some (22, true)⟩ undef (.inr ⟨by rfl, rfl⟩) ?_
                try simp only [Act.put]
                try simp only [List.setIfInBounds_toArray]
                try simp only [List.set_cons_succ]
                try simp only [List.set_cons_zero]
                refine wpT 24 ⟨some 63, .load 83 (.tmp 62), 83, "ref.go:72", #[⟨23, .data⟩, ⟨22, .guard⟩], some (22, true)⟩ undef (.inr ⟨by rfl, rfl⟩) ?_
                try simp only [Act.put]
                try simp only [List.setIfInBounds_toArray]
                try simp only [List.set_cons_succ]
                try simp only [List.set_cons_zero]
                refine wpT 25 ⟨some 64, .move (.tmp 15), 3, "ref.go:72", #[⟨22, .guard⟩], some (22, true)⟩ undef (.inr ⟨by rfl, rfl⟩) ?_
                try simp only [Act.put]
                try simp only [List.setIfInBounds_toArray]
                try simp only [List.set_cons_succ]
                try simp only [List.set_cons_zero]
                refine wpT 26 ⟨some 65, .binOp .sub 3 (.tmp 64) (.const (.int .i64 1)) 3, 3, "ref.go:72", #[⟨25, .data⟩, ⟨22, .guard⟩], some (22, true)⟩ undef (.inr ⟨by rfl, rfl⟩) ?_
                try simp only [Act.put]
                try simp only [List.setIfInBounds_toArray]
                try simp only [List.set_cons_succ]
                try simp only [List.set_cons_zero]
                refine wpT 27 ⟨some 66, .indexAddr 83 (.tmp 63) (.tmp 65), 0, "ref.go:72", #[⟨24, .data⟩, ⟨26, .data⟩, ⟨22, .guard⟩], some (22, true)⟩ undef (.inr ⟨by rfl, rfl⟩) ?_
                try simp only [Act.put]
                try simp only [List.setIfInBounds_toArray]
                try simp only [List.set_cons_succ]
                try simp only [List.set_cons_zero]
                refine wpT 28 ⟨some 67, .load 50 (.tmp 66), 50, "ref.go:72", #[⟨27, .data⟩, ⟨22, .guard⟩], some (22, true)⟩ undef (.inr ⟨by rfl, rfl⟩) ?_
                try simp only [Act.put]
                try simp only [List.setIfInBounds_toArray]
                try simp only [List.set_cons_succ]
                try simp only [List.set_cons_zero]
                refine wpT 29 ⟨some 68, .fieldAddr 96 (.tmp 17) 1, 0, "ref.go:72", #[⟨22, .guard⟩], some (22, true)⟩ undef (.inr ⟨by rfl, rfl⟩) ?_
                try simp only [Act.put]
                try simp only [List.setIfInBounds_toArray]
                try simp only [List.set_cons_succ]
                try simp only [List.set_cons_zero]
                refine wpT 30 ⟨some 69, .load 3 (.tmp 68), 3, "ref.go:72", #[⟨29, .data⟩, ⟨22, .guard⟩], some (22, true)⟩ undef (.inr ⟨by rfl, rfl⟩) ?_
                try simp only [Act.put]
                try simp only [List.setIfInBounds_toArray]
                try simp only [List.set_cons_succ]
                try simp only [List.set_cons_zero]
                refine wpAnyH_ready (rs := [31]) (by kernel_rfl) (by simp) ?_
                refine AllReadyH.cons (o := ⟨some 70, .call { callee := .value (.func 36), args := #[.tmp 67, .tmp 69], argTypes := #[50, 3] }, 4, "ref.go:72", #[⟨28, .data⟩, ⟨30, .data⟩, ⟨22, .chain⟩, ⟨22, .guard⟩], some (22, true)⟩) rfl (fun K hK => ?_) AllReadyH.nil
                go_simp
                refine hK.out _ _ ?_ (fun hHeld => ?_)
                · exact hHeld
                clear hK K
                try simp only [Act.put]
                try simp only [List.setIfInBounds_toArray]
                try simp only [List.set_cons_succ]
                try simp only [List.set_cons_zero]
                refine wpT 32 ⟨some 71, .unOp .not 4 (.tmp 70), 4, "ref.go:72", #[⟨31, .data⟩, ⟨22, .guard⟩], some (22, true)⟩ undef (.inr ⟨by rfl, rfl⟩) ?_
                try simp only [Act.put]
                try simp only [List.setIfInBounds_toArray]
                try simp only [List.set_cons_succ]
                try simp only [List.set_cons_zero]
                refine wpT 33 ⟨some 72, .pick (.tmp 61) (.tmp 71) (.const (.bool false)), 4, "ref.go:72", #[⟨22, .data⟩, ⟨32, .data⟩, ⟨19, .guard⟩], some (19, false)⟩ undef (.inr ⟨by rfl, rfl⟩) ?_
                try simp only [Act.put]
                try simp only [List.setIfInBounds_toArray]
                try simp only [List.set_cons_succ]
                try simp only [List.set_cons_zero]
                refine wpT 34 ⟨some 73, .pick (.tmp 58) (.const (.bool true)) (.tmp 72), 4, "ref.go:72", #[⟨19, .data⟩, ⟨33, .data⟩], none⟩ ?_ (.inl ⟨by rfl, ?_⟩) ?_
                rotate_left
                · (intro W hSw; (try dsimp only at hSw); go_simp; try (with_reducible rfl))
                try simp only [Act.put]
                try simp only [List.setIfInBounds_toArray]
                try simp only [List.set_cons_succ]
                try simp only [List.set_cons_zero]
                refine wpAnyH_done (by kernel_rfl) (NoPanic.normal ?_) _
                go_wp2
                go_roundg (gk - 1)
                case measure => omega
                case rel => exact ⟨k + 1, by omega, by go_num, rfl, rfl, rfl, HNX, HUW.out.trans hHeld⟩
            · have HB5 := Lib.hid (rbit27v wx must x.k hbk)
              have HBK := Lib.hid hbk
              clear hbk
              go_wp2_with fail
              refine (HB5.out).mono ?_
              rintro e w5 ⟨rfl, hxz⟩
              by_cases hf : x.f = ai
              · have f1 : (x.f == ai) = true := by simpa using hf
                have f2 : (x.f != ai) = false := by simpa using hf
                cases htn : decide (x.t ∈ pa)
                · have HIN := Lib.hid (fun (W : World) (u : Upd No wx W) => rin01u W _ P cp pa x.t (HPP.out W u) (by have := HLN.out; omega) htn)
                  have HNX := Lib.hid (show (l.drop (k + 1)).find? (isR must pa pn ai true) = fo by rw [← hfi.out, edrop_findN hk HXK.out (by rw [isR_val f1 (show (true && !bitR must x.k) = false by rw [HBK.out]; rfl) (c1 := false) (by rw [if_neg (by decide)]; exact htn)]; rfl)])
                  clear hf f1 htn
                  go_wp2
                  refine wp_region_noPanic ?_
                  refine wp_region_held_drew (S := (fun W' => Upd No wx W')) (by kernel_rfl) ?_ (fun hHeld => ?_)
                  · (first | exact (Upd.drew hxz) | exact hHeld.trans hu4 | exact hHeld)
                  refine wpT 0 ⟨some 39, .fieldAddr 96 (.tmp 17) 0, 0, "ref.go:72", #[], none⟩ ?_ (.inl ⟨by rfl, ?_⟩) ?_
                  rotate_left
                  · (intro W hSw; (try dsimp only at hSw); go_simp; try (with_reducible rfl))
                  try simp only [Act.put]
                  try simp only [List.setIfInBounds_toArray]
                  try simp only [List.set_cons_succ]
                  try simp only [List.set_cons_zero]
                  refine wpT 1 ⟨some 40, .load 3 (.tmp 39), 3, "ref.go:72", #[⟨0, .data⟩], none⟩ ?_ (.inl ⟨by rfl, ?_⟩) ?_
                  rotate_left
                  · (intro W hSw; (try dsimp only at hSw); go_simp; try (with_reducible rfl))
                  try simp only [Act.put]
                  try simp only [List.setIfInBounds_toArray]
                  try simp only [List.set_cons_succ]
                  try simp only [List.set_cons_zero]
                  refine wpT 2 ⟨some 41, .move (.tmp 14), 3, "ref.go:72", #[], none⟩ ?_ (.inl ⟨by rfl, ?_⟩) ?_
                  rotate_left
                  · (intro W hSw; (try dsimp only at hSw); go_simp; try (with_reducible rfl))
                  try simp only [Act.put]
                  try simp only [List.setIfInBounds_toArray]
                  try simp only [List.set_cons_succ]
                  try simp only [List.set_cons_zero]
                  refine wpT 3 ⟨some 42, .binOp .neq 3 (.tmp 40) (.tmp 41) 3, 4, "ref.go:72", #[⟨1, .data⟩, ⟨2, .data⟩], none⟩ ?_ (.inl ⟨by rfl, ?_⟩) ?_
                  rotate_left
                  · (intro W hSw; (try dsimp only at hSw); go_simp; try (with_reducible rfl))
                  try simp only [Act.put]
                  try simp only [List.setIfInBounds_toArray]
                  try simp only [List.set_cons_succ]
                  try simp only [List.set_cons_zero]
                  refine wpT 4 ⟨some 43, .move (.tmp 42), 4, "ref.go:72", #[⟨3, .data⟩], none⟩ ?_ (.inl ⟨by rfl, ?_⟩) ?_
                  rotate_left
                  · (intro W hSw; (try dsimp only at hSw); go_simp; try (with_reducible rfl))
                  try simp only [Act.put]
                  try simp only [List.setIfInBounds_toArray]
                  try simp only [List.set_cons_succ]
                  try simp only [List.set_cons_zero]
                  refine wpT 5 ⟨some 44, .move (.tmp 18), 4, "ref.go:72", #[⟨4, .guard⟩], some (4, false)⟩ ?_ (.inl ⟨by rfl, ?_⟩) ?_
                  rotate_left
                  · (intro W hSw; (try dsimp only at hSw); go_simp; try (with_reducible rfl))
                  try simp only [Act.put]
                  try simp only [List.setIfInBounds_toArray]
                  try simp only [List.set_cons_succ]
                  try simp only [List.set_cons_zero]
                  refine wpT 6 ⟨some 45, .move (.tmp 44), 4, "ref.go:72", #[⟨5, .data⟩, ⟨4, .chain⟩, ⟨4, .guard⟩], some (4, false)⟩ ?_ (.inl ⟨by rfl, ?_⟩) ?_
                  rotate_left
                  · (intro W hSw; (try dsimp only at hSw); go_simp; try (with_reducible rfl))
                  try simp only [Act.put]
                  try simp only [List.setIfInBounds_toArray]
                  try simp only [List.set_cons_succ]
                  try simp only [List.set_cons_zero]
                  refine wpT 7 ⟨some 46, .fieldAddr 186 (.tmp 7) 1, 0, "ref.go:72", #[⟨6, .guard⟩], some (6, true)⟩ undef (.inr ⟨by rfl, rfl⟩) ?_
                  try simp only [Act.put]
                  try simp only [List.setIfInBounds_toArray]
                  try simp only [List.set_cons_succ]
                  try simp only [List.set_cons_zero]
                  refine wpT 8 ⟨some 47, .load 83 (.tmp 46), 83, "ref.go:72", #[⟨7, .data⟩, ⟨6, .guard⟩], some (6, true)⟩ undef (.inr ⟨by rfl, rfl⟩) ?_
                  try simp only [Act.put]
                  try simp only [List.setIfInBounds_toArray]
                  try simp only [List.set_cons_succ]
                  try simp only [List.set_cons_zero]
                  refine wpT 9 ⟨some 48, .move (.tmp 15), 3, "ref.go:72", #[⟨6, .guard⟩], some (6, true)⟩ undef (.inr ⟨by rfl, rfl⟩) ?_
                  try simp only [Act.put]
                  try simp only [List.setIfInBounds_toArray]
                  try simp only [List.set_cons_succ]
                  try simp only [List.set_cons_zero]
                  refine wpT 10 ⟨some 49, .binOp .sub 3 (.tmp 48) (.const (.int .i64 1)) 3, 3, "ref.go:72", #[⟨9, .data⟩, ⟨6, .guard⟩], some (6, true)⟩ undef (.inr ⟨by rfl, rfl⟩) ?_
                  try simp only [Act.put]
                  try simp only [List.setIfInBounds_toArray]
                  try simp only [List.set_cons_succ]
                  try simp only [List.set_cons_zero]
                  refine wpT 11 ⟨some 50, .indexAddr 83 (.tmp 47) (.tmp 49), 0, "ref.go:72", #[⟨8, .data⟩, ⟨10, .data⟩, ⟨6, .guard⟩], some (6, true)⟩ undef (.inr ⟨by rfl, rfl⟩) ?_
                  try simp only [Act.put]
                  try simp only [List.setIfInBounds_toArray]
                  try simp only [List.set_cons_succ]
                  try simp only [List.set_cons_zero]
                  refine wpT 12 ⟨some 51, .load 50 (.tmp 50), 50, "ref.go:72", #[⟨11, .data⟩, ⟨6, .guard⟩], some (6, true)⟩ undef (.inr ⟨by rfl, rfl⟩) ?_
                  try simp only [Act.put]
                  try simp only [List.setIfInBounds_toArray]
                  try simp only [List.set_cons_succ]
                  try simp only [List.set_cons_zero]
                  refine wpT 13 ⟨some 52, .fieldAddr 96 (.tmp 17) 1, 0, "ref.go:72", #[⟨6, .guard⟩], some (6, true)⟩ undef (.inr ⟨by rfl, rfl⟩) ?_
                  try simp only [Act.put]
                  try simp only [List.setIfInBounds_toArray]
                  try simp only [List.set_cons_succ]
                  try simp only [List.set_cons_zero]
                  refine wpT 14 ⟨some 53, .load 3 (.tmp 52), 3, "ref.go:72", #[⟨13, .data⟩, ⟨6, .guard⟩], some (6, true)⟩ undef (.inr ⟨by rfl, rfl⟩) ?_
                  try simp only [Act.put]
                  try simp only [List.setIfInBounds_toArray]
                  try simp only [List.set_cons_succ]
                  try simp only [List.set_cons_zero]
                  refine wpAnyH_ready (rs := [15]) (by kernel_rfl) (by simp) ?_
                  refine AllReadyH.cons (o := ⟨some 54, .call { callee := .value (.func 36), args := #[.tmp 51, .tmp 53], argTypes := #[50, 3] }, 4, "ref.go:72", #[⟨12, .data⟩, ⟨14, .data⟩, ⟨6, .chain⟩, ⟨6, .guard⟩], some (6, true)⟩) rfl (fun K hK => ?_) AllReadyH.nil
                  go_simp
                  refine hK.out _ _ ?_ (fun hHeld => ?_)
                  · exact hHeld
                  clear hK K
                  try simp only [Act.put]
                  try simp only [List.setIfInBounds_toArray]
                  try simp only [List.set_cons_succ]
                  try simp only [List.set_cons_zero]
                  refine wpT 16 ⟨some 55, .unOp .not 4 (.tmp 54), 4, "ref.go:72", #[⟨15, .data⟩, ⟨6, .guard⟩], some (6, true)⟩ undef (.inr ⟨by rfl, rfl⟩) ?_
                  try simp only [Act.put]
                  try simp only [List.setIfInBounds_toArray]
                  try simp only [List.set_cons_succ]
                  try simp only [List.set_cons_zero]
                  refine wpT 17 ⟨some 56, .pick (.tmp 45) (.tmp 55) (.const (.bool false)), 4, "ref.go:72", #[⟨6, .data⟩, ⟨16, .data⟩, ⟨4, .guard⟩], some (4, false)⟩ ?_ (.inl ⟨by rfl, ?_⟩) ?_
                  rotate_left
                  · (intro W hSw; (try dsimp only at hSw); go_simp; try (with_reducible rfl))
                  try simp only [Act.put]
                  try simp only [List.setIfInBounds_toArray]
                  try simp only [List.set_cons_succ]
                  try simp only [List.set_cons_zero]
                  refine wpT 18 ⟨some 57, .pick (.tmp 43) (.const (.bool true)) (.tmp 56), 4, "ref.go:72", #[⟨4, .data⟩, ⟨17, .data⟩], none⟩ ?_ (.inl ⟨by rfl, ?_⟩) ?_
                  rotate_left
                  · (intro W hSw; (try dsimp only at hSw); go_simp; try (with_reducible rfl))
                  try simp only [Act.put]
                  try simp only [List.setIfInBounds_toArray]
                  try simp only [List.set_cons_succ]
                  try simp only [List.set_cons_zero]
                  refine wpT 19 ⟨some 58, .move (.tmp 57), 4, "ref.go:72", #[⟨18, .data⟩, ⟨15, .chain⟩], none⟩ ?_ (.inl ⟨by rfl, ?_⟩) ?_
                  rotate_left
                  · (intro W hSw; (try dsimp only at hSw); go_simp; try (with_reducible rfl))
                  try simp only [Act.put]
                  try simp only [List.setIfInBounds_toArray]
                  try simp only [List.set_cons_succ]
                  try simp only [List.set_cons_zero]
                  refine wpT 20 ⟨some 59, .move (.tmp 18), 4, "ref.go:72", #[⟨19, .guard⟩], some (19, false)⟩ ?_ (.inl ⟨by rfl, ?_⟩) ?_
                  rotate_left
                  · (intro W hSw; (try dsimp only at hSw); go_simp; try (with_reducible rfl))
                  try simp only [Act.put]
                  try simp only [List.setIfInBounds_toArray]
                  try simp only [List.set_cons_succ]
                  try simp only [List.set_cons_zero]
                  refine wpT 21 ⟨some 60, .unOp .not 4 (.tmp 59), 4, "ref.go:72", #[⟨20, .data⟩, ⟨19, .guard⟩], some (19, false)⟩ ?_ (.inl ⟨by rfl, ?_⟩) ?_
                  rotate_left
                  · (intro W hSw; (try dsimp only at hSw); go_simp; try (with_reducible rfl))
                  try simp only [Act.put]
                  try simp only [List.setIfInBounds_toArray]
                  try simp only [List.set_cons_succ]
                  try simp only [List.set_cons_zero]
                  refine wpT 22 ⟨some 61, .move (.tmp 60), 4, "ref.go:72", #[⟨21, .data⟩, ⟨19, .chain⟩, ⟨19, .guard⟩], some (19, false)⟩ ?_ (.inl ⟨by rfl, ?_⟩) ?_
                  rotate_left
                  · (intro W hSw; (try dsimp only at hSw); go_simp; try (with_reducible rfl))
                  try simp only [Act.put]
                  try simp only [List.setIfInBounds_toArray]
                  try simp only [List.set_cons_succ]
                  try simp only [List.set_cons_zero]
                  refine wpT 23 ⟨some 62, .fieldAddr 186 (.tmp 7) 0, 0, "ref.go:72", #[⟨22, .guard⟩], some (22, true)⟩ ?_ (.inl ⟨by rfl, ?_⟩) ?_
                  rotate_left
                  · (intro W hSw; (try dsimp only at hSw); go_simp; try (with_reducible rfl))
                  try simp only [Act.put]
                  try simp only [List.setIfInBounds_toArray]
                  try simp only [List.set_cons_succ]
                  try simp only [List.set_cons_zero]
                  refine wpT 24 ⟨some 63, .load 83 (.tmp 62), 83, "ref.go:72", #[⟨23, .data⟩, ⟨22, .guard⟩], some (22, true)⟩ ?_ (.inl ⟨by rfl, ?_⟩) ?_
                  rotate_left
                  · (intro W hSw; (try dsimp only at hSw); go_simp; try (with_reducible rfl))
                  try simp only [Act.put]
                  try simp only [List.setIfInBounds_toArray]
                  try simp only [List.set_cons_succ]
                  try simp only [List.set_cons_zero]
                  refine wpT 25 ⟨some 64, .move (.tmp 15), 3, "ref.go:72", #[⟨22, .guard⟩], some (22, true)⟩ ?_ (.inl ⟨by rfl, ?_⟩) ?_
                  rotate_left
                  · (intro W hSw; (try dsimp only at hSw); go_simp; try (with_reducible rfl))
                  try simp only [Act.put]
                  try simp only [List.setIfInBounds_toArray]
                  try simp only [List.set_cons_succ]
                  try simp only [List.set_cons_zero]
                  refine wpT 26 ⟨some 65, .binOp .sub 3 (.tmp 64) (.const (.int .i64 1)) 3, 3, "ref.go:72", #[⟨25, .data⟩, ⟨22, .guard⟩], some (22, true)⟩ ?_ (.inl ⟨by rfl, ?_⟩) ?_
                  rotate_left
                  · (intro W hSw; (try dsimp only at hSw); go_simp; try (with_reducible rfl))
                  try simp only [Act.put]
                  try simp only [List.setIfInBounds_toArray]
                  try simp only [List.set_cons_succ]
                  try simp only [List.set_cons_zero]
                  refine wpT 27 ⟨some 66, .indexAddr 83 (.tmp 63) (.tmp 65), 0, "ref.go:72", #[⟨24, .data⟩, ⟨26, .data⟩, ⟨22, .guard⟩], some (22, true)⟩ ?_ (.inl ⟨by rfl, ?_⟩) ?_
                  rotate_left
                  · (intro W hSw; (try dsimp only at hSw); go_simp; try (with_reducible rfl))
                  try simp only [Act.put]
                  try simp only [List.setIfInBounds_toArray]
                  try simp only [List.set_cons_succ]
                  try simp only [List.set_cons_zero]
                  refine wpT 28 ⟨some 67, .load 50 (.tmp 66), 50, "ref.go:72", #[⟨27, .data⟩, ⟨22, .guard⟩], some (22, true)⟩ ?_ (.inl ⟨by rfl, ?_⟩) ?_
                  rotate_left
                  · (intro W hSw; (try dsimp only at hSw); go_simp; try (with_reducible rfl))
                  try simp only [Act.put]
                  try simp only [List.setIfInBounds_toArray]
                  try simp only [List.set_cons_succ]
                  try simp only [List.set_cons_zero]
                  refine wpT 29 ⟨some 68, .fieldAddr 96 (.tmp 17) 1, 0, "ref.go:72", #[⟨22, .guard⟩], some (22, true)⟩ ?_ (.inl ⟨by rfl, ?_⟩) ?_
                  rotate_left
                  · (intro W hSw; (try dsimp only at hSw); go_simp; try (with_reducible rfl))
                  try simp only [Act.put]
                  try simp only [List.setIfInBounds_toArray]
                  try simp only [List.set_cons_succ]
                  try simp only [List.set_cons_zero]
                  refine wpT 30 ⟨some 69, .load 3 (.tmp 68), 3, "ref.go:72", #[⟨29, .data⟩, ⟨22, .guard⟩], some (22, true)⟩ ?_ (.inl ⟨by rfl, ?_⟩) ?_
                  rotate_left
                  · (intro W hSw; (try dsimp only at hSw); go_simp; try (with_reducible rfl))
                  try simp only [Act.put]
                  try simp only [List.setIfInBounds_toArray]
                  try simp only [List.set_cons_succ]
                  try simp only [List.set_cons_zero]
                  refine wpAnyH_ready (rs := [31]) (by kernel_rfl) (by simp) ?_
                  refine AllReadyH.cons (o := ⟨some 70, .call { callee := .value (.func 36), args := #[.tmp 67, .tmp 69], argTypes := #[50, 3] }, 4, "ref.go:72", #[⟨28, .data⟩, ⟨30, .data⟩, ⟨22, .chain⟩, ⟨22, .guard⟩], some (22, true)⟩) rfl (fun K hK => ?_) AllReadyH.nil
                  go_simp
                  (first
    | (go_at_call 36; refine (HIN.out _ hHeld).mono ?_; rintro e w4 ⟨rfl, hu4⟩))
                  try (go_wp2_with fail)
                  refine hK.out _ _ ?_ (fun hHeld => ?_)
                  · (first | exact (Upd.drew hxz) | exact hHeld.trans hu4 | exact hHeld)
                  clear hK K
                  try simp only [Act.put]
                  try simp only [List.setIfInBounds_toArray]
                  try simp only [List.set_cons_succ]
                  try simp only [List.set_cons_zero]
                  refine wpT 32 ⟨some 71, .unOp .not 4 (.tmp 70), 4, "ref.go:72", #[⟨31, .data⟩, ⟨22, .guard⟩], some (22, true)⟩ ?_ (.inl ⟨by rfl, ?_⟩) ?_
                  rotate_left
                  · (intro W hSw; (try dsimp only at hSw); go_simp; try (with_reducible rfl))
                  try simp only [Act.put]
                  try simp only [List.setIfInBounds_toArray]
                  try simp only [List.set_cons_succ]
                  try simp only [List.set_cons_zero]
                  refine wpT 33 ⟨some 72, .pick (.tmp 61) (.tmp 71) (.const (.bool false)), 4, "ref.go:72", #[⟨22, .data⟩, ⟨32, .data⟩, ⟨19, .guard⟩], some (19, false)⟩ ?_ (.inl ⟨by rfl, ?_⟩) ?_
                  rotate_left
                  · (intro W hSw; (try dsimp only at hSw); go_simp; try (with_reducible rfl))
                  try simp only [Act.put]
                  try simp only [List.setIfInBounds_toArray]
                  try simp only [List.set_cons_succ]
                  try simp only [List.set_cons_zero]
                  refine wpT 34 ⟨some 73, .pick (.tmp 58) (.const (.bool true)) (.tmp 72), 4, "ref.go:72", #[⟨19, .data⟩, ⟨33, .data⟩], none⟩ ?_ (.inl ⟨by rfl, ?_⟩) ?_
                  rotate_left
                  · (intro W hSw; (try dsimp only at hSw); go_simp; try (with_reducible rfl))
                  try simp only [Act.put]
                  try simp only [List.setIfInBounds_toArray]
                  try simp only [List.set_cons_succ]
                  try simp only [List.set_cons_zero]
                  refine wpAnyH_done (by kernel_rfl) (NoPanic.normal ?_) _
                  go_wp2
                  go_roundg (gk - 1)
                  case measure => omega
                  case rel => exact ⟨k + 1, by omega, by go_num, rfl, rfl, rfl, HNX, HUW.out.trans hHeld⟩
                · have HIN := Lib.hid (fun (W : World) (u : Upd No wx W) => rin01u W _ P cp pa x.t (HPP.out W u) (by have := HLN.out; omega) htn)
                  have HFX := Lib.hid (show fo = some x by rw [← hfi.out, edrop_findY hk HXK.out (by rw [isR_val f1 (show (true && !bitR must x.k) = false by rw [HBK.out]; rfl) (c1 := true) (by rw [if_neg (by decide)]; exact htn)]; rfl)])
                  have HRX := Lib.hid (show (xs ++ [x]) ++ firstR must l f g1 x.t false = R by
                    have := HR2.out
                    rw [← hgg, firstR_some (by rw [HPA.out, HPN.out, HFO.out, HFX.out]), (show (true && !bitR must x.k) = false by rw [HBK.out]; rfl)] at this
                    rw [List.append_assoc]
                    exact this)
                  clear hf f1 htn
                  go_wp2
                  refine wp_region_noPanic ?_
                  refine wp_region_held_drew (S := (fun W' => Upd No wx W')) (by kernel_rfl) ?_ (fun hHeld => ?_)
                  · (first | exact (Upd.drew hxz) | exact hHeld.trans hu4 | exact hHeld)
                  refine wpT 0 ⟨some 39, .fieldAddr 96 (.tmp 17) 0, 0, "ref.go:72", #[], none⟩ ?_ (.inl ⟨by rfl, ?_⟩) ?_
                  rotate_left
                  · (intro W hSw; (try dsimp only at hSw); go_simp; try (with_reducible rfl))
                  try simp only [Act.put]
                  try simp only [List.setIfInBounds_toArray]
                  try simp only [List.set_cons_succ]
                  try simp only [List.set_cons_zero]
                  refine wpT 1 ⟨some 40, .load 3 (.tmp 39), 3, "ref.go:72", #[⟨0, .data⟩], none⟩ ?_ (.inl ⟨by rfl, ?_⟩) ?_
                  rotate_left
                  · (intro W hSw; (try dsimp only at hSw); go_simp; try (with_reducible rfl))
                  try simp only [Act.put]
                  try simp only [List.setIfInBounds_toArray]
                  try simp only [List.set_cons_succ]
                  try simp only [List.set_cons_zero]
                  refine wpT 2 ⟨some 41, .move (.tmp 14), 3, "ref.go:72", #[], none⟩ ?_ (.inl ⟨by rfl, ?_⟩) ?_
                  rotate_left
                  · (intro W hSw; (try dsimp only at hSw); go_simp; try (with_reducible rfl))
                  try simp only [Act.put]
                  try simp only [List.setIfInBounds_toArray]
                  try simp only [List.set_cons_succ]
                  try simp only [List.set_cons_zero]
                  refine wpT 3 ⟨some 42, .binOp .neq 3 (.tmp 40) (.tmp 41) 3, 4, "ref.go:72", #[⟨1, .data⟩, ⟨2, .data⟩], none⟩ ?_ (.inl ⟨by rfl, ?_⟩) ?_
                  rotate_left
                  · (intro W hSw; (try dsimp only at hSw); go_simp; try (with_reducible rfl))
                  try simp only [Act.put]
                  try simp only [List.setIfInBounds_toArray]
                  try simp only [List.set_cons_succ]
                  try simp only [List.set_cons_zero]
                  refine wpT 4 ⟨some 43, .move (.tmp 42), 4, "ref.go:72", #[⟨3, .data⟩], none⟩ ?_ (.inl ⟨by rfl, ?_⟩) ?_
                  rotate_left
                  · (intro W hSw; (try dsimp only at hSw); go_simp; try (with_reducible rfl))
                  try simp only [Act.put]
                  try simp only [List.setIfInBounds_toArray]
                  try simp only [List.set_cons_succ]
                  try simp only [List.set_cons_zero]
                  refine wpT 5 ⟨some 44, .move (.tmp 18), 4, "ref.go:72", #[⟨4, .guard⟩], some (4, false)⟩ ?_ (.inl ⟨by rfl, ?_⟩) ?_
                  rotate_left
                  · (intro W hSw; (try dsimp only at hSw); go_simp; try (with_reducible rfl))
                  try simp only [Act.put]
                  try simp only [List.setIfInBounds_toArray]
                  try simp only [List.set_cons_succ]
                  try simp only [List.set_cons_zero]
                  refine wpT 6 ⟨some 45, .move (.tmp 44), 4, "ref.go:72", #[⟨5, .data⟩, ⟨4, .chain⟩, ⟨4, .guard⟩], some (4, false)⟩ ?_ (.inl ⟨by rfl, ?_⟩) ?_
                  rotate_left
                  · (intro W hSw; (try dsimp only at hSw); go_simp; try (with_reducible rfl))
                  try simp only [Act.put]
                  try simp only [List.setIfInBounds_toArray]
                  try simp only [List.set_cons_succ]
                  try simp only [List.set_cons_zero]
                  refine wpT 7 ⟨some 46, .fieldAddr 186 (.tmp 7) 1, 0, "ref.go:72", #[⟨6, .guard⟩], some (6, true)⟩ undef (.inr ⟨by rfl, rfl⟩) ?_
                  try simp only [Act.put]
                  try simp only [List.setIfInBounds_toArray]
                  try simp only [List.set_cons_succ]
                  try simp only [List.set_cons_zero]
                  refine wpT 8 ⟨some 47, .load 83 (.tmp 46), 83, "ref.go:72", #[⟨7, .data⟩, ⟨6, .guard⟩], some (6, true)⟩ undef (.inr ⟨by rfl, rfl⟩) ?_
                  try simp only [Act.put]
                  try simp only [List.setIfInBounds_toArray]
                  try simp only [List.set_cons_succ]
                  try simp only [List.set_cons_zero]
                  refine wpT 9 ⟨some 48, .move (.tmp 15), 3, "ref.go:72", #[⟨6, .guard⟩], some (6, true)⟩ undef (.inr ⟨by rfl, rfl⟩) ?_
                  try simp only [Act.put]
                  try simp only [List.setIfInBounds_toArray]
                  try simp only [List.set_cons_succ]
                  try simp only [List.set_cons_zero]
                  refine wpT 10 ⟨some 49, .binOp .sub 3 (.tmp 48) (.const (.int .i64 1)) 3, 3, "ref.go:72", #[⟨9, .data⟩, ⟨6, .guard⟩], some (6, true)⟩ undef (.inr ⟨by rfl, rfl⟩) ?_
                  try simp only [Act.put]
                  try simp only [List.setIfInBounds_toArray]
                  try simp only [List.set_cons_succ]
                  try simp only [List.set_cons_zero]
                  refine wpT 11 ⟨some 50, .indexAddr 83 (.tmp 47) (.tmp 49), 0, "ref.go:72", #[⟨8, .data⟩, ⟨10, .data⟩, ⟨6, .guard⟩], some (6, true)⟩ undef (.inr ⟨by rfl, rfl⟩) ?_
                  try simp only [Act.put]
                  try simp only [List.setIfInBounds_toArray]
                  try simp only [List.set_cons_succ]
                  try simp only [List.set_cons_zero]
                  refine wpT 12 ⟨some 51, .load 50 (.tmp 50), 50, "ref.go:72", #[⟨11, .data⟩, ⟨6, .guard⟩], some (6, true)⟩ undef (.inr ⟨by rfl, rfl⟩) ?_
                  try simp only [Act.put]
                  try simp only [List.setIfInBounds_toArray]
                  try simp only [List.set_cons_succ]
                  try simp only [List.set_cons_zero]
                  refine wpT 13 ⟨some 52, .fieldAddr 96 (.tmp 17) 1, 0, "ref.go:72", #[⟨6, .guard⟩], some (6, true)⟩ undef (.inr ⟨by rfl, rfl⟩) ?_
                  try simp only [Act.put]
                  try simp only [List.setIfInBounds_toArray]
                  try simp only [List.set_cons_succ]
                  try simp only [List.set_cons_zero]
                  refine wpT 14 ⟨some 53, .load 3 (.tmp 52), 3, "ref.go:72", #[⟨13, .data⟩, ⟨6, .guard⟩], some (6, true)⟩ undef (.inr ⟨by rfl, rfl⟩) ?_
                  try simp only [Act.put]
                  try simp only [List.setIfInBounds_toArray]
                  try simp only [List.set_cons_succ]
                  try simp only [List.set_cons_zero]
                  refine wpAnyH_ready (rs := [15]) (by kernel_rfl) (by simp) ?_
                  refine AllReadyH.cons (o := ⟨some 54, .call { callee := .value (.func 36), args := #[.tmp 51, .tmp 53], argTypes := #[50, 3] }, 4, "ref.go:72", #[⟨12, .data⟩, ⟨14, .data⟩, ⟨6, .chain⟩, ⟨6, .guard⟩], some (6, true)⟩) rfl (fun K hK => ?_) AllReadyH.nil
                  go_simp
                  refine hK.out _ _ ?_ (fun hHeld => ?_)
                  · exact hHeld
                  clear hK K
                  try simp only [Act.put]
                  try simp only [List.setIfInBounds_toArray]
                  try simp only [List.set_cons_succ]
                  try simp only [List.set_cons_zero]
                  refine wpT 16 ⟨some 55, .unOp .not 4 (.tmp 54), 4, "ref.go:72", #[⟨15, .data⟩, ⟨6, .guard⟩], some (6, true)⟩ undef (.inr ⟨by rfl, rfl⟩) ?_
                  try simp only [Act.put]
                  try simp only [List.setIfInBounds_toArray]
                  try simp only [List.set_cons_succ]
                  try simp only [List.set_cons_zero]
                  refine wpT 17 ⟨some 56, .pick (.tmp 45) (.tmp 55) (.const (.bool false)), 4, "ref.go:72", #[⟨6, .data⟩, ⟨16, .data⟩, ⟨4, .guard⟩], some (4, false)⟩ ?_ (.inl ⟨by rfl, ?_⟩) ?_
                  rotate_left
                  · (intro W hSw; (try dsimp only at hSw); go_simp; try (with_reducible rfl))
                  try simp only [Act.put]
                  try simp only [List.setIfInBounds_toArray]
                  try simp only [List.set_cons_succ]
                  try simp only [List.set_cons_zero]
                  refine wpT 18 ⟨some 57, .pick (.tmp 43) (.const (.bool true)) (.tmp 56), 4, "ref.go:72", #[⟨4, .data⟩, ⟨17, .data⟩], none⟩ ?_ (.inl ⟨by rfl, ?_⟩) ?_
                  rotate_left
                  · (intro W hSw; (try dsimp only at hSw); go_simp; try (with_reducible rfl))
                  try simp only [Act.put]
                  try simp only [List.setIfInBounds_toArray]
                  try simp only [List.set_cons_succ]
                  try simp only [List.set_cons_zero]
                  refine wpT 19 ⟨some 58, .move (.tmp 57), 4, "ref.go:72", #[⟨18, .data⟩, ⟨15, .chain⟩], none⟩ ?_ (.inl ⟨by rfl, ?_⟩) ?_
                  rotate_left
                  · (intro W hSw; (try dsimp only at hSw); go_simp; try (with_reducible rfl))
                  try simp only [Act.put]
                  try simp only [List.setIfInBounds_toArray]
                  try simp only [List.set_cons_succ]
                  try simp only [List.set_cons_zero]
                  refine wpT 20 ⟨some 59, .move (.tmp 18), 4, "ref.go:72", #[⟨19, .guard⟩], some (19, false)⟩ ?_ (.inl ⟨by rfl, ?_⟩) ?_
                  rotate_left
                  · (intro W hSw; (try dsimp only at hSw); go_simp; try (with_reducible rfl))
                  try simp only [Act.put]
                  try simp only [List.setIfInBounds_toArray]
                  try simp only [List.set_cons_succ]
                  try simp only [List.set_cons_zero]
                  refine wpT 21 ⟨some 60, .unOp .not 4 (.tmp 59), 4, "ref.go:72", #[⟨20, .data⟩, ⟨19, .guard⟩], some (19, false)⟩ ?_ (.inl ⟨by rfl, ?_⟩) ?_
                  rotate_left
                  · (intro W hSw; (try dsimp only at hSw); go_simp; try (with_reducible rfl))
                  try simp only [Act.put]
                  try simp only [List.setIfInBounds_toArray]
                  try simp only [List.set_cons_succ]
                  try simp only [List.set_cons_zero]
                  refine wpT 22 ⟨some 61, .move (.tmp 60), 4, "ref.go:72", #[⟨21, .data⟩, ⟨19, .chain⟩, ⟨19, .guard⟩], some (19, false)⟩ ?_ (.inl ⟨by rfl, ?_⟩) ?_
                  rotate_left
                  · (intro W hSw; (try dsimp only at hSw); go_simp; try (with_reducible rfl))
                  try simp only [Act.put]
                  try simp only [List.setIfInBounds_toArray]
                  try simp only [List.set_cons_succ]
                  try simp only [List.set_cons_zero]
                  refine wpT 23 ⟨some 62, .fieldAddr 186 (.tmp 7) 0, 0, "ref.go:72", #[⟨22, .guard⟩], some (22, true)⟩ ?_ (.inl ⟨by rfl, ?_⟩) ?_
                  rotate_left
                  · (intro W hSw; (try dsimp only at hSw); go_simp; try (with_reducible rfl))
                  try simp only [Act.put]
                  try simp only [List.setIfInBounds_toArray]
                  try simp only [List.set_cons_succ]
                  try simp only [List.set_cons_zero]
                  refine wpT 24 ⟨some 63, .load 83 (.tmp 62), 83, "ref.go:72", #[⟨23, .data⟩, ⟨22, .guard⟩], some (22, true)⟩ ?_ (.inl ⟨by rfl, ?_⟩) ?_
                  rotate_left
                  · (intro W hSw; (try dsimp only at hSw); go_simp; try (with_reducible rfl))
                  try simp only [Act.put]
                  try simp only [List.setIfInBounds_toArray]
                  try simp only [List.set_cons_succ]
                  try simp only [List.set_cons_zero]
                  refine wpT 25 ⟨some 64, .move (.tmp 15), 3, "ref.go:72", #[⟨22, .guard⟩], some (22, true)⟩ ?_ (.inl ⟨by rfl, ?_⟩) ?_
                  rotate_left
                  · (intro W hSw; (try dsimp only at hSw); go_simp; try (with_reducible rfl))
                  try simp only [Act.put]
                  try simp only [List.setIfInBounds_toArray]
                  try simp only [List.set_cons_succ]
                  try simp only [List.set_cons_zero]
                  refine wpT 26 ⟨some 65, .binOp .sub 3 (.tmp 64) (.const (.int .i64 1)) 3, 3, "ref.go:72", #[⟨25, .data⟩, ⟨22, .guard⟩], some (22, true)⟩ ?_ (.inl ⟨by rfl, ?_⟩) ?_
                  rotate_left
                  · (intro W hSw; (try dsimp only at hSw); go_simp; try (with_reducible rfl))
                  try simp only [Act.put]
                  try simp only [List.setIfInBounds_toArray]
                  try simp only [List.set_cons_succ]
                  try simp only [List.set_cons_zero]
                  refine wpT 27 ⟨some 66, .indexAddr 83 (.tmp 63) (.tmp 65), 0, "ref.go:72", #[⟨24, .data⟩, ⟨26, .data⟩, ⟨22, .guard⟩], some (22, true)⟩ ?_ (.inl ⟨by rfl, ?_⟩) ?_
                  rotate_left
                  · (intro W hSw; (try dsimp only at hSw); go_simp; try (with_reducible rfl))
                  try simp only [Act.put]
                  try simp only [List.setIfInBounds_toArray]
                  try simp only [List.set_cons_succ]
                  try simp only [List.set_cons_zero]
                  refine wpT 28 ⟨some 67, .load 50 (.tmp 66), 50, "ref.go:72", #[⟨27, .data⟩, ⟨22, .guard⟩], some (22, true)⟩ ?_ (.inl ⟨by rfl, ?_⟩) ?_
                  rotate_left
                  · (intro W hSw; (try dsimp only at hSw); go_simp; try (with_reducible rfl))
                  try simp only [Act.put]
                  try simp only [List.setIfInBounds_toArray]
                  try simp only [List.set_cons_succ]
                  try simp only [List.set_cons_zero]
                  refine wpT 29 ⟨some 68, .fieldAddr 96 (.tmp 17) 1, 0, "ref.go:72", #[⟨22, .guard⟩], some (22, true)⟩ ?_ (.inl ⟨by rfl, ?_⟩) ?_
                  rotate_left
                  · (intro W hSw; (try dsimp only at hSw); go_simp; try (with_reducible rfl))
                  try simp only [Act.put]
                  try simp only [List.setIfInBounds_toArray]
                  try simp only [List.set_cons_succ]
                  try simp only [List.set_cons_zero]
                  refine wpT 30 ⟨some 69, .load 3 (.tmp 68), 3, "ref.go:72", #[⟨29, .data⟩, ⟨22, .guard⟩], some (22, true)⟩ ?_ (.inl ⟨by rfl, ?_⟩) ?_
                  rotate_left
                  · (intro W hSw; (try dsimp only at hSw); go_simp; try (with_reducible rfl))
                  try simp only [Act.put]
                  try simp only [List.setIfInBounds_toArray]
                  try simp only [List.set_cons_succ]
                  try simp only [List.set_cons_zero]
                  refine wpAnyH_ready (rs := [31]) (by kernel_rfl) (by simp) ?_
                  refine AllReadyH.cons (o := ⟨some 70, .call { callee := .value (.func 36), args := #[.tmp 67, .tmp 69], argTypes := #[50, 3] }, 4, "ref.go:72", #[⟨28, .data⟩, ⟨30, .data⟩, ⟨22, .chain⟩, ⟨22, .guard⟩], some (22, true)⟩) rfl (fun K hK => ?_) AllReadyH.nil
                  go_simp
                  (first
    | (go_at_call 36; refine (HIN.out _ hHeld).mono ?_; rintro e w4 ⟨rfl, hu4⟩))
                  try (go_wp2_with fail)
                  refine hK.out _ _ ?_ (fun hHeld => ?_)
                  · (first | exact (Upd.drew hxz) | exact hHeld.trans hu4 | exact hHeld)
                  clear hK K
                  try simp only [Act.put]
                  try simp only [List.setIfInBounds_toArray]
                  try simp only [List.set_cons_succ]
                  try simp only [List.set_cons_zero]
                  refine wpT 32 ⟨some 71, .unOp .not 4 (.tmp 70), 4, "ref.go:72", #[⟨31, .data⟩, ⟨22, .guard⟩], some (22, true)⟩ ?_ (.inl ⟨by rfl, ?_⟩) ?_
                  rotate_left
                  · (intro W hSw; (try dsimp only at hSw); go_simp; try (with_reducible rfl))
                  try simp only [Act.put]
                  try simp only [List.setIfInBounds_toArray]
                  try simp only [List.set_cons_succ]
                  try simp only [List.set_cons_zero]
                  refine wpT 33 ⟨some 72, .pick (.tmp 61) (.tmp 71) (.const (.bool false)), 4, "ref.go:72", #[⟨22, .data⟩, ⟨32, .data⟩, ⟨19, .guard⟩], some (19, false)⟩ ?_ (.inl ⟨by rfl, ?_⟩) ?_
                  rotate_left
                  · (intro W hSw; (try dsimp only at hSw); go_simp; try (with_reducible rfl))
                  try simp only [Act.put]
                  try simp only [List.setIfInBounds_toArray]
                  try simp only [List.set_cons_succ]
                  try simp only [List.set_cons_zero]
                  refine wpT 34 ⟨some 73, .pick (.tmp 58) (.const (.bool true)) (.tmp 72), 4, "ref.go:72", #[⟨19, .data⟩, ⟨33, .data⟩], none⟩ ?_ (.inl ⟨by rfl, ?_⟩) ?_
                  rotate_left
                  · (intro W hSw; (try dsimp only at hSw); go_simp; try (with_reducible rfl))
                  try simp only [Act.put]
                  try simp only [List.setIfInBounds_toArray]
                  try simp only [List.set_cons_succ]
                  try simp only [List.set_cons_zero]
                  refine wpAnyH_done (by kernel_rfl) (NoPanic.normal ?_) _
                  have hx4 : Upd No wx w4 := hHeld
                  clear hHeld hu4
                  have hown4 := own_upd HO3.out (huw3.trans hx4) (fun _ _ => id)
                  have HGE := Lib.hid (fun i e => (hown4.lt i e))
                  have HBX := Lib.hid (HBO.out w4 hx4)
                  have HLE := Lib.hid (edgesF_len xs)
                  have hzz := (HUW.out.trans hx4).size
                  have HUZ := Lib.hid (HUW.out.trans hx4)
                  have hlw := HLT.out
                  have hzb := HU3.out.size
                  have HBS := Lib.hid (fun i (e : Own (.slice A5 xs.length c5) i) => (HO3.out.lt i e).2)
                  go_wp2_with (at_builtin; refine app1s rfl rfl slt_edges (v := .slice A5 xs.length c5) (n := xs.length) (xs := edgesF xs) (cells := [.int .i64 x.f, .int .i64 x.t, .int .i64 x.k, .int .i64 x.key]) (by rfl) rfl hown4 rfl rfl (by omega) (by omega) (by omega) ?_; intro g8 c8 w8 hown8 hu8 hg8 hlt8; have e1 := (HBX.out.upd hu8 (fun e => by have := HBS.out _ e; omega)).cell 1; simp only [List.getElem?_cons_zero, List.getElem?_cons_succ] at e1)
                  go_roundg g1
                  case measure => omega
                  case rel => exact ⟨false, some ⟨g8, 0, none⟩, c8, xs ++ [x], x.t, rfl, by simp, rfl, by rw [HG1.out], HRX, by simp; omega, by simpa [edgesF, Edge.cells] using hown8, (HU3.out.trans HUZ.out).then_ hu8 fun i e => .inr (by have := (HGE.out i e).1; omega)⟩
              · have f1 : (x.f == ai) = false := by simpa using hf
                have f2 : (x.f != ai) = true := by simpa using hf
                have HNX := Lib.hid (show (l.drop (k + 1)).find? (isR must pa pn ai true) = fo by rw [← hfi.out, edrop_findN hk HXK.out (by rw [isR_val f1 rfl rfl]; rfl)])
                clear hf f1
                go_wp2
                refine wp_region_noPanic ?_
                refine wp_region_held_drew (S := (fun W' => Upd No wx W')) (by kernel_rfl) ?_ (fun hHeld => ?_)
                · (first | exact (Upd.drew hxz) | exact hHeld)
                refine wpT 0 ⟨some 39, .fieldAddr 96 (.tmp 17) 0, 0, "ref.go:72", #[], none⟩ ?_ (.inl ⟨by rfl, ?_⟩) ?_
                rotate_left
                · (intro W hSw; (try dsimp only at hSw); go_simp; try (with_reducible rfl))
                try simp only [Act.put]
                try simp only [List.setIfInBounds_toArray]
                try simp only [List.set_cons_succ]
                try simp only [List.set_cons_zero]
                refine wpT 1 ⟨some 40, .load 3 (.tmp 39), 3, "ref.go:72", #[⟨0, .data⟩], none⟩ ?_ (.inl ⟨by rfl, ?_⟩) ?_
                rotate_left
                · (intro W hSw; (try dsimp only at hSw); go_simp; try (with_reducible rfl))
                try simp only [Act.put]
                try simp only [List.setIfInBounds_toArray]
                try simp only [List.set_cons_succ]
                try simp only [List.set_cons_zero]
                refine wpT 2 ⟨some 41, .move (.tmp 14), 3, "ref.go:72", #[], none⟩ ?_ (.inl ⟨by rfl, ?_⟩) ?_
                rotate_left
                · (intro W hSw; (try dsimp only at hSw); go_simp; try (with_reducible rfl))
                try simp only [Act.put]
                try simp only [List.setIfInBounds_toArray]
                try simp only [List.set_cons_succ]
                try simp only [List.set_cons_zero]
                refine wpT 3 ⟨some 42, .binOp .neq 3 (.tmp 40) (.tmp 41) 3, 4, "ref.go:72", #[⟨1, .data⟩, ⟨2, .data⟩], none⟩ ?_ (.inl ⟨by rfl, ?_⟩) ?_
                rotate_left
                · (intro W hSw; (try dsimp only at hSw); go_simp; try (with_reducible rfl))
                try simp only [Act.put]
                try simp only [List.setIfInBounds_toArray]
                try simp only [List.set_cons_succ]
                try simp only [List.set_cons_zero]
                refine wpT 4 ⟨some 43, .move (.tmp 42), 4, "ref.go:72", #[⟨3, .data⟩], none⟩ ?_ (.inl ⟨by rfl, ?_⟩) ?_
                rotate_left
                · (intro W hSw; (try dsimp only at hSw); go_simp; try (with_reducible rfl))
                try simp only [Act.put]
                try simp only [List.setIfInBounds_toArray]
                try simp only [List.set_cons_succ]
                try simp only [List.set_cons_zero]
                refine wpT 5 ⟨some 44, .move (.tmp 18), 4, "ref.go:72", #[⟨4, .guard⟩], some (4, false)⟩ undef (.inr ⟨by rfl, rfl⟩) ?_
                try simp only [Act.put]
                try simp only [List.setIfInBounds_toArray]
                try simp only [List.set_cons_succ]
                try simp only [List.set_cons_zero]
                refine wpT 6 ⟨some 45, .move (.tmp 44), 4, "ref.go:72", #[⟨5, .data⟩, ⟨4, .chain⟩, ⟨4, .guard⟩], some (4, false)⟩ undef (.inr ⟨by rfl, rfl⟩) ?_
                try simp only [Act.put]
                try simp only [List.setIfInBounds_toArray]
                try simp only [List.set_cons_succ]
                try simp only [List.set_cons_zero]
                refine wpT 7 ⟨some 46, .fieldAddr 186 (.tmp 7) 1, 0, "ref.go:72", #[⟨6, .guard⟩], some (6, true)⟩ undef (.inr ⟨by rfl, rfl⟩) ?_
                try simp only [Act.put]
                try simp only [List.setIfInBounds_toArray]
                try simp only [List.set_cons_succ]
                try simp only [List.set_cons_zero]
                refine wpT 8 ⟨some 47, .load 83 (.tmp 46), 83, "ref.go:72", #[⟨7, .data⟩, ⟨6, .guard⟩], some (6, true)⟩ undef (.inr ⟨by rfl, rfl⟩) ?_
                try simp only [Act.put]
                try simp only [List.setIfInBounds_toArray]
                try simp only [List.set_cons_succ]
                try simp only [List.set_cons_zero]
                refine wpT 9 ⟨some 48, .move (.tmp 15), 3, "ref.go:72", #[⟨6, .guard⟩], some (6, true)⟩ undef (.inr ⟨by rfl, rfl⟩) ?_
                try simp only [Act.put]
                try simp only [List.setIfInBounds_toArray]
                try simp only [List.set_cons_succ]
                try simp only [List.set_cons_zero]
                refine wpT 10 ⟨some 49, .binOp .sub 3 (.tmp 48) (.const (.int .i64 1)) 3, 3, "ref.go:72", #[⟨9, .data⟩, ⟨6, .guard⟩], some (6, true)⟩ undef (.inr ⟨by rfl, rfl⟩) ?_
                try simp only [Act.put]
                try simp only [List.setIfInBounds_toArray]
                try simp only [List.set_cons_succ]
                try simp only [List.set_cons_zero]
                refine wpT 11 ⟨some 50, .indexAddr 83 (.tmp 47) (.tmp 49), 0, "ref.go:72", #[⟨8, .data⟩, ⟨10, .data⟩, ⟨6, .guard⟩], some (6, true)⟩ undef (.inr ⟨by rfl, rfl⟩) ?_
                try simp only [Act.put]
                try simp only [List.setIfInBounds_toArray]
                try simp only [List.set_cons_succ]
                try simp only [List.set_cons_zero]
                refine wpT 12 ⟨some 51, .load 50 (.tmp 50), 50, "ref.go:72", #[⟨11, .data⟩, ⟨6, .guard⟩], some (6, true)⟩ undef (.inr ⟨by rfl, rfl⟩) ?_
                try simp only [Act.put]
                try simp only [List.setIfInBounds_toArray]
                try simp only [List.set_cons_succ]
                try simp only [List.set_cons_zero]
                refine wpT 13 ⟨some 52, .fieldAddr 96 (.tmp 17) 1, 0, "ref.go:72", #[⟨6, .guard⟩], some (6, true)⟩ undef (.inr ⟨by rfl, rfl⟩) ?_
                try simp only [Act.put]
                try simp only [List.setIfInBounds_toArray]
                try simp only [List.set_cons_succ]
                try simp only [List.set_cons_zero]
                refine wpT 14 ⟨some 53, .load 3 (.tmp 52), 3, "ref.go:72", #[⟨13, .data⟩, ⟨6, .guard⟩], some (6, true)⟩ undef (.inr ⟨by rfl, rfl⟩) ?_
                try simp only [Act.put]
                try simp only [List.setIfInBounds_toArray]
                try simp only [List.set_cons_succ]
                try simp only [List.set_cons_zero]
                refine wpAnyH_ready (rs := [15]) (by kernel_rfl) (by simp) ?_
                refine AllReadyH.cons (o := ⟨some 54, .call { callee := .value (.func 36), args := #[.tmp 51, .tmp 53], argTypes := #[50, 3] }, 4, "ref.go:72", #[⟨12, .data⟩, ⟨14, .data⟩, ⟨6, .chain⟩, ⟨6, .guard⟩], some (6, true)⟩) rfl (fun K hK => ?_) AllReadyH.nil
                go_simp
                refine hK.out _ _ ?_ (fun hHeld => ?_)
                · exact hHeld
                clear hK K
                try simp only [Act.put]
                try simp only [List.setIfInBounds_toArray]
                try simp only [List.set_cons_succ]
                try simp only [List.set_cons_zero]
                refine wpT 16 ⟨some 55, .unOp .not 4 (.tmp 54), 4, "ref.go:72", #[⟨15, .data⟩, ⟨6, .guard⟩], some (6, true)⟩ undef (.inr ⟨by rfl, rfl⟩) ?_
                try simp only [Act.put]
                try simp only [List.setIfInBounds_toArray]
                try simp only [List.set_cons_succ]
                try simp only [List.set_cons_zero]
                refine wpT 17 ⟨some 56, .pick (.tmp 45) (.tmp 55) (.const (.bool false)), 4, "ref.go:72", #[⟨6, .data⟩, ⟨16, .data⟩, ⟨4, .guard⟩], some (4, false)⟩ undef (.inr ⟨by rfl, rfl⟩) ?_
                try simp only [Act.put]
                try simp only [List.setIfInBounds_toArray]
                try simp only [List.set_cons_succ]
                try simp only [List.set_cons_zero]
                refine wpT 18 ⟨some 57, .pick (.tmp 43) (.const (.bool true)) (.tmp 56), 4, "ref.go:72", #[⟨4, .data⟩, ⟨17, .data⟩], none⟩ ?_ (.inl ⟨by rfl, ?_⟩) ?_
                rotate_left
                · (intro W hSw; (try dsimp only at hSw); go_simp; try (with_reducible rfl))
                try simp only [Act.put]
                try simp only [List.setIfInBounds_toArray]
                try simp only [List.set_cons_succ]
                try simp only [List.set_cons_zero]
                refine wpT 19 ⟨some 58, .move (.tmp 57), 4, "ref.go:72", #[⟨18, .data⟩, ⟨15, .chain⟩], none⟩ ?_ (.inl ⟨by rfl, ?_⟩) ?_
                rotate_left
                · (intro W hSw; (try dsimp only at hSw); go_simp; try (with_reducible rfl))
                try simp only [Act.put]
                try simp only [List.setIfInBounds_toArray]
                try simp only [List.set_cons_succ]
                try simp only [List.set_cons_zero]
                refine wpT 20 ⟨some 59, .move (.tmp 18), 4, "ref.go:72", #[⟨19, .guard⟩], some (19, false)⟩ undef (.inr ⟨by rfl, rfl⟩) ?_
                try simp only [Act.put]
                try simp only [List.setIfInBounds_toArray]
                try simp only [List.set_cons_succ]
                try simp only [List.set_cons_zero]
                refine wpT 21 ⟨some 60, .unOp .not 4 (.tmp 59), 4, "ref.go:72", #[⟨20, .data⟩, ⟨19, .guard⟩], some (19, false)⟩ undef (.inr ⟨by rfl, rfl⟩) ?_
                try simp only [Act.put]
                try simp only [List.setIfInBounds_toArray]
                try simp only [List.set_cons_succ]
                try simp only [List.set_cons_zero]
                refine wpT 22 ⟨some 61, .move (.tmp 60), 4, "ref.go:72", #[⟨21, .data⟩, ⟨19, .chain⟩, ⟨19, .guard⟩], some (19, false)⟩ undef (.inr ⟨by rfl, rfl⟩) ?_
                try simp only [Act.put]
                try simp only [List.setIfInBounds_toArray]
                try simp only [List.set_cons_succ]
                try simp only [List.set_cons_zero]
                refine wpT 23 ⟨some 62, .fieldAddr 186 (.tmp 7) 0, 0, "ref.go:72", #[⟨22, .guard⟩], some (22, true)⟩ undef (.inr ⟨by rfl, rfl⟩) ?_
                try simp only [Act.put]
                try simp only [List.setIfInBounds_toArray]
                try simp only [List.set_cons_succ]
                try simp only [List.set_cons_zero]
                refine wpT 24 ⟨some 63, .load 83 (.tmp 62), 83, "ref.go:72", #[⟨23, .data⟩, ⟨22, .guard⟩], some (22, true)⟩ undef (.inr ⟨by rfl, rfl⟩) ?_
                try simp only [Act.put]
                try simp only [List.setIfInBounds_toArray]
                try simp only [List.set_cons_succ]
                try simp only [List.set_cons_zero]
                refine wpT 25 ⟨some 64, .move (.tmp 15), 3, "ref.go:72", #[⟨22, .guard⟩], some (22, true)⟩ undef (.inr ⟨by rfl, rfl⟩) ?_
                try simp only [Act.put]
                try simp only [List.setIfInBounds_toArray]
                try simp only [List.set_cons_succ]
                try simp only [List.set_cons_zero]
                refine wpT 26 ⟨some 65, .binOp .sub 3 (.tmp 64) (.const (.int .i64 1)) 3, 3, "ref.go:72", #[⟨25, .data⟩, ⟨22, .guard⟩], some (22, true)⟩ undef (.inr ⟨by rfl, rfl⟩) ?_
                try simp only [Act.put]
                try simp only [List.setIfInBounds_toArray]
                try simp only [List.set_cons_succ]
                try simp only [List.set_cons_zero]
                refine wpT 27 ⟨some 66, .indexAddr 83 (.tmp 63) (.tmp 65), 0, "ref.go:72", #[⟨24, .data⟩, ⟨26, .data⟩, ⟨22, .guard⟩], some (22, true)⟩ undef (.inr ⟨by rfl, rfl⟩) ?_
                try simp only [Act.put]
                try simp only [List.setIfInBounds_toArray]
                try simp only [List.set_cons_succ]
                try simp only [List.set_cons_zero]
                refine wpT 28 ⟨some 67, .load 50 (.tmp 66), 50, "ref.go:72", #[⟨27, .data⟩, ⟨22, .guard⟩], some (22, true)⟩ undef (.inr ⟨by rfl, rfl⟩) ?_
                try simp only [Act.put]
                try simp only [List.setIfInBounds_toArray]
                try simp only [List.set_cons_succ]
                try simp only [List.set_cons_zero]
                refine wpT 29 ⟨some 68, .fieldAddr 96 (.tmp 17) 1, 0, "ref.go:72", #[⟨22, .guard⟩], some (22, true)⟩ undef (.inr ⟨by rfl, rfl⟩) ?_
                try simp only [Act.put]
                try simp only [List.setIfInBounds_toArray]
                try simp only [List.set_cons_succ]
                try simp only [List.set_cons_zero]
                refine wpT 30 ⟨some 69, .load 3 (.tmp 68), 3, "ref.go:72", #[⟨29, .data⟩, ⟨22, .guard⟩], some (22, true)⟩ undef (.inr ⟨by rfl, rfl⟩) ?_
                try simp only [Act.put]
                try simp only [List.setIfInBounds_toArray]
                try simp only [List.set_cons_succ]
                try simp only [List.set_cons_zero]
                refine wpAnyH_ready (rs := [31]) (by kernel_rfl) (by simp) ?_
                refine AllReadyH.cons (o := ⟨some 70, .call { callee := .value (.func 36), args := #[.tmp 67, .tmp 69], argTypes := #[50, 3] }, 4, "ref.go:72", #[⟨28, .data⟩, ⟨30, .data⟩, ⟨22, .chain⟩, ⟨22, .guard⟩], some (22, true)⟩) rfl (fun K hK => ?_) AllReadyH.nil
                go_simp
                refine hK.out _ _ ?_ (fun hHeld => ?_)
                · exact hHeld
                clear hK K
                try simp only [Act.put]
                try simp only [List.setIfInBounds_toArray]
                try simp only [List.set_cons_succ]
                try simp only [List.set_cons_zero]
                refine wpT 32 ⟨some 71, .unOp .not 4 (.tmp 70), 4, "ref.go:72", #[⟨31, .data⟩, ⟨22, .guard⟩], some (22, true)⟩ undef (.inr ⟨by rfl, rfl⟩) ?_
                try simp only [Act.put]
                try simp only [List.setIfInBounds_toArray]
                try simp only [List.set_cons_succ]
                try simp only [List.set_cons_zero]
                refine wpT 33 ⟨some 72, .pick (.tmp 61) (.tmp 71) (.const (.bool false)), 4, "ref.go:72", #[⟨22, .data⟩, ⟨32, .data⟩, ⟨19, .guard⟩], some (19, false)⟩ undef (.inr ⟨by rfl, rfl⟩) ?_
                try simp only [Act.put]
                try simp only [List.setIfInBounds_toArray]
                try simp only [List.set_cons_succ]
                try simp only [List.set_cons_zero]
                refine wpT 34 ⟨some 73, .pick (.tmp 58) (.const (.bool true)) (.tmp 72), 4, "ref.go:72", #[⟨19, .data⟩, ⟨33, .data⟩], none⟩ ?_ (.inl ⟨by rfl, ?_⟩) ?_
                rotate_left
                · (intro W hSw; (try dsimp only at hSw); go_simp; try (with_reducible rfl))
                try simp only [Act.put]
                try simp only [List.setIfInBounds_toArray]
                try simp only [List.set_cons_succ]
                try simp only [List.set_cons_zero]
                refine wpAnyH_done (by kernel_rfl) (NoPanic.normal ?_) _
                go_wp2
                go_roundg (gk - 1)
                case measure => omega
                case rel => exact ⟨k + 1, by omega, by go_num, rfl, rfl, rfl, HNX, HUW.out.trans hHeld⟩
        · obtain rfl : k = l.length := by omega
          have HRX := Lib.hid (show xs ++ firstR must l f g1 ai nd = R by
            have hfo := hfi.out
            rw [List.drop_length, List.find?_nil] at hfo
            have := HR2.out
            rw [← hgg, firstR_none (by rw [HPA.out, HPN.out, HFO.out, ← hfo])] at this
            exact this)
          clear hfi HFO
          go_wp2
          go_roundg g1
          case measure => omega
          case rel => exact ⟨nd, A5, c5, xs, ai, rfl, rfl, rfl, by rw [HG1.out], HRX, by omega, own_upd HO3.out huj (fun _ _ => id), HU3.out.trans huj⟩
end Go.Proofs.Ytmnhgdedkniafaa
