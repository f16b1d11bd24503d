/- Looking at a history: the law that a walk that is right is right from whichever place it is begun. -/
import Derived.Test.YtgakhpdclhlmpaaChkG
namespace Go.Proofs.Ytgakhpdclhlmpaa
set_option linter.unusedVariables false
open Go.RowKit
theorem begV {F : Nat → Prop} {w : World} {A : Option Addr} {c : Nat} {l : List Edge} {i : Nat} (h : Walk F w A l) (hl : l.length ≤ 1000000) (hc : l.length ≤ c) (hi : i < l.length) :
    Calls Try.prog 52 #[.slice A l.length c, .int .i64 i] w fun e w' => ∃ A' c', e = .returned (.slice A' l.length c') ∧ l.length ≤ c' ∧ Walk (fun i => w.heap.size ≤ i) w' A' (rot l i) ∧ Upd No w w' := by
  refine (rbegun F w A c l i h hl hc (by omega)).mono ?_
  rintro e w' ⟨A', c', rfl, ho, hu⟩
  have ho2 : w'.ownsRow w.heap.size 89 4 (.slice A' (rot l i).length c') (rot l i).length ((rot l i).map Edge.cells).flatten := by rw [rot_len l (by omega)]; exact ho
  exact ⟨A', c', rfl, own_cap ho, Walk.of_new (w := w) (l := rot l i) (c := c') ho2, hu⟩
theorem lightV {F : Nat → Prop} {w : World} {txs : List HTx} {ords : List HOrd} {A : Option Addr} {c : Nat} {B : Option Addr} {d : Nat} {v : Bool} (H : Hist.lies F w ⟨txs, ords, A, c, B, d⟩) (hv : lightB ⟨txs, ords, A, c, B, d⟩ = v) :
    Calls Try.prog 29 #[.agg #[.slice A txs.length c, .slice B ords.length d]] w fun e w' => e = .returned (.bool v) ∧ Upd No w w' := by subst hv; exact rlight F w ⟨txs, ords, A, c, B, d⟩ H
theorem upd_al (W : World) (o : Obj) : Upd No W (W.alloc o) := (Upd.refl _ _).alloc o
/-- a whole block stored into, at a step of a region that draws its order -/
theorem step_storeB {P : Program} {ops : Array Oper} {o : Oper} {a : Act} {W : World} {K : Act → World → Prop} {Q : Exit → Act → World → Prop} {E : Prop} (hgd : o.guard = none) {ty : TypeId} {x y : Operand} (ho : o.op = .store ty x y)
    {g : Nat} {t : TypeId} {old cells : List Value} (hx : a.eval x = .pointer (some ⟨g, 0, none⟩)) (hy : a.eval y = .agg cells.toArray) (hb : Blk W g t old) (hi : (P.info? ty).map (·.size) = some cells.length) (hold : old.length = cells.length)
    (h1 : cells.all (·.oneCell') = true) (h : ∀ w', Blk w' g t cells → Upd (One g) W w' → K (a.put o.dst undef) w') : if Region.wanted o (yielded ops a.tmps) = true then Oper.wp P o a W K Q else E := by
  rw [if_pos (by simp [Region.wanted, hgd])]
  refine wp_store_row ty x y ho g cells.toArray hx hy t old.toArray hb (by simpa using hi) (by simpa using hold) (by simpa using h1) ?_
  exact h _ (setRow_heap W g old.toArray cells.toArray t (0, 0) hb) ⟨rfl, rfl, rfl, by simp [World.setRow], fun k hk hn => setRow_other W g k _ hn⟩
theorem own_is {a n c i : Nat} (e : Own (.slice (some ⟨a, 0, none⟩) n c) i) : a = i := by simpa [Own, Value.ownBlock] using e
theorem grew_ne {W : World} {v v' : Value} {g : Nat} (h : Grew W v v') (h1 : ¬ Own v g) (h2 : g < W.heap.size) : ¬ Own v' g := fun e => by
  unfold Own at e h1
  rcases h with h | ⟨k, hk, hge⟩
  · exact h1 (by rw [← h]; exact e)
  · rw [hk] at e
    injection e with e
    omega
theorem Blk.new1 (W : World) (o : Obj) (t : TypeId) (l : List Value) {g : Nat} (hg : g = W.heap.size + 1) : Blk ((W.alloc o).alloc (.cells l.toArray t)) g t l := by
  subst hg
  have h := Blk.new (W.alloc o) t l
  simp only [World.size_alloc] at h
  exact h
theorem walk2_own {w : World} {base c : Nat} {A : Option Addr} {l : List Edge} (h : w.ownsRow base 89 4 (.slice A (l.length + l.length) c) (l.length + l.length) ((l.map Edge.cells).flatten ++ (l.map Edge.cells).flatten)) : Walk (Own (.slice A (l.length + l.length) c)) w A (l ++ l) :=
  Recs.of_own edges_len (by decide) (by rw [List.map_append, List.flatten_append]; exact h)
set_option maxRecDepth 100000 in
set_option maxHeartbeats 16000000 in
theorem turns32 (F G : Nat → Prop) (w : World) (txs : List HTx) (ords : List HOrd) (A : Option Addr) (c : Nat) (B : Option Addr) (d : Nat) (p : Int) (X : Option Addr) (xc : Nat) (l : List Edge) (bx bp vt vk vn i : Int)
    (H : Hist.lies F w ⟨txs, ords, A, c, B, d⟩) (W : Walk G w X l) (hcx : l.length ≤ xc) (hl4 : l.length ≤ 4398046511103)
    (L : Hid (∀ w, Calls Try.prog 74 #[] w fun e w' => e = .returned (.bool true) ∧ Upd No w w')) :
    Calls Try.prog 10 #[.agg #[.slice A txs.length c, .slice B ords.length d], .agg #[.int .i64 p, .slice X l.length xc, .int .i64 bx, .int .i64 bp, .int .i64 vt, .int .i64 vk, .int .i64 vn], .int .i64 i] w fun e w' => e = .returned (.bool true) ∧ Upd No w w' := by
  have u0 := ((Upd.refl No w).alloc (.cells #[.slice A txs.length c, .slice B ords.length d] 45)).alloc (.cells #[.int .i64 p, .slice X l.length xc, .int .i64 bx, .int .i64 bp, .int .i64 vt, .int .i64 vk, .int .i64 vn] 38)
  have BH := Lib.hid ((Blk.new w 45 [.slice A txs.length c, .slice B ords.length d]).alloc (.cells #[.int .i64 p, .slice X l.length xc, .int .i64 bx, .int .i64 bp, .int .i64 vt, .int .i64 vk, .int .i64 vn] 38))
  have b1 := Blk.new (w.alloc (.cells #[.slice A txs.length c, .slice B ords.length d] 45)) 38 [.int .i64 p, .slice X l.length xc, .int .i64 bx, .int .i64 bp, .int .i64 vt, .int .i64 vk, .int .i64 vn]
  simp only [World.size_alloc] at b1
  have BW := Lib.hid b1
  have U0 := Lib.hid u0
  clear u0 b1
  go_enter Try.func10, Try.ntmps10
  go_wp2_with fail
  refine (L.out _).mono ?_
  rintro e w1 ⟨rfl, hu1⟩
  have h0 := (BH.out.upd hu1 id).cell 0
  have h1 := (BH.out.upd hu1 id).cell 1
  have y0 := (BW.out.upd hu1 id).cell 0
  have y1 := (BW.out.upd hu1 id).cell 1
  have y2 := (BW.out.upd hu1 id).cell 2
  have y3 := (BW.out.upd hu1 id).cell 3
  have y4 := (BW.out.upd hu1 id).cell 4
  have y5 := (BW.out.upd hu1 id).cell 5
  have y6 := (BW.out.upd hu1 id).cell 6
  simp only [List.getElem?_cons_zero, List.getElem?_cons_succ] at h0 h1 y0 y1 y2 y3 y4 y5 y6
  cases hlg : lightB ⟨txs, ords, A, c, B, d⟩
  · have Hlg := Lib.hid hlg
    clear hlg
    go_wp2_with fail
    refine (lightV (H.upd (U0.out.trans hu1) (fun _ _ => id)) Hlg.out).mono ?_
    rintro e w2 ⟨rfl, hu2⟩
    go_wp2
    go_ret
    exact ⟨rfl, (U0.out.trans hu1).trans hu2⟩
  · have Hlg := Lib.hid hlg
    clear hlg
    have Hu1 := Lib.hid hu1
    go_wp2_with fail
    refine (lightV (H.upd (U0.out.trans hu1) (fun _ _ => id)) Hlg.out).mono ?_
    rintro e w2 ⟨rfl, hu2⟩
    have hu := Hu1.out.trans hu2
    clear h0 h1 y0 y1 y2 y3 y4 y5 y6 hu1 hu2
    have h0 := (BH.out.upd hu id).cell 0
    have h1 := (BH.out.upd hu id).cell 1
    have y0 := (BW.out.upd hu id).cell 0
    have y1 := (BW.out.upd hu id).cell 1
    have y2 := (BW.out.upd hu id).cell 2
    have y3 := (BW.out.upd hu id).cell 3
    have y4 := (BW.out.upd hu id).cell 4
    have y5 := (BW.out.upd hu id).cell 5
    have y6 := (BW.out.upd hu id).cell 6
    simp only [List.getElem?_cons_zero, List.getElem?_cons_succ] at h0 h1 y0 y1 y2 y3 y4 y5 y6
    by_cases h30 : 30 < l.length
    · go_wp2
      go_ret
      exact ⟨rfl, U0.out.trans hu⟩
    · by_cases hi0 : i < 0
      · go_wp2
        go_ret
        exact ⟨rfl, U0.out.trans hu⟩
      · by_cases hil : (l.length : Int) ≤ i
        · go_wp2
          go_ret
          exact ⟨rfl, U0.out.trans hu⟩
        · obtain ⟨k, rfl⟩ : ∃ k : Nat, i = k := ⟨i.toNat, by omega⟩
          have hk : k < l.length := by omega
          have hll : l.length ≤ 1000000 := by omega
          have hd1 : decide ((30 : Int) < (l.length : Int)) = false := decide_eq_false (by omega)
          have hd2 : decide ((l.length : Int) ≤ (k : Int)) = false := decide_eq_false hil
          have hd3 : decide (l.length ≤ k) = false := decide_eq_false (by omega)
          obtain ⟨a, ha⟩ : ∃ a, acceptB ⟨txs, ords, A, c, B, d⟩ p l ⟨bx, bp, ⟨vt, vk, vn⟩⟩ = a := ⟨_, rfl⟩
          have Ha := Lib.hid ha
          have HR := Lib.hid (show acceptB ⟨txs, ords, A, c, B, d⟩ p (rot l k) ⟨bx, bp, ⟨vt, vk, vn⟩⟩ = a by rw [acc_rot _ _ _ _ hk]; exact ha)
          clear ha
          go_wp2_with fail
          refine (caccV (H.upd (U0.out.trans hu) (fun _ _ => id)) ⟨_, W.upd (U0.out.trans hu) (fun _ _ => id)⟩ hll rfl rfl rfl Ha.out).mono ?_
          rintro e w3 ⟨rfl, hu3⟩
          have U3 := Lib.hid (hu.trans hu3)
          clear h0 h1 y0 y1 y2 y3 y4 y5 y6 hu hu3
          have WB := Lib.hid (fun W' (hW : Upd No w3 W') => W.upd ((U0.out.trans U3.out).trans hW) (fun _ _ => id))
          have HB := Lib.hid (fun W' (hW : Upd No w3 W') => H.upd ((U0.out.trans U3.out).trans hW) (fun _ _ => id))
          have BH3 := Lib.hid (BH.out.upd U3.out id)
          have BW3 := Lib.hid (BW.out.upd U3.out id)
          have ALL := Lib.hid (show ∀ W', Upd No w3 W' → Upd No w3 W' ∧ W'.cell? ⟨w.heap.size + 1, 0, none⟩ = some (.int .i64 p) ∧ W'.cell? ⟨w.heap.size + 1, 1, none⟩ = some (.slice X l.length xc) ∧ W'.cell? ⟨w.heap.size + 1, 2, none⟩ = some (.int .i64 bx) ∧ W'.cell? ⟨w.heap.size + 1, 3, none⟩ = some (.int .i64 bp) ∧ W'.cell? ⟨w.heap.size + 1, 4, none⟩ = some (.int .i64 vt) ∧ W'.cell? ⟨w.heap.size + 1, 5, none⟩ = some (.int .i64 vk) ∧ W'.cell? ⟨w.heap.size + 1, 6, none⟩ = some (.int .i64 vn)
            from fun W' hW => ⟨hW, (BW3.out.upd hW id).cell 0, (BW3.out.upd hW id).cell 1, (BW3.out.upd hW id).cell 2, (BW3.out.upd hW id).cell 3, (BW3.out.upd hW id).cell 4, (BW3.out.upd hW id).cell 5, (BW3.out.upd hW id).cell 6⟩)
          have UW := Lib.hid ((Upd.refl No w3).drew)
          go_upto_region 6 with fail
          go_cut [8] (fun s8 wx => ∃ (g8 : Nat) (A8 : Option Addr) (c8 : Nat), s8 = .pointer (some ⟨g8, 0, none⟩) ∧ Blk wx g8 38 [.int .i64 p, .slice A8 l.length c8, .int .i64 bx, .int .i64 bp, .int .i64 vt, .int .i64 vk, .int .i64 vn] ∧ (∃ G, Walk G wx A8 (rot l k)) ∧ l.length ≤ c8 ∧ Upd No w3 wx)
          case first =>
            refine wp_region_noPanic ?_
            refine wp_region_held_drew (S := (fun W' => Upd No w3 W' ∧ W'.cell? ⟨w.heap.size + 1, 0, none⟩ = some (.int .i64 p) ∧ W'.cell? ⟨w.heap.size + 1, 1, none⟩ = some (.slice X l.length xc) ∧ W'.cell? ⟨w.heap.size + 1, 2, none⟩ = some (.int .i64 bx) ∧ W'.cell? ⟨w.heap.size + 1, 3, none⟩ = some (.int .i64 bp) ∧ W'.cell? ⟨w.heap.size + 1, 4, none⟩ = some (.int .i64 vt) ∧ W'.cell? ⟨w.heap.size + 1, 5, none⟩ = some (.int .i64 vk) ∧ W'.cell? ⟨w.heap.size + 1, 6, none⟩ = some (.int .i64 vn))) (by kernel_rfl) ?_ (fun hHeld => ?_)
            · (first | exact ALL.out _ UW.out | exact ALL.out _ (hHeld.1.trans hu4) | exact ALL.out _ (hHeld.1.alloc _) | exact ALL.out _ ((UW.out.trans hu4).alloc _) | exact ALL.out _ (hHeld.1.then_ hu5 (fun i e => .inr (by cases e; exact Nat.le_refl _))))
            refine wpAnyH_take (i := 0) (oi := { dst := some 36, op := Go.Op.fieldAddr 38 (Go.Operand.tmp 4) 0, type := 0, pos := "law.go:68", after := #[], guard := none }) (v := ?_) rfl (by kernel_rfl) (by kernel_rfl) (by kernel_rfl) (fun _ _ _ h => h) (Or.inl ⟨by rfl, ?_⟩) (by assumption) ?_
            rotate_left
            · (intro W hSw; (try dsimp only at hSw); go_simp; try (with_reducible rfl))
            try simp only [Act.put, List.setIfInBounds_toArray, List.set_cons_zero, List.set_cons_succ]
            refine wpAnyH_take (i := 1) (oi := { dst := some 37, op := Go.Op.load 3 (Go.Operand.tmp 36), type := 3, pos := "law.go:68", after := #[{ on := 0, ground := Go.Ground.data }], guard := none }) (v := ?_) rfl (by kernel_rfl) (by kernel_rfl) (by kernel_rfl) (fun _ _ _ h => h) (Or.inl ⟨by rfl, ?_⟩) (by assumption) ?_
            rotate_left
            · (intro W hSw; (try dsimp only at hSw); go_simp; try (with_reducible rfl))
            try simp only [Act.put, List.setIfInBounds_toArray, List.set_cons_zero, List.set_cons_succ]
            refine wpAnyH_take (i := 2) (oi := { dst := some 38, op := Go.Op.fieldAddr 38 (Go.Operand.tmp 4) 1, type := 0, pos := "law.go:68", after := #[], guard := none }) (v := ?_) rfl (by kernel_rfl) (by kernel_rfl) (by kernel_rfl) (fun _ _ _ h => h) (Or.inl ⟨by rfl, ?_⟩) (by assumption) ?_
            rotate_left
            · (intro W hSw; (try dsimp only at hSw); go_simp; try (with_reducible rfl))
            try simp only [Act.put, List.setIfInBounds_toArray, List.set_cons_zero, List.set_cons_succ]
            refine wpAnyH_take (i := 3) (oi := { dst := some 39, op := Go.Op.load 22 (Go.Operand.tmp 38), type := 22, pos := "law.go:68", after := #[{ on := 2, ground := Go.Ground.data }], guard := none }) (v := ?_) rfl (by kernel_rfl) (by kernel_rfl) (by kernel_rfl) (fun _ _ _ h => h) (Or.inl ⟨by rfl, ?_⟩) (by assumption) ?_
            rotate_left
            · (intro W hSw; (try dsimp only at hSw); go_simp; try (with_reducible rfl))
            try simp only [Act.put, List.setIfInBounds_toArray, List.set_cons_zero, List.set_cons_succ]
            refine wpAnyH_take (i := 4) (oi := { dst := some 40, op := Go.Op.move (Go.Operand.tmp 2), type := 3, pos := "law.go:68", after := #[], guard := none }) (v := ?_) rfl (by kernel_rfl) (by kernel_rfl) (by kernel_rfl) (fun _ _ _ h => h) (Or.inl ⟨by rfl, ?_⟩) (by assumption) ?_
            rotate_left
            · (intro W hSw; (try dsimp only at hSw); go_simp; try (with_reducible rfl))
            try simp only [Act.put, List.setIfInBounds_toArray, List.set_cons_zero, List.set_cons_succ]
            refine wpAnyH_take (i := 6) (oi := { dst := some 42, op := Go.Op.fieldAddr 38 (Go.Operand.tmp 4) 2, type := 0, pos := "law.go:68", after := #[], guard := none }) (v := ?_) rfl (by kernel_rfl) (by kernel_rfl) (by kernel_rfl) (fun _ _ _ h => h) (Or.inl ⟨by rfl, ?_⟩) (by assumption) ?_
            rotate_left
            · (intro W hSw; (try dsimp only at hSw); go_simp; try (with_reducible rfl))
            try simp only [Act.put, List.setIfInBounds_toArray, List.set_cons_zero, List.set_cons_succ]
            refine wpAnyH_take (i := 7) (oi := { dst := some 43, op := Go.Op.load 36 (Go.Operand.tmp 42), type := 36, pos := "law.go:68", after := #[{ on := 6, ground := Go.Ground.data }], guard := none }) (v := ?_) rfl (by kernel_rfl) (by kernel_rfl) (by kernel_rfl) (fun _ _ _ h => h) (Or.inl ⟨by rfl, ?_⟩) (by assumption) ?_
            rotate_left
            · (intro W hSw; (try dsimp only at hSw); go_simp; try (with_reducible rfl))
            try simp only [Act.put, List.setIfInBounds_toArray, List.set_cons_zero, List.set_cons_succ]
            refine wpAnyH_ready (rs := [5, 9]) (by kernel_rfl) (by simp) ?_
            refine AllReadyH.cons (o := { dst := some 41, op := Go.Op.call { callee := Go.Callee.value (Go.Operand.func 52), args := #[Go.Operand.tmp 39, Go.Operand.tmp 40], argTypes := #[22, 3] }, type := 22, pos := "law.go:68", after := #[{ on := 3, ground := Go.Ground.data }, { on := 4, ground := Go.Ground.data }], guard := none }) rfl (fun K hK => ?_) ?_
            · go_simp
              (first
      | (go_at_call 52; refine (begV (WB.out _ hHeld.1) hll hcx hk).mono ?_; rintro e w4 ⟨A8, c8, rfl, hc8, hw8, hu4⟩; (first | (have hA : Upd No w3.drew w4 := hu4; clear hA; have tA : True := trivial) | (have ZZ := Lib.hid (show Blk w4 w3.heap.size 38 [.int .i64 0, .slice none 0 0, .int .i64 0, .int .i64 0, .int .i64 0, .int .i64 0, .int .i64 0] from (Blk.new w3.drew 38 [.int .i64 0, .slice none 0 0, .int .i64 0, .int .i64 0, .int .i64 0, .int .i64 0, .int .i64 0]).upd hu4 id)))))
              try (go_wp2_with fail)
              refine hK.out _ _ ?_ (fun hHeld => ?_)
              · (first | exact ALL.out _ UW.out | exact ALL.out _ (hHeld.1.trans hu4) | exact ALL.out _ (hHeld.1.alloc _) | exact ALL.out _ ((UW.out.trans hu4).alloc _) | exact ALL.out _ (hHeld.1.then_ hu5 (fun i e => .inr (by cases e; exact Nat.le_refl _))))
              clear hK K
              try simp only [Act.put, List.setIfInBounds_toArray, List.set_cons_zero, List.set_cons_succ]
              refine wpAnyH_take (i := 8) (oi := { dst := some 44, op := Go.Op.build 38 #[(0, Go.Operand.tmp 37), (1, Go.Operand.tmp 41), (2, Go.Operand.tmp 43)], type := 38, pos := "law.go:68", after := #[{ on := 1, ground := Go.Ground.data }, { on := 5, ground := Go.Ground.data }, { on := 7, ground := Go.Ground.data }], guard := none }) (v := ?_) rfl (by kernel_rfl) (by kernel_rfl) (by kernel_rfl) (fun _ _ _ h => h) (Or.inl ⟨by rfl, ?_⟩) (by assumption) ?_
              rotate_left
              · (intro W hSw; (try dsimp only at hSw); go_simp; try (with_reducible rfl))
              try simp only [Act.put, List.setIfInBounds_toArray, List.set_cons_zero, List.set_cons_succ]
              refine wpAnyH_ready (rs := [9]) (by kernel_rfl) (by simp) ?_
              refine AllReadyH.cons (o := { dst := some 8, op := Go.Op.alloc 38, type := 0, pos := "law.go:68", after := #[], guard := none }) rfl (fun K hK => ?_) AllReadyH.nil
              go_simp
              refine hK.out _ _ ?_ (fun hHeld => ?_)
              · (first | exact ALL.out _ UW.out | exact ALL.out _ (hHeld.1.trans hu4) | exact ALL.out _ (hHeld.1.alloc _) | exact ALL.out _ ((UW.out.trans hu4).alloc _) | exact ALL.out _ (hHeld.1.then_ hu5 (fun i e => .inr (by cases e; exact Nat.le_refl _))))
              clear hK K
              try simp only [Act.put, List.setIfInBounds_toArray, List.set_cons_zero, List.set_cons_succ]
              refine wpAnyH_ready (rs := [10]) (by kernel_rfl) (by simp) ?_
              refine AllReadyH.cons (o := { dst := none, op := Go.Op.store 38 (Go.Operand.tmp 8) (Go.Operand.tmp 44), type := 0, pos := "law.go:68", after := #[{ on := 9, ground := Go.Ground.data }, { on := 8, ground := Go.Ground.data }, { on := 5, ground := Go.Ground.chain }, { on := 0, ground := Go.Ground.phase }, { on := 1, ground := Go.Ground.phase }, { on := 2, ground := Go.Ground.phase }, { on := 3, ground := Go.Ground.phase }, { on := 4, ground := Go.Ground.phase }, { on := 5, ground := Go.Ground.phase }, { on := 6, ground := Go.Ground.phase }, { on := 7, ground := Go.Ground.phase }, { on := 8, ground := Go.Ground.phase }, { on := 9, ground := Go.Ground.phase }], guard := none }) rfl (fun K hK => ?_) AllReadyH.nil
              (first
      | (have _t := tA; go_simp)
      | (refine step_storeB rfl rfl (g := w3.heap.size) (cells := [.int .i64 p, .slice A8 l.length c8, .int .i64 bx, .int .i64 bp, .int .i64 vt, .int .i64 vk, .int .i64 vn]) rfl rfl ZZ.out (by kernel_rfl) rfl rfl ?_; intro w5 hb5 hu5))
              refine hK.out _ _ ?_ (fun hHeld => ?_)
              · (first | exact ALL.out _ UW.out | exact ALL.out _ (hHeld.1.trans hu4) | exact ALL.out _ (hHeld.1.alloc _) | exact ALL.out _ ((UW.out.trans hu4).alloc _) | exact ALL.out _ (hHeld.1.then_ hu5 (fun i e => .inr (by cases e; exact Nat.le_refl _))))
              clear hK K
              try simp only [Act.put, List.setIfInBounds_toArray, List.set_cons_zero, List.set_cons_succ]
              refine wpAnyH_done (by kernel_rfl) (NoPanic.normal ?_) _
              go_wp2_with fail
              go_meet
              (first | (have _t := tA; refine ⟨w4.heap.size, A8, c8, rfl, ?_, ?_, hc8, ?_⟩; exact Blk.new _ _ _; exact ⟨_, Recs.upd hw8 (upd_al w4 _) (fun _ _ => id)⟩; exact (UW.out.trans hu4).alloc _) | (refine ⟨w3.heap.size, A8, c8, rfl, hb5, ⟨_, Recs.upd hw8 hu5 (fun i hi e => by cases e; exact absurd hi (by simp))⟩, hc8, hHeld.1⟩))
            refine AllReadyH.cons (o := { dst := some 8, op := Go.Op.alloc 38, type := 0, pos := "law.go:68", after := #[], guard := none }) rfl (fun K hK => ?_) AllReadyH.nil
            go_simp
            refine hK.out _ _ ?_ (fun hHeld => ?_)
            · (first | exact ALL.out _ UW.out | exact ALL.out _ (hHeld.1.trans hu4) | exact ALL.out _ (hHeld.1.alloc _) | exact ALL.out _ ((UW.out.trans hu4).alloc _) | exact ALL.out _ (hHeld.1.then_ hu5 (fun i e => .inr (by cases e; exact Nat.le_refl _))))
            clear hK K
            try simp only [Act.put, List.setIfInBounds_toArray, List.set_cons_zero, List.set_cons_succ]
            refine wpAnyH_ready (rs := [5]) (by kernel_rfl) (by simp) ?_
            refine AllReadyH.cons (o := { dst := some 41, op := Go.Op.call { callee := Go.Callee.value (Go.Operand.func 52), args := #[Go.Operand.tmp 39, Go.Operand.tmp 40], argTypes := #[22, 3] }, type := 22, pos := "law.go:68", after := #[{ on := 3, ground := Go.Ground.data }, { on := 4, ground := Go.Ground.data }], guard := none }) rfl (fun K hK => ?_) AllReadyH.nil
            go_simp
            (first
    | (go_at_call 52; refine (begV (WB.out _ hHeld.1) hll hcx hk).mono ?_; rintro e w4 ⟨A8, c8, rfl, hc8, hw8, hu4⟩; (first | (have hA : Upd No w3.drew w4 := hu4; clear hA; have tA : True := trivial) | (have ZZ := Lib.hid (show Blk w4 w3.heap.size 38 [.int .i64 0, .slice none 0 0, .int .i64 0, .int .i64 0, .int .i64 0, .int .i64 0, .int .i64 0] from (Blk.new w3.drew 38 [.int .i64 0, .slice none 0 0, .int .i64 0, .int .i64 0, .int .i64 0, .int .i64 0, .int .i64 0]).upd hu4 id)))))
            try (go_wp2_with fail)
            refine hK.out _ _ ?_ (fun hHeld => ?_)
            · (first | exact ALL.out _ UW.out | exact ALL.out _ (hHeld.1.trans hu4) | exact ALL.out _ (hHeld.1.alloc _) | exact ALL.out _ ((UW.out.trans hu4).alloc _) | exact ALL.out _ (hHeld.1.then_ hu5 (fun i e => .inr (by cases e; exact Nat.le_refl _))))
            clear hK K
            try simp only [Act.put, List.setIfInBounds_toArray, List.set_cons_zero, List.set_cons_succ]
            refine wpAnyH_take (i := 8) (oi := { dst := some 44, op := Go.Op.build 38 #[(0, Go.Operand.tmp 37), (1, Go.Operand.tmp 41), (2, Go.Operand.tmp 43)], type := 38, pos := "law.go:68", after := #[{ on := 1, ground := Go.Ground.data }, { on := 5, ground := Go.Ground.data }, { on := 7, ground := Go.Ground.data }], guard := none }) (v := ?_) rfl (by kernel_rfl) (by kernel_rfl) (by kernel_rfl) (fun _ _ _ h => h) (Or.inl ⟨by rfl, ?_⟩) (by assumption) ?_
            rotate_left
            · (intro W hSw; (try dsimp only at hSw); go_simp; try (with_reducible rfl))
            try simp only [Act.put, List.setIfInBounds_toArray, List.set_cons_zero, List.set_cons_succ]
            refine wpAnyH_ready (rs := [10]) (by kernel_rfl) (by simp) ?_
            refine AllReadyH.cons (o := { dst := none, op := Go.Op.store 38 (Go.Operand.tmp 8) (Go.Operand.tmp 44), type := 0, pos := "law.go:68", after := #[{ on := 9, ground := Go.Ground.data }, { on := 8, ground := Go.Ground.data }, { on := 5, ground := Go.Ground.chain }, { on := 0, ground := Go.Ground.phase }, { on := 1, ground := Go.Ground.phase }, { on := 2, ground := Go.Ground.phase }, { on := 3, ground := Go.Ground.phase }, { on := 4, ground := Go.Ground.phase }, { on := 5, ground := Go.Ground.phase }, { on := 6, ground := Go.Ground.phase }, { on := 7, ground := Go.Ground.phase }, { on := 8, ground := Go.Ground.phase }, { on := 9, ground := Go.Ground.phase }], guard := none }) rfl (fun K hK => ?_) AllReadyH.nil
            (first
    | (have _t := tA; go_simp)
    | (refine step_storeB rfl rfl (g := w3.heap.size) (cells := [.int .i64 p, .slice A8 l.length c8, .int .i64 bx, .int .i64 bp, .int .i64 vt, .int .i64 vk, .int .i64 vn]) rfl rfl ZZ.out (by kernel_rfl) rfl rfl ?_; intro w5 hb5 hu5))
            refine hK.out _ _ ?_ (fun hHeld => ?_)
            · (first | exact ALL.out _ UW.out | exact ALL.out _ (hHeld.1.trans hu4) | exact ALL.out _ (hHeld.1.alloc _) | exact ALL.out _ ((UW.out.trans hu4).alloc _) | exact ALL.out _ (hHeld.1.then_ hu5 (fun i e => .inr (by cases e; exact Nat.le_refl _))))
            clear hK K
            try simp only [Act.put, List.setIfInBounds_toArray, List.set_cons_zero, List.set_cons_succ]
            refine wpAnyH_done (by kernel_rfl) (NoPanic.normal ?_) _
            go_wp2_with fail
            go_meet
            (first | (have _t := tA; refine ⟨w4.heap.size, A8, c8, rfl, ?_, ?_, hc8, ?_⟩; exact Blk.new _ _ _; exact ⟨_, Recs.upd hw8 (upd_al w4 _) (fun _ _ => id)⟩; exact (UW.out.trans hu4).alloc _) | (refine ⟨w3.heap.size, A8, c8, rfl, hb5, ⟨_, Recs.upd hw8 hu5 (fun i hi e => by cases e; exact absurd hi (by simp))⟩, hc8, hHeld.1⟩))
          case rest =>
            obtain ⟨g8, A8, c8, rfl, hb8, hw8, hc8, hu8⟩ := hcut
            have HW8 := Lib.hid hw8
            have HB8 := Lib.hid hb8
            have HU8 := Lib.hid hu8
            have UW8 := Lib.hid ((Upd.refl No wc).drew)
            clear hw8 hb8 hu8
            generalize hgc : wc = w4 at *
            clear hgc
            go_upto_region 7 with fail
            go_cut [9] (fun s9 wx => ∃ (g9 : Nat) (A9 : Option Addr) (c9 : Nat), s9 = .pointer (some ⟨g9, 0, none⟩) ∧ Blk wx g9 38 [.int .i64 p, .slice A9 (l.length + l.length) c9, .int .i64 bx, .int .i64 bp, .int .i64 vt, .int .i64 vk, .int .i64 vn] ∧ (∃ G, Walk G wx A9 (l ++ l)) ∧ Upd No w4 wx)
            case first =>
              have tok1 : True := trivial
              refine wp_region_noPanic ?_
              refine wp_region_held_drew (S := (fun W' => Upd No w3 W' ∧ W'.cell? ⟨w.heap.size + 1, 0, none⟩ = some (.int .i64 p) ∧ W'.cell? ⟨w.heap.size + 1, 1, none⟩ = some (.slice X l.length xc) ∧ W'.cell? ⟨w.heap.size + 1, 2, none⟩ = some (.int .i64 bx) ∧ W'.cell? ⟨w.heap.size + 1, 3, none⟩ = some (.int .i64 bp) ∧ W'.cell? ⟨w.heap.size + 1, 4, none⟩ = some (.int .i64 vt) ∧ W'.cell? ⟨w.heap.size + 1, 5, none⟩ = some (.int .i64 vk) ∧ W'.cell? ⟨w.heap.size + 1, 6, none⟩ = some (.int .i64 vn))) (by kernel_rfl) ?_ (fun hHeld => ?_)
              · (first | (have _t := tC; exact ALL.out _ (HU8.out.trans U7)) | (have _t := tF; exact ALL.out _ (HU8.out.trans (U6.alloc _))) | (have _t := tB; exact ALL.out _ (HU8.out.trans U6)) | (have _t := tA; exact ALL.out _ (HU8.out.trans U5)) | exact ALL.out _ (HU8.out.trans UW8.out) | exact ALL.out _ (hHeld.1.alloc _))
              refine wpAnyH_take (i := 0) (oi := { dst := some 45, op := Go.Op.fieldAddr 38 (Go.Operand.tmp 4) 0, type := 0, pos := "law.go:69", after := #[], guard := none }) (v := ?_) rfl (by kernel_rfl) (by kernel_rfl) (by kernel_rfl) (fun _ _ _ h => h) (Or.inl ⟨by rfl, ?_⟩) (by assumption) ?_
              rotate_left
              · (intro W hSw; (try dsimp only at hSw); go_simp; try (with_reducible rfl))
              try simp only [Act.put, List.setIfInBounds_toArray, List.set_cons_zero, List.set_cons_succ]
              refine wpAnyH_take (i := 1) (oi := { dst := some 46, op := Go.Op.load 3 (Go.Operand.tmp 45), type := 3, pos := "law.go:69", after := #[{ on := 0, ground := Go.Ground.data }], guard := none }) (v := ?_) rfl (by kernel_rfl) (by kernel_rfl) (by kernel_rfl) (fun _ _ _ h => h) (Or.inl ⟨by rfl, ?_⟩) (by assumption) ?_
              rotate_left
              · (intro W hSw; (try dsimp only at hSw); go_simp; try (with_reducible rfl))
              try simp only [Act.put, List.setIfInBounds_toArray, List.set_cons_zero, List.set_cons_succ]
              refine wpAnyH_take (i := 3) (oi := { dst := some 48, op := Go.Op.fieldAddr 38 (Go.Operand.tmp 4) 1, type := 0, pos := "law.go:69", after := #[], guard := none }) (v := ?_) rfl (by kernel_rfl) (by kernel_rfl) (by kernel_rfl) (fun _ _ _ h => h) (Or.inl ⟨by rfl, ?_⟩) (by assumption) ?_
              rotate_left
              · (intro W hSw; (try dsimp only at hSw); go_simp; try (with_reducible rfl))
              try simp only [Act.put, List.setIfInBounds_toArray, List.set_cons_zero, List.set_cons_succ]
              refine wpAnyH_take (i := 4) (oi := { dst := some 49, op := Go.Op.load 22 (Go.Operand.tmp 48), type := 22, pos := "law.go:69", after := #[{ on := 3, ground := Go.Ground.data }], guard := none }) (v := ?_) rfl (by kernel_rfl) (by kernel_rfl) (by kernel_rfl) (fun _ _ _ h => h) (Or.inl ⟨by rfl, ?_⟩) (by assumption) ?_
              rotate_left
              · (intro W hSw; (try dsimp only at hSw); go_simp; try (with_reducible rfl))
              try simp only [Act.put, List.setIfInBounds_toArray, List.set_cons_zero, List.set_cons_succ]
              refine wpAnyH_take (i := 6) (oi := { dst := some 51, op := Go.Op.fieldAddr 38 (Go.Operand.tmp 4) 1, type := 0, pos := "law.go:69", after := #[], guard := none }) (v := ?_) rfl (by kernel_rfl) (by kernel_rfl) (by kernel_rfl) (fun _ _ _ h => h) (Or.inl ⟨by rfl, ?_⟩) (by assumption) ?_
              rotate_left
              · (intro W hSw; (try dsimp only at hSw); go_simp; try (with_reducible rfl))
              try simp only [Act.put, List.setIfInBounds_toArray, List.set_cons_zero, List.set_cons_succ]
              refine wpAnyH_take (i := 7) (oi := { dst := some 52, op := Go.Op.load 22 (Go.Operand.tmp 51), type := 22, pos := "law.go:69", after := #[{ on := 6, ground := Go.Ground.data }], guard := none }) (v := ?_) rfl (by kernel_rfl) (by kernel_rfl) (by kernel_rfl) (fun _ _ _ h => h) (Or.inl ⟨by rfl, ?_⟩) (by assumption) ?_
              rotate_left
              · (intro W hSw; (try dsimp only at hSw); go_simp; try (with_reducible rfl))
              try simp only [Act.put, List.setIfInBounds_toArray, List.set_cons_zero, List.set_cons_succ]
              refine wpAnyH_take (i := 9) (oi := { dst := some 54, op := Go.Op.fieldAddr 38 (Go.Operand.tmp 4) 2, type := 0, pos := "law.go:69", after := #[], guard := none }) (v := ?_) rfl (by kernel_rfl) (by kernel_rfl) (by kernel_rfl) (fun _ _ _ h => h) (Or.inl ⟨by rfl, ?_⟩) (by assumption) ?_
              rotate_left
              · (intro W hSw; (try dsimp only at hSw); go_simp; try (with_reducible rfl))
              try simp only [Act.put, List.setIfInBounds_toArray, List.set_cons_zero, List.set_cons_succ]
              refine wpAnyH_take (i := 10) (oi := { dst := some 55, op := Go.Op.load 36 (Go.Operand.tmp 54), type := 36, pos := "law.go:69", after := #[{ on := 9, ground := Go.Ground.data }], guard := none }) (v := ?_) rfl (by kernel_rfl) (by kernel_rfl) (by kernel_rfl) (fun _ _ _ h => h) (Or.inl ⟨by rfl, ?_⟩) (by assumption) ?_
              rotate_left
              · (intro W hSw; (try dsimp only at hSw); go_simp; try (with_reducible rfl))
              try simp only [Act.put, List.setIfInBounds_toArray, List.set_cons_zero, List.set_cons_succ]
              refine wpAnyH_ready (rs := [2, 12]) (by kernel_rfl) (by simp) ?_
              refine AllReadyH.cons (o := { dst := some 47, op := Go.Op.buildSlice 22 0 #[], type := 22, pos := "law.go:69", after := #[], guard := none }) rfl (fun K hK => ?_) ?_
              · go_simp
                refine hK.out _ _ ?_ (fun hHeld => ?_)
                · (first | (have _t := tC; exact ALL.out _ (HU8.out.trans U7)) | (have _t := tF; exact ALL.out _ (HU8.out.trans (U6.alloc _))) | (have _t := tB; exact ALL.out _ (HU8.out.trans U6)) | (have _t := tA; exact ALL.out _ (HU8.out.trans U5)) | exact ALL.out _ (HU8.out.trans UW8.out) | exact ALL.out _ (hHeld.1.alloc _))
                clear hK K
                try simp only [Act.put, List.setIfInBounds_toArray, List.set_cons_zero, List.set_cons_succ]
                refine wpAnyH_ready (rs := [5, 12]) (by kernel_rfl) (by simp) ?_
                refine AllReadyH.cons (o := { dst := some 50, op := Go.Op.call { callee := Go.Callee.builtin Go.Builtin.append, args := #[Go.Operand.tmp 47, Go.Operand.tmp 49], argTypes := #[22, 22] }, type := 22, pos := "law.go:69", after := #[{ on := 2, ground := Go.Ground.data }, { on := 4, ground := Go.Ground.data }], guard := none }) rfl (fun K hK => ?_) ?_
                · (first
        | (have _t := tA; refine step_appN rfl rfl slt_edges (base := w4.heap.size) (n := l.length) (m := l.length) (xs := (l.map Edge.cells).flatten) (news := (l.map Edge.cells).flatten) rfl rfl ?_ ?_ edges_one (by omega) (by omega) ?_ ?_; (first | exact hown5 | exact hown5.alloc _); exact Walk.src (WB.out _ hHeld.1) rfl; (first | exact U5.size | exact (U5.alloc _).size); intro v6 w6 hown6 hu6 hg6; obtain ⟨A6, c6, rfl⟩ := own_slice hown6; have tB : True := trivial; (have U6 : Upd No w4 w6 := (by first | exact U5.then_ hu6 (fun i e => .inr (hown5.lt i e).1) | exact (U5.alloc _).then_ hu6 (fun i e => .inr (hown5.lt i e).1))); (first | (have ZZ := Lib.hid (zz5.upd hu6 nz5); have nz6 := grew_ne hg6 nz5 (by have := hu5.size; (try simp only [World.size_alloc, World.size_drew] at this); (try simp only [World.size_alloc, World.size_drew]); omega)) | (have nz6 : ¬ Own (.slice A6 (l.length + l.length) c6) w5.heap.size := grew_ne hg6 (fun e => by have := (hown5.lt _ e).2; omega) (by (try simp only [World.size_alloc, World.size_drew]); omega); have ZZ := Lib.hid (show Blk w6 w5.heap.size 38 [.int .i64 0, .slice none 0 0, .int .i64 0, .int .i64 0, .int .i64 0, .int .i64 0, .int .i64 0] from (Blk.new w5 38 [.int .i64 0, .slice none 0 0, .int .i64 0, .int .i64 0, .int .i64 0, .int .i64 0, .int .i64 0]).upd hu6 (fun e => by have := (hown5.lt _ e).2; omega))) | (have tE : True := trivial)))
        | (have _t := tok1; refine step_appN rfl rfl slt_edges (base := w4.heap.size) (n := 0) (m := l.length) (xs := []) (news := (l.map Edge.cells).flatten) rfl rfl ?_ ?_ edges_one (by omega) (by omega) ?_ ?_; (first | exact own_emp (by simp) (by simp) | exact (own_emp (by simp) (by simp)).alloc _); exact Walk.src (WB.out _ hHeld.1) rfl; (show _ ≤ _; simp only [World.size_alloc, World.size_drew]; omega); clear tok1 _t; intro v5 w5 hown5 hu5 hg5; (simp only [Nat.zero_add, List.nil_append] at hown5); obtain ⟨A5, c5, rfl⟩ := own_slice hown5; have tA : True := trivial; (have U5 : Upd No w4 w5 := (by first | exact (UW8.out.alloc _).then_ hu5 (fun i e => .inr (by have := own_is e; (try simp only [World.size_drew, World.size_alloc] at this); omega)) | exact ((UW8.out.alloc _).alloc _).then_ hu5 (fun i e => .inr (by have := own_is e; (try simp only [World.size_drew, World.size_alloc] at this); omega)))); (first | (have zz5 : Blk w5 (w4.heap.size + 1) 38 [.int .i64 0, .slice none 0 0, .int .i64 0, .int .i64 0, .int .i64 0, .int .i64 0, .int .i64 0] := ((Blk.new1 w4.drew (.cells #[] 89) 38 [.int .i64 0, .slice none 0 0, .int .i64 0, .int .i64 0, .int .i64 0, .int .i64 0, .int .i64 0] rfl).upd hu5 (fun e => by have := own_is e; (try simp only [World.size_alloc, World.size_drew] at this); omega)); have nz5 : ¬ Own (.slice A5 l.length c5) (w4.heap.size + 1) := grew_ne hg5 (fun e => by have := own_is e; (try simp only [World.size_alloc, World.size_drew] at this); omega) (by (try simp only [World.size_alloc, World.size_drew]); omega)) | (have zz5 : Blk w5 w4.heap.size 38 [.int .i64 0, .slice none 0 0, .int .i64 0, .int .i64 0, .int .i64 0, .int .i64 0, .int .i64 0] := (((Blk.new w4.drew 38 [.int .i64 0, .slice none 0 0, .int .i64 0, .int .i64 0, .int .i64 0, .int .i64 0, .int .i64 0]).alloc (.cells #[] 89)).upd hu5 (fun e => by have := own_is e; (try simp only [World.size_alloc, World.size_drew] at this); omega)); have nz5 : ¬ Own (.slice A5 l.length c5) w4.heap.size := grew_ne hg5 (fun e => by have := own_is e; (try simp only [World.size_alloc, World.size_drew] at this); omega) (by (try simp only [World.size_alloc, World.size_drew]); omega)) | skip)))
                  refine hK.out _ _ ?_ (fun hHeld => ?_)
                  · (first | (have _t := tC; exact ALL.out _ (HU8.out.trans U7)) | (have _t := tF; exact ALL.out _ (HU8.out.trans (U6.alloc _))) | (have _t := tB; exact ALL.out _ (HU8.out.trans U6)) | (have _t := tA; exact ALL.out _ (HU8.out.trans U5)) | exact ALL.out _ (HU8.out.trans UW8.out) | exact ALL.out _ (hHeld.1.alloc _))
                  clear hK K
                  try simp only [Act.put, List.setIfInBounds_toArray, List.set_cons_zero, List.set_cons_succ]
                  refine wpAnyH_ready (rs := [8, 12]) (by kernel_rfl) (by simp) ?_
                  refine AllReadyH.cons (o := { dst := some 53, op := Go.Op.call { callee := Go.Callee.builtin Go.Builtin.append, args := #[Go.Operand.tmp 50, Go.Operand.tmp 52], argTypes := #[22, 22] }, type := 22, pos := "law.go:69", after := #[{ on := 5, ground := Go.Ground.data }, { on := 7, ground := Go.Ground.data }, { on := 5, ground := Go.Ground.chain }], guard := none }) rfl (fun K hK => ?_) ?_
                  · (first
          | (have _t := tA; refine step_appN rfl rfl slt_edges (base := w4.heap.size) (n := l.length) (m := l.length) (xs := (l.map Edge.cells).flatten) (news := (l.map Edge.cells).flatten) rfl rfl ?_ ?_ edges_one (by omega) (by omega) ?_ ?_; (first | exact hown5 | exact hown5.alloc _); exact Walk.src (WB.out _ hHeld.1) rfl; (first | exact U5.size | exact (U5.alloc _).size); intro v6 w6 hown6 hu6 hg6; obtain ⟨A6, c6, rfl⟩ := own_slice hown6; have tB : True := trivial; (have U6 : Upd No w4 w6 := (by first | exact U5.then_ hu6 (fun i e => .inr (hown5.lt i e).1) | exact (U5.alloc _).then_ hu6 (fun i e => .inr (hown5.lt i e).1))); (first | (have ZZ := Lib.hid (zz5.upd hu6 nz5); have nz6 := grew_ne hg6 nz5 (by have := hu5.size; (try simp only [World.size_alloc, World.size_drew] at this); (try simp only [World.size_alloc, World.size_drew]); omega)) | (have nz6 : ¬ Own (.slice A6 (l.length + l.length) c6) w5.heap.size := grew_ne hg6 (fun e => by have := (hown5.lt _ e).2; omega) (by (try simp only [World.size_alloc, World.size_drew]); omega); have ZZ := Lib.hid (show Blk w6 w5.heap.size 38 [.int .i64 0, .slice none 0 0, .int .i64 0, .int .i64 0, .int .i64 0, .int .i64 0, .int .i64 0] from (Blk.new w5 38 [.int .i64 0, .slice none 0 0, .int .i64 0, .int .i64 0, .int .i64 0, .int .i64 0, .int .i64 0]).upd hu6 (fun e => by have := (hown5.lt _ e).2; omega))) | (have tE : True := trivial)))
          | (have _t := tok1; refine step_appN rfl rfl slt_edges (base := w4.heap.size) (n := 0) (m := l.length) (xs := []) (news := (l.map Edge.cells).flatten) rfl rfl ?_ ?_ edges_one (by omega) (by omega) ?_ ?_; (first | exact own_emp (by simp) (by simp) | exact (own_emp (by simp) (by simp)).alloc _); exact Walk.src (WB.out _ hHeld.1) rfl; (show _ ≤ _; simp only [World.size_alloc, World.size_drew]; omega); clear tok1 _t; intro v5 w5 hown5 hu5 hg5; (simp only [Nat.zero_add, List.nil_append] at hown5); obtain ⟨A5, c5, rfl⟩ := own_slice hown5; have tA : True := trivial; (have U5 : Upd No w4 w5 := (by first | exact (UW8.out.alloc _).then_ hu5 (fun i e => .inr (by have := own_is e; (try simp only [World.size_drew, World.size_alloc] at this); omega)) | exact ((UW8.out.alloc _).alloc _).then_ hu5 (fun i e => .inr (by have := own_is e; (try simp only [World.size_drew, World.size_alloc] at this); omega)))); (first | (have zz5 : Blk w5 (w4.heap.size + 1) 38 [.int .i64 0, .slice none 0 0, .int .i64 0, .int .i64 0, .int .i64 0, .int .i64 0, .int .i64 0] := ((Blk.new1 w4.drew (.cells #[] 89) 38 [.int .i64 0, .slice none 0 0, .int .i64 0, .int .i64 0, .int .i64 0, .int .i64 0, .int .i64 0] rfl).upd hu5 (fun e => by have := own_is e; (try simp only [World.size_alloc, World.size_drew] at this); omega)); have nz5 : ¬ Own (.slice A5 l.length c5) (w4.heap.size + 1) := grew_ne hg5 (fun e => by have := own_is e; (try simp only [World.size_alloc, World.size_drew] at this); omega) (by (try simp only [World.size_alloc, World.size_drew]); omega)) | (have zz5 : Blk w5 w4.heap.size 38 [.int .i64 0, .slice none 0 0, .int .i64 0, .int .i64 0, .int .i64 0, .int .i64 0, .int .i64 0] := (((Blk.new w4.drew 38 [.int .i64 0, .slice none 0 0, .int .i64 0, .int .i64 0, .int .i64 0, .int .i64 0, .int .i64 0]).alloc (.cells #[] 89)).upd hu5 (fun e => by have := own_is e; (try simp only [World.size_alloc, World.size_drew] at this); omega)); have nz5 : ¬ Own (.slice A5 l.length c5) w4.heap.size := grew_ne hg5 (fun e => by have := own_is e; (try simp only [World.size_alloc, World.size_drew] at this); omega) (by (try simp only [World.size_alloc, World.size_drew]); omega)) | skip)))
                    refine hK.out _ _ ?_ (fun hHeld => ?_)
                    · (first | (have _t := tC; exact ALL.out _ (HU8.out.trans U7)) | (have _t := tF; exact ALL.out _ (HU8.out.trans (U6.alloc _))) | (have _t := tB; exact ALL.out _ (HU8.out.trans U6)) | (have _t := tA; exact ALL.out _ (HU8.out.trans U5)) | exact ALL.out _ (HU8.out.trans UW8.out) | exact ALL.out _ (hHeld.1.alloc _))
                    clear hK K
                    try simp only [Act.put, List.setIfInBounds_toArray, List.set_cons_zero, List.set_cons_succ]
                    refine wpAnyH_take (i := 11) (oi := { dst := some 56, op := Go.Op.build 38 #[(0, Go.Operand.tmp 46), (1, Go.Operand.tmp 53), (2, Go.Operand.tmp 55)], type := 38, pos := "law.go:69", after := #[{ on := 1, ground := Go.Ground.data }, { on := 8, ground := Go.Ground.data }, { on := 10, ground := Go.Ground.data }], guard := none }) (v := ?_) rfl (by kernel_rfl) (by kernel_rfl) (by kernel_rfl) (fun _ _ _ h => h) (Or.inl ⟨by rfl, ?_⟩) (by assumption) ?_
                    rotate_left
                    · (intro W hSw; (try dsimp only at hSw); go_simp; try (with_reducible rfl))
                    try simp only [Act.put, List.setIfInBounds_toArray, List.set_cons_zero, List.set_cons_succ]
                    refine wpAnyH_ready (rs := [12]) (by kernel_rfl) (by simp) ?_
                    refine AllReadyH.cons (o := { dst := some 9, op := Go.Op.alloc 38, type := 0, pos := "law.go:69", after := #[], guard := none }) rfl (fun K hK => ?_) AllReadyH.nil
                    go_simp
                    refine hK.out _ _ ?_ (fun hHeld => ?_)
                    · (first | (have _t := tC; exact ALL.out _ (HU8.out.trans U7)) | (have _t := tF; exact ALL.out _ (HU8.out.trans (U6.alloc _))) | (have _t := tB; exact ALL.out _ (HU8.out.trans U6)) | (have _t := tA; exact ALL.out _ (HU8.out.trans U5)) | exact ALL.out _ (HU8.out.trans UW8.out) | exact ALL.out _ (hHeld.1.alloc _))
                    clear hK K
                    try simp only [Act.put, List.setIfInBounds_toArray, List.set_cons_zero, List.set_cons_succ]
                    refine wpAnyH_ready (rs := [13]) (by kernel_rfl) (by simp) ?_
                    refine AllReadyH.cons (o := { dst := none, op := Go.Op.store 38 (Go.Operand.tmp 9) (Go.Operand.tmp 56), type := 0, pos := "law.go:69", after := #[{ on := 12, ground := Go.Ground.data }, { on := 11, ground := Go.Ground.data }, { on := 8, ground := Go.Ground.chain }, { on := 0, ground := Go.Ground.phase }, { on := 1, ground := Go.Ground.phase }, { on := 2, ground := Go.Ground.phase }, { on := 3, ground := Go.Ground.phase }, { on := 4, ground := Go.Ground.phase }, { on := 5, ground := Go.Ground.phase }, { on := 6, ground := Go.Ground.phase }, { on := 7, ground := Go.Ground.phase }, { on := 8, ground := Go.Ground.phase }, { on := 9, ground := Go.Ground.phase }, { on := 10, ground := Go.Ground.phase }, { on := 11, ground := Go.Ground.phase }, { on := 12, ground := Go.Ground.phase }], guard := none }) rfl (fun K hK => ?_) AllReadyH.nil
                    (first
          | (have _t := tE; go_simp; have tF : True := trivial)
          | (refine step_storeB rfl rfl (cells := [.int .i64 p, .slice A6 (l.length + l.length) c6, .int .i64 bx, .int .i64 bp, .int .i64 vt, .int .i64 vk, .int .i64 vn]) rfl rfl ZZ.out (by kernel_rfl) rfl rfl ?_; intro w7 hb7 hu7; have tC : True := trivial; have U7 : Upd No w4 w7 := U6.then_ hu7 (fun i e => .inr (by cases e; first | omega | exact U5.size))))
                    refine hK.out _ _ ?_ (fun hHeld => ?_)
                    · (first | (have _t := tC; exact ALL.out _ (HU8.out.trans U7)) | (have _t := tF; exact ALL.out _ (HU8.out.trans (U6.alloc _))) | (have _t := tB; exact ALL.out _ (HU8.out.trans U6)) | (have _t := tA; exact ALL.out _ (HU8.out.trans U5)) | exact ALL.out _ (HU8.out.trans UW8.out) | exact ALL.out _ (hHeld.1.alloc _))
                    clear hK K
                    try simp only [Act.put, List.setIfInBounds_toArray, List.set_cons_zero, List.set_cons_succ]
                    refine wpAnyH_done (by kernel_rfl) (NoPanic.normal ?_) _
                    go_wp2_with fail
                    go_meet
                    (first | (have _t := tF; refine ⟨w6.heap.size, A6, c6, rfl, Blk.new _ _ _, ⟨_, Recs.upd (walk2_own hown6) (upd_al w6 _) (fun _ _ => id)⟩, U6.alloc _⟩) | (refine ⟨_, A6, c6, rfl, hb7, ⟨_, Recs.upd (walk2_own hown6) hu7 (fun i hi e => nz6 (by cases e; exact hi))⟩, U7⟩))
                  refine AllReadyH.cons (o := { dst := some 9, op := Go.Op.alloc 38, type := 0, pos := "law.go:69", after := #[], guard := none }) rfl (fun K hK => ?_) AllReadyH.nil
                  go_simp
                  refine hK.out _ _ ?_ (fun hHeld => ?_)
                  · (first | (have _t := tC; exact ALL.out _ (HU8.out.trans U7)) | (have _t := tF; exact ALL.out _ (HU8.out.trans (U6.alloc _))) | (have _t := tB; exact ALL.out _ (HU8.out.trans U6)) | (have _t := tA; exact ALL.out _ (HU8.out.trans U5)) | exact ALL.out _ (HU8.out.trans UW8.out) | exact ALL.out _ (hHeld.1.alloc _))
                  clear hK K
                  try simp only [Act.put, List.setIfInBounds_toArray, List.set_cons_zero, List.set_cons_succ]
                  refine wpAnyH_ready (rs := [8]) (by kernel_rfl) (by simp) ?_
                  refine AllReadyH.cons (o := { dst := some 53, op := Go.Op.call { callee := Go.Callee.builtin Go.Builtin.append, args := #[Go.Operand.tmp 50, Go.Operand.tmp 52], argTypes := #[22, 22] }, type := 22, pos := "law.go:69", after := #[{ on := 5, ground := Go.Ground.data }, { on := 7, ground := Go.Ground.data }, { on := 5, ground := Go.Ground.chain }], guard := none }) rfl (fun K hK => ?_) AllReadyH.nil
                  (first
        | (have _t := tA; refine step_appN rfl rfl slt_edges (base := w4.heap.size) (n := l.length) (m := l.length) (xs := (l.map Edge.cells).flatten) (news := (l.map Edge.cells).flatten) rfl rfl ?_ ?_ edges_one (by omega) (by omega) ?_ ?_; (first | exact hown5 | exact hown5.alloc _); exact Walk.src (WB.out _ hHeld.1) rfl; (first | exact U5.size | exact (U5.alloc _).size); intro v6 w6 hown6 hu6 hg6; obtain ⟨A6, c6, rfl⟩ := own_slice hown6; have tB : True := trivial; (have U6 : Upd No w4 w6 := (by first | exact U5.then_ hu6 (fun i e => .inr (hown5.lt i e).1) | exact (U5.alloc _).then_ hu6 (fun i e => .inr (hown5.lt i e).1))); (first | (have ZZ := Lib.hid (zz5.upd hu6 nz5); have nz6 := grew_ne hg6 nz5 (by have := hu5.size; (try simp only [World.size_alloc, World.size_drew] at this); (try simp only [World.size_alloc, World.size_drew]); omega)) | (have nz6 : ¬ Own (.slice A6 (l.length + l.length) c6) w5.heap.size := grew_ne hg6 (fun e => by have := (hown5.lt _ e).2; omega) (by (try simp only [World.size_alloc, World.size_drew]); omega); have ZZ := Lib.hid (show Blk w6 w5.heap.size 38 [.int .i64 0, .slice none 0 0, .int .i64 0, .int .i64 0, .int .i64 0, .int .i64 0, .int .i64 0] from (Blk.new w5 38 [.int .i64 0, .slice none 0 0, .int .i64 0, .int .i64 0, .int .i64 0, .int .i64 0, .int .i64 0]).upd hu6 (fun e => by have := (hown5.lt _ e).2; omega))) | (have tE : True := trivial)))
        | (have _t := tok1; refine step_appN rfl rfl slt_edges (base := w4.heap.size) (n := 0) (m := l.length) (xs := []) (news := (l.map Edge.cells).flatten) rfl rfl ?_ ?_ edges_one (by omega) (by omega) ?_ ?_; (first | exact own_emp (by simp) (by simp) | exact (own_emp (by simp) (by simp)).alloc _); exact Walk.src (WB.out _ hHeld.1) rfl; (show _ ≤ _; simp only [World.size_alloc, World.size_drew]; omega); clear tok1 _t; intro v5 w5 hown5 hu5 hg5; (simp only [Nat.zero_add, List.nil_append] at hown5); obtain ⟨A5, c5, rfl⟩ := own_slice hown5; have tA : True := trivial; (have U5 : Upd No w4 w5 := (by first | exact (UW8.out.alloc _).then_ hu5 (fun i e => .inr (by have := own_is e; (try simp only [World.size_drew, World.size_alloc] at this); omega)) | exact ((UW8.out.alloc _).alloc _).then_ hu5 (fun i e => .inr (by have := own_is e; (try simp only [World.size_drew, World.size_alloc] at this); omega)))); (first | (have zz5 : Blk w5 (w4.heap.size + 1) 38 [.int .i64 0, .slice none 0 0, .int .i64 0, .int .i64 0, .int .i64 0, .int .i64 0, .int .i64 0] := ((Blk.new1 w4.drew (.cells #[] 89) 38 [.int .i64 0, .slice none 0 0, .int .i64 0, .int .i64 0, .int .i64 0, .int .i64 0, .int .i64 0] rfl).upd hu5 (fun e => by have := own_is e; (try simp only [World.size_alloc, World.size_drew] at this); omega)); have nz5 : ¬ Own (.slice A5 l.length c5) (w4.heap.size + 1) := grew_ne hg5 (fun e => by have := own_is e; (try simp only [World.size_alloc, World.size_drew] at this); omega) (by (try simp only [World.size_alloc, World.size_drew]); omega)) | (have zz5 : Blk w5 w4.heap.size 38 [.int .i64 0, .slice none 0 0, .int .i64 0, .int .i64 0, .int .i64 0, .int .i64 0, .int .i64 0] := (((Blk.new w4.drew 38 [.int .i64 0, .slice none 0 0, .int .i64 0, .int .i64 0, .int .i64 0, .int .i64 0, .int .i64 0]).alloc (.cells #[] 89)).upd hu5 (fun e => by have := own_is e; (try simp only [World.size_alloc, World.size_drew] at this); omega)); have nz5 : ¬ Own (.slice A5 l.length c5) w4.heap.size := grew_ne hg5 (fun e => by have := own_is e; (try simp only [World.size_alloc, World.size_drew] at this); omega) (by (try simp only [World.size_alloc, World.size_drew]); omega)) | skip)))
                  refine hK.out _ _ ?_ (fun hHeld => ?_)
                  · (first | (have _t := tC; exact ALL.out _ (HU8.out.trans U7)) | (have _t := tF; exact ALL.out _ (HU8.out.trans (U6.alloc _))) | (have _t := tB; exact ALL.out _ (HU8.out.trans U6)) | (have _t := tA; exact ALL.out _ (HU8.out.trans U5)) | exact ALL.out _ (HU8.out.trans UW8.out) | exact ALL.out _ (hHeld.1.alloc _))
                  clear hK K
                  try simp only [Act.put, List.setIfInBounds_toArray, List.set_cons_zero, List.set_cons_succ]
                  refine wpAnyH_take (i := 11) (oi := { dst := some 56, op := Go.Op.build 38 #[(0, Go.Operand.tmp 46), (1, Go.Operand.tmp 53), (2, Go.Operand.tmp 55)], type := 38, pos := "law.go:69", after := #[{ on := 1, ground := Go.Ground.data }, { on := 8, ground := Go.Ground.data }, { on := 10, ground := Go.Ground.data }], guard := none }) (v := ?_) rfl (by kernel_rfl) (by kernel_rfl) (by kernel_rfl) (fun _ _ _ h => h) (Or.inl ⟨by rfl, ?_⟩) (by assumption) ?_
                  rotate_left
                  · (intro W hSw; (try dsimp only at hSw); go_simp; try (with_reducible rfl))
                  try simp only [Act.put, List.setIfInBounds_toArray, List.set_cons_zero, List.set_cons_succ]
                  refine wpAnyH_ready (rs := [13]) (by kernel_rfl) (by simp) ?_
                  refine AllReadyH.cons (o := { dst := none, op := Go.Op.store 38 (Go.Operand.tmp 9) (Go.Operand.tmp 56), type := 0, pos := "law.go:69", after := #[{ on := 12, ground := Go.Ground.data }, { on := 11, ground := Go.Ground.data }, { on := 8, ground := Go.Ground.chain }, { on := 0, ground := Go.Ground.phase }, { on := 1, ground := Go.Ground.phase }, { on := 2, ground := Go.Ground.phase }, { on := 3, ground := Go.Ground.phase }, { on := 4, ground := Go.Ground.phase }, { on := 5, ground := Go.Ground.phase }, { on := 6, ground := Go.Ground.phase }, { on := 7, ground := Go.Ground.phase }, { on := 8, ground := Go.Ground.phase }, { on := 9, ground := Go.Ground.phase }, { on := 10, ground := Go.Ground.phase }, { on := 11, ground := Go.Ground.phase }, { on := 12, ground := Go.Ground.phase }], guard := none }) rfl (fun K hK => ?_) AllReadyH.nil
                  (first
        | (have _t := tE; go_simp; have tF : True := trivial)
        | (refine step_storeB rfl rfl (cells := [.int .i64 p, .slice A6 (l.length + l.length) c6, .int .i64 bx, .int .i64 bp, .int .i64 vt, .int .i64 vk, .int .i64 vn]) rfl rfl ZZ.out (by kernel_rfl) rfl rfl ?_; intro w7 hb7 hu7; have tC : True := trivial; have U7 : Upd No w4 w7 := U6.then_ hu7 (fun i e => .inr (by cases e; first | omega | exact U5.size))))
                  refine hK.out _ _ ?_ (fun hHeld => ?_)
                  · (first | (have _t := tC; exact ALL.out _ (HU8.out.trans U7)) | (have _t := tF; exact ALL.out _ (HU8.out.trans (U6.alloc _))) | (have _t := tB; exact ALL.out _ (HU8.out.trans U6)) | (have _t := tA; exact ALL.out _ (HU8.out.trans U5)) | exact ALL.out _ (HU8.out.trans UW8.out) | exact ALL.out _ (hHeld.1.alloc _))
                  clear hK K
                  try simp only [Act.put, List.setIfInBounds_toArray, List.set_cons_zero, List.set_cons_succ]
                  refine wpAnyH_done (by kernel_rfl) (NoPanic.normal ?_) _
                  go_wp2_with fail
                  go_meet
                  (first | (have _t := tF; refine ⟨w6.heap.size, A6, c6, rfl, Blk.new _ _ _, ⟨_, Recs.upd (walk2_own hown6) (upd_al w6 _) (fun _ _ => id)⟩, U6.alloc _⟩) | (refine ⟨_, A6, c6, rfl, hb7, ⟨_, Recs.upd (walk2_own hown6) hu7 (fun i hi e => nz6 (by cases e; exact hi))⟩, U7⟩))
                refine AllReadyH.cons (o := { dst := some 9, op := Go.Op.alloc 38, type := 0, pos := "law.go:69", after := #[], guard := none }) rfl (fun K hK => ?_) AllReadyH.nil
                go_simp
                refine hK.out _ _ ?_ (fun hHeld => ?_)
                · (first | (have _t := tC; exact ALL.out _ (HU8.out.trans U7)) | (have _t := tF; exact ALL.out _ (HU8.out.trans (U6.alloc _))) | (have _t := tB; exact ALL.out _ (HU8.out.trans U6)) | (have _t := tA; exact ALL.out _ (HU8.out.trans U5)) | exact ALL.out _ (HU8.out.trans UW8.out) | exact ALL.out _ (hHeld.1.alloc _))
                clear hK K
                try simp only [Act.put, List.setIfInBounds_toArray, List.set_cons_zero, List.set_cons_succ]
                refine wpAnyH_ready (rs := [5]) (by kernel_rfl) (by simp) ?_
                refine AllReadyH.cons (o := { dst := some 50, op := Go.Op.call { callee := Go.Callee.builtin Go.Builtin.append, args := #[Go.Operand.tmp 47, Go.Operand.tmp 49], argTypes := #[22, 22] }, type := 22, pos := "law.go:69", after := #[{ on := 2, ground := Go.Ground.data }, { on := 4, ground := Go.Ground.data }], guard := none }) rfl (fun K hK => ?_) AllReadyH.nil
                (first
      | (have _t := tA; refine step_appN rfl rfl slt_edges (base := w4.heap.size) (n := l.length) (m := l.length) (xs := (l.map Edge.cells).flatten) (news := (l.map Edge.cells).flatten) rfl rfl ?_ ?_ edges_one (by omega) (by omega) ?_ ?_; (first | exact hown5 | exact hown5.alloc _); exact Walk.src (WB.out _ hHeld.1) rfl; (first | exact U5.size | exact (U5.alloc _).size); intro v6 w6 hown6 hu6 hg6; obtain ⟨A6, c6, rfl⟩ := own_slice hown6; have tB : True := trivial; (have U6 : Upd No w4 w6 := (by first | exact U5.then_ hu6 (fun i e => .inr (hown5.lt i e).1) | exact (U5.alloc _).then_ hu6 (fun i e => .inr (hown5.lt i e).1))); (first | (have ZZ := Lib.hid (zz5.upd hu6 nz5); have nz6 := grew_ne hg6 nz5 (by have := hu5.size; (try simp only [World.size_alloc, World.size_drew] at this); (try simp only [World.size_alloc, World.size_drew]); omega)) | (have nz6 : ¬ Own (.slice A6 (l.length + l.length) c6) w5.heap.size := grew_ne hg6 (fun e => by have := (hown5.lt _ e).2; omega) (by (try simp only [World.size_alloc, World.size_drew]); omega); have ZZ := Lib.hid (show Blk w6 w5.heap.size 38 [.int .i64 0, .slice none 0 0, .int .i64 0, .int .i64 0, .int .i64 0, .int .i64 0, .int .i64 0] from (Blk.new w5 38 [.int .i64 0, .slice none 0 0, .int .i64 0, .int .i64 0, .int .i64 0, .int .i64 0, .int .i64 0]).upd hu6 (fun e => by have := (hown5.lt _ e).2; omega))) | (have tE : True := trivial)))
      | (have _t := tok1; refine step_appN rfl rfl slt_edges (base := w4.heap.size) (n := 0) (m := l.length) (xs := []) (news := (l.map Edge.cells).flatten) rfl rfl ?_ ?_ edges_one (by omega) (by omega) ?_ ?_; (first | exact own_emp (by simp) (by simp) | exact (own_emp (by simp) (by simp)).alloc _); exact Walk.src (WB.out _ hHeld.1) rfl; (show _ ≤ _; simp only [World.size_alloc, World.size_drew]; omega); clear tok1 _t; intro v5 w5 hown5 hu5 hg5; (simp only [Nat.zero_add, List.nil_append] at hown5); obtain ⟨A5, c5, rfl⟩ := own_slice hown5; have tA : True := trivial; (have U5 : Upd No w4 w5 := (by first | exact (UW8.out.alloc _).then_ hu5 (fun i e => .inr (by have := own_is e; (try simp only [World.size_drew, World.size_alloc] at this); omega)) | exact ((UW8.out.alloc _).alloc _).then_ hu5 (fun i e => .inr (by have := own_is e; (try simp only [World.size_drew, World.size_alloc] at this); omega)))); (first | (have zz5 : Blk w5 (w4.heap.size + 1) 38 [.int .i64 0, .slice none 0 0, .int .i64 0, .int .i64 0, .int .i64 0, .int .i64 0, .int .i64 0] := ((Blk.new1 w4.drew (.cells #[] 89) 38 [.int .i64 0, .slice none 0 0, .int .i64 0, .int .i64 0, .int .i64 0, .int .i64 0, .int .i64 0] rfl).upd hu5 (fun e => by have := own_is e; (try simp only [World.size_alloc, World.size_drew] at this); omega)); have nz5 : ¬ Own (.slice A5 l.length c5) (w4.heap.size + 1) := grew_ne hg5 (fun e => by have := own_is e; (try simp only [World.size_alloc, World.size_drew] at this); omega) (by (try simp only [World.size_alloc, World.size_drew]); omega)) | (have zz5 : Blk w5 w4.heap.size 38 [.int .i64 0, .slice none 0 0, .int .i64 0, .int .i64 0, .int .i64 0, .int .i64 0, .int .i64 0] := (((Blk.new w4.drew 38 [.int .i64 0, .slice none 0 0, .int .i64 0, .int .i64 0, .int .i64 0, .int .i64 0, .int .i64 0]).alloc (.cells #[] 89)).upd hu5 (fun e => by have := own_is e; (try simp only [World.size_alloc, World.size_drew] at this); omega)); have nz5 : ¬ Own (.slice A5 l.length c5) w4.heap.size := grew_ne hg5 (fun e => by have := own_is e; (try simp only [World.size_alloc, World.size_drew] at this); omega) (by (try simp only [World.size_alloc, World.size_drew]); omega)) | skip)))
                refine hK.out _ _ ?_ (fun hHeld => ?_)
                · (first | (have _t := tC; exact ALL.out _ (HU8.out.trans U7)) | (have _t := tF; exact ALL.out _ (HU8.out.trans (U6.alloc _))) | (have _t := tB; exact ALL.out _ (HU8.out.trans U6)) | (have _t := tA; exact ALL.out _ (HU8.out.trans U5)) | exact ALL.out _ (HU8.out.trans UW8.out) | exact ALL.out _ (hHeld.1.alloc _))
                clear hK K
                try simp only [Act.put, List.setIfInBounds_toArray, List.set_cons_zero, List.set_cons_succ]
                refine wpAnyH_ready (rs := [8]) (by kernel_rfl) (by simp) ?_
                refine AllReadyH.cons (o := { dst := some 53, op := Go.Op.call { callee := Go.Callee.builtin Go.Builtin.append, args := #[Go.Operand.tmp 50, Go.Operand.tmp 52], argTypes := #[22, 22] }, type := 22, pos := "law.go:69", after := #[{ on := 5, ground := Go.Ground.data }, { on := 7, ground := Go.Ground.data }, { on := 5, ground := Go.Ground.chain }], guard := none }) rfl (fun K hK => ?_) AllReadyH.nil
                (first
      | (have _t := tA; refine step_appN rfl rfl slt_edges (base := w4.heap.size) (n := l.length) (m := l.length) (xs := (l.map Edge.cells).flatten) (news := (l.map Edge.cells).flatten) rfl rfl ?_ ?_ edges_one (by omega) (by omega) ?_ ?_; (first | exact hown5 | exact hown5.alloc _); exact Walk.src (WB.out _ hHeld.1) rfl; (first | exact U5.size | exact (U5.alloc _).size); intro v6 w6 hown6 hu6 hg6; obtain ⟨A6, c6, rfl⟩ := own_slice hown6; have tB : True := trivial; (have U6 : Upd No w4 w6 := (by first | exact U5.then_ hu6 (fun i e => .inr (hown5.lt i e).1) | exact (U5.alloc _).then_ hu6 (fun i e => .inr (hown5.lt i e).1))); (first | (have ZZ := Lib.hid (zz5.upd hu6 nz5); have nz6 := grew_ne hg6 nz5 (by have := hu5.size; (try simp only [World.size_alloc, World.size_drew] at this); (try simp only [World.size_alloc, World.size_drew]); omega)) | (have nz6 : ¬ Own (.slice A6 (l.length + l.length) c6) w5.heap.size := grew_ne hg6 (fun e => by have := (hown5.lt _ e).2; omega) (by (try simp only [World.size_alloc, World.size_drew]); omega); have ZZ := Lib.hid (show Blk w6 w5.heap.size 38 [.int .i64 0, .slice none 0 0, .int .i64 0, .int .i64 0, .int .i64 0, .int .i64 0, .int .i64 0] from (Blk.new w5 38 [.int .i64 0, .slice none 0 0, .int .i64 0, .int .i64 0, .int .i64 0, .int .i64 0, .int .i64 0]).upd hu6 (fun e => by have := (hown5.lt _ e).2; omega))) | (have tE : True := trivial)))
      | (have _t := tok1; refine step_appN rfl rfl slt_edges (base := w4.heap.size) (n := 0) (m := l.length) (xs := []) (news := (l.map Edge.cells).flatten) rfl rfl ?_ ?_ edges_one (by omega) (by omega) ?_ ?_; (first | exact own_emp (by simp) (by simp) | exact (own_emp (by simp) (by simp)).alloc _); exact Walk.src (WB.out _ hHeld.1) rfl; (show _ ≤ _; simp only [World.size_alloc, World.size_drew]; omega); clear tok1 _t; intro v5 w5 hown5 hu5 hg5; (simp only [Nat.zero_add, List.nil_append] at hown5); obtain ⟨A5, c5, rfl⟩ := own_slice hown5; have tA : True := trivial; (have U5 : Upd No w4 w5 := (by first | exact (UW8.out.alloc _).then_ hu5 (fun i e => .inr (by have := own_is e; (try simp only [World.size_drew, World.size_alloc] at this); omega)) | exact ((UW8.out.alloc _).alloc _).then_ hu5 (fun i e => .inr (by have := own_is e; (try simp only [World.size_drew, World.size_alloc] at this); omega)))); (first | (have zz5 : Blk w5 (w4.heap.size + 1) 38 [.int .i64 0, .slice none 0 0, .int .i64 0, .int .i64 0, .int .i64 0, .int .i64 0, .int .i64 0] := ((Blk.new1 w4.drew (.cells #[] 89) 38 [.int .i64 0, .slice none 0 0, .int .i64 0, .int .i64 0, .int .i64 0, .int .i64 0, .int .i64 0] rfl).upd hu5 (fun e => by have := own_is e; (try simp only [World.size_alloc, World.size_drew] at this); omega)); have nz5 : ¬ Own (.slice A5 l.length c5) (w4.heap.size + 1) := grew_ne hg5 (fun e => by have := own_is e; (try simp only [World.size_alloc, World.size_drew] at this); omega) (by (try simp only [World.size_alloc, World.size_drew]); omega)) | (have zz5 : Blk w5 w4.heap.size 38 [.int .i64 0, .slice none 0 0, .int .i64 0, .int .i64 0, .int .i64 0, .int .i64 0, .int .i64 0] := (((Blk.new w4.drew 38 [.int .i64 0, .slice none 0 0, .int .i64 0, .int .i64 0, .int .i64 0, .int .i64 0, .int .i64 0]).alloc (.cells #[] 89)).upd hu5 (fun e => by have := own_is e; (try simp only [World.size_alloc, World.size_drew] at this); omega)); have nz5 : ¬ Own (.slice A5 l.length c5) w4.heap.size := grew_ne hg5 (fun e => by have := own_is e; (try simp only [World.size_alloc, World.size_drew] at this); omega) (by (try simp only [World.size_alloc, World.size_drew]); omega)) | skip)))
                refine hK.out _ _ ?_ (fun hHeld => ?_)
                · (first | (have _t := tC; exact ALL.out _ (HU8.out.trans U7)) | (have _t := tF; exact ALL.out _ (HU8.out.trans (U6.alloc _))) | (have _t := tB; exact ALL.out _ (HU8.out.trans U6)) | (have _t := tA; exact ALL.out _ (HU8.out.trans U5)) | exact ALL.out _ (HU8.out.trans UW8.out) | exact ALL.out _ (hHeld.1.alloc _))
                clear hK K
                try simp only [Act.put, List.setIfInBounds_toArray, List.set_cons_zero, List.set_cons_succ]
                refine wpAnyH_take (i := 11) (oi := { dst := some 56, op := Go.Op.build 38 #[(0, Go.Operand.tmp 46), (1, Go.Operand.tmp 53), (2, Go.Operand.tmp 55)], type := 38, pos := "law.go:69", after := #[{ on := 1, ground := Go.Ground.data }, { on := 8, ground := Go.Ground.data }, { on := 10, ground := Go.Ground.data }], guard := none }) (v := ?_) rfl (by kernel_rfl) (by kernel_rfl) (by kernel_rfl) (fun _ _ _ h => h) (Or.inl ⟨by rfl, ?_⟩) (by assumption) ?_
                rotate_left
                · (intro W hSw; (try dsimp only at hSw); go_simp; try (with_reducible rfl))
                try simp only [Act.put, List.setIfInBounds_toArray, List.set_cons_zero, List.set_cons_succ]
                refine wpAnyH_ready (rs := [13]) (by kernel_rfl) (by simp) ?_
                refine AllReadyH.cons (o := { dst := none, op := Go.Op.store 38 (Go.Operand.tmp 9) (Go.Operand.tmp 56), type := 0, pos := "law.go:69", after := #[{ on := 12, ground := Go.Ground.data }, { on := 11, ground := Go.Ground.data }, { on := 8, ground := Go.Ground.chain }, { on := 0, ground := Go.Ground.phase }, { on := 1, ground := Go.Ground.phase }, { on := 2, ground := Go.Ground.phase }, { on := 3, ground := Go.Ground.phase }, { on := 4, ground := Go.Ground.phase }, { on := 5, ground := Go.Ground.phase }, { on := 6, ground := Go.Ground.phase }, { on := 7, ground := Go.Ground.phase }, { on := 8, ground := Go.Ground.phase }, { on := 9, ground := Go.Ground.phase }, { on := 10, ground := Go.Ground.phase }, { on := 11, ground := Go.Ground.phase }, { on := 12, ground := Go.Ground.phase }], guard := none }) rfl (fun K hK => ?_) AllReadyH.nil
                (first
      | (have _t := tE; go_simp; have tF : True := trivial)
      | (refine step_storeB rfl rfl (cells := [.int .i64 p, .slice A6 (l.length + l.length) c6, .int .i64 bx, .int .i64 bp, .int .i64 vt, .int .i64 vk, .int .i64 vn]) rfl rfl ZZ.out (by kernel_rfl) rfl rfl ?_; intro w7 hb7 hu7; have tC : True := trivial; have U7 : Upd No w4 w7 := U6.then_ hu7 (fun i e => .inr (by cases e; first | omega | exact U5.size))))
                refine hK.out _ _ ?_ (fun hHeld => ?_)
                · (first | (have _t := tC; exact ALL.out _ (HU8.out.trans U7)) | (have _t := tF; exact ALL.out _ (HU8.out.trans (U6.alloc _))) | (have _t := tB; exact ALL.out _ (HU8.out.trans U6)) | (have _t := tA; exact ALL.out _ (HU8.out.trans U5)) | exact ALL.out _ (HU8.out.trans UW8.out) | exact ALL.out _ (hHeld.1.alloc _))
                clear hK K
                try simp only [Act.put, List.setIfInBounds_toArray, List.set_cons_zero, List.set_cons_succ]
                refine wpAnyH_done (by kernel_rfl) (NoPanic.normal ?_) _
                go_wp2_with fail
                go_meet
                (first | (have _t := tF; refine ⟨w6.heap.size, A6, c6, rfl, Blk.new _ _ _, ⟨_, Recs.upd (walk2_own hown6) (upd_al w6 _) (fun _ _ => id)⟩, U6.alloc _⟩) | (refine ⟨_, A6, c6, rfl, hb7, ⟨_, Recs.upd (walk2_own hown6) hu7 (fun i hi e => nz6 (by cases e; exact hi))⟩, U7⟩))
              refine AllReadyH.cons (o := { dst := some 9, op := Go.Op.alloc 38, type := 0, pos := "law.go:69", after := #[], guard := none }) rfl (fun K hK => ?_) AllReadyH.nil
              go_simp
              refine hK.out _ _ ?_ (fun hHeld => ?_)
              · (first | (have _t := tC; exact ALL.out _ (HU8.out.trans U7)) | (have _t := tF; exact ALL.out _ (HU8.out.trans (U6.alloc _))) | (have _t := tB; exact ALL.out _ (HU8.out.trans U6)) | (have _t := tA; exact ALL.out _ (HU8.out.trans U5)) | exact ALL.out _ (HU8.out.trans UW8.out) | exact ALL.out _ (hHeld.1.alloc _))
              clear hK K
              try simp only [Act.put, List.setIfInBounds_toArray, List.set_cons_zero, List.set_cons_succ]
              refine wpAnyH_ready (rs := [2]) (by kernel_rfl) (by simp) ?_
              refine AllReadyH.cons (o := { dst := some 47, op := Go.Op.buildSlice 22 0 #[], type := 22, pos := "law.go:69", after := #[], guard := none }) rfl (fun K hK => ?_) AllReadyH.nil
              go_simp
              refine hK.out _ _ ?_ (fun hHeld => ?_)
              · (first | (have _t := tC; exact ALL.out _ (HU8.out.trans U7)) | (have _t := tF; exact ALL.out _ (HU8.out.trans (U6.alloc _))) | (have _t := tB; exact ALL.out _ (HU8.out.trans U6)) | (have _t := tA; exact ALL.out _ (HU8.out.trans U5)) | exact ALL.out _ (HU8.out.trans UW8.out) | exact ALL.out _ (hHeld.1.alloc _))
              clear hK K
              try simp only [Act.put, List.setIfInBounds_toArray, List.set_cons_zero, List.set_cons_succ]
              refine wpAnyH_ready (rs := [5]) (by kernel_rfl) (by simp) ?_
              refine AllReadyH.cons (o := { dst := some 50, op := Go.Op.call { callee := Go.Callee.builtin Go.Builtin.append, args := #[Go.Operand.tmp 47, Go.Operand.tmp 49], argTypes := #[22, 22] }, type := 22, pos := "law.go:69", after := #[{ on := 2, ground := Go.Ground.data }, { on := 4, ground := Go.Ground.data }], guard := none }) rfl (fun K hK => ?_) AllReadyH.nil
              (first
    | (have _t := tA; refine step_appN rfl rfl slt_edges (base := w4.heap.size) (n := l.length) (m := l.length) (xs := (l.map Edge.cells).flatten) (news := (l.map Edge.cells).flatten) rfl rfl ?_ ?_ edges_one (by omega) (by omega) ?_ ?_; (first | exact hown5 | exact hown5.alloc _); exact Walk.src (WB.out _ hHeld.1) rfl; (first | exact U5.size | exact (U5.alloc _).size); intro v6 w6 hown6 hu6 hg6; obtain ⟨A6, c6, rfl⟩ := own_slice hown6; have tB : True := trivial; (have U6 : Upd No w4 w6 := (by first | exact U5.then_ hu6 (fun i e => .inr (hown5.lt i e).1) | exact (U5.alloc _).then_ hu6 (fun i e => .inr (hown5.lt i e).1))); (first | (have ZZ := Lib.hid (zz5.upd hu6 nz5); have nz6 := grew_ne hg6 nz5 (by have := hu5.size; (try simp only [World.size_alloc, World.size_drew] at this); (try simp only [World.size_alloc, World.size_drew]); omega)) | (have nz6 : ¬ Own (.slice A6 (l.length + l.length) c6) w5.heap.size := grew_ne hg6 (fun e => by have := (hown5.lt _ e).2; omega) (by (try simp only [World.size_alloc, World.size_drew]); omega); have ZZ := Lib.hid (show Blk w6 w5.heap.size 38 [.int .i64 0, .slice none 0 0, .int .i64 0, .int .i64 0, .int .i64 0, .int .i64 0, .int .i64 0] from (Blk.new w5 38 [.int .i64 0, .slice none 0 0, .int .i64 0, .int .i64 0, .int .i64 0, .int .i64 0, .int .i64 0]).upd hu6 (fun e => by have := (hown5.lt _ e).2; omega))) | (have tE : True := trivial)))
    | (have _t := tok1; refine step_appN rfl rfl slt_edges (base := w4.heap.size) (n := 0) (m := l.length) (xs := []) (news := (l.map Edge.cells).flatten) rfl rfl ?_ ?_ edges_one (by omega) (by omega) ?_ ?_; (first | exact own_emp (by simp) (by simp) | exact (own_emp (by simp) (by simp)).alloc _); exact Walk.src (WB.out _ hHeld.1) rfl; (show _ ≤ _; simp only [World.size_alloc, World.size_drew]; omega); clear tok1 _t; intro v5 w5 hown5 hu5 hg5; (simp only [Nat.zero_add, List.nil_append] at hown5); obtain ⟨A5, c5, rfl⟩ := own_slice hown5; have tA : True := trivial; (have U5 : Upd No w4 w5 := (by first | exact (UW8.out.alloc _).then_ hu5 (fun i e => .inr (by have := own_is e; (try simp only [World.size_drew, World.size_alloc] at this); omega)) | exact ((UW8.out.alloc _).alloc _).then_ hu5 (fun i e => .inr (by have := own_is e; (try simp only [World.size_drew, World.size_alloc] at this); omega)))); (first | (have zz5 : Blk w5 (w4.heap.size + 1) 38 [.int .i64 0, .slice none 0 0, .int .i64 0, .int .i64 0, .int .i64 0, .int .i64 0, .int .i64 0] := ((Blk.new1 w4.drew (.cells #[] 89) 38 [.int .i64 0, .slice none 0 0, .int .i64 0, .int .i64 0, .int .i64 0, .int .i64 0, .int .i64 0] rfl).upd hu5 (fun e => by have := own_is e; (try simp only [World.size_alloc, World.size_drew] at this); omega)); have nz5 : ¬ Own (.slice A5 l.length c5) (w4.heap.size + 1) := grew_ne hg5 (fun e => by have := own_is e; (try simp only [World.size_alloc, World.size_drew] at this); omega) (by (try simp only [World.size_alloc, World.size_drew]); omega)) | (have zz5 : Blk w5 w4.heap.size 38 [.int .i64 0, .slice none 0 0, .int .i64 0, .int .i64 0, .int .i64 0, .int .i64 0, .int .i64 0] := (((Blk.new w4.drew 38 [.int .i64 0, .slice none 0 0, .int .i64 0, .int .i64 0, .int .i64 0, .int .i64 0, .int .i64 0]).alloc (.cells #[] 89)).upd hu5 (fun e => by have := own_is e; (try simp only [World.size_alloc, World.size_drew] at this); omega)); have nz5 : ¬ Own (.slice A5 l.length c5) w4.heap.size := grew_ne hg5 (fun e => by have := own_is e; (try simp only [World.size_alloc, World.size_drew] at this); omega) (by (try simp only [World.size_alloc, World.size_drew]); omega)) | skip)))
              refine hK.out _ _ ?_ (fun hHeld => ?_)
              · (first | (have _t := tC; exact ALL.out _ (HU8.out.trans U7)) | (have _t := tF; exact ALL.out _ (HU8.out.trans (U6.alloc _))) | (have _t := tB; exact ALL.out _ (HU8.out.trans U6)) | (have _t := tA; exact ALL.out _ (HU8.out.trans U5)) | exact ALL.out _ (HU8.out.trans UW8.out) | exact ALL.out _ (hHeld.1.alloc _))
              clear hK K
              try simp only [Act.put, List.setIfInBounds_toArray, List.set_cons_zero, List.set_cons_succ]
              refine wpAnyH_ready (rs := [8]) (by kernel_rfl) (by simp) ?_
              refine AllReadyH.cons (o := { dst := some 53, op := Go.Op.call { callee := Go.Callee.builtin Go.Builtin.append, args := #[Go.Operand.tmp 50, Go.Operand.tmp 52], argTypes := #[22, 22] }, type := 22, pos := "law.go:69", after := #[{ on := 5, ground := Go.Ground.data }, { on := 7, ground := Go.Ground.data }, { on := 5, ground := Go.Ground.chain }], guard := none }) rfl (fun K hK => ?_) AllReadyH.nil
              (first
    | (have _t := tA; refine step_appN rfl rfl slt_edges (base := w4.heap.size) (n := l.length) (m := l.length) (xs := (l.map Edge.cells).flatten) (news := (l.map Edge.cells).flatten) rfl rfl ?_ ?_ edges_one (by omega) (by omega) ?_ ?_; (first | exact hown5 | exact hown5.alloc _); exact Walk.src (WB.out _ hHeld.1) rfl; (first | exact U5.size | exact (U5.alloc _).size); intro v6 w6 hown6 hu6 hg6; obtain ⟨A6, c6, rfl⟩ := own_slice hown6; have tB : True := trivial; (have U6 : Upd No w4 w6 := (by first | exact U5.then_ hu6 (fun i e => .inr (hown5.lt i e).1) | exact (U5.alloc _).then_ hu6 (fun i e => .inr (hown5.lt i e).1))); (first | (have ZZ := Lib.hid (zz5.upd hu6 nz5); have nz6 := grew_ne hg6 nz5 (by have := hu5.size; (try simp only [World.size_alloc, World.size_drew] at this); (try simp only [World.size_alloc, World.size_drew]); omega)) | (have nz6 : ¬ Own (.slice A6 (l.length + l.length) c6) w5.heap.size := grew_ne hg6 (fun e => by have := (hown5.lt _ e).2; omega) (by (try simp only [World.size_alloc, World.size_drew]); omega); have ZZ := Lib.hid (show Blk w6 w5.heap.size 38 [.int .i64 0, .slice none 0 0, .int .i64 0, .int .i64 0, .int .i64 0, .int .i64 0, .int .i64 0] from (Blk.new w5 38 [.int .i64 0, .slice none 0 0, .int .i64 0, .int .i64 0, .int .i64 0, .int .i64 0, .int .i64 0]).upd hu6 (fun e => by have := (hown5.lt _ e).2; omega))) | (have tE : True := trivial)))
    | (have _t := tok1; refine step_appN rfl rfl slt_edges (base := w4.heap.size) (n := 0) (m := l.length) (xs := []) (news := (l.map Edge.cells).flatten) rfl rfl ?_ ?_ edges_one (by omega) (by omega) ?_ ?_; (first | exact own_emp (by simp) (by simp) | exact (own_emp (by simp) (by simp)).alloc _); exact Walk.src (WB.out _ hHeld.1) rfl; (show _ ≤ _; simp only [World.size_alloc, World.size_drew]; omega); clear tok1 _t; intro v5 w5 hown5 hu5 hg5; (simp only [Nat.zero_add, List.nil_append] at hown5); obtain ⟨A5, c5, rfl⟩ := own_slice hown5; have tA : True := trivial; (have U5 : Upd No w4 w5 := (by first | exact (UW8.out.alloc _).then_ hu5 (fun i e => .inr (by have := own_is e; (try simp only [World.size_drew, World.size_alloc] at this); omega)) | exact ((UW8.out.alloc _).alloc _).then_ hu5 (fun i e => .inr (by have := own_is e; (try simp only [World.size_drew, World.size_alloc] at this); omega)))); (first | (have zz5 : Blk w5 (w4.heap.size + 1) 38 [.int .i64 0, .slice none 0 0, .int .i64 0, .int .i64 0, .int .i64 0, .int .i64 0, .int .i64 0] := ((Blk.new1 w4.drew (.cells #[] 89) 38 [.int .i64 0, .slice none 0 0, .int .i64 0, .int .i64 0, .int .i64 0, .int .i64 0, .int .i64 0] rfl).upd hu5 (fun e => by have := own_is e; (try simp only [World.size_alloc, World.size_drew] at this); omega)); have nz5 : ¬ Own (.slice A5 l.length c5) (w4.heap.size + 1) := grew_ne hg5 (fun e => by have := own_is e; (try simp only [World.size_alloc, World.size_drew] at this); omega) (by (try simp only [World.size_alloc, World.size_drew]); omega)) | (have zz5 : Blk w5 w4.heap.size 38 [.int .i64 0, .slice none 0 0, .int .i64 0, .int .i64 0, .int .i64 0, .int .i64 0, .int .i64 0] := (((Blk.new w4.drew 38 [.int .i64 0, .slice none 0 0, .int .i64 0, .int .i64 0, .int .i64 0, .int .i64 0, .int .i64 0]).alloc (.cells #[] 89)).upd hu5 (fun e => by have := own_is e; (try simp only [World.size_alloc, World.size_drew] at this); omega)); have nz5 : ¬ Own (.slice A5 l.length c5) w4.heap.size := grew_ne hg5 (fun e => by have := own_is e; (try simp only [World.size_alloc, World.size_drew] at this); omega) (by (try simp only [World.size_alloc, World.size_drew]); omega)) | skip)))
              refine hK.out _ _ ?_ (fun hHeld => ?_)
              · (first | (have _t := tC; exact ALL.out _ (HU8.out.trans U7)) | (have _t := tF; exact ALL.out _ (HU8.out.trans (U6.alloc _))) | (have _t := tB; exact ALL.out _ (HU8.out.trans U6)) | (have _t := tA; exact ALL.out _ (HU8.out.trans U5)) | exact ALL.out _ (HU8.out.trans UW8.out) | exact ALL.out _ (hHeld.1.alloc _))
              clear hK K
              try simp only [Act.put, List.setIfInBounds_toArray, List.set_cons_zero, List.set_cons_succ]
              refine wpAnyH_take (i := 11) (oi := { dst := some 56, op := Go.Op.build 38 #[(0, Go.Operand.tmp 46), (1, Go.Operand.tmp 53), (2, Go.Operand.tmp 55)], type := 38, pos := "law.go:69", after := #[{ on := 1, ground := Go.Ground.data }, { on := 8, ground := Go.Ground.data }, { on := 10, ground := Go.Ground.data }], guard := none }) (v := ?_) rfl (by kernel_rfl) (by kernel_rfl) (by kernel_rfl) (fun _ _ _ h => h) (Or.inl ⟨by rfl, ?_⟩) (by assumption) ?_
              rotate_left
              · (intro W hSw; (try dsimp only at hSw); go_simp; try (with_reducible rfl))
              try simp only [Act.put, List.setIfInBounds_toArray, List.set_cons_zero, List.set_cons_succ]
              refine wpAnyH_ready (rs := [13]) (by kernel_rfl) (by simp) ?_
              refine AllReadyH.cons (o := { dst := none, op := Go.Op.store 38 (Go.Operand.tmp 9) (Go.Operand.tmp 56), type := 0, pos := "law.go:69", after := #[{ on := 12, ground := Go.Ground.data }, { on := 11, ground := Go.Ground.data }, { on := 8, ground := Go.Ground.chain }, { on := 0, ground := Go.Ground.phase }, { on := 1, ground := Go.Ground.phase }, { on := 2, ground := Go.Ground.phase }, { on := 3, ground := Go.Ground.phase }, { on := 4, ground := Go.Ground.phase }, { on := 5, ground := Go.Ground.phase }, { on := 6, ground := Go.Ground.phase }, { on := 7, ground := Go.Ground.phase }, { on := 8, ground := Go.Ground.phase }, { on := 9, ground := Go.Ground.phase }, { on := 10, ground := Go.Ground.phase }, { on := 11, ground := Go.Ground.phase }, { on := 12, ground := Go.Ground.phase }], guard := none }) rfl (fun K hK => ?_) AllReadyH.nil
              (first
    | (have _t := tE; go_simp; have tF : True := trivial)
    | (refine step_storeB rfl rfl (cells := [.int .i64 p, .slice A6 (l.length + l.length) c6, .int .i64 bx, .int .i64 bp, .int .i64 vt, .int .i64 vk, .int .i64 vn]) rfl rfl ZZ.out (by kernel_rfl) rfl rfl ?_; intro w7 hb7 hu7; have tC : True := trivial; have U7 : Upd No w4 w7 := U6.then_ hu7 (fun i e => .inr (by cases e; first | omega | exact U5.size))))
              refine hK.out _ _ ?_ (fun hHeld => ?_)
              · (first | (have _t := tC; exact ALL.out _ (HU8.out.trans U7)) | (have _t := tF; exact ALL.out _ (HU8.out.trans (U6.alloc _))) | (have _t := tB; exact ALL.out _ (HU8.out.trans U6)) | (have _t := tA; exact ALL.out _ (HU8.out.trans U5)) | exact ALL.out _ (HU8.out.trans UW8.out) | exact ALL.out _ (hHeld.1.alloc _))
              clear hK K
              try simp only [Act.put, List.setIfInBounds_toArray, List.set_cons_zero, List.set_cons_succ]
              refine wpAnyH_done (by kernel_rfl) (NoPanic.normal ?_) _
              go_wp2_with fail
              go_meet
              (first | (have _t := tF; refine ⟨w6.heap.size, A6, c6, rfl, Blk.new _ _ _, ⟨_, Recs.upd (walk2_own hown6) (upd_al w6 _) (fun _ _ => id)⟩, U6.alloc _⟩) | (refine ⟨_, A6, c6, rfl, hb7, ⟨_, Recs.upd (walk2_own hown6) hu7 (fun i hi e => nz6 (by cases e; exact hi))⟩, U7⟩))
            case rest =>
              obtain ⟨g9, A9, c9, rfl, hb9, hw9, hu9⟩ := hcut
              have HW8b := Lib.hid (WalkE.upd HW8.out hu9)
              have HB8b := Lib.hid (HB8.out.upd hu9 id)
              have HU8b := Lib.hid (HU8.out.trans hu9)
              have HW9 := Lib.hid hw9
              have HB9 := Lib.hid hb9
              clear HW8 HB8 HU8 UW8 hw9 hb9 hu9
              generalize hgc : wc = w5 at *
              clear hgc
              have UW5 := Lib.hid ((Upd.refl No w5).drew)
              have ALL8 := Lib.hid (show ∀ W', Upd No w5 W' → Upd No w5 W' ∧ W'.cell? ⟨w.heap.size + 1, 0, none⟩ = some (.int .i64 p) ∧ W'.cell? ⟨w.heap.size + 1, 2, none⟩ = some (.int .i64 bx) ∧ W'.cell? ⟨w.heap.size + 1, 3, none⟩ = some (.int .i64 bp) ∧ W'.cell? ⟨w.heap.size + 1, 4, none⟩ = some (.int .i64 vt) ∧ W'.cell? ⟨w.heap.size + 1, 5, none⟩ = some (.int .i64 vk) ∧ W'.cell? ⟨w.heap.size + 1, 6, none⟩ = some (.int .i64 vn) ∧ W'.cell? ⟨g8, 1, none⟩ = some (.slice A8 l.length c8)
                from fun W' hW => ⟨hW, (BW3.out.upd (HU8b.out.trans hW) id).cell 0, (BW3.out.upd (HU8b.out.trans hW) id).cell 2, (BW3.out.upd (HU8b.out.trans hW) id).cell 3, (BW3.out.upd (HU8b.out.trans hW) id).cell 4, (BW3.out.upd (HU8b.out.trans hW) id).cell 5, (BW3.out.upd (HU8b.out.trans hW) id).cell 6, (HB8b.out.upd hW id).cell 1⟩)
              have kc : ∀ W, (Instr.slice 22 (.slice A8 l.length c8) (some (.int .i64 1)) none none).run Try.prog W = .ok (.slice (cutA A8 c8 1 4) (l.length - 1) (c8 - 1)) W := fun W => run_cut_l W slt_edges A8 l.length c8 1 (by omega)
              go_upto_region 8 with fail
              go_cut [10] (fun s10 wx => ∃ (g10 : Nat), s10 = .pointer (some ⟨g10, 0, none⟩) ∧ Blk wx g10 38 [.int .i64 p, .slice (cutA A8 c8 1 4) (l.length - 1) (c8 - 1), .int .i64 bx, .int .i64 bp, .int .i64 vt, .int .i64 vk, .int .i64 vn] ∧ (∃ G, Walk G wx (cutA A8 c8 1 4) ((rot l k).drop 1)) ∧ Upd No w5 wx)
              case first =>
                refine wp_region_noPanic ?_
                refine wp_region_held_drew (S := (fun W' => Upd No w5 W' ∧ W'.cell? ⟨w.heap.size + 1, 0, none⟩ = some (.int .i64 p) ∧ W'.cell? ⟨w.heap.size + 1, 2, none⟩ = some (.int .i64 bx) ∧ W'.cell? ⟨w.heap.size + 1, 3, none⟩ = some (.int .i64 bp) ∧ W'.cell? ⟨w.heap.size + 1, 4, none⟩ = some (.int .i64 vt) ∧ W'.cell? ⟨w.heap.size + 1, 5, none⟩ = some (.int .i64 vk) ∧ W'.cell? ⟨w.heap.size + 1, 6, none⟩ = some (.int .i64 vn) ∧ W'.cell? ⟨g8, 1, none⟩ = some (.slice A8 l.length c8))) (by kernel_rfl) ?_ (fun hHeld => ?_)
                · (first | exact ALL8.out _ UW5.out | exact ALL8.out _ (hHeld.1.alloc _) | exact ALL8.out _ (hHeld.1.then_ hu10 (fun i e => .inr (by cases e; exact Nat.le_refl _))))
                refine wpAnyH_take (i := 0) (oi := { dst := some 57, op := Go.Op.fieldAddr 38 (Go.Operand.tmp 4) 0, type := 0, pos := "law.go:70", after := #[], guard := none }) (v := ?_) rfl (by kernel_rfl) (by kernel_rfl) (by kernel_rfl) (fun _ _ _ h => h) (Or.inl ⟨by rfl, ?_⟩) (by assumption) ?_
                rotate_left
                · (intro W hSw; (try dsimp only at hSw); go_simp; try (with_reducible rfl))
                try simp only [Act.put, List.setIfInBounds_toArray, List.set_cons_zero, List.set_cons_succ]
                refine wpAnyH_take (i := 1) (oi := { dst := some 58, op := Go.Op.load 3 (Go.Operand.tmp 57), type := 3, pos := "law.go:70", after := #[{ on := 0, ground := Go.Ground.data }], guard := none }) (v := ?_) rfl (by kernel_rfl) (by kernel_rfl) (by kernel_rfl) (fun _ _ _ h => h) (Or.inl ⟨by rfl, ?_⟩) (by assumption) ?_
                rotate_left
                · (intro W hSw; (try dsimp only at hSw); go_simp; try (with_reducible rfl))
                try simp only [Act.put, List.setIfInBounds_toArray, List.set_cons_zero, List.set_cons_succ]
                refine wpAnyH_take (i := 2) (oi := { dst := some 59, op := Go.Op.fieldAddr 38 (Go.Operand.tmp 8) 1, type := 0, pos := "law.go:70", after := #[], guard := none }) (v := ?_) rfl (by kernel_rfl) (by kernel_rfl) (by kernel_rfl) (fun _ _ _ h => h) (Or.inl ⟨by rfl, ?_⟩) (by assumption) ?_
                rotate_left
                · (intro W hSw; (try dsimp only at hSw); go_simp; try (with_reducible rfl))
                try simp only [Act.put, List.setIfInBounds_toArray, List.set_cons_zero, List.set_cons_succ]
                refine wpAnyH_take (i := 3) (oi := { dst := some 60, op := Go.Op.load 22 (Go.Operand.tmp 59), type := 22, pos := "law.go:70", after := #[{ on := 2, ground := Go.Ground.data }], guard := none }) (v := ?_) rfl (by kernel_rfl) (by kernel_rfl) (by kernel_rfl) (fun _ _ _ h => h) (Or.inl ⟨by rfl, ?_⟩) (by assumption) ?_
                rotate_left
                · (intro W hSw; (try dsimp only at hSw); go_simp; try (with_reducible rfl))
                try simp only [Act.put, List.setIfInBounds_toArray, List.set_cons_zero, List.set_cons_succ]
                refine wpAnyH_take (i := 4) (oi := { dst := some 61, op := Go.Op.slice 22 (Go.Operand.tmp 60) (some (Go.Operand.const (Go.Value.int Go.IntKind.i64 1))) none none, type := 22, pos := "law.go:70", after := #[{ on := 3, ground := Go.Ground.data }], guard := none }) (v := ?_) rfl (by kernel_rfl) (by kernel_rfl) (by kernel_rfl) (fun _ _ _ h => h) (Or.inl ⟨by rfl, ?_⟩) (by assumption) ?_
                rotate_left
                · (intro W hSw; (try dsimp only at hSw); go_simp; try (with_reducible rfl))
                try simp only [Act.put, List.setIfInBounds_toArray, List.set_cons_zero, List.set_cons_succ]
                refine wpAnyH_take (i := 5) (oi := { dst := some 62, op := Go.Op.fieldAddr 38 (Go.Operand.tmp 4) 2, type := 0, pos := "law.go:70", after := #[], guard := none }) (v := ?_) rfl (by kernel_rfl) (by kernel_rfl) (by kernel_rfl) (fun _ _ _ h => h) (Or.inl ⟨by rfl, ?_⟩) (by assumption) ?_
                rotate_left
                · (intro W hSw; (try dsimp only at hSw); go_simp; try (with_reducible rfl))
                try simp only [Act.put, List.setIfInBounds_toArray, List.set_cons_zero, List.set_cons_succ]
                refine wpAnyH_take (i := 6) (oi := { dst := some 63, op := Go.Op.load 36 (Go.Operand.tmp 62), type := 36, pos := "law.go:70", after := #[{ on := 5, ground := Go.Ground.data }], guard := none }) (v := ?_) rfl (by kernel_rfl) (by kernel_rfl) (by kernel_rfl) (fun _ _ _ h => h) (Or.inl ⟨by rfl, ?_⟩) (by assumption) ?_
                rotate_left
                · (intro W hSw; (try dsimp only at hSw); go_simp; try (with_reducible rfl))
                try simp only [Act.put, List.setIfInBounds_toArray, List.set_cons_zero, List.set_cons_succ]
                refine wpAnyH_take (i := 7) (oi := { dst := some 64, op := Go.Op.build 38 #[(0, Go.Operand.tmp 58), (1, Go.Operand.tmp 61), (2, Go.Operand.tmp 63)], type := 38, pos := "law.go:70", after := #[{ on := 1, ground := Go.Ground.data }, { on := 4, ground := Go.Ground.data }, { on := 6, ground := Go.Ground.data }], guard := none }) (v := ?_) rfl (by kernel_rfl) (by kernel_rfl) (by kernel_rfl) (fun _ _ _ h => h) (Or.inl ⟨by rfl, ?_⟩) (by assumption) ?_
                rotate_left
                · (intro W hSw; (try dsimp only at hSw); go_simp; try (with_reducible rfl))
                try simp only [Act.put, List.setIfInBounds_toArray, List.set_cons_zero, List.set_cons_succ]
                refine wpAnyH_ready (rs := [8]) (by kernel_rfl) (by simp) ?_
                refine AllReadyH.cons (o := { dst := some 10, op := Go.Op.alloc 38, type := 0, pos := "law.go:70", after := #[], guard := none }) rfl (fun K hK => ?_) AllReadyH.nil
                go_simp
                refine hK.out _ _ ?_ (fun hHeld => ?_)
                · (first | exact ALL8.out _ UW5.out | exact ALL8.out _ (hHeld.1.alloc _) | exact ALL8.out _ (hHeld.1.then_ hu10 (fun i e => .inr (by cases e; exact Nat.le_refl _))))
                clear hK K
                try simp only [Act.put, List.setIfInBounds_toArray, List.set_cons_zero, List.set_cons_succ]
                refine wpAnyH_ready (rs := [9]) (by kernel_rfl) (by simp) ?_
                refine AllReadyH.cons (o := { dst := none, op := Go.Op.store 38 (Go.Operand.tmp 10) (Go.Operand.tmp 64), type := 0, pos := "law.go:70", after := #[{ on := 8, ground := Go.Ground.data }, { on := 7, ground := Go.Ground.data }, { on := 0, ground := Go.Ground.phase }, { on := 1, ground := Go.Ground.phase }, { on := 2, ground := Go.Ground.phase }, { on := 3, ground := Go.Ground.phase }, { on := 4, ground := Go.Ground.phase }, { on := 5, ground := Go.Ground.phase }, { on := 6, ground := Go.Ground.phase }, { on := 7, ground := Go.Ground.phase }, { on := 8, ground := Go.Ground.phase }], guard := none }) rfl (fun K hK => ?_) AllReadyH.nil
                (first
    | (refine step_storeB rfl rfl (g := w5.heap.size) (old := [.int .i64 0, .slice none 0 0, .int .i64 0, .int .i64 0, .int .i64 0, .int .i64 0, .int .i64 0]) (cells := [.int .i64 p, .slice (cutA A8 c8 1 4) (l.length - 1) (c8 - 1), .int .i64 bx, .int .i64 bp, .int .i64 vt, .int .i64 vk, .int .i64 vn]) rfl rfl (show Blk _ _ 38 _ from Blk.new w5 38 [.int .i64 0, .slice none 0 0, .int .i64 0, .int .i64 0, .int .i64 0, .int .i64 0, .int .i64 0]) (by kernel_rfl) rfl rfl ?_; intro w10 hb10 hu10))
                refine hK.out _ _ ?_ (fun hHeld => ?_)
                · (first | exact ALL8.out _ UW5.out | exact ALL8.out _ (hHeld.1.alloc _) | exact ALL8.out _ (hHeld.1.then_ hu10 (fun i e => .inr (by cases e; exact Nat.le_refl _))))
                clear hK K
                try simp only [Act.put, List.setIfInBounds_toArray, List.set_cons_zero, List.set_cons_succ]
                refine wpAnyH_done (by kernel_rfl) (NoPanic.normal ?_) _
                go_wp2_with fail
                go_meet
                (refine ⟨w5.heap.size, rfl, hb10, ?_, hHeld.1⟩; obtain ⟨G8, hw8⟩ := HW8b.out; exact ⟨G8, Recs.upd (Walk.drop hw8 (by rw [rot_len l (by omega)]; exact hc8)) hHeld.1 (fun _ _ => id)⟩)
              case rest =>
                obtain ⟨g10, rfl, hb10, hw10, hu10⟩ := hcut
                have HW8 := Lib.hid (WalkE.upd HW8b.out hu10)
                have HB8 := Lib.hid (HB8b.out.upd hu10 id)
                have HU8 := Lib.hid (HU8b.out.trans hu10)
                have HW9 := Lib.hid (WalkE.upd HW9.out hu10)
                have HB9 := Lib.hid (HB9.out.upd hu10 id)
                have HW10 := Lib.hid hw10
                have HB10 := Lib.hid hb10
                clear HW8b HB8b HU8b UW5 kc hw10 hb10 hu10
                generalize hgc : wc = w6 at *
                clear hgc
                have h0 := (BH3.out.upd HU8.out id).cell 0
                have h1 := (BH3.out.upd HU8.out id).cell 1
                have z0 := HB8.out.cell 0
                have z1 := HB8.out.cell 1
                have z2 := HB8.out.cell 2
                have z3 := HB8.out.cell 3
                have z4 := HB8.out.cell 4
                have z5 := HB8.out.cell 5
                have z6 := HB8.out.cell 6
                simp only [List.getElem?_cons_zero, List.getElem?_cons_succ] at h0 h1 z0 z1 z2 z3 z4 z5 z6
                go_wp2_with fail
                refine (caccV (HB.out _ HU8.out) HW8.out (by rw [rot_len l (by omega)]; exact hll) rfl rfl (rot_len l (by omega)) HR.out).mono ?_
                rintro e w7 ⟨rfl, hu7⟩
                clear h0 h1 z0 z1 z2 z3 z4 z5 z6
                have HU9 := Lib.hid (HU8.out.trans hu7)
                have HB9 := Lib.hid (HB9.out.upd hu7 id)
                have HW9 := Lib.hid (WalkE.upd HW9.out hu7)
                have HB10 := Lib.hid (HB10.out.upd hu7 id)
                have HW10 := Lib.hid (WalkE.upd HW10.out hu7)
                clear HW8 HB8 HU8 hu7
                cases a
                · have UW7 := Lib.hid ((Upd.refl No w7).drew)
                  go_upto_region 11 with fail
                  refine wp_region_noPanic ?_
                  refine wp_region_held_drew (S := (fun W' => Upd No w7 W')) (by kernel_rfl) ?_ (fun hHeld => ?_)
                  · exact UW7.out
                  refine wpAnyH_take (i := 0) (oi := { dst := some 79, op := Go.Op.move (Go.Operand.tmp 7), type := 4, pos := "law.go:74", after := #[], guard := none }) (v := ?_) rfl (by kernel_rfl) (by kernel_rfl) (by kernel_rfl) (fun _ _ _ h => h) (Or.inl ⟨by rfl, ?_⟩) (by assumption) ?_
                  rotate_left
                  · (intro W hSw; (try dsimp only at hSw); go_simp; try (with_reducible rfl))
                  try simp only [Act.put, List.setIfInBounds_toArray, List.set_cons_zero, List.set_cons_succ]
                  refine wpAnyH_take (i := 1) (oi := { dst := some 80, op := Go.Op.unOp Go.UnOp.not 4 (Go.Operand.tmp 79), type := 4, pos := "law.go:74", after := #[{ on := 0, ground := Go.Ground.data }], guard := none }) (v := ?_) rfl (by kernel_rfl) (by kernel_rfl) (by kernel_rfl) (fun _ _ _ h => h) (Or.inl ⟨by rfl, ?_⟩) (by assumption) ?_
                  rotate_left
                  · (intro W hSw; (try dsimp only at hSw); go_simp; try (with_reducible rfl))
                  try simp only [Act.put, List.setIfInBounds_toArray, List.set_cons_zero, List.set_cons_succ]
                  refine wpAnyH_take (i := 2) (oi := { dst := some 81, op := Go.Op.move (Go.Operand.tmp 80), type := 4, pos := "law.go:74", after := #[{ on := 1, ground := Go.Ground.data }], guard := none }) (v := ?_) rfl (by kernel_rfl) (by kernel_rfl) (by kernel_rfl) (fun _ _ _ h => h) (Or.inl ⟨by rfl, ?_⟩) (by assumption) ?_
                  rotate_left
                  · (intro W hSw; (try dsimp only at hSw); go_simp; try (with_reducible rfl))
                  try simp only [Act.put, List.setIfInBounds_toArray, List.set_cons_zero, List.set_cons_succ]
                  refine wpAnyH_take (i := 3) (oi := { dst := some 82, op := Go.Op.load 45 (Go.Operand.tmp 3), type := 45, pos := "law.go:74", after := #[{ on := 2, ground := Go.Ground.guard }], guard := some (2, false) }) (v := undef) rfl (by kernel_rfl) (by kernel_rfl) (by kernel_rfl) (fun _ _ _ h => h) (Or.inr ⟨by rfl, rfl⟩) (by assumption) ?_
                  try simp only [Act.put, List.setIfInBounds_toArray, List.set_cons_zero, List.set_cons_succ]
                  refine wpAnyH_take (i := 4) (oi := { dst := some 83, op := Go.Op.load 38 (Go.Operand.tmp 10), type := 38, pos := "law.go:74", after := #[{ on := 2, ground := Go.Ground.guard }], guard := some (2, false) }) (v := undef) rfl (by kernel_rfl) (by kernel_rfl) (by kernel_rfl) (fun _ _ _ h => h) (Or.inr ⟨by rfl, rfl⟩) (by assumption) ?_
                  try simp only [Act.put, List.setIfInBounds_toArray, List.set_cons_zero, List.set_cons_succ]
                  refine wpAnyH_ready (rs := [5]) (by kernel_rfl) (by simp) ?_
                  refine AllReadyH.cons (o := { dst := some 84, op := Go.Op.call { callee := Go.Callee.value (Go.Operand.func 75), args := #[Go.Operand.tmp 82, Go.Operand.tmp 83], argTypes := #[45, 38] }, type := 4, pos := "law.go:74", after := #[{ on := 3, ground := Go.Ground.data }, { on := 4, ground := Go.Ground.data }, { on := 2, ground := Go.Ground.chain }, { on := 2, ground := Go.Ground.guard }], guard := some (2, false) }) rfl (fun K hK => ?_) AllReadyH.nil
                  go_simp
                  refine hK.out _ _ ?_ (fun hHeld => ?_)
                  · exact hHeld
                  clear hK K
                  try simp only [Act.put, List.setIfInBounds_toArray, List.set_cons_zero, List.set_cons_succ]
                  refine wpAnyH_take (i := 6) (oi := { dst := some 85, op := Go.Op.unOp Go.UnOp.not 4 (Go.Operand.tmp 84), type := 4, pos := "law.go:74", after := #[{ on := 5, ground := Go.Ground.data }, { on := 2, ground := Go.Ground.guard }], guard := some (2, false) }) (v := undef) rfl (by kernel_rfl) (by kernel_rfl) (by kernel_rfl) (fun _ _ _ h => h) (Or.inr ⟨by rfl, rfl⟩) (by assumption) ?_
                  try simp only [Act.put, List.setIfInBounds_toArray, List.set_cons_zero, List.set_cons_succ]
                  refine wpAnyH_take (i := 7) (oi := { dst := some 86, op := Go.Op.pick (Go.Operand.tmp 81) (Go.Operand.const (Go.Value.bool true)) (Go.Operand.tmp 85), type := 4, pos := "law.go:74", after := #[{ on := 2, ground := Go.Ground.data }, { on := 6, ground := Go.Ground.data }], guard := none }) (v := ?_) rfl (by kernel_rfl) (by kernel_rfl) (by kernel_rfl) (fun _ _ _ h => h) (Or.inl ⟨by rfl, ?_⟩) (by assumption) ?_
                  rotate_left
                  · (intro W hSw; (try dsimp only at hSw); go_simp; try (with_reducible rfl))
                  try simp only [Act.put, List.setIfInBounds_toArray, List.set_cons_zero, List.set_cons_succ]
                  refine wpAnyH_take (i := 8) (oi := { dst := some 87, op := Go.Op.move (Go.Operand.tmp 86), type := 4, pos := "law.go:74", after := #[{ on := 7, ground := Go.Ground.data }, { on := 5, ground := Go.Ground.chain }], guard := none }) (v := ?_) rfl (by kernel_rfl) (by kernel_rfl) (by kernel_rfl) (fun _ _ _ h => h) (Or.inl ⟨by rfl, ?_⟩) (by assumption) ?_
                  rotate_left
                  · (intro W hSw; (try dsimp only at hSw); go_simp; try (with_reducible rfl))
                  try simp only [Act.put, List.setIfInBounds_toArray, List.set_cons_zero, List.set_cons_succ]
                  refine wpAnyH_take (i := 9) (oi := { dst := some 88, op := Go.Op.fieldAddr 38 (Go.Operand.tmp 4) 1, type := 0, pos := "law.go:74", after := #[{ on := 8, ground := Go.Ground.guard }], guard := some (8, false) }) (v := undef) rfl (by kernel_rfl) (by kernel_rfl) (by kernel_rfl) (fun _ _ _ h => h) (Or.inr ⟨by rfl, rfl⟩) (by assumption) ?_
                  try simp only [Act.put, List.setIfInBounds_toArray, List.set_cons_zero, List.set_cons_succ]
                  refine wpAnyH_take (i := 10) (oi := { dst := some 89, op := Go.Op.load 22 (Go.Operand.tmp 88), type := 22, pos := "law.go:74", after := #[{ on := 9, ground := Go.Ground.data }, { on := 8, ground := Go.Ground.guard }], guard := some (8, false) }) (v := undef) rfl (by kernel_rfl) (by kernel_rfl) (by kernel_rfl) (fun _ _ _ h => h) (Or.inr ⟨by rfl, rfl⟩) (by assumption) ?_
                  try simp only [Act.put, List.setIfInBounds_toArray, List.set_cons_zero, List.set_cons_succ]
                  refine wpAnyH_take (i := 11) (oi := { dst := some 90, op := Go.Op.move (Go.Operand.tmp 2), type := 3, pos := "law.go:74", after := #[{ on := 8, ground := Go.Ground.guard }], guard := some (8, false) }) (v := undef) rfl (by kernel_rfl) (by kernel_rfl) (by kernel_rfl) (fun _ _ _ h => h) (Or.inr ⟨by rfl, rfl⟩) (by assumption) ?_
                  try simp only [Act.put, List.setIfInBounds_toArray, List.set_cons_zero, List.set_cons_succ]
                  refine wpAnyH_take (i := 12) (oi := { dst := some 91, op := Go.Op.indexAddr 22 (Go.Operand.tmp 89) (Go.Operand.tmp 90), type := 0, pos := "law.go:74", after := #[{ on := 10, ground := Go.Ground.data }, { on := 11, ground := Go.Ground.data }, { on := 8, ground := Go.Ground.guard }], guard := some (8, false) }) (v := undef) rfl (by kernel_rfl) (by kernel_rfl) (by kernel_rfl) (fun _ _ _ h => h) (Or.inr ⟨by rfl, rfl⟩) (by assumption) ?_
                  try simp only [Act.put, List.setIfInBounds_toArray, List.set_cons_zero, List.set_cons_succ]
                  refine wpAnyH_take (i := 13) (oi := { dst := some 92, op := Go.Op.fieldAddr 89 (Go.Operand.tmp 91) 0, type := 0, pos := "law.go:74", after := #[{ on := 12, ground := Go.Ground.data }, { on := 8, ground := Go.Ground.guard }], guard := some (8, false) }) (v := undef) rfl (by kernel_rfl) (by kernel_rfl) (by kernel_rfl) (fun _ _ _ h => h) (Or.inr ⟨by rfl, rfl⟩) (by assumption) ?_
                  try simp only [Act.put, List.setIfInBounds_toArray, List.set_cons_zero, List.set_cons_succ]
                  refine wpAnyH_take (i := 14) (oi := { dst := some 93, op := Go.Op.load 3 (Go.Operand.tmp 92), type := 3, pos := "law.go:74", after := #[{ on := 13, ground := Go.Ground.data }, { on := 8, ground := Go.Ground.guard }], guard := some (8, false) }) (v := undef) rfl (by kernel_rfl) (by kernel_rfl) (by kernel_rfl) (fun _ _ _ h => h) (Or.inr ⟨by rfl, rfl⟩) (by assumption) ?_
                  try simp only [Act.put, List.setIfInBounds_toArray, List.set_cons_zero, List.set_cons_succ]
                  refine wpAnyH_take (i := 15) (oi := { dst := some 94, op := Go.Op.fieldAddr 38 (Go.Operand.tmp 4) 1, type := 0, pos := "law.go:74", after := #[{ on := 8, ground := Go.Ground.guard }], guard := some (8, false) }) (v := undef) rfl (by kernel_rfl) (by kernel_rfl) (by kernel_rfl) (fun _ _ _ h => h) (Or.inr ⟨by rfl, rfl⟩) (by assumption) ?_
                  try simp only [Act.put, List.setIfInBounds_toArray, List.set_cons_zero, List.set_cons_succ]
                  refine wpAnyH_take (i := 16) (oi := { dst := some 95, op := Go.Op.load 22 (Go.Operand.tmp 94), type := 22, pos := "law.go:74", after := #[{ on := 15, ground := Go.Ground.data }, { on := 8, ground := Go.Ground.guard }], guard := some (8, false) }) (v := undef) rfl (by kernel_rfl) (by kernel_rfl) (by kernel_rfl) (fun _ _ _ h => h) (Or.inr ⟨by rfl, rfl⟩) (by assumption) ?_
                  try simp only [Act.put, List.setIfInBounds_toArray, List.set_cons_zero, List.set_cons_succ]
                  refine wpAnyH_take (i := 17) (oi := { dst := some 96, op := Go.Op.move (Go.Operand.tmp 2), type := 3, pos := "law.go:74", after := #[{ on := 8, ground := Go.Ground.guard }], guard := some (8, false) }) (v := undef) rfl (by kernel_rfl) (by kernel_rfl) (by kernel_rfl) (fun _ _ _ h => h) (Or.inr ⟨by rfl, rfl⟩) (by assumption) ?_
                  try simp only [Act.put, List.setIfInBounds_toArray, List.set_cons_zero, List.set_cons_succ]
                  refine wpAnyH_take (i := 18) (oi := { dst := some 97, op := Go.Op.indexAddr 22 (Go.Operand.tmp 95) (Go.Operand.tmp 96), type := 0, pos := "law.go:74", after := #[{ on := 16, ground := Go.Ground.data }, { on := 17, ground := Go.Ground.data }, { on := 8, ground := Go.Ground.guard }], guard := some (8, false) }) (v := undef) rfl (by kernel_rfl) (by kernel_rfl) (by kernel_rfl) (fun _ _ _ h => h) (Or.inr ⟨by rfl, rfl⟩) (by assumption) ?_
                  try simp only [Act.put, List.setIfInBounds_toArray, List.set_cons_zero, List.set_cons_succ]
                  refine wpAnyH_take (i := 19) (oi := { dst := some 98, op := Go.Op.fieldAddr 89 (Go.Operand.tmp 97) 1, type := 0, pos := "law.go:74", after := #[{ on := 18, ground := Go.Ground.data }, { on := 8, ground := Go.Ground.guard }], guard := some (8, false) }) (v := undef) rfl (by kernel_rfl) (by kernel_rfl) (by kernel_rfl) (fun _ _ _ h => h) (Or.inr ⟨by rfl, rfl⟩) (by assumption) ?_
                  try simp only [Act.put, List.setIfInBounds_toArray, List.set_cons_zero, List.set_cons_succ]
                  refine wpAnyH_take (i := 20) (oi := { dst := some 99, op := Go.Op.load 3 (Go.Operand.tmp 98), type := 3, pos := "law.go:74", after := #[{ on := 19, ground := Go.Ground.data }, { on := 8, ground := Go.Ground.guard }], guard := some (8, false) }) (v := undef) rfl (by kernel_rfl) (by kernel_rfl) (by kernel_rfl) (fun _ _ _ h => h) (Or.inr ⟨by rfl, rfl⟩) (by assumption) ?_
                  try simp only [Act.put, List.setIfInBounds_toArray, List.set_cons_zero, List.set_cons_succ]
                  refine wpAnyH_take (i := 21) (oi := { dst := some 100, op := Go.Op.binOp Go.BinOp.eql 3 (Go.Operand.tmp 93) (Go.Operand.tmp 99) 3, type := 4, pos := "law.go:74", after := #[{ on := 14, ground := Go.Ground.data }, { on := 20, ground := Go.Ground.data }, { on := 8, ground := Go.Ground.guard }], guard := some (8, false) }) (v := undef) rfl (by kernel_rfl) (by kernel_rfl) (by kernel_rfl) (fun _ _ _ h => h) (Or.inr ⟨by rfl, rfl⟩) (by assumption) ?_
                  try simp only [Act.put, List.setIfInBounds_toArray, List.set_cons_zero, List.set_cons_succ]
                  refine wpAnyH_take (i := 22) (oi := { dst := some 101, op := Go.Op.pick (Go.Operand.tmp 87) (Go.Operand.const (Go.Value.bool true)) (Go.Operand.tmp 100), type := 4, pos := "law.go:74", after := #[{ on := 8, ground := Go.Ground.data }, { on := 21, ground := Go.Ground.data }], guard := none }) (v := ?_) rfl (by kernel_rfl) (by kernel_rfl) (by kernel_rfl) (fun _ _ _ h => h) (Or.inl ⟨by rfl, ?_⟩) (by assumption) ?_
                  rotate_left
                  · (intro W hSw; (try dsimp only at hSw); go_simp; try (with_reducible rfl))
                  try simp only [Act.put, List.setIfInBounds_toArray, List.set_cons_zero, List.set_cons_succ]
                  refine wpAnyH_take (i := 23) (oi := { dst := some 6, op := Go.Op.assign (Go.Operand.tmp 101), type := 4, pos := "law.go:74", after := #[{ on := 22, ground := Go.Ground.data }, { on := 8, ground := Go.Ground.chain }, { on := 0, ground := Go.Ground.phase }, { on := 1, ground := Go.Ground.phase }, { on := 2, ground := Go.Ground.phase }, { on := 3, ground := Go.Ground.phase }, { on := 4, ground := Go.Ground.phase }, { on := 5, ground := Go.Ground.phase }, { on := 6, ground := Go.Ground.phase }, { on := 7, ground := Go.Ground.phase }, { on := 8, ground := Go.Ground.phase }, { on := 9, ground := Go.Ground.phase }, { on := 10, ground := Go.Ground.phase }, { on := 11, ground := Go.Ground.phase }, { on := 12, ground := Go.Ground.phase }, { on := 13, ground := Go.Ground.phase }, { on := 14, ground := Go.Ground.phase }, { on := 15, ground := Go.Ground.phase }, { on := 16, ground := Go.Ground.phase }, { on := 17, ground := Go.Ground.phase }, { on := 18, ground := Go.Ground.phase }, { on := 19, ground := Go.Ground.phase }, { on := 20, ground := Go.Ground.phase }, { on := 21, ground := Go.Ground.phase }, { on := 22, ground := Go.Ground.phase }], guard := none }) (v := ?_) rfl (by kernel_rfl) (by kernel_rfl) (by kernel_rfl) (fun _ _ _ h => h) (Or.inl ⟨by rfl, ?_⟩) (by assumption) ?_
                  rotate_left
                  · (intro W hSw; (try dsimp only at hSw); go_simp; try (with_reducible rfl))
                  try simp only [Act.put, List.setIfInBounds_toArray, List.set_cons_zero, List.set_cons_succ]
                  refine wpAnyH_done (by kernel_rfl) (NoPanic.normal ?_) _
                  go_wp2_with fail
                  go_ret
                  exact ⟨rfl, (U0.out.trans U3.out).trans (HU9.out.trans hHeld)⟩
                · have h0 := (BH3.out.upd HU9.out id).cell 0
                  have h1 := (BH3.out.upd HU9.out id).cell 1
                  have z0 := HB9.out.cell 0
                  have z1 := HB9.out.cell 1
                  have z2 := HB9.out.cell 2
                  have z3 := HB9.out.cell 3
                  have z4 := HB9.out.cell 4
                  have z5 := HB9.out.cell 5
                  have z6 := HB9.out.cell 6
                  simp only [List.getElem?_cons_zero, List.getElem?_cons_succ] at h0 h1 z0 z1 z2 z3 z4 z5 z6
                  go_wp2_with fail
                  refine (caccV (HB.out _ HU9.out) HW9.out (by rw [List.length_append]; omega) rfl rfl List.length_append (acc_twice _ _ _ _ (by omega) Ha.out)).mono ?_
                  rintro e w8 ⟨rfl, hu8⟩
                  clear h0 h1 z0 z1 z2 z3 z4 z5 z6
                  have HU10 := Lib.hid (HU9.out.trans hu8)
                  have HB10 := Lib.hid (HB10.out.upd hu8 id)
                  have HW10 := Lib.hid (WalkE.upd HW10.out hu8)
                  clear HU9 HW9 HB9 hu8
                  have UW8 := Lib.hid ((Upd.refl No w8).drew)
                  obtain ⟨v, hv⟩ : ∃ v, acceptB ⟨txs, ords, A, c, B, d⟩ p ((rot l k).drop 1) ⟨bx, bp, ⟨vt, vk, vn⟩⟩ = v := ⟨_, rfl⟩
                  obtain ⟨ad, rfl, _, _, _, _⟩ := (WB.out _ HU10.out).at_ hk
                  have hr := Lib.hid (fun W' (hW : Upd No w8 W') => (WB.out _ (HU10.out.trans hW)).at_ hk)
                  have HV := Lib.hid hv
                  clear hv
                  have ALL11 := Lib.hid (show ∀ W', Upd No w8 W' → Upd No w8 W' ∧ W'.cell? ⟨w.heap.size, 0, none⟩ = some (.slice A txs.length c) ∧ W'.cell? ⟨w.heap.size, 1, none⟩ = some (.slice B ords.length d) ∧ W'.cell? ⟨g10, 0, none⟩ = some (.int .i64 p) ∧ W'.cell? ⟨g10, 1, none⟩ = some (.slice (cutA A8 c8 1 4) (l.length - 1) (c8 - 1)) ∧ W'.cell? ⟨g10, 2, none⟩ = some (.int .i64 bx) ∧ W'.cell? ⟨g10, 3, none⟩ = some (.int .i64 bp) ∧ W'.cell? ⟨g10, 4, none⟩ = some (.int .i64 vt) ∧ W'.cell? ⟨g10, 5, none⟩ = some (.int .i64 vk) ∧ W'.cell? ⟨g10, 6, none⟩ = some (.int .i64 vn) ∧ W'.cell? ⟨w.heap.size + 1, 1, none⟩ = some (.slice (some ad) l.length xc) ∧ W'.cell? (ad.add (k * 4)) = some (.int .i64 l[k].f) ∧ W'.cell? ⟨(ad.add (k * 4)).block, (ad.add (k * 4)).off + 1, none⟩ = some (.int .i64 l[k].t)
                    from fun W' hW => ⟨hW, (BH3.out.upd (HU10.out.trans hW) id).cell 0, (BH3.out.upd (HU10.out.trans hW) id).cell 1, (HB10.out.upd hW id).cell 0, (HB10.out.upd hW id).cell 1, (HB10.out.upd hW id).cell 2, (HB10.out.upd hW id).cell 3, (HB10.out.upd hW id).cell 4, (HB10.out.upd hW id).cell 5, (HB10.out.upd hW id).cell 6, (BW3.out.upd (HU10.out.trans hW) id).cell 1, by obtain ⟨ad', e, h0, h1, _, _⟩ := hr.out W' hW; injection e with e; subst e; exact ⟨h0, h1⟩⟩)
                  cases v
                  · go_upto_region 11 with fail
                    refine wp_region_noPanic ?_
                    refine wp_region_held_drew (S := (fun W' => Upd No w8 W' ∧ W'.cell? ⟨w.heap.size, 0, none⟩ = some (.slice A txs.length c) ∧ W'.cell? ⟨w.heap.size, 1, none⟩ = some (.slice B ords.length d) ∧ W'.cell? ⟨g10, 0, none⟩ = some (.int .i64 p) ∧ W'.cell? ⟨g10, 1, none⟩ = some (.slice (cutA A8 c8 1 4) (l.length - 1) (c8 - 1)) ∧ W'.cell? ⟨g10, 2, none⟩ = some (.int .i64 bx) ∧ W'.cell? ⟨g10, 3, none⟩ = some (.int .i64 bp) ∧ W'.cell? ⟨g10, 4, none⟩ = some (.int .i64 vt) ∧ W'.cell? ⟨g10, 5, none⟩ = some (.int .i64 vk) ∧ W'.cell? ⟨g10, 6, none⟩ = some (.int .i64 vn) ∧ W'.cell? ⟨w.heap.size + 1, 1, none⟩ = some (.slice (some ad) l.length xc) ∧ W'.cell? (ad.add (k * 4)) = some (.int .i64 l[k].f) ∧ W'.cell? ⟨(ad.add (k * 4)).block, (ad.add (k * 4)).off + 1, none⟩ = some (.int .i64 l[k].t))) (by kernel_rfl) ?_ (fun hHeld => ?_)
                    · (first | exact ALL11.out _ (hHeld.1.trans hu9) | exact ALL11.out _ UW8.out)
                    refine wpAnyH_take (i := 0) (oi := { dst := some 79, op := Go.Op.move (Go.Operand.tmp 7), type := 4, pos := "law.go:74", after := #[], guard := none }) (v := ?_) rfl (by kernel_rfl) (by kernel_rfl) (by kernel_rfl) (fun _ _ _ h => h) (Or.inl ⟨by rfl, ?_⟩) (by assumption) ?_
                    rotate_left
                    · (intro W hSw; (try dsimp only at hSw); go_simp; try (with_reducible rfl))
                    try simp only [Act.put, List.setIfInBounds_toArray, List.set_cons_zero, List.set_cons_succ]
                    refine wpAnyH_take (i := 1) (oi := { dst := some 80, op := Go.Op.unOp Go.UnOp.not 4 (Go.Operand.tmp 79), type := 4, pos := "law.go:74", after := #[{ on := 0, ground := Go.Ground.data }], guard := none }) (v := ?_) rfl (by kernel_rfl) (by kernel_rfl) (by kernel_rfl) (fun _ _ _ h => h) (Or.inl ⟨by rfl, ?_⟩) (by assumption) ?_
                    rotate_left
                    · (intro W hSw; (try dsimp only at hSw); go_simp; try (with_reducible rfl))
                    try simp only [Act.put, List.setIfInBounds_toArray, List.set_cons_zero, List.set_cons_succ]
                    refine wpAnyH_take (i := 2) (oi := { dst := some 81, op := Go.Op.move (Go.Operand.tmp 80), type := 4, pos := "law.go:74", after := #[{ on := 1, ground := Go.Ground.data }], guard := none }) (v := ?_) rfl (by kernel_rfl) (by kernel_rfl) (by kernel_rfl) (fun _ _ _ h => h) (Or.inl ⟨by rfl, ?_⟩) (by assumption) ?_
                    rotate_left
                    · (intro W hSw; (try dsimp only at hSw); go_simp; try (with_reducible rfl))
                    try simp only [Act.put, List.setIfInBounds_toArray, List.set_cons_zero, List.set_cons_succ]
                    refine wpAnyH_take (i := 3) (oi := { dst := some 82, op := Go.Op.load 45 (Go.Operand.tmp 3), type := 45, pos := "law.go:74", after := #[{ on := 2, ground := Go.Ground.guard }], guard := some (2, false) }) (v := ?_) rfl (by kernel_rfl) (by kernel_rfl) (by kernel_rfl) (fun _ _ _ h => h) (Or.inl ⟨by rfl, ?_⟩) (by assumption) ?_
                    rotate_left
                    · (intro W hSw; (try dsimp only at hSw); go_simp; try (with_reducible rfl))
                    try simp only [Act.put, List.setIfInBounds_toArray, List.set_cons_zero, List.set_cons_succ]
                    refine wpAnyH_take (i := 4) (oi := { dst := some 83, op := Go.Op.load 38 (Go.Operand.tmp 10), type := 38, pos := "law.go:74", after := #[{ on := 2, ground := Go.Ground.guard }], guard := some (2, false) }) (v := ?_) rfl (by kernel_rfl) (by kernel_rfl) (by kernel_rfl) (fun _ _ _ h => h) (Or.inl ⟨by rfl, ?_⟩) (by assumption) ?_
                    rotate_left
                    · (intro W hSw; (try dsimp only at hSw); go_simp; try (with_reducible rfl))
                    try simp only [Act.put, List.setIfInBounds_toArray, List.set_cons_zero, List.set_cons_succ]
                    refine wpAnyH_ready (rs := [5]) (by kernel_rfl) (by simp) ?_
                    refine AllReadyH.cons (o := { dst := some 84, op := Go.Op.call { callee := Go.Callee.value (Go.Operand.func 75), args := #[Go.Operand.tmp 82, Go.Operand.tmp 83], argTypes := #[45, 38] }, type := 4, pos := "law.go:74", after := #[{ on := 3, ground := Go.Ground.data }, { on := 4, ground := Go.Ground.data }, { on := 2, ground := Go.Ground.chain }, { on := 2, ground := Go.Ground.guard }], guard := some (2, false) }) rfl (fun K hK => ?_) AllReadyH.nil
                    go_simp
                    (first
    | (go_at_call 75; refine (caccV (HB.out _ (HU10.out.trans hHeld.1)) (WalkE.upd HW10.out hHeld.1) (by rw [List.length_drop, rot_len l (by omega)]; omega) rfl rfl (by rw [List.length_drop, rot_len l (by omega)]) HV.out).mono ?_; rintro e w9 ⟨rfl, hu9⟩))
                    try (go_wp2_with fail)
                    refine hK.out _ _ ?_ (fun hHeld => ?_)
                    · (first | exact ALL11.out _ (hHeld.1.trans hu9) | exact ALL11.out _ UW8.out)
                    clear hK K
                    try simp only [Act.put, List.setIfInBounds_toArray, List.set_cons_zero, List.set_cons_succ]
                    refine wpAnyH_take (i := 6) (oi := { dst := some 85, op := Go.Op.unOp Go.UnOp.not 4 (Go.Operand.tmp 84), type := 4, pos := "law.go:74", after := #[{ on := 5, ground := Go.Ground.data }, { on := 2, ground := Go.Ground.guard }], guard := some (2, false) }) (v := ?_) rfl (by kernel_rfl) (by kernel_rfl) (by kernel_rfl) (fun _ _ _ h => h) (Or.inl ⟨by rfl, ?_⟩) (by assumption) ?_
                    rotate_left
                    · (intro W hSw; (try dsimp only at hSw); go_simp; try (with_reducible rfl))
                    try simp only [Act.put, List.setIfInBounds_toArray, List.set_cons_zero, List.set_cons_succ]
                    refine wpAnyH_take (i := 7) (oi := { dst := some 86, op := Go.Op.pick (Go.Operand.tmp 81) (Go.Operand.const (Go.Value.bool true)) (Go.Operand.tmp 85), type := 4, pos := "law.go:74", after := #[{ on := 2, ground := Go.Ground.data }, { on := 6, ground := Go.Ground.data }], guard := none }) (v := ?_) rfl (by kernel_rfl) (by kernel_rfl) (by kernel_rfl) (fun _ _ _ h => h) (Or.inl ⟨by rfl, ?_⟩) (by assumption) ?_
                    rotate_left
                    · (intro W hSw; (try dsimp only at hSw); go_simp; try (with_reducible rfl))
                    try simp only [Act.put, List.setIfInBounds_toArray, List.set_cons_zero, List.set_cons_succ]
                    refine wpAnyH_take (i := 8) (oi := { dst := some 87, op := Go.Op.move (Go.Operand.tmp 86), type := 4, pos := "law.go:74", after := #[{ on := 7, ground := Go.Ground.data }, { on := 5, ground := Go.Ground.chain }], guard := none }) (v := ?_) rfl (by kernel_rfl) (by kernel_rfl) (by kernel_rfl) (fun _ _ _ h => h) (Or.inl ⟨by rfl, ?_⟩) (by assumption) ?_
                    rotate_left
                    · (intro W hSw; (try dsimp only at hSw); go_simp; try (with_reducible rfl))
                    try simp only [Act.put, List.setIfInBounds_toArray, List.set_cons_zero, List.set_cons_succ]
                    refine wpAnyH_take (i := 9) (oi := { dst := some 88, op := Go.Op.fieldAddr 38 (Go.Operand.tmp 4) 1, type := 0, pos := "law.go:74", after := #[{ on := 8, ground := Go.Ground.guard }], guard := some (8, false) }) (v := undef) rfl (by kernel_rfl) (by kernel_rfl) (by kernel_rfl) (fun _ _ _ h => h) (Or.inr ⟨by rfl, rfl⟩) (by assumption) ?_
                    try simp only [Act.put, List.setIfInBounds_toArray, List.set_cons_zero, List.set_cons_succ]
                    refine wpAnyH_take (i := 10) (oi := { dst := some 89, op := Go.Op.load 22 (Go.Operand.tmp 88), type := 22, pos := "law.go:74", after := #[{ on := 9, ground := Go.Ground.data }, { on := 8, ground := Go.Ground.guard }], guard := some (8, false) }) (v := undef) rfl (by kernel_rfl) (by kernel_rfl) (by kernel_rfl) (fun _ _ _ h => h) (Or.inr ⟨by rfl, rfl⟩) (by assumption) ?_
                    try simp only [Act.put, List.setIfInBounds_toArray, List.set_cons_zero, List.set_cons_succ]
                    refine wpAnyH_take (i := 11) (oi := { dst := some 90, op := Go.Op.move (Go.Operand.tmp 2), type := 3, pos := "law.go:74", after := #[{ on := 8, ground := Go.Ground.guard }], guard := some (8, false) }) (v := undef) rfl (by kernel_rfl) (by kernel_rfl) (by kernel_rfl) (fun _ _ _ h => h) (Or.inr ⟨by rfl, rfl⟩) (by assumption) ?_
                    try simp only [Act.put, List.setIfInBounds_toArray, List.set_cons_zero, List.set_cons_succ]
                    refine wpAnyH_take (i := 12) (oi := { dst := some 91, op := Go.Op.indexAddr 22 (Go.Operand.tmp 89) (Go.Operand.tmp 90), type := 0, pos := "law.go:74", after := #[{ on := 10, ground := Go.Ground.data }, { on := 11, ground := Go.Ground.data }, { on := 8, ground := Go.Ground.guard }], guard := some (8, false) }) (v := undef) rfl (by kernel_rfl) (by kernel_rfl) (by kernel_rfl) (fun _ _ _ h => h) (Or.inr ⟨by rfl, rfl⟩) (by assumption) ?_
                    try simp only [Act.put, List.setIfInBounds_toArray, List.set_cons_zero, List.set_cons_succ]
                    refine wpAnyH_take (i := 13) (oi := { dst := some 92, op := Go.Op.fieldAddr 89 (Go.Operand.tmp 91) 0, type := 0, pos := "law.go:74", after := #[{ on := 12, ground := Go.Ground.data }, { on := 8, ground := Go.Ground.guard }], guard := some (8, false) }) (v := undef) rfl (by kernel_rfl) (by kernel_rfl) (by kernel_rfl) (fun _ _ _ h => h) (Or.inr ⟨by rfl, rfl⟩) (by assumption) ?_
                    try simp only [Act.put, List.setIfInBounds_toArray, List.set_cons_zero, List.set_cons_succ]
                    refine wpAnyH_take (i := 14) (oi := { dst := some 93, op := Go.Op.load 3 (Go.Operand.tmp 92), type := 3, pos := "law.go:74", after := #[{ on := 13, ground := Go.Ground.data }, { on := 8, ground := Go.Ground.guard }], guard := some (8, false) }) (v := undef) rfl (by kernel_rfl) (by kernel_rfl) (by kernel_rfl) (fun _ _ _ h => h) (Or.inr ⟨by rfl, rfl⟩) (by assumption) ?_
                    try simp only [Act.put, List.setIfInBounds_toArray, List.set_cons_zero, List.set_cons_succ]
                    refine wpAnyH_take (i := 15) (oi := { dst := some 94, op := Go.Op.fieldAddr 38 (Go.Operand.tmp 4) 1, type := 0, pos := "law.go:74", after := #[{ on := 8, ground := Go.Ground.guard }], guard := some (8, false) }) (v := undef) rfl (by kernel_rfl) (by kernel_rfl) (by kernel_rfl) (fun _ _ _ h => h) (Or.inr ⟨by rfl, rfl⟩) (by assumption) ?_
                    try simp only [Act.put, List.setIfInBounds_toArray, List.set_cons_zero, List.set_cons_succ]
                    refine wpAnyH_take (i := 16) (oi := { dst := some 95, op := Go.Op.load 22 (Go.Operand.tmp 94), type := 22, pos := "law.go:74", after := #[{ on := 15, ground := Go.Ground.data }, { on := 8, ground := Go.Ground.guard }], guard := some (8, false) }) (v := undef) rfl (by kernel_rfl) (by kernel_rfl) (by kernel_rfl) (fun _ _ _ h => h) (Or.inr ⟨by rfl, rfl⟩) (by assumption) ?_
                    try simp only [Act.put, List.setIfInBounds_toArray, List.set_cons_zero, List.set_cons_succ]
                    refine wpAnyH_take (i := 17) (oi := { dst := some 96, op := Go.Op.move (Go.Operand.tmp 2), type := 3, pos := "law.go:74", after := #[{ on := 8, ground := Go.Ground.guard }], guard := some (8, false) }) (v := undef) rfl (by kernel_rfl) (by kernel_rfl) (by kernel_rfl) (fun _ _ _ h => h) (Or.inr ⟨by rfl, rfl⟩) (by assumption) ?_
                    try simp only [Act.put, List.setIfInBounds_toArray, List.set_cons_zero, List.set_cons_succ]
                    refine wpAnyH_take (i := 18) (oi := { dst := some 97, op := Go.Op.indexAddr 22 (Go.Operand.tmp 95) (Go.Operand.tmp 96), type := 0, pos := "law.go:74", after := #[{ on := 16, ground := Go.Ground.data }, { on := 17, ground := Go.Ground.data }, { on := 8, ground := Go.Ground.guard }], guard := some (8, false) }) (v := undef) rfl (by kernel_rfl) (by kernel_rfl) (by kernel_rfl) (fun _ _ _ h => h) (Or.inr ⟨by rfl, rfl⟩) (by assumption) ?_
                    try simp only [Act.put, List.setIfInBounds_toArray, List.set_cons_zero, List.set_cons_succ]
                    refine wpAnyH_take (i := 19) (oi := { dst := some 98, op := Go.Op.fieldAddr 89 (Go.Operand.tmp 97) 1, type := 0, pos := "law.go:74", after := #[{ on := 18, ground := Go.Ground.data }, { on := 8, ground := Go.Ground.guard }], guard := some (8, false) }) (v := undef) rfl (by kernel_rfl) (by kernel_rfl) (by kernel_rfl) (fun _ _ _ h => h) (Or.inr ⟨by rfl, rfl⟩) (by assumption) ?_
                    try simp only [Act.put, List.setIfInBounds_toArray, List.set_cons_zero, List.set_cons_succ]
                    refine wpAnyH_take (i := 20) (oi := { dst := some 99, op := Go.Op.load 3 (Go.Operand.tmp 98), type := 3, pos := "law.go:74", after := #[{ on := 19, ground := Go.Ground.data }, { on := 8, ground := Go.Ground.guard }], guard := some (8, false) }) (v := undef) rfl (by kernel_rfl) (by kernel_rfl) (by kernel_rfl) (fun _ _ _ h => h) (Or.inr ⟨by rfl, rfl⟩) (by assumption) ?_
                    try simp only [Act.put, List.setIfInBounds_toArray, List.set_cons_zero, List.set_cons_succ]
                    refine wpAnyH_take (i := 21) (oi := { dst := some 100, op := Go.Op.binOp Go.BinOp.eql 3 (Go.Operand.tmp 93) (Go.Operand.tmp 99) 3, type := 4, pos := "law.go:74", after := #[{ on := 14, ground := Go.Ground.data }, { on := 20, ground := Go.Ground.data }, { on := 8, ground := Go.Ground.guard }], guard := some (8, false) }) (v := undef) rfl (by kernel_rfl) (by kernel_rfl) (by kernel_rfl) (fun _ _ _ h => h) (Or.inr ⟨by rfl, rfl⟩) (by assumption) ?_
                    try simp only [Act.put, List.setIfInBounds_toArray, List.set_cons_zero, List.set_cons_succ]
                    refine wpAnyH_take (i := 22) (oi := { dst := some 101, op := Go.Op.pick (Go.Operand.tmp 87) (Go.Operand.const (Go.Value.bool true)) (Go.Operand.tmp 100), type := 4, pos := "law.go:74", after := #[{ on := 8, ground := Go.Ground.data }, { on := 21, ground := Go.Ground.data }], guard := none }) (v := ?_) rfl (by kernel_rfl) (by kernel_rfl) (by kernel_rfl) (fun _ _ _ h => h) (Or.inl ⟨by rfl, ?_⟩) (by assumption) ?_
                    rotate_left
                    · (intro W hSw; (try dsimp only at hSw); go_simp; try (with_reducible rfl))
                    try simp only [Act.put, List.setIfInBounds_toArray, List.set_cons_zero, List.set_cons_succ]
                    refine wpAnyH_take (i := 23) (oi := { dst := some 6, op := Go.Op.assign (Go.Operand.tmp 101), type := 4, pos := "law.go:74", after := #[{ on := 22, ground := Go.Ground.data }, { on := 8, ground := Go.Ground.chain }, { on := 0, ground := Go.Ground.phase }, { on := 1, ground := Go.Ground.phase }, { on := 2, ground := Go.Ground.phase }, { on := 3, ground := Go.Ground.phase }, { on := 4, ground := Go.Ground.phase }, { on := 5, ground := Go.Ground.phase }, { on := 6, ground := Go.Ground.phase }, { on := 7, ground := Go.Ground.phase }, { on := 8, ground := Go.Ground.phase }, { on := 9, ground := Go.Ground.phase }, { on := 10, ground := Go.Ground.phase }, { on := 11, ground := Go.Ground.phase }, { on := 12, ground := Go.Ground.phase }, { on := 13, ground := Go.Ground.phase }, { on := 14, ground := Go.Ground.phase }, { on := 15, ground := Go.Ground.phase }, { on := 16, ground := Go.Ground.phase }, { on := 17, ground := Go.Ground.phase }, { on := 18, ground := Go.Ground.phase }, { on := 19, ground := Go.Ground.phase }, { on := 20, ground := Go.Ground.phase }, { on := 21, ground := Go.Ground.phase }, { on := 22, ground := Go.Ground.phase }], guard := none }) (v := ?_) rfl (by kernel_rfl) (by kernel_rfl) (by kernel_rfl) (fun _ _ _ h => h) (Or.inl ⟨by rfl, ?_⟩) (by assumption) ?_
                    rotate_left
                    · (intro W hSw; (try dsimp only at hSw); go_simp; try (with_reducible rfl))
                    try simp only [Act.put, List.setIfInBounds_toArray, List.set_cons_zero, List.set_cons_succ]
                    refine wpAnyH_done (by kernel_rfl) (NoPanic.normal ?_) _
                    go_wp2_with fail
                    go_ret
                    exact ⟨rfl, (U0.out.trans U3.out).trans (HU10.out.trans hHeld.1)⟩
                  · have hft := acc_less _ _ _ _ hk Ha.out HV.out
                    go_upto_region 11 with fail
                    refine wp_region_noPanic ?_
                    refine wp_region_held_drew (S := (fun W' => Upd No w8 W' ∧ W'.cell? ⟨w.heap.size, 0, none⟩ = some (.slice A txs.length c) ∧ W'.cell? ⟨w.heap.size, 1, none⟩ = some (.slice B ords.length d) ∧ W'.cell? ⟨g10, 0, none⟩ = some (.int .i64 p) ∧ W'.cell? ⟨g10, 1, none⟩ = some (.slice (cutA A8 c8 1 4) (l.length - 1) (c8 - 1)) ∧ W'.cell? ⟨g10, 2, none⟩ = some (.int .i64 bx) ∧ W'.cell? ⟨g10, 3, none⟩ = some (.int .i64 bp) ∧ W'.cell? ⟨g10, 4, none⟩ = some (.int .i64 vt) ∧ W'.cell? ⟨g10, 5, none⟩ = some (.int .i64 vk) ∧ W'.cell? ⟨g10, 6, none⟩ = some (.int .i64 vn) ∧ W'.cell? ⟨w.heap.size + 1, 1, none⟩ = some (.slice (some ad) l.length xc) ∧ W'.cell? (ad.add (k * 4)) = some (.int .i64 l[k].f) ∧ W'.cell? ⟨(ad.add (k * 4)).block, (ad.add (k * 4)).off + 1, none⟩ = some (.int .i64 l[k].t))) (by kernel_rfl) ?_ (fun hHeld => ?_)
                    · (first | exact ALL11.out _ (hHeld.1.trans hu9) | exact ALL11.out _ UW8.out)
                    refine wpAnyH_take (i := 0) (oi := { dst := some 79, op := Go.Op.move (Go.Operand.tmp 7), type := 4, pos := "law.go:74", after := #[], guard := none }) (v := ?_) rfl (by kernel_rfl) (by kernel_rfl) (by kernel_rfl) (fun _ _ _ h => h) (Or.inl ⟨by rfl, ?_⟩) (by assumption) ?_
                    rotate_left
                    · (intro W hSw; (try dsimp only at hSw); go_simp; try (with_reducible rfl))
                    try simp only [Act.put, List.setIfInBounds_toArray, List.set_cons_zero, List.set_cons_succ]
                    refine wpAnyH_take (i := 1) (oi := { dst := some 80, op := Go.Op.unOp Go.UnOp.not 4 (Go.Operand.tmp 79), type := 4, pos := "law.go:74", after := #[{ on := 0, ground := Go.Ground.data }], guard := none }) (v := ?_) rfl (by kernel_rfl) (by kernel_rfl) (by kernel_rfl) (fun _ _ _ h => h) (Or.inl ⟨by rfl, ?_⟩) (by assumption) ?_
                    rotate_left
                    · (intro W hSw; (try dsimp only at hSw); go_simp; try (with_reducible rfl))
                    try simp only [Act.put, List.setIfInBounds_toArray, List.set_cons_zero, List.set_cons_succ]
                    refine wpAnyH_take (i := 2) (oi := { dst := some 81, op := Go.Op.move (Go.Operand.tmp 80), type := 4, pos := "law.go:74", after := #[{ on := 1, ground := Go.Ground.data }], guard := none }) (v := ?_) rfl (by kernel_rfl) (by kernel_rfl) (by kernel_rfl) (fun _ _ _ h => h) (Or.inl ⟨by rfl, ?_⟩) (by assumption) ?_
                    rotate_left
                    · (intro W hSw; (try dsimp only at hSw); go_simp; try (with_reducible rfl))
                    try simp only [Act.put, List.setIfInBounds_toArray, List.set_cons_zero, List.set_cons_succ]
                    refine wpAnyH_take (i := 3) (oi := { dst := some 82, op := Go.Op.load 45 (Go.Operand.tmp 3), type := 45, pos := "law.go:74", after := #[{ on := 2, ground := Go.Ground.guard }], guard := some (2, false) }) (v := ?_) rfl (by kernel_rfl) (by kernel_rfl) (by kernel_rfl) (fun _ _ _ h => h) (Or.inl ⟨by rfl, ?_⟩) (by assumption) ?_
                    rotate_left
                    · (intro W hSw; (try dsimp only at hSw); go_simp; try (with_reducible rfl))
                    try simp only [Act.put, List.setIfInBounds_toArray, List.set_cons_zero, List.set_cons_succ]
                    refine wpAnyH_take (i := 4) (oi := { dst := some 83, op := Go.Op.load 38 (Go.Operand.tmp 10), type := 38, pos := "law.go:74", after := #[{ on := 2, ground := Go.Ground.guard }], guard := some (2, false) }) (v := ?_) rfl (by kernel_rfl) (by kernel_rfl) (by kernel_rfl) (fun _ _ _ h => h) (Or.inl ⟨by rfl, ?_⟩) (by assumption) ?_
                    rotate_left
                    · (intro W hSw; (try dsimp only at hSw); go_simp; try (with_reducible rfl))
                    try simp only [Act.put, List.setIfInBounds_toArray, List.set_cons_zero, List.set_cons_succ]
                    refine wpAnyH_ready (rs := [5]) (by kernel_rfl) (by simp) ?_
                    refine AllReadyH.cons (o := { dst := some 84, op := Go.Op.call { callee := Go.Callee.value (Go.Operand.func 75), args := #[Go.Operand.tmp 82, Go.Operand.tmp 83], argTypes := #[45, 38] }, type := 4, pos := "law.go:74", after := #[{ on := 3, ground := Go.Ground.data }, { on := 4, ground := Go.Ground.data }, { on := 2, ground := Go.Ground.chain }, { on := 2, ground := Go.Ground.guard }], guard := some (2, false) }) rfl (fun K hK => ?_) AllReadyH.nil
                    go_simp
                    (first
    | (go_at_call 75; refine (caccV (HB.out _ (HU10.out.trans hHeld.1)) (WalkE.upd HW10.out hHeld.1) (by rw [List.length_drop, rot_len l (by omega)]; omega) rfl rfl (by rw [List.length_drop, rot_len l (by omega)]) HV.out).mono ?_; rintro e w9 ⟨rfl, hu9⟩))
                    try (go_wp2_with fail)
                    refine hK.out _ _ ?_ (fun hHeld => ?_)
                    · (first | exact ALL11.out _ (hHeld.1.trans hu9) | exact ALL11.out _ UW8.out)
                    clear hK K
                    try simp only [Act.put, List.setIfInBounds_toArray, List.set_cons_zero, List.set_cons_succ]
                    refine wpAnyH_take (i := 6) (oi := { dst := some 85, op := Go.Op.unOp Go.UnOp.not 4 (Go.Operand.tmp 84), type := 4, pos := "law.go:74", after := #[{ on := 5, ground := Go.Ground.data }, { on := 2, ground := Go.Ground.guard }], guard := some (2, false) }) (v := ?_) rfl (by kernel_rfl) (by kernel_rfl) (by kernel_rfl) (fun _ _ _ h => h) (Or.inl ⟨by rfl, ?_⟩) (by assumption) ?_
                    rotate_left
                    · (intro W hSw; (try dsimp only at hSw); go_simp; try (with_reducible rfl))
                    try simp only [Act.put, List.setIfInBounds_toArray, List.set_cons_zero, List.set_cons_succ]
                    refine wpAnyH_take (i := 7) (oi := { dst := some 86, op := Go.Op.pick (Go.Operand.tmp 81) (Go.Operand.const (Go.Value.bool true)) (Go.Operand.tmp 85), type := 4, pos := "law.go:74", after := #[{ on := 2, ground := Go.Ground.data }, { on := 6, ground := Go.Ground.data }], guard := none }) (v := ?_) rfl (by kernel_rfl) (by kernel_rfl) (by kernel_rfl) (fun _ _ _ h => h) (Or.inl ⟨by rfl, ?_⟩) (by assumption) ?_
                    rotate_left
                    · (intro W hSw; (try dsimp only at hSw); go_simp; try (with_reducible rfl))
                    try simp only [Act.put, List.setIfInBounds_toArray, List.set_cons_zero, List.set_cons_succ]
                    refine wpAnyH_take (i := 8) (oi := { dst := some 87, op := Go.Op.move (Go.Operand.tmp 86), type := 4, pos := "law.go:74", after := #[{ on := 7, ground := Go.Ground.data }, { on := 5, ground := Go.Ground.chain }], guard := none }) (v := ?_) rfl (by kernel_rfl) (by kernel_rfl) (by kernel_rfl) (fun _ _ _ h => h) (Or.inl ⟨by rfl, ?_⟩) (by assumption) ?_
                    rotate_left
                    · (intro W hSw; (try dsimp only at hSw); go_simp; try (with_reducible rfl))
                    try simp only [Act.put, List.setIfInBounds_toArray, List.set_cons_zero, List.set_cons_succ]
                    refine wpAnyH_take (i := 9) (oi := { dst := some 88, op := Go.Op.fieldAddr 38 (Go.Operand.tmp 4) 1, type := 0, pos := "law.go:74", after := #[{ on := 8, ground := Go.Ground.guard }], guard := some (8, false) }) (v := ?_) rfl (by kernel_rfl) (by kernel_rfl) (by kernel_rfl) (fun _ _ _ h => h) (Or.inl ⟨by rfl, ?_⟩) (by assumption) ?_
                    rotate_left
                    · (intro W hSw; (try dsimp only at hSw); go_simp; try (with_reducible rfl))
                    try simp only [Act.put, List.setIfInBounds_toArray, List.set_cons_zero, List.set_cons_succ]
                    refine wpAnyH_take (i := 10) (oi := { dst := some 89, op := Go.Op.load 22 (Go.Operand.tmp 88), type := 22, pos := "law.go:74", after := #[{ on := 9, ground := Go.Ground.data }, { on := 8, ground := Go.Ground.guard }], guard := some (8, false) }) (v := ?_) rfl (by kernel_rfl) (by kernel_rfl) (by kernel_rfl) (fun _ _ _ h => h) (Or.inl ⟨by rfl, ?_⟩) (by assumption) ?_
                    rotate_left
                    · (intro W hSw; (try dsimp only at hSw); go_simp; try (with_reducible rfl))
                    try simp only [Act.put, List.setIfInBounds_toArray, List.set_cons_zero, List.set_cons_succ]
                    refine wpAnyH_take (i := 11) (oi := { dst := some 90, op := Go.Op.move (Go.Operand.tmp 2), type := 3, pos := "law.go:74", after := #[{ on := 8, ground := Go.Ground.guard }], guard := some (8, false) }) (v := ?_) rfl (by kernel_rfl) (by kernel_rfl) (by kernel_rfl) (fun _ _ _ h => h) (Or.inl ⟨by rfl, ?_⟩) (by assumption) ?_
                    rotate_left
                    · (intro W hSw; (try dsimp only at hSw); go_simp; try (with_reducible rfl))
                    try simp only [Act.put, List.setIfInBounds_toArray, List.set_cons_zero, List.set_cons_succ]
                    refine wpAnyH_take (i := 12) (oi := { dst := some 91, op := Go.Op.indexAddr 22 (Go.Operand.tmp 89) (Go.Operand.tmp 90), type := 0, pos := "law.go:74", after := #[{ on := 10, ground := Go.Ground.data }, { on := 11, ground := Go.Ground.data }, { on := 8, ground := Go.Ground.guard }], guard := some (8, false) }) (v := ?_) rfl (by kernel_rfl) (by kernel_rfl) (by kernel_rfl) (fun _ _ _ h => h) (Or.inl ⟨by rfl, ?_⟩) (by assumption) ?_
                    rotate_left
                    · (intro W hSw; (try dsimp only at hSw); go_simp; try (with_reducible rfl))
                    try simp only [Act.put, List.setIfInBounds_toArray, List.set_cons_zero, List.set_cons_succ]
                    refine wpAnyH_take (i := 13) (oi := { dst := some 92, op := Go.Op.fieldAddr 89 (Go.Operand.tmp 91) 0, type := 0, pos := "law.go:74", after := #[{ on := 12, ground := Go.Ground.data }, { on := 8, ground := Go.Ground.guard }], guard := some (8, false) }) (v := ?_) rfl (by kernel_rfl) (by kernel_rfl) (by kernel_rfl) (fun _ _ _ h => h) (Or.inl ⟨by rfl, ?_⟩) (by assumption) ?_
                    rotate_left
                    · (intro W hSw; (try dsimp only at hSw); go_simp; try (with_reducible rfl))
                    try simp only [Act.put, List.setIfInBounds_toArray, List.set_cons_zero, List.set_cons_succ]
                    refine wpAnyH_take (i := 14) (oi := { dst := some 93, op := Go.Op.load 3 (Go.Operand.tmp 92), type := 3, pos := "law.go:74", after := #[{ on := 13, ground := Go.Ground.data }, { on := 8, ground := Go.Ground.guard }], guard := some (8, false) }) (v := ?_) rfl (by kernel_rfl) (by kernel_rfl) (by kernel_rfl) (fun _ _ _ h => h) (Or.inl ⟨by rfl, ?_⟩) (by assumption) ?_
                    rotate_left
                    · (intro W hSw; (try dsimp only at hSw); go_simp; try (with_reducible rfl))
                    try simp only [Act.put, List.setIfInBounds_toArray, List.set_cons_zero, List.set_cons_succ]
                    refine wpAnyH_take (i := 15) (oi := { dst := some 94, op := Go.Op.fieldAddr 38 (Go.Operand.tmp 4) 1, type := 0, pos := "law.go:74", after := #[{ on := 8, ground := Go.Ground.guard }], guard := some (8, false) }) (v := ?_) rfl (by kernel_rfl) (by kernel_rfl) (by kernel_rfl) (fun _ _ _ h => h) (Or.inl ⟨by rfl, ?_⟩) (by assumption) ?_
                    rotate_left
                    · (intro W hSw; (try dsimp only at hSw); go_simp; try (with_reducible rfl))
                    try simp only [Act.put, List.setIfInBounds_toArray, List.set_cons_zero, List.set_cons_succ]
                    refine wpAnyH_take (i := 16) (oi := { dst := some 95, op := Go.Op.load 22 (Go.Operand.tmp 94), type := 22, pos := "law.go:74", after := #[{ on := 15, ground := Go.Ground.data }, { on := 8, ground := Go.Ground.guard }], guard := some (8, false) }) (v := ?_) rfl (by kernel_rfl) (by kernel_rfl) (by kernel_rfl) (fun _ _ _ h => h) (Or.inl ⟨by rfl, ?_⟩) (by assumption) ?_
                    rotate_left
                    · (intro W hSw; (try dsimp only at hSw); go_simp; try (with_reducible rfl))
                    try simp only [Act.put, List.setIfInBounds_toArray, List.set_cons_zero, List.set_cons_succ]
                    refine wpAnyH_take (i := 17) (oi := { dst := some 96, op := Go.Op.move (Go.Operand.tmp 2), type := 3, pos := "law.go:74", after := #[{ on := 8, ground := Go.Ground.guard }], guard := some (8, false) }) (v := ?_) rfl (by kernel_rfl) (by kernel_rfl) (by kernel_rfl) (fun _ _ _ h => h) (Or.inl ⟨by rfl, ?_⟩) (by assumption) ?_
                    rotate_left
                    · (intro W hSw; (try dsimp only at hSw); go_simp; try (with_reducible rfl))
                    try simp only [Act.put, List.setIfInBounds_toArray, List.set_cons_zero, List.set_cons_succ]
                    refine wpAnyH_take (i := 18) (oi := { dst := some 97, op := Go.Op.indexAddr 22 (Go.Operand.tmp 95) (Go.Operand.tmp 96), type := 0, pos := "law.go:74", after := #[{ on := 16, ground := Go.Ground.data }, { on := 17, ground := Go.Ground.data }, { on := 8, ground := Go.Ground.guard }], guard := some (8, false) }) (v := ?_) rfl (by kernel_rfl) (by kernel_rfl) (by kernel_rfl) (fun _ _ _ h => h) (Or.inl ⟨by rfl, ?_⟩) (by assumption) ?_
                    rotate_left
                    · (intro W hSw; (try dsimp only at hSw); go_simp; try (with_reducible rfl))
                    try simp only [Act.put, List.setIfInBounds_toArray, List.set_cons_zero, List.set_cons_succ]
                    refine wpAnyH_take (i := 19) (oi := { dst := some 98, op := Go.Op.fieldAddr 89 (Go.Operand.tmp 97) 1, type := 0, pos := "law.go:74", after := #[{ on := 18, ground := Go.Ground.data }, { on := 8, ground := Go.Ground.guard }], guard := some (8, false) }) (v := ?_) rfl (by kernel_rfl) (by kernel_rfl) (by kernel_rfl) (fun _ _ _ h => h) (Or.inl ⟨by rfl, ?_⟩) (by assumption) ?_
                    rotate_left
                    · (intro W hSw; (try dsimp only at hSw); go_simp; try (with_reducible rfl))
                    try simp only [Act.put, List.setIfInBounds_toArray, List.set_cons_zero, List.set_cons_succ]
                    refine wpAnyH_take (i := 20) (oi := { dst := some 99, op := Go.Op.load 3 (Go.Operand.tmp 98), type := 3, pos := "law.go:74", after := #[{ on := 19, ground := Go.Ground.data }, { on := 8, ground := Go.Ground.guard }], guard := some (8, false) }) (v := ?_) rfl (by kernel_rfl) (by kernel_rfl) (by kernel_rfl) (fun _ _ _ h => h) (Or.inl ⟨by rfl, ?_⟩) (by assumption) ?_
                    rotate_left
                    · (intro W hSw; (try dsimp only at hSw); go_simp; try (with_reducible rfl))
                    try simp only [Act.put, List.setIfInBounds_toArray, List.set_cons_zero, List.set_cons_succ]
                    refine wpAnyH_take (i := 21) (oi := { dst := some 100, op := Go.Op.binOp Go.BinOp.eql 3 (Go.Operand.tmp 93) (Go.Operand.tmp 99) 3, type := 4, pos := "law.go:74", after := #[{ on := 14, ground := Go.Ground.data }, { on := 20, ground := Go.Ground.data }, { on := 8, ground := Go.Ground.guard }], guard := some (8, false) }) (v := ?_) rfl (by kernel_rfl) (by kernel_rfl) (by kernel_rfl) (fun _ _ _ h => h) (Or.inl ⟨by rfl, ?_⟩) (by assumption) ?_
                    rotate_left
                    · (intro W hSw; (try dsimp only at hSw); go_simp; try (with_reducible rfl))
                    try simp only [Act.put, List.setIfInBounds_toArray, List.set_cons_zero, List.set_cons_succ]
                    refine wpAnyH_take (i := 22) (oi := { dst := some 101, op := Go.Op.pick (Go.Operand.tmp 87) (Go.Operand.const (Go.Value.bool true)) (Go.Operand.tmp 100), type := 4, pos := "law.go:74", after := #[{ on := 8, ground := Go.Ground.data }, { on := 21, ground := Go.Ground.data }], guard := none }) (v := ?_) rfl (by kernel_rfl) (by kernel_rfl) (by kernel_rfl) (fun _ _ _ h => h) (Or.inl ⟨by rfl, ?_⟩) (by assumption) ?_
                    rotate_left
                    · (intro W hSw; (try dsimp only at hSw); go_simp; try (with_reducible rfl))
                    try simp only [Act.put, List.setIfInBounds_toArray, List.set_cons_zero, List.set_cons_succ]
                    refine wpAnyH_take (i := 23) (oi := { dst := some 6, op := Go.Op.assign (Go.Operand.tmp 101), type := 4, pos := "law.go:74", after := #[{ on := 22, ground := Go.Ground.data }, { on := 8, ground := Go.Ground.chain }, { on := 0, ground := Go.Ground.phase }, { on := 1, ground := Go.Ground.phase }, { on := 2, ground := Go.Ground.phase }, { on := 3, ground := Go.Ground.phase }, { on := 4, ground := Go.Ground.phase }, { on := 5, ground := Go.Ground.phase }, { on := 6, ground := Go.Ground.phase }, { on := 7, ground := Go.Ground.phase }, { on := 8, ground := Go.Ground.phase }, { on := 9, ground := Go.Ground.phase }, { on := 10, ground := Go.Ground.phase }, { on := 11, ground := Go.Ground.phase }, { on := 12, ground := Go.Ground.phase }, { on := 13, ground := Go.Ground.phase }, { on := 14, ground := Go.Ground.phase }, { on := 15, ground := Go.Ground.phase }, { on := 16, ground := Go.Ground.phase }, { on := 17, ground := Go.Ground.phase }, { on := 18, ground := Go.Ground.phase }, { on := 19, ground := Go.Ground.phase }, { on := 20, ground := Go.Ground.phase }, { on := 21, ground := Go.Ground.phase }, { on := 22, ground := Go.Ground.phase }], guard := none }) (v := ?_) rfl (by kernel_rfl) (by kernel_rfl) (by kernel_rfl) (fun _ _ _ h => h) (Or.inl ⟨by rfl, ?_⟩) (by assumption) ?_
                    rotate_left
                    · (intro W hSw; (try dsimp only at hSw); go_simp; try (with_reducible rfl))
                    try simp only [Act.put, List.setIfInBounds_toArray, List.set_cons_zero, List.set_cons_succ]
                    refine wpAnyH_done (by kernel_rfl) (NoPanic.normal ?_) _
                    go_wp2_with fail
                    go_ret
                    exact ⟨rfl, (U0.out.trans U3.out).trans (HU10.out.trans hHeld.1)⟩
end Go.Proofs.Ytgakhpdclhlmpaa
