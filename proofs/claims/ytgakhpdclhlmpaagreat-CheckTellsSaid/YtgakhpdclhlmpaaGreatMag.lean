/- Looking at a history: who is done; which version is the last one; who is next. -/
import Derived.Test.YtgakhpdclhlmpaaGreatMaf
namespace Go.Proofs.YtgakhpdclhlmpaaGreat
set_option linter.unusedVariables false
open Go.RowKit
/-- what asking for one who is done leaves -/
def Doned (w : World) (o : Option HTx) (e : Ending) (w' : World) : Prop :=
  (match o with
   | some t => ∃ A c, e = .returned (.tuple #[.agg #[.int .i64 t.id, .bool t.done, .slice A t.ops.length c], .bool t.done]) ∧ t.ops.length ≤ c ∧ HOps (fun i => w.heap.size ≤ i) w' A t.ops
   | none => e = .returned (.tuple #[.agg #[.int .i64 0, .bool false, .slice none 0 0], .bool false])) ∧ Upd No w w'
set_option maxRecDepth 100000 in
set_option maxHeartbeats 2000000 in
theorem cdone (F : Nat → Prop) (w : World) (txs : List HTx) (ords : List HOrd) (A : Option Addr) (c : Nat) (B : Option Addr) (d : Nat) (i : Int) (H : Hist.lies F w ⟨txs, ords, A, c, B, d⟩) :
    Calls Tryz.prog 32 #[.agg #[.slice A txs.length c, .slice B ords.length d], .int .i64 i] w (Doned w (findT txs i)) := by
  have u0 := ((Upd.refl No w).alloc (.cells #[.slice A txs.length c, .slice B ords.length d] 55)).alloc (.cells #[.int .i64 0, .bool false, .slice none 0 0] 47)
  have b1 := Blk.new (w.alloc (.cells #[.slice A txs.length c, .slice B ords.length d] 55)) 47 [.int .i64 0, .bool false, .slice none 0 0]
  simp only [World.size_alloc] at b1
  have B1 := Lib.hid b1
  have HH := Lib.hid (H.upd u0 (fun _ _ => id))
  clear b1
  cases hf : findT txs i with
  | none =>
    have Hf := Lib.hid hf
    clear hf
    go_enter Tryz.func32, Tryz.ntmps32
    go_wp2_with fail
    refine (pfind_none F _ txs ords A c B d i HH.out Hf.out).mono ?_
    rintro e w1 ⟨rfl, hu1⟩
    have bt := Blk.new w1 47 [.int .i64 0, .bool false, .slice none 0 0]
    have bz := B1.out.upd hu1 id
    have bs := Blk.new (((w1.setCell ⟨w.heap.size + 1, 0, none⟩ (.int .i64 0)).setCell ⟨w.heap.size + 1, 1, none⟩ (.bool false)).setCell ⟨w.heap.size + 1, 2, none⟩ (.slice none 0 0)) 47 [.int .i64 0, .bool false, .slice none 0 0]
    simp only [World.size_setCell] at bs
    have b3 := ((((bz.set_ 0 (.int .i64 0)).set_ 1 (.bool false)).set_ 2 (.slice none 0 0)).alloc (.cells #[.int .i64 0, .bool false, .slice none 0 0] 47)).drew
    simp only [List.set_cons_zero, List.set_cons_succ] at b3
    have k0 := bt.cell 0
    have k1 := bt.cell 1
    have k2 := bt.cell 2
    have s0 := bs.cell 0
    have s1 := bs.cell 1
    have s2 := bs.cell 2
    have z0 := bz.cell 0
    have z1 := bz.cell 1
    have z2 := bz.cell 2
    have f0 := bz.free 0
    have f1 := bz.free 1
    have f2 := bz.free 2
    simp only [List.getElem?_cons_zero, List.getElem?_cons_succ] at k0 k1 k2 s0 s1 s2 z0 z1 z2
    have B3 := Lib.hid b3
    have hz : w.heap.size + 1 < w1.heap.size := bz.lt
    have U3 := Lib.hid ((((((u0.trans hu1).setCell (p := ⟨w.heap.size + 1, 0, none⟩) (.inr (Nat.le_succ _)) (.int .i64 0)).setCell (p := ⟨w.heap.size + 1, 1, none⟩) (.inr (Nat.le_succ _)) (.bool false)).setCell (p := ⟨w.heap.size + 1, 2, none⟩) (.inr (Nat.le_succ _)) (.slice none 0 0)).alloc (.cells #[.int .i64 0, .bool false, .slice none 0 0] 47)).drew)
    have V3 := Lib.hid ((((((Upd.refl (One (w.heap.size + 1)) w1).setOne 0 (.int .i64 0)).setOne 1 (.bool false)).setOne 2 (.slice none 0 0)).alloc (.cells #[.int .i64 0, .bool false, .slice none 0 0] 47)).drew)
    clear bt bz bs b3
    go_wp2
    refine wp_region_noPanic ?_
    refine wp_region_held_drew (S := (fun w' => w'.cell? ⟨w1.heap.size, 0, none⟩ = some (.int .i64 0) ∧ w'.cell? ⟨w1.heap.size, 1, none⟩ = some (.bool false) ∧ w'.cell? ⟨w1.heap.size, 2, none⟩ = some (.slice none 0 0))) (by kernel_rfl) ?_ (fun hHeld => ?_)
    · (first | exact ⟨k0, k1, k2⟩ | exact ⟨s0, s1, s2⟩)
    refine wpT 0 ⟨some 15, .load 47 (.tmp 6), 47, "check.go:20", #[], none⟩ ?_ (.inl ⟨by rfl, ?_⟩) ?_
    rotate_left
    · (intro W hSw; (try dsimp only at hSw); go_simp; try (with_reducible rfl))
    try simp only [Act.put, List.setIfInBounds_toArray, List.set_cons_zero, List.set_cons_succ]
    refine wpT 1 ⟨some 16, .move (.tmp 7), 4, "check.go:20", #[], none⟩ ?_ (.inl ⟨by rfl, ?_⟩) ?_
    rotate_left
    · (intro W hSw; (try dsimp only at hSw); go_simp; try (with_reducible rfl))
    try simp only [Act.put, List.setIfInBounds_toArray, List.set_cons_zero, List.set_cons_succ]
    refine wpT 2 ⟨some 17, .move (.tmp 16), 4, "check.go:20", #[⟨1, .data⟩], none⟩ ?_ (.inl ⟨by rfl, ?_⟩) ?_
    rotate_left
    · (intro W hSw; (try dsimp only at hSw); go_simp; try (with_reducible rfl))
    try simp only [Act.put, List.setIfInBounds_toArray, List.set_cons_zero, List.set_cons_succ]
    refine wpT 3 ⟨some 18, .fieldAddr 47 (.tmp 6) 1, 0, "check.go:20", #[⟨2, .guard⟩, { on := 6, ground := Go.Ground.gcOnly Go.Departure.lateStores }], some (2, true)⟩ undef (.inr ⟨by rfl, rfl⟩) ?_
    try simp only [Act.put, List.setIfInBounds_toArray, List.set_cons_zero, List.set_cons_succ]
    refine wpT 4 ⟨some 19, .load 4 (.tmp 18), 4, "check.go:20", #[⟨3, .data⟩, ⟨2, .guard⟩, { on := 6, ground := Go.Ground.gcOnly Go.Departure.lateStores }], some (2, true)⟩ undef (.inr ⟨by rfl, rfl⟩) ?_
    try simp only [Act.put, List.setIfInBounds_toArray, List.set_cons_zero, List.set_cons_succ]
    refine wpT 5 ⟨some 20, .pick (.tmp 17) (.tmp 19) (.const (.bool false)), 4, "check.go:20", #[⟨2, .data⟩, ⟨4, .data⟩, { on := 6, ground := Go.Ground.gcOnly Go.Departure.lateStores }], none⟩ ?_ (.inl ⟨by rfl, ?_⟩) ?_
    rotate_left
    · (intro W hSw; (try dsimp only at hSw); go_simp; try (with_reducible rfl))
    try simp only [Act.put, List.setIfInBounds_toArray, List.set_cons_zero, List.set_cons_succ]
    refine wpAnyH_ready (rs := [6]) (by kernel_rfl) (by simp) ?_
    refine AllReadyH.cons (o := ⟨none, .store 47 (.tmp 4) (.tmp 15), 0, "check.go:20", #[⟨0, .data⟩, ⟨2, .chain⟩, ⟨0, .phase⟩, { on := 1, ground := Go.Ground.textOnly Go.Departure.lateStores }, { on := 2, ground := Go.Ground.textOnly Go.Departure.lateStores }, { on := 3, ground := Go.Ground.textOnly Go.Departure.lateStores }, { on := 4, ground := Go.Ground.textOnly Go.Departure.lateStores }, { on := 5, ground := Go.Ground.textOnly Go.Departure.lateStores }], none⟩) rfl (fun K hK => ?_) AllReadyH.nil
    go_simp
    refine hK.out _ _ ?_ (fun hHeld => ?_)
    · (first | exact ⟨k0, k1, k2⟩ | exact ⟨s0, s1, s2⟩)
    clear hK K
    try simp only [Act.put, List.setIfInBounds_toArray, List.set_cons_zero, List.set_cons_succ]
    refine wpT 7 ⟨some 5, .assign (.tmp 20), 4, "check.go:20", #[⟨5, .data⟩, ⟨6, .chain⟩, ⟨0, .phase⟩, ⟨1, .phase⟩, ⟨2, .phase⟩, ⟨3, .phase⟩, ⟨4, .phase⟩, ⟨5, .phase⟩, ⟨6, .phase⟩], none⟩ ?_ (.inl ⟨by rfl, ?_⟩) ?_
    rotate_left
    · (intro W hSw; (try dsimp only at hSw); go_simp; try (with_reducible rfl))
    try simp only [Act.put, List.setIfInBounds_toArray, List.set_cons_zero, List.set_cons_succ]
    refine wpAnyH_done (by kernel_rfl) (NoPanic.normal ?_) _
    clear hHeld k0 k1 k2 s0 s1 s2 z0 z1 z2 f0 f1 f2
    go_wp2
    have r0 := B3.out.cell 0
    have r1 := B3.out.cell 1
    have r2 := B3.out.cell 2
    simp only [List.getElem?_cons_zero, List.getElem?_cons_succ] at r0 r1 r2
    refine bodyPost_ret (v := .tuple #[.agg #[.int .i64 0, .bool false, .slice none 0 0], .bool false]) (by simp [results, Tryz.results32, go_sem, r0, r1, r2]) rfl ?_
    unfold Doned
    exact ⟨rfl, U3.out⟩
  | some t =>
    have Hf := Lib.hid hf
    clear hf
    go_enter Tryz.func32, Tryz.ntmps32
    go_wp2_with fail
    refine (pfind_some F _ txs ords A c B d i HH.out Hf.out).mono ?_
    rintro e w1 ⟨A1, c1, rfl, hc1, hh1, hu1⟩
    have Hh1 := Lib.hid hh1
    clear hh1
    obtain ⟨td, htd⟩ : ∃ td, t.done = td := ⟨_, rfl⟩
    have Htd := Lib.hid htd
    rw [htd]
    clear htd
    cases td
    · have bt := Blk.new w1 47 [.int .i64 t.id, .bool false, .slice A1 t.ops.length c1]
      have bz := B1.out.upd hu1 id
      have bs := Blk.new (((w1.setCell ⟨w.heap.size + 1, 0, none⟩ (.int .i64 t.id)).setCell ⟨w.heap.size + 1, 1, none⟩ (.bool false)).setCell ⟨w.heap.size + 1, 2, none⟩ (.slice A1 t.ops.length c1)) 47 [.int .i64 t.id, .bool false, .slice A1 t.ops.length c1]
      simp only [World.size_setCell] at bs
      have b3 := ((((bz.set_ 0 (.int .i64 t.id)).set_ 1 (.bool false)).set_ 2 (.slice A1 t.ops.length c1)).alloc (.cells #[.int .i64 t.id, .bool false, .slice A1 t.ops.length c1] 47)).drew
      simp only [List.set_cons_zero, List.set_cons_succ] at b3
      have k0 := bt.cell 0
      have k1 := bt.cell 1
      have k2 := bt.cell 2
      have s0 := bs.cell 0
      have s1 := bs.cell 1
      have s2 := bs.cell 2
      have z0 := bz.cell 0
      have z1 := bz.cell 1
      have z2 := bz.cell 2
      have f0 := bz.free 0
      have f1 := bz.free 1
      have f2 := bz.free 2
      simp only [List.getElem?_cons_zero, List.getElem?_cons_succ] at k0 k1 k2 s0 s1 s2 z0 z1 z2
      have B3 := Lib.hid b3
      have hz : w.heap.size + 1 < w1.heap.size := bz.lt
      have U3 := Lib.hid ((((((u0.trans hu1).setCell (p := ⟨w.heap.size + 1, 0, none⟩) (.inr (Nat.le_succ _)) (.int .i64 t.id)).setCell (p := ⟨w.heap.size + 1, 1, none⟩) (.inr (Nat.le_succ _)) (.bool false)).setCell (p := ⟨w.heap.size + 1, 2, none⟩) (.inr (Nat.le_succ _)) (.slice A1 t.ops.length c1)).alloc (.cells #[.int .i64 t.id, .bool false, .slice A1 t.ops.length c1] 47)).drew)
      have V3 := Lib.hid ((((((Upd.refl (One (w.heap.size + 1)) w1).setOne 0 (.int .i64 t.id)).setOne 1 (.bool false)).setOne 2 (.slice A1 t.ops.length c1)).alloc (.cells #[.int .i64 t.id, .bool false, .slice A1 t.ops.length c1] 47)).drew)
      clear bt bz bs b3
      go_wp2
      refine wp_region_noPanic ?_
      refine wp_region_held_drew (S := (fun w' => w'.cell? ⟨w1.heap.size, 0, none⟩ = some (.int .i64 t.id) ∧ w'.cell? ⟨w1.heap.size, 1, none⟩ = some (.bool false) ∧ w'.cell? ⟨w1.heap.size, 2, none⟩ = some (.slice A1 t.ops.length c1))) (by kernel_rfl) ?_ (fun hHeld => ?_)
      · (first | exact ⟨k0, k1, k2⟩ | exact ⟨s0, s1, s2⟩)
      refine wpT 0 ⟨some 15, .load 47 (.tmp 6), 47, "check.go:20", #[], none⟩ ?_ (.inl ⟨by rfl, ?_⟩) ?_
      rotate_left
      · (intro W hSw; (try dsimp only at hSw); go_simp; try (with_reducible rfl))
      try simp only [Act.put, List.setIfInBounds_toArray, List.set_cons_zero, List.set_cons_succ]
      refine wpT 1 ⟨some 16, .move (.tmp 7), 4, "check.go:20", #[], none⟩ ?_ (.inl ⟨by rfl, ?_⟩) ?_
      rotate_left
      · (intro W hSw; (try dsimp only at hSw); go_simp; try (with_reducible rfl))
      try simp only [Act.put, List.setIfInBounds_toArray, List.set_cons_zero, List.set_cons_succ]
      refine wpT 2 ⟨some 17, .move (.tmp 16), 4, "check.go:20", #[⟨1, .data⟩], none⟩ ?_ (.inl ⟨by rfl, ?_⟩) ?_
      rotate_left
      · (intro W hSw; (try dsimp only at hSw); go_simp; try (with_reducible rfl))
      try simp only [Act.put, List.setIfInBounds_toArray, List.set_cons_zero, List.set_cons_succ]
      refine wpT 3 ⟨some 18, .fieldAddr 47 (.tmp 6) 1, 0, "check.go:20", #[⟨2, .guard⟩, { on := 6, ground := Go.Ground.gcOnly Go.Departure.lateStores }], some (2, true)⟩ ?_ (.inl ⟨by rfl, ?_⟩) ?_
      rotate_left
      · (intro W hSw; (try dsimp only at hSw); go_simp; try (with_reducible rfl))
      try simp only [Act.put, List.setIfInBounds_toArray, List.set_cons_zero, List.set_cons_succ]
      refine wpT 4 ⟨some 19, .load 4 (.tmp 18), 4, "check.go:20", #[⟨3, .data⟩, ⟨2, .guard⟩, { on := 6, ground := Go.Ground.gcOnly Go.Departure.lateStores }], some (2, true)⟩ ?_ (.inl ⟨by rfl, ?_⟩) ?_
      rotate_left
      · (intro W hSw; (try dsimp only at hSw); go_simp; try (with_reducible rfl))
      try simp only [Act.put, List.setIfInBounds_toArray, List.set_cons_zero, List.set_cons_succ]
      refine wpT 5 ⟨some 20, .pick (.tmp 17) (.tmp 19) (.const (.bool false)), 4, "check.go:20", #[⟨2, .data⟩, ⟨4, .data⟩, { on := 6, ground := Go.Ground.gcOnly Go.Departure.lateStores }], none⟩ ?_ (.inl ⟨by rfl, ?_⟩) ?_
      rotate_left
      · (intro W hSw; (try dsimp only at hSw); go_simp; try (with_reducible rfl))
      try simp only [Act.put, List.setIfInBounds_toArray, List.set_cons_zero, List.set_cons_succ]
      refine wpAnyH_ready (rs := [6]) (by kernel_rfl) (by simp) ?_
      refine AllReadyH.cons (o := ⟨none, .store 47 (.tmp 4) (.tmp 15), 0, "check.go:20", #[⟨0, .data⟩, ⟨2, .chain⟩, ⟨0, .phase⟩, { on := 1, ground := Go.Ground.textOnly Go.Departure.lateStores }, { on := 2, ground := Go.Ground.textOnly Go.Departure.lateStores }, { on := 3, ground := Go.Ground.textOnly Go.Departure.lateStores }, { on := 4, ground := Go.Ground.textOnly Go.Departure.lateStores }, { on := 5, ground := Go.Ground.textOnly Go.Departure.lateStores }], none⟩) rfl (fun K hK => ?_) AllReadyH.nil
      go_simp
      refine hK.out _ _ ?_ (fun hHeld => ?_)
      · (first | exact ⟨k0, k1, k2⟩ | exact ⟨s0, s1, s2⟩)
      clear hK K
      try simp only [Act.put, List.setIfInBounds_toArray, List.set_cons_zero, List.set_cons_succ]
      refine wpT 7 ⟨some 5, .assign (.tmp 20), 4, "check.go:20", #[⟨5, .data⟩, ⟨6, .chain⟩, ⟨0, .phase⟩, ⟨1, .phase⟩, ⟨2, .phase⟩, ⟨3, .phase⟩, ⟨4, .phase⟩, ⟨5, .phase⟩, ⟨6, .phase⟩], none⟩ ?_ (.inl ⟨by rfl, ?_⟩) ?_
      rotate_left
      · (intro W hSw; (try dsimp only at hSw); go_simp; try (with_reducible rfl))
      try simp only [Act.put, List.setIfInBounds_toArray, List.set_cons_zero, List.set_cons_succ]
      refine wpAnyH_done (by kernel_rfl) (NoPanic.normal ?_) _
      clear hHeld k0 k1 k2 s0 s1 s2 z0 z1 z2 f0 f1 f2
      go_wp2
      have r0 := B3.out.cell 0
      have r1 := B3.out.cell 1
      have r2 := B3.out.cell 2
      simp only [List.getElem?_cons_zero, List.getElem?_cons_succ] at r0 r1 r2
      refine bodyPost_ret (v := .tuple #[.agg #[.int .i64 t.id, .bool false, .slice A1 t.ops.length c1], .bool false]) (by simp [results, Tryz.results32, go_sem, r0, r1, r2]) rfl ?_
      unfold Doned
      have hh3 := Hh1.out
      simp only [World.size_alloc] at hh3
      exact ⟨⟨A1, c1, by rw [Htd.out], hc1, (Recs.upd hh3 V3.out (fun i hi e => by cases e; omega)).weak (fun i _ e => by omega)⟩, U3.out⟩
    · have bt := Blk.new w1 47 [.int .i64 t.id, .bool true, .slice A1 t.ops.length c1]
      have bz := B1.out.upd hu1 id
      have bs := Blk.new (((w1.setCell ⟨w.heap.size + 1, 0, none⟩ (.int .i64 t.id)).setCell ⟨w.heap.size + 1, 1, none⟩ (.bool true)).setCell ⟨w.heap.size + 1, 2, none⟩ (.slice A1 t.ops.length c1)) 47 [.int .i64 t.id, .bool true, .slice A1 t.ops.length c1]
      simp only [World.size_setCell] at bs
      have b3 := ((((bz.set_ 0 (.int .i64 t.id)).set_ 1 (.bool true)).set_ 2 (.slice A1 t.ops.length c1)).alloc (.cells #[.int .i64 t.id, .bool true, .slice A1 t.ops.length c1] 47)).drew
      simp only [List.set_cons_zero, List.set_cons_succ] at b3
      have k0 := bt.cell 0
      have k1 := bt.cell 1
      have k2 := bt.cell 2
      have s0 := bs.cell 0
      have s1 := bs.cell 1
      have s2 := bs.cell 2
      have z0 := bz.cell 0
      have z1 := bz.cell 1
      have z2 := bz.cell 2
      have f0 := bz.free 0
      have f1 := bz.free 1
      have f2 := bz.free 2
      simp only [List.getElem?_cons_zero, List.getElem?_cons_succ] at k0 k1 k2 s0 s1 s2 z0 z1 z2
      have B3 := Lib.hid b3
      have hz : w.heap.size + 1 < w1.heap.size := bz.lt
      have U3 := Lib.hid ((((((u0.trans hu1).setCell (p := ⟨w.heap.size + 1, 0, none⟩) (.inr (Nat.le_succ _)) (.int .i64 t.id)).setCell (p := ⟨w.heap.size + 1, 1, none⟩) (.inr (Nat.le_succ _)) (.bool true)).setCell (p := ⟨w.heap.size + 1, 2, none⟩) (.inr (Nat.le_succ _)) (.slice A1 t.ops.length c1)).alloc (.cells #[.int .i64 t.id, .bool true, .slice A1 t.ops.length c1] 47)).drew)
      have V3 := Lib.hid ((((((Upd.refl (One (w.heap.size + 1)) w1).setOne 0 (.int .i64 t.id)).setOne 1 (.bool true)).setOne 2 (.slice A1 t.ops.length c1)).alloc (.cells #[.int .i64 t.id, .bool true, .slice A1 t.ops.length c1] 47)).drew)
      clear bt bz bs b3
      go_wp2
      refine wp_region_noPanic ?_
      refine wp_region_held_drew (S := (fun w' => w'.cell? ⟨w1.heap.size, 0, none⟩ = some (.int .i64 t.id) ∧ w'.cell? ⟨w1.heap.size, 1, none⟩ = some (.bool true) ∧ w'.cell? ⟨w1.heap.size, 2, none⟩ = some (.slice A1 t.ops.length c1))) (by kernel_rfl) ?_ (fun hHeld => ?_)
      · (first | exact ⟨k0, k1, k2⟩ | exact ⟨s0, s1, s2⟩)
      refine wpT 0 ⟨some 15, .load 47 (.tmp 6), 47, "check.go:20", #[], none⟩ ?_ (.inl ⟨by rfl, ?_⟩) ?_
      rotate_left
      · (intro W hSw; (try dsimp only at hSw); go_simp; try (with_reducible rfl))
      try simp only [Act.put, List.setIfInBounds_toArray, List.set_cons_zero, List.set_cons_succ]
      refine wpT 1 ⟨some 16, .move (.tmp 7), 4, "check.go:20", #[], none⟩ ?_ (.inl ⟨by rfl, ?_⟩) ?_
      rotate_left
      · (intro W hSw; (try dsimp only at hSw); go_simp; try (with_reducible rfl))
      try simp only [Act.put, List.setIfInBounds_toArray, List.set_cons_zero, List.set_cons_succ]
      refine wpT 2 ⟨some 17, .move (.tmp 16), 4, "check.go:20", #[⟨1, .data⟩], none⟩ ?_ (.inl ⟨by rfl, ?_⟩) ?_
      rotate_left
      · (intro W hSw; (try dsimp only at hSw); go_simp; try (with_reducible rfl))
      try simp only [Act.put, List.setIfInBounds_toArray, List.set_cons_zero, List.set_cons_succ]
      refine wpT 3 ⟨some 18, .fieldAddr 47 (.tmp 6) 1, 0, "check.go:20", #[⟨2, .guard⟩, { on := 6, ground := Go.Ground.gcOnly Go.Departure.lateStores }], some (2, true)⟩ ?_ (.inl ⟨by rfl, ?_⟩) ?_
      rotate_left
      · (intro W hSw; (try dsimp only at hSw); go_simp; try (with_reducible rfl))
      try simp only [Act.put, List.setIfInBounds_toArray, List.set_cons_zero, List.set_cons_succ]
      refine wpT 4 ⟨some 19, .load 4 (.tmp 18), 4, "check.go:20", #[⟨3, .data⟩, ⟨2, .guard⟩, { on := 6, ground := Go.Ground.gcOnly Go.Departure.lateStores }], some (2, true)⟩ ?_ (.inl ⟨by rfl, ?_⟩) ?_
      rotate_left
      · (intro W hSw; (try dsimp only at hSw); go_simp; try (with_reducible rfl))
      try simp only [Act.put, List.setIfInBounds_toArray, List.set_cons_zero, List.set_cons_succ]
      refine wpT 5 ⟨some 20, .pick (.tmp 17) (.tmp 19) (.const (.bool false)), 4, "check.go:20", #[⟨2, .data⟩, ⟨4, .data⟩, { on := 6, ground := Go.Ground.gcOnly Go.Departure.lateStores }], none⟩ ?_ (.inl ⟨by rfl, ?_⟩) ?_
      rotate_left
      · (intro W hSw; (try dsimp only at hSw); go_simp; try (with_reducible rfl))
      try simp only [Act.put, List.setIfInBounds_toArray, List.set_cons_zero, List.set_cons_succ]
      refine wpAnyH_ready (rs := [6]) (by kernel_rfl) (by simp) ?_
      refine AllReadyH.cons (o := ⟨none, .store 47 (.tmp 4) (.tmp 15), 0, "check.go:20", #[⟨0, .data⟩, ⟨2, .chain⟩, ⟨0, .phase⟩, { on := 1, ground := Go.Ground.textOnly Go.Departure.lateStores }, { on := 2, ground := Go.Ground.textOnly Go.Departure.lateStores }, { on := 3, ground := Go.Ground.textOnly Go.Departure.lateStores }, { on := 4, ground := Go.Ground.textOnly Go.Departure.lateStores }, { on := 5, ground := Go.Ground.textOnly Go.Departure.lateStores }], none⟩) rfl (fun K hK => ?_) AllReadyH.nil
      go_simp
      refine hK.out _ _ ?_ (fun hHeld => ?_)
      · (first | exact ⟨k0, k1, k2⟩ | exact ⟨s0, s1, s2⟩)
      clear hK K
      try simp only [Act.put, List.setIfInBounds_toArray, List.set_cons_zero, List.set_cons_succ]
      refine wpT 7 ⟨some 5, .assign (.tmp 20), 4, "check.go:20", #[⟨5, .data⟩, ⟨6, .chain⟩, ⟨0, .phase⟩, ⟨1, .phase⟩, ⟨2, .phase⟩, ⟨3, .phase⟩, ⟨4, .phase⟩, ⟨5, .phase⟩, ⟨6, .phase⟩], none⟩ ?_ (.inl ⟨by rfl, ?_⟩) ?_
      rotate_left
      · (intro W hSw; (try dsimp only at hSw); go_simp; try (with_reducible rfl))
      try simp only [Act.put, List.setIfInBounds_toArray, List.set_cons_zero, List.set_cons_succ]
      refine wpAnyH_done (by kernel_rfl) (NoPanic.normal ?_) _
      clear hHeld k0 k1 k2 s0 s1 s2 z0 z1 z2 f0 f1 f2
      go_wp2
      have r0 := B3.out.cell 0
      have r1 := B3.out.cell 1
      have r2 := B3.out.cell 2
      simp only [List.getElem?_cons_zero, List.getElem?_cons_succ] at r0 r1 r2
      refine bodyPost_ret (v := .tuple #[.agg #[.int .i64 t.id, .bool true, .slice A1 t.ops.length c1], .bool true]) (by simp [results, Tryz.results32, go_sem, r0, r1, r2]) rfl ?_
      unfold Doned
      have hh3 := Hh1.out
      simp only [World.size_alloc] at hh3
      exact ⟨⟨A1, c1, by rw [Htd.out], hc1, (Recs.upd hh3 V3.out (fun i hi e => by cases e; omega)).weak (fun i _ e => by omega)⟩, U3.out⟩
/-- the transaction of an id, if it is done, is it there -/
theorem doneT_none {txs : List HTx} {i : Int} (h : findT txs i = none) : doneT txs i = none := by unfold doneT; rw [h]
theorem doneT_not {txs : List HTx} {i : Int} {t : HTx} (h : findT txs i = some t) (hd : t.done = false) : doneT txs i = none := by unfold doneT; rw [h]; simp [hd]
theorem doneT_yes {txs : List HTx} {i : Int} {t : HTx} (h : findT txs i = some t) (hd : t.done = true) : doneT txs i = some t := by unfold doneT; rw [h]; simp [hd]
/-- what asking leaves, by its sight: a transaction, and whether it is there and done -/
def Asked (w : World) (o : Option HTx) (e : Ending) (w' : World) : Prop :=
  ∃ (x : Int) (b dn : Bool) (A : Option Addr) (l : List HOp) (c : Nat), e = .returned (.tuple #[.agg #[.int .i64 x, .bool dn, .slice A l.length c], .bool b]) ∧ l.length ≤ c ∧ fewOps l.length ∧ HOps (fun i => w.heap.size ≤ i) w' A l ∧
    (match o with | some t => b = true ∧ x = t.id ∧ l = t.ops | none => b = false) ∧ Upd No w w'
theorem cask (F : Nat → Prop) (w : World) (txs : List HTx) (ords : List HOrd) (A : Option Addr) (c : Nat) (B : Option Addr) (d : Nat) (i : Int) (H : Hist.lies F w ⟨txs, ords, A, c, B, d⟩) :
    Calls Tryz.prog 32 #[.agg #[.slice A txs.length c, .slice B ords.length d], .int .i64 i] w (Asked w (doneT txs i)) := by
  refine (cdone F w txs ords A c B d i H).mono ?_
  intro e w' h
  unfold Doned at h
  unfold Asked
  cases hf : findT txs i with
  | none =>
    rw [hf] at h
    rw [doneT_none hf]
    exact ⟨0, false, false, none, [], 0, h.1, Nat.le_refl _, by unfold fewOps; simp, fun h => absurd rfl h, rfl, h.2⟩
  | some t =>
    rw [hf] at h
    obtain ⟨⟨A', c', h1, h2, h3⟩, h4⟩ := h
    have hfew := (H.tx t (findT_mem hf)).2.2.1
    cases hd : t.done
    · rw [doneT_not hf hd]
      rw [hd] at h1
      exact ⟨_, _, _, A', t.ops, c', h1, h2, hfew, h3, rfl, h4⟩
    · rw [doneT_yes hf hd]
      rw [hd] at h1
      exact ⟨_, _, _, A', t.ops, c', h1, h2, hfew, h3, ⟨rfl, rfl, rfl⟩, h4⟩
end Go.Proofs.YtgakhpdclhlmpaaGreat

/- Looking at a history: the last version; the next one; reads that count. -/
namespace Go.Proofs.YtgakhpdclhlmpaaGreat
set_option linter.unusedVariables false
open Go.RowKit
theorem orderOf_le {F : Nat → Prop} {w : World} {h : Hist} (H : h.lies F w) (key : Int) : (orderOf h.ords key).length ≤ 17592186044415 := by
  unfold orderOf
  cases hp : h.ords[posO h.ords key]? with
  | none => simp
  | some o => exact (H.ord o (List.mem_of_getElem? hp)).2.2.1
set_option maxRecDepth 100000 in
set_option maxHeartbeats 2000000 in
theorem cnext (F : Nat → Prop) (w : World) (txs : List HTx) (ords : List HOrd) (A : Option Addr) (c : Nat) (B : Option Addr) (d : Nat) (key x y : Int) (H : Hist.lies F w ⟨txs, ords, A, c, B, d⟩) :
    Calls Tryz.prog 33 #[.agg #[.slice A txs.length c, .slice B ords.length d], .int .i64 key, .int .i64 x, .int .i64 y] w fun e w' => e = .returned (.bool (nextB ords key x y)) ∧ Upd No w w' := by
  have u0 := (Upd.refl No w).alloc (.cells #[.slice A txs.length c, .slice B ords.length d] 55)
  have H0 := H.upd u0 (fun _ _ => id)
  have hol := orderOf_le H key
  have ho := hord F _ ⟨txs, ords, A, c, B, d⟩ key H0
  obtain ⟨l, hl⟩ : ∃ l, orderOf ords key = l := ⟨_, rfl⟩
  rw [show orderOf (Hist.ords ⟨txs, ords, A, c, B, d⟩) key = l from hl] at ho hol
  have HO := Lib.hid ho
  have HV := Lib.hid (show nextB ords key x y = (nextI l x == some y) by unfold nextB; rw [hl])
  have Hol := Lib.hid hol
  clear hl ho hol H0
  go_enter Tryz.func33, Tryz.ntmps33
  go_wp2_with fail
  refine (HO.out).mono ?_
  rintro e w1 ⟨A1, c1, rfl, ho1, hu1⟩
  have hI := Ints.of_owned ho1
  have hn := onext _ w1 A1 c1 l x hI Hol.out
  unfold Nexted at hn
  have HU := Lib.hid (u0.trans hu1)
  clear u0 hu1 ho1 hI
  cases hx : nextI l x with
  | none =>
    rw [hx] at hn
    have HN := Lib.hid hn
    have HV2 := Lib.hid (show nextB ords key x y = false by rw [HV.out, hx]; rfl)
    clear hx hn
    go_wp2_with fail
    refine (HN.out).mono ?_
    rintro e w2 ⟨rfl, hu2⟩
    go_wp2
    go_ret
    exact ⟨by rw [HV2.out]; rfl, HU.out.trans hu2⟩
  | some z =>
    rw [hx] at hn
    have HN := Lib.hid hn
    have HV2 := Lib.hid (show nextB ords key x y = (z == y) by rw [HV.out, hx]; rfl)
    clear hx hn
    go_wp2_with fail
    refine (HN.out).mono ?_
    rintro e w2 ⟨rfl, hu2⟩
    go_wp2
    go_ret
    exact ⟨by rw [HV2.out]; rfl, HU.out.trans hu2⟩
theorem lastB_none {txs : List HTx} {v : Ver} (h : v.tx ≠ 0) (hd : doneT txs v.tx = none) : lastB txs v = false := by unfold lastB; rw [if_neg h, hd]
theorem lastB_some {txs : List HTx} {v : Ver} {t : HTx} (h : v.tx ≠ 0) (hd : doneT txs v.tx = some t) : lastB txs v = (v.nth == (writesN t.ops v.key : Int)) := by unfold lastB; rw [if_neg h, hd]
set_option maxRecDepth 100000 in
set_option maxHeartbeats 2000000 in
theorem clast (F : Nat → Prop) (w : World) (txs : List HTx) (ords : List HOrd) (A : Option Addr) (c : Nat) (B : Option Addr) (d : Nat) (v : Ver) (H : Hist.lies F w ⟨txs, ords, A, c, B, d⟩) :
    Calls Tryz.prog 36 #[.agg #[.slice A txs.length c, .slice B ords.length d], .agg v.cells.toArray] w fun e w' => e = .returned (.bool (lastB txs v)) ∧ Upd No w w' := by
  obtain ⟨tx, key, nth⟩ := v
  unfold Ver.cells
  have u0 := ((Upd.refl No w).alloc (.cells #[.slice A txs.length c, .slice B ords.length d] 55)).alloc (.cells #[.int .i64 tx, .int .i64 key, .int .i64 nth] 29)
  by_cases h0 : tx = 0
  · have hv := Lib.hid (show lastB txs ⟨tx, key, nth⟩ = true by unfold lastB; rw [if_pos h0])
    subst h0
    go_enter Tryz.func36, Tryz.ntmps36
    go_wp2
    go_ret
    exact ⟨by rw [hv.out]; rfl, u0⟩
  · have h0b : (tx == 0) = false := by simpa using h0
    have b1 := Blk.new (w.alloc (.cells #[.slice A txs.length c, .slice B ords.length d] 55)) 29 [.int .i64 tx, .int .i64 key, .int .i64 nth]
    simp only [World.size_alloc] at b1
    have B1 := Lib.hid b1
    have ha := Lib.hid (cask F _ txs ords A c B d tx (H.upd u0 (fun _ _ => id)))
    have H0' := Lib.hid h0
    clear h0 b1
    go_enter Tryz.func36, Tryz.ntmps36
    go_wp2_with fail
    refine (ha.out).mono ?_
    rintro e w1 ⟨x, b, dn, A1, l, c1, rfl, hc1, hfew, hh1, hm, hu1⟩
    have bv := Lib.hid ((B1.out.upd hu1 id).alloc (.cells #[.int .i64 x, .bool dn, .slice A1 l.length c1] 47))
    have bt := Lib.hid (Blk.new w1 47 [.int .i64 x, .bool dn, .slice A1 l.length c1])
    have hh2 := Lib.hid (HOps.upd hh1 ((Upd.refl No w1).alloc (.cells #[.int .i64 x, .bool dn, .slice A1 l.length c1] 47)).drew (fun _ _ => id))
    have UU := Lib.hid ((u0.trans hu1).alloc (.cells #[.int .i64 x, .bool dn, .slice A1 l.length c1] 47))
    have Hfew := Lib.hid hfew
    have g0 := bv.out.cell 0
    have g1 := bv.out.cell 1
    have g2 := bv.out.cell 2
    have k0 := bt.out.cell 0
    have k1 := bt.out.cell 1
    have k2 := bt.out.cell 2
    simp only [List.getElem?_cons_zero, List.getElem?_cons_succ] at g0 g1 g2 k0 k1 k2
    clear hh1 hfew u0 hu1
    cases hd : doneT txs tx with
    | none =>
      have hv := Lib.hid (show lastB txs ⟨tx, key, nth⟩ = false from lastB_none (v := ⟨tx, key, nth⟩) H0'.out hd)
      rw [hd] at hm
      subst hm
      clear hd
      go_wp2
      go_quiet (fail)
      go_wp2
      go_ret
      exact ⟨by rw [hv.out]; rfl, UU.out.drewN _⟩
    | some t =>
      have hv := Lib.hid (show lastB txs ⟨tx, key, nth⟩ = (nth == (writesN t.ops key : Int)) from lastB_some (v := ⟨tx, key, nth⟩) H0'.out hd)
      rw [hd] at hm
      obtain ⟨rfl, rfl, rfl⟩ := hm
      clear hd
      go_wp2
      refine wp_region_noPanic ?_
      refine wp_region_held_drew (S := (fun w' => Upd No w w' ∧ w'.cell? ⟨w.heap.size + 1, 0, none⟩ = some (.int .i64 tx) ∧ w'.cell? ⟨w.heap.size + 1, 1, none⟩ = some (.int .i64 key) ∧ w'.cell? ⟨w.heap.size + 1, 2, none⟩ = some (.int .i64 nth) ∧ w'.cell? ⟨w1.heap.size, 0, none⟩ = some (.int .i64 t.id) ∧ w'.cell? ⟨w1.heap.size, 1, none⟩ = some (.bool dn) ∧ w'.cell? ⟨w1.heap.size, 2, none⟩ = some (.slice A1 t.ops.length c1))) (by kernel_rfl) ?_ (fun hHeld => ?_)
      · (first | exact ⟨UU.out.drew, g0, g1, g2, k0, k1, k2⟩ | exact ⟨hHeld.1.trans hu3, hu3.keepNo hHeld.2.1, hu3.keepNo hHeld.2.2.1, hu3.keepNo hHeld.2.2.2.1, hu3.keepNo hHeld.2.2.2.2.1, hu3.keepNo hHeld.2.2.2.2.2.1, hu3.keepNo hHeld.2.2.2.2.2.2⟩)
      refine wpT 0 ⟨some 17, .move (.tmp 6), 4, "check.go:29", #[], none⟩ ?_ (.inl ⟨by rfl, ?_⟩) ?_
      rotate_left
      · (intro W hSw; (try dsimp only at hSw); go_simp; try (with_reducible rfl))
      try simp only [Act.put, List.setIfInBounds_toArray, List.set_cons_zero, List.set_cons_succ]
      refine wpT 1 ⟨some 18, .move (.tmp 17), 4, "check.go:29", #[⟨0, .data⟩], none⟩ ?_ (.inl ⟨by rfl, ?_⟩) ?_
      rotate_left
      · (intro W hSw; (try dsimp only at hSw); go_simp; try (with_reducible rfl))
      try simp only [Act.put, List.setIfInBounds_toArray, List.set_cons_zero, List.set_cons_succ]
      refine wpT 2 ⟨some 19, .fieldAddr 29 (.tmp 3) 2, 0, "check.go:29", #[⟨1, .guard⟩], some (1, true)⟩ ?_ (.inl ⟨by rfl, ?_⟩) ?_
      rotate_left
      · (intro W hSw; (try dsimp only at hSw); go_simp; try (with_reducible rfl))
      try simp only [Act.put, List.setIfInBounds_toArray, List.set_cons_zero, List.set_cons_succ]
      refine wpT 3 ⟨some 20, .load 3 (.tmp 19), 3, "check.go:29", #[⟨2, .data⟩, ⟨1, .guard⟩], some (1, true)⟩ ?_ (.inl ⟨by rfl, ?_⟩) ?_
      rotate_left
      · (intro W hSw; (try dsimp only at hSw); go_simp; try (with_reducible rfl))
      try simp only [Act.put, List.setIfInBounds_toArray, List.set_cons_zero, List.set_cons_succ]
      refine wpT 4 ⟨some 21, .load 47 (.tmp 5), 47, "check.go:29", #[⟨1, .guard⟩], some (1, true)⟩ ?_ (.inl ⟨by rfl, ?_⟩) ?_
      rotate_left
      · (intro W hSw; (try dsimp only at hSw); go_simp; try (with_reducible rfl))
      try simp only [Act.put, List.setIfInBounds_toArray, List.set_cons_zero, List.set_cons_succ]
      refine wpT 5 ⟨some 22, .fieldAddr 29 (.tmp 3) 1, 0, "check.go:29", #[⟨1, .guard⟩], some (1, true)⟩ ?_ (.inl ⟨by rfl, ?_⟩) ?_
      rotate_left
      · (intro W hSw; (try dsimp only at hSw); go_simp; try (with_reducible rfl))
      try simp only [Act.put, List.setIfInBounds_toArray, List.set_cons_zero, List.set_cons_succ]
      refine wpT 6 ⟨some 23, .load 3 (.tmp 22), 3, "check.go:29", #[⟨5, .data⟩, ⟨1, .guard⟩], some (1, true)⟩ ?_ (.inl ⟨by rfl, ?_⟩) ?_
      rotate_left
      · (intro W hSw; (try dsimp only at hSw); go_simp; try (with_reducible rfl))
      try simp only [Act.put, List.setIfInBounds_toArray, List.set_cons_zero, List.set_cons_succ]
      refine wpAnyH_ready (rs := [7]) (by kernel_rfl) (by simp) ?_
      refine AllReadyH.cons (o := ⟨some 24, .call { callee := .value (.func 50), args := #[.tmp 21, .tmp 23], argTypes := #[47, 3] }, 3, "check.go:29", #[⟨4, .data⟩, ⟨6, .data⟩, ⟨1, .chain⟩, ⟨1, .guard⟩], some (1, true)⟩) rfl (fun K hK => ?_) AllReadyH.nil
      go_simp
      (first
    | (go_at_call 50; refine (pwrites _ _ t.id dn A1 c1 t.ops key hh2.out Hfew.out).mono ?_; rintro e w3 ⟨rfl, hu3⟩))
      try (go_wp2_with fail)
      refine hK.out _ _ ?_ (fun hHeld => ?_)
      · (first | exact ⟨UU.out.drew, g0, g1, g2, k0, k1, k2⟩ | exact ⟨hHeld.1.trans hu3, hu3.keepNo hHeld.2.1, hu3.keepNo hHeld.2.2.1, hu3.keepNo hHeld.2.2.2.1, hu3.keepNo hHeld.2.2.2.2.1, hu3.keepNo hHeld.2.2.2.2.2.1, hu3.keepNo hHeld.2.2.2.2.2.2⟩)
      clear hK K
      try simp only [Act.put, List.setIfInBounds_toArray, List.set_cons_zero, List.set_cons_succ]
      refine wpT 8 ⟨some 25, .binOp .eql 3 (.tmp 20) (.tmp 24) 3, 4, "check.go:29", #[⟨3, .data⟩, ⟨7, .data⟩, ⟨1, .guard⟩], some (1, true)⟩ ?_ (.inl ⟨by rfl, ?_⟩) ?_
      rotate_left
      · (intro W hSw; (try dsimp only at hSw); go_simp; try (with_reducible rfl))
      try simp only [Act.put, List.setIfInBounds_toArray, List.set_cons_zero, List.set_cons_succ]
      refine wpT 9 ⟨some 26, .pick (.tmp 18) (.tmp 25) (.const (.bool false)), 4, "check.go:29", #[⟨1, .data⟩, ⟨8, .data⟩], none⟩ ?_ (.inl ⟨by rfl, ?_⟩) ?_
      rotate_left
      · (intro W hSw; (try dsimp only at hSw); go_simp; try (with_reducible rfl))
      try simp only [Act.put, List.setIfInBounds_toArray, List.set_cons_zero, List.set_cons_succ]
      refine wpT 10 ⟨some 4, .assign (.tmp 26), 4, "check.go:29", #[⟨9, .data⟩, ⟨7, .chain⟩, ⟨0, .phase⟩, ⟨1, .phase⟩, ⟨2, .phase⟩, ⟨3, .phase⟩, ⟨4, .phase⟩, ⟨5, .phase⟩, ⟨6, .phase⟩, ⟨7, .phase⟩, ⟨8, .phase⟩, ⟨9, .phase⟩], none⟩ ?_ (.inl ⟨by rfl, ?_⟩) ?_
      rotate_left
      · (intro W hSw; (try dsimp only at hSw); go_simp; try (with_reducible rfl))
      try simp only [Act.put, List.setIfInBounds_toArray, List.set_cons_zero, List.set_cons_succ]
      refine wpAnyH_done (by kernel_rfl) (NoPanic.normal ?_) _
      have HU := Lib.hid hHeld.1
      clear hHeld
      go_wp2
      go_ret
      exact ⟨by rw [hv.out]; rfl, HU.out⟩
theorem reads_no {id : Int} {l : List HOp} {key : Int} {cnt : Ver → Bool} (h : ∀ (j : Nat) (hj : j < l.length), (l[j].read && l[j].key == key && !(l[j].tx == id) && cnt (verOf l[j])) = false) : readsB id l key cnt = false := by
  unfold readsB
  rw [List.any_eq_false]
  intro x hx
  obtain ⟨k, hk, rfl⟩ := List.mem_iff_getElem.1 hx
  rw [h k hk]
  simp
theorem reads_yes {id : Int} {l : List HOp} {key : Int} {cnt : Ver → Bool} {k : Nat} (hk : k < l.length) (h : (l[k].read && l[k].key == key && !(l[k].tx == id) && cnt (verOf l[k])) = true) : readsB id l key cnt = true := by
  unfold readsB
  rw [List.any_eq_true]
  exact ⟨l[k], List.getElem_mem hk, h⟩
/-- does the operation count -/
def cntB (id key : Int) (cnt : Ver → Bool) (o : HOp) : Bool := o.read && o.key == key && !(o.tx == id) && cnt (verOf o)
set_option maxRecDepth 100000 in
set_option maxHeartbeats 2000000 in
theorem creads1 (F : Nat → Prop) (w : World) (i0 : Int) (dn : Bool) (A : Option Addr) (c : Nat) (l : List HOp) (key : Int) (p1 p2 : Addr) (cnt : Ver → Bool) (h : HOps F w A l) (hl : fewOps l.length)
    (hc : Hid (∀ W v, Upd No w W → Calls Tryz.prog 35 #[.agg v.cells.toArray, .pointer (some p1), .pointer (some p2)] W fun e w' => e = .returned (.bool (cnt v)) ∧ Upd No W w')) :
    Calls Tryz.prog 34 #[.agg #[.int .i64 i0, .bool dn, .slice A l.length c], .int .i64 key, .func (.func 35) #[] #[.pointer (some p1), .pointer (some p2)]] w fun e w' => e = .returned (.bool (readsB i0 l key cnt)) ∧ Upd No w w' := by
  unfold fewOps at hl
  have uT := (Upd.refl No w).alloc (.cells #[.int .i64 i0, .bool dn, .slice A l.length c] 47)
  have bT := Lib.hid (Blk.new w 47 [.int .i64 i0, .bool dn, .slice A l.length c])
  go_enter Tryz.func34, Tryz.ntmps34
  go_wp2
  go_loopg [12] l.length (fun gk i wr => ∃ (k : Nat), k + gk = l.length ∧ i = .int .i64 k ∧ Hid (∀ (j : Nat) (hj : j < l.length), j < k → cntB i0 key cnt l[j] = false) ∧ Upd No (w.alloc (.cells #[.int .i64 i0, .bool dn, .slice A l.length c] 47)) wr)
  case atStart => exact ⟨0, by omega, rfl, Lib.hid (fun j _ hj => by omega), Upd.refl No _⟩
  case round =>
    obtain ⟨k, hgk, rfl, hall, hu⟩ := hrel
    by_cases hlt : k < l.length
    · obtain ⟨ad, hAd, q0, q1, q2, q3⟩ := (h.upd (uT.trans hu) (fun _ _ => id)).at_ hlt
      obtain ⟨x, hx⟩ : ∃ x, l[k] = x := ⟨_, rfl⟩
      rw [hx] at q0 q1 q2 q3
      subst hAd
      have X := Lib.hid hx
      have b1 : (0 : Int) ≤ (k : Int) := Int.natCast_nonneg _
      have b2 : (k : Int) < (l.length : Int) := by omega
      have uA := (Upd.refl No wr).alloc (.cells #[.bool x.read, .int .i64 x.key, .int .i64 x.tx, .int .i64 x.nth] 53)
      have bo := Lib.hid (Blk.new wr 53 [.bool x.read, .int .i64 x.key, .int .i64 x.tx, .int .i64 x.nth])
      have bT1 := (bT.out.upd hu id).upd uA id
      have t0 := bT1.cell 0
      simp only [List.getElem?_cons_zero] at t0
      have HU := Lib.hid (hu.trans uA)
      have NX := Lib.hid (fun (hn : cntB i0 key cnt x = false) => (fun (j : Nat) (hj : j < l.length) (hjk : j < k + 1) => (by
        by_cases e : j = k
        · subst e; rw [X.out]; exact hn
        · exact hall.out j hj (by omega) : cntB i0 key cnt l[j] = false)))
      clear hx bT1 uA
      cases hr : x.read
      · rw [hr] at q0 t0
        have HN := Lib.hid (show cntB i0 key cnt x = false by unfold cntB; rw [hr]; rfl)
        have Hr := Lib.hid hr
        have HU' := HU.out
        rw [hr] at HU'
        clear hr
        go_wp2
        go_roundg (gk - 1)
        case measure => omega
        case rel => exact ⟨k + 1, by omega, by go_num, Lib.hid (NX.out HN.out), HU'⟩
      · rw [hr] at q0 t0
        have HU' := HU.out
        rw [hr] at HU'
        have Hr := Lib.hid hr
        clear hr
        cases hk : x.key == key
        · have HN := Lib.hid (show cntB i0 key cnt x = false by unfold cntB; rw [hk, Bool.and_false]; rfl)
          go_wp2
          go_roundg (gk - 1)
          case measure => omega
          case rel => exact ⟨k + 1, by omega, by go_num, Lib.hid (NX.out HN.out), HU'⟩
        · cases ht : x.tx != i0
          · have ht2 : (x.tx == i0) = true := by simpa using ht
            have HN := Lib.hid (show cntB i0 key cnt x = false by unfold cntB; rw [ht2]; simp)
            clear ht2
            go_wp2
            go_roundg (gk - 1)
            case measure => omega
            case rel => exact ⟨k + 1, by omega, by go_num, Lib.hid (NX.out HN.out), HU'⟩
          · have ht2 : (x.tx == i0) = false := by simpa using ht
            have HC := Lib.hid (show cntB i0 key cnt x = cnt (verOf x) by unfold cntB; rw [Hr.out, hk, ht2]; rfl)
            obtain ⟨v, hv⟩ : ∃ v, verOf x = v := ⟨_, rfl⟩
            have hof := oof (wr.alloc (.cells #[.bool x.read, .int .i64 x.key, .int .i64 x.tx, .int .i64 x.nth] 53)) x
            rw [hv] at hof
            have h2 : Calls Tryz.prog 48 #[.agg #[.bool true, .int .i64 x.key, .int .i64 x.tx, .int .i64 x.nth]] (wr.alloc (.cells #[.bool true, .int .i64 x.key, .int .i64 x.tx, .int .i64 x.nth] 53)) fun e w' => e = .returned (.agg v.cells.toArray) ∧ Upd No (wr.alloc (.cells #[.bool true, .int .i64 x.key, .int .i64 x.tx, .int .i64 x.nth] 53)) w' := by
              have := hof
              unfold HOp.cells at this
              rwa [Hr.out] at this
            have Hof := Lib.hid h2
            have V := Lib.hid hv
            clear hof h2 hv ht2
            go_wp2_with fail
            refine (Hof.out).mono ?_
            rintro e w1 ⟨rfl, hu1⟩
            have hcc := hc.out w1 v ((uT.trans HU').trans hu1)
            cases hcv : cnt v
            · rw [hcv] at hcc
              have HCC := Lib.hid hcc
              have HN := Lib.hid (show cntB i0 key cnt x = false by rw [HC.out, V.out]; exact hcv)
              clear hcv hcc
              go_wp2_with fail
              refine (HCC.out).mono ?_
              rintro e w2 ⟨rfl, hu2⟩
              go_wp2
              go_roundg (gk - 1)
              case measure => omega
              case rel => exact ⟨k + 1, by omega, by go_num, Lib.hid (NX.out HN.out), (HU'.trans hu1).trans hu2⟩
            · rw [hcv] at hcc
              have HCC := Lib.hid hcc
              have HN := Lib.hid (show readsB i0 l key cnt = true from reads_yes hlt (by rw [X.out]; show cntB i0 key cnt x = true; rw [HC.out, V.out]; exact hcv))
              clear hcv hcc
              go_wp2_with fail
              refine (HCC.out).mono ?_
              rintro e w2 ⟨rfl, hu2⟩
              go_wp2
              go_ret
              exact ⟨by rw [HN.out]; rfl, ((uT.trans HU').trans hu1).trans hu2⟩
    · obtain rfl : k = l.length := by omega
      have HN := Lib.hid (show readsB i0 l key cnt = false from reads_no fun j hj => hall.out j hj hj)
      go_wp2
      go_ret
      exact ⟨by rw [HN.out]; rfl, uT.trans hu⟩
set_option maxRecDepth 100000 in
set_option maxHeartbeats 2000000 in
theorem creads2 (F : Nat → Prop) (w : World) (i0 : Int) (dn : Bool) (A : Option Addr) (c : Nat) (l : List HOp) (key : Int) (p1 p2 : Addr) (cnt : Ver → Bool) (h : HOps F w A l) (hl : fewOps l.length)
    (hc : Hid (∀ W v, Upd No w W → Calls Tryz.prog 37 #[.agg v.cells.toArray, .pointer (some p1), .pointer (some p2)] W fun e w' => e = .returned (.bool (cnt v)) ∧ Upd No W w')) :
    Calls Tryz.prog 34 #[.agg #[.int .i64 i0, .bool dn, .slice A l.length c], .int .i64 key, .func (.func 37) #[] #[.pointer (some p1), .pointer (some p2)]] w fun e w' => e = .returned (.bool (readsB i0 l key cnt)) ∧ Upd No w w' := by
  unfold fewOps at hl
  have uT := (Upd.refl No w).alloc (.cells #[.int .i64 i0, .bool dn, .slice A l.length c] 47)
  have bT := Lib.hid (Blk.new w 47 [.int .i64 i0, .bool dn, .slice A l.length c])
  go_enter Tryz.func34, Tryz.ntmps34
  go_wp2
  go_loopg [12] l.length (fun gk i wr => ∃ (k : Nat), k + gk = l.length ∧ i = .int .i64 k ∧ Hid (∀ (j : Nat) (hj : j < l.length), j < k → cntB i0 key cnt l[j] = false) ∧ Upd No (w.alloc (.cells #[.int .i64 i0, .bool dn, .slice A l.length c] 47)) wr)
  case atStart => exact ⟨0, by omega, rfl, Lib.hid (fun j _ hj => by omega), Upd.refl No _⟩
  case round =>
    obtain ⟨k, hgk, rfl, hall, hu⟩ := hrel
    by_cases hlt : k < l.length
    · obtain ⟨ad, hAd, q0, q1, q2, q3⟩ := (h.upd (uT.trans hu) (fun _ _ => id)).at_ hlt
      obtain ⟨x, hx⟩ : ∃ x, l[k] = x := ⟨_, rfl⟩
      rw [hx] at q0 q1 q2 q3
      subst hAd
      have X := Lib.hid hx
      have b1 : (0 : Int) ≤ (k : Int) := Int.natCast_nonneg _
      have b2 : (k : Int) < (l.length : Int) := by omega
      have uA := (Upd.refl No wr).alloc (.cells #[.bool x.read, .int .i64 x.key, .int .i64 x.tx, .int .i64 x.nth] 53)
      have bo := Lib.hid (Blk.new wr 53 [.bool x.read, .int .i64 x.key, .int .i64 x.tx, .int .i64 x.nth])
      have bT1 := (bT.out.upd hu id).upd uA id
      have t0 := bT1.cell 0
      simp only [List.getElem?_cons_zero] at t0
      have HU := Lib.hid (hu.trans uA)
      have NX := Lib.hid (fun (hn : cntB i0 key cnt x = false) => (fun (j : Nat) (hj : j < l.length) (hjk : j < k + 1) => (by
        by_cases e : j = k
        · subst e; rw [X.out]; exact hn
        · exact hall.out j hj (by omega) : cntB i0 key cnt l[j] = false)))
      clear hx bT1 uA
      cases hr : x.read
      · rw [hr] at q0 t0
        have HN := Lib.hid (show cntB i0 key cnt x = false by unfold cntB; rw [hr]; rfl)
        have Hr := Lib.hid hr
        have HU' := HU.out
        rw [hr] at HU'
        clear hr
        go_wp2
        go_roundg (gk - 1)
        case measure => omega
        case rel => exact ⟨k + 1, by omega, by go_num, Lib.hid (NX.out HN.out), HU'⟩
      · rw [hr] at q0 t0
        have HU' := HU.out
        rw [hr] at HU'
        have Hr := Lib.hid hr
        clear hr
        cases hk : x.key == key
        · have HN := Lib.hid (show cntB i0 key cnt x = false by unfold cntB; rw [hk, Bool.and_false]; rfl)
          go_wp2
          go_roundg (gk - 1)
          case measure => omega
          case rel => exact ⟨k + 1, by omega, by go_num, Lib.hid (NX.out HN.out), HU'⟩
        · cases ht : x.tx != i0
          · have ht2 : (x.tx == i0) = true := by simpa using ht
            have HN := Lib.hid (show cntB i0 key cnt x = false by unfold cntB; rw [ht2]; simp)
            clear ht2
            go_wp2
            go_roundg (gk - 1)
            case measure => omega
            case rel => exact ⟨k + 1, by omega, by go_num, Lib.hid (NX.out HN.out), HU'⟩
          · have ht2 : (x.tx == i0) = false := by simpa using ht
            have HC := Lib.hid (show cntB i0 key cnt x = cnt (verOf x) by unfold cntB; rw [Hr.out, hk, ht2]; rfl)
            obtain ⟨v, hv⟩ : ∃ v, verOf x = v := ⟨_, rfl⟩
            have hof := oof (wr.alloc (.cells #[.bool x.read, .int .i64 x.key, .int .i64 x.tx, .int .i64 x.nth] 53)) x
            rw [hv] at hof
            have h2 : Calls Tryz.prog 48 #[.agg #[.bool true, .int .i64 x.key, .int .i64 x.tx, .int .i64 x.nth]] (wr.alloc (.cells #[.bool true, .int .i64 x.key, .int .i64 x.tx, .int .i64 x.nth] 53)) fun e w' => e = .returned (.agg v.cells.toArray) ∧ Upd No (wr.alloc (.cells #[.bool true, .int .i64 x.key, .int .i64 x.tx, .int .i64 x.nth] 53)) w' := by
              have := hof
              unfold HOp.cells at this
              rwa [Hr.out] at this
            have Hof := Lib.hid h2
            have V := Lib.hid hv
            clear hof h2 hv ht2
            go_wp2_with fail
            refine (Hof.out).mono ?_
            rintro e w1 ⟨rfl, hu1⟩
            have hcc := hc.out w1 v ((uT.trans HU').trans hu1)
            cases hcv : cnt v
            · rw [hcv] at hcc
              have HCC := Lib.hid hcc
              have HN := Lib.hid (show cntB i0 key cnt x = false by rw [HC.out, V.out]; exact hcv)
              clear hcv hcc
              go_wp2_with fail
              refine (HCC.out).mono ?_
              rintro e w2 ⟨rfl, hu2⟩
              go_wp2
              go_roundg (gk - 1)
              case measure => omega
              case rel => exact ⟨k + 1, by omega, by go_num, Lib.hid (NX.out HN.out), (HU'.trans hu1).trans hu2⟩
            · rw [hcv] at hcc
              have HCC := Lib.hid hcc
              have HN := Lib.hid (show readsB i0 l key cnt = true from reads_yes hlt (by rw [X.out]; show cntB i0 key cnt x = true; rw [HC.out, V.out]; exact hcv))
              clear hcv hcc
              go_wp2_with fail
              refine (HCC.out).mono ?_
              rintro e w2 ⟨rfl, hu2⟩
              go_wp2
              go_ret
              exact ⟨by rw [HN.out]; rfl, ((uT.trans HU').trans hu1).trans hu2⟩
    · obtain rfl : k = l.length := by omega
      have HN := Lib.hid (show readsB i0 l key cnt = false from reads_no fun j hj => hall.out j hj hj)
      go_wp2
      go_ret
      exact ⟨by rw [HN.out]; rfl, uT.trans hu⟩
end Go.Proofs.YtgakhpdclhlmpaaGreat

/- Looking at a history: edges. -/
namespace Go.Proofs.YtgakhpdclhlmpaaGreat
set_option linter.unusedVariables false
open Go.RowKit
/-- the box of a reader -/
def RBox (w : World) (g : Nat) (txs : List HTx) (ords : List HOrd) (A : Option Addr) (c : Nat) (B : Option Addr) (d : Nat) : Prop := Blk w g 55 [.slice A txs.length c, .slice B ords.length d]
theorem clastV {F : Nat → Prop} {w : World} {txs : List HTx} {ords : List HOrd} {A : Option Addr} {c : Nat} {B : Option Addr} {d : Nat} {tx key nth : Int} {b : Bool} (H : Hist.lies F w ⟨txs, ords, A, c, B, d⟩) (hb : lastB txs ⟨tx, key, nth⟩ = b) :
    Calls Tryz.prog 36 #[.agg #[.slice A txs.length c, .slice B ords.length d], .agg #[.int .i64 tx, .int .i64 key, .int .i64 nth]] w fun e w' => e = .returned (.bool b) ∧ Upd No w w' := by subst hb; exact clast F w txs ords A c B d ⟨tx, key, nth⟩ H
theorem cnextV {F : Nat → Prop} {w : World} {txs : List HTx} {ords : List HOrd} {A : Option Addr} {c : Nat} {B : Option Addr} {d : Nat} {key x y : Int} {b : Bool} (H : Hist.lies F w ⟨txs, ords, A, c, B, d⟩) (hb : nextB ords key x y = b) :
    Calls Tryz.prog 33 #[.agg #[.slice A txs.length c, .slice B ords.length d], .int .i64 key, .int .i64 x, .int .i64 y] w fun e w' => e = .returned (.bool b) ∧ Upd No w w' := by subst hb; exact cnext F w txs ords A c B d key x y H
section
variable (F : Nat → Prop) (w : World) (txs : List HTx) (ords : List HOrd) (A : Option Addr) (c : Nat) (B : Option Addr) (d : Nat) (g ge : Nat) (e : Edge) (v : Ver)
set_option maxRecDepth 100000 in
theorem ce1 (H : Hist.lies F w ⟨txs, ords, A, c, B, d⟩) (hg : RBox w g txs ords A c B d) (he : Blk w ge 27 e.cells) :
    Calls Tryz.prog 35 #[.agg v.cells.toArray, .pointer (some ⟨ge, 0, none⟩), .pointer (some ⟨g, 0, none⟩)] w fun r w' => r = .returned (.bool (v.tx == e.f && lastB txs v)) ∧ Upd No w w' := by
  obtain ⟨tx, key, nth⟩ := v
  obtain ⟨ef, et, ek, ey⟩ := e
  unfold Edge.cells at he
  unfold RBox at hg
  unfold Ver.cells
  have uA := (Upd.refl No w).alloc (.cells #[.int .i64 tx, .int .i64 key, .int .i64 nth] 29)
  have g0 := (hg.upd uA id).cell 0
  have g1 := (hg.upd uA id).cell 1
  have e0 := (he.upd uA id).cell 0
  simp only [List.getElem?_cons_zero, List.getElem?_cons_succ] at g0 g1 e0
  obtain ⟨b, hb⟩ : ∃ b, lastB txs ⟨tx, key, nth⟩ = b := ⟨_, rfl⟩
  have Hb := Lib.hid hb
  rw [hb]
  have H1 := H.upd uA (fun _ _ => id)
  clear hb
  cases ht : tx == ef
  · go_enter Tryz.func35, Tryz.ntmps35
    go_wp2
    go_ret
    exact ⟨rfl, uA⟩
  · go_enter Tryz.func35, Tryz.ntmps35
    go_wp2_with fail
    refine (clastV H1 Hb.out).mono ?_
    rintro e w1 ⟨rfl, hu1⟩
    go_wp2
    go_ret
    exact ⟨rfl, uA.trans hu1⟩
set_option maxRecDepth 100000 in
theorem ce2 (H : Hist.lies F w ⟨txs, ords, A, c, B, d⟩) (hg : RBox w g txs ords A c B d) (he : Blk w ge 27 e.cells) :
    Calls Tryz.prog 37 #[.agg v.cells.toArray, .pointer (some ⟨g, 0, none⟩), .pointer (some ⟨ge, 0, none⟩)] w fun r w' => r = .returned (.bool (lastB txs v && nextB ords e.key v.tx e.t)) ∧ Upd No w w' := by
  obtain ⟨tx, key, nth⟩ := v
  obtain ⟨ef, et, ek, ey⟩ := e
  unfold Edge.cells at he
  unfold RBox at hg
  unfold Ver.cells
  have uA := (Upd.refl No w).alloc (.cells #[.int .i64 tx, .int .i64 key, .int .i64 nth] 29)
  have bv := Lib.hid (Blk.new w 29 [.int .i64 tx, .int .i64 key, .int .i64 nth])
  have hgA := hg.upd uA id
  have heA := he.upd uA id
  have g0 := hgA.cell 0
  have g1 := hgA.cell 1
  simp only [List.getElem?_cons_zero, List.getElem?_cons_succ] at g0 g1
  obtain ⟨b, hb⟩ : ∃ b, lastB txs ⟨tx, key, nth⟩ = b := ⟨_, rfl⟩
  obtain ⟨n, hn⟩ : ∃ n, nextB ords ey tx et = n := ⟨_, rfl⟩
  have Hb := Lib.hid hb
  have Hn := Lib.hid hn
  rw [hb]
  show Calls Tryz.prog 37 _ w fun r w' => r = .returned (.bool (b && nextB ords ey tx et)) ∧ Upd No w w'
  rw [hn]
  have H1 := H.upd uA (fun _ _ => id)
  have HGE := Lib.hid (And.intro hgA heA)
  have UA := Lib.hid uA
  clear hb hn hgA heA uA
  cases b
  · go_enter Tryz.func37, Tryz.ntmps37
    go_wp2_with fail
    refine (clastV H1 Hb.out).mono ?_
    rintro e w1 ⟨rfl, hu1⟩
    go_wp2
    go_ret
    exact ⟨rfl, UA.out.trans hu1⟩
  · go_enter Tryz.func37, Tryz.ntmps37
    go_wp2_with fail
    refine (clastV H1 Hb.out).mono ?_
    rintro e w1 ⟨rfl, hu1⟩
    have q0 := (HGE.out.1.upd hu1 id).cell 0
    have q1 := (HGE.out.1.upd hu1 id).cell 1
    have e1 := (HGE.out.2.upd hu1 id).cell 1
    have e3 := (HGE.out.2.upd hu1 id).cell 3
    have v0 := (bv.out.upd hu1 id).cell 0
    simp only [List.getElem?_cons_zero, List.getElem?_cons_succ] at q0 q1 e1 e3 v0
    have H2 := H.upd (UA.out.trans hu1) (fun _ _ => id)
    have HU := Lib.hid (UA.out.trans hu1)
    clear g0 g1 hu1 H1
    go_wp2_with fail
    refine (cnextV H2 Hn.out).mono ?_
    rintro e w2 ⟨rfl, hu2⟩
    go_wp2
    go_ret
    exact ⟨rfl, HU.out.trans hu2⟩
end
section
variable {h : Hist} {e : Edge}
theorem edge_no1 (h1 : doneT h.txs e.f = none) : edgeB h e = false := by unfold edgeB; rw [h1]
theorem edge_no2 {a : HTx} (h1 : doneT h.txs e.f = some a) (h2 : doneT h.txs e.t = none) : edgeB h e = false := by unfold edgeB; rw [h1, h2]
theorem edge_both {a b : HTx} (h1 : doneT h.txs e.f = some a) (h2 : doneT h.txs e.t = some b) : edgeB h e = (if e.f = e.t then false
    else if e.k = 1 then nextB h.ords e.key e.f e.t
    else if e.k = 2 then readsB b.id b.ops e.key fun v => v.tx == e.f && lastB h.txs v
    else if e.k = 3 then readsB a.id a.ops e.key fun v => lastB h.txs v && nextB h.ords e.key v.tx e.t
    else false) := by unfold edgeB; rw [h1, h2]
end
set_option maxRecDepth 100000 in
set_option maxHeartbeats 4000000 in
theorem cedge (F : Nat → Prop) (w : World) (txs : List HTx) (ords : List HOrd) (A : Option Addr) (c : Nat) (B : Option Addr) (d : Nat) (e : Edge) (H : Hist.lies F w ⟨txs, ords, A, c, B, d⟩) :
    Calls Tryz.prog 15 #[.agg #[.slice A txs.length c, .slice B ords.length d], .agg e.cells.toArray] w fun r w' => r = .returned (.bool (edgeB ⟨txs, ords, A, c, B, d⟩ e)) ∧ Upd No w w' := by
  obtain ⟨ef, et, ek, ey⟩ := e
  unfold Edge.cells
  have u0 := ((Upd.refl No w).alloc (.cells #[.slice A txs.length c, .slice B ords.length d] 55)).alloc (.cells #[.int .i64 ef, .int .i64 et, .int .i64 ek, .int .i64 ey] 27)
  have bR := Lib.hid ((Blk.new w 55 [.slice A txs.length c, .slice B ords.length d]).alloc (.cells #[.int .i64 ef, .int .i64 et, .int .i64 ek, .int .i64 ey] 27))
  have b1 := Blk.new (w.alloc (.cells #[.slice A txs.length c, .slice B ords.length d] 55)) 27 [.int .i64 ef, .int .i64 et, .int .i64 ek, .int .i64 ey]
  simp only [World.size_alloc] at b1
  have bE := Lib.hid b1
  have ha := Lib.hid (cask F _ txs ords A c B d ef (H.upd u0 (fun _ _ => id)))
  clear b1
  go_enter Tryz.func15, Tryz.ntmps15
  go_wp2_with fail
  refine (ha.out).mono ?_
  rintro e w1 ⟨x1, q1, dn1, A1, l1, c1, rfl, hc1, hfew1, hh1, hm1, hu1⟩
  have uT1 := hu1.alloc (.cells #[.int .i64 x1, .bool dn1, .slice A1 l1.length c1] 47)
  have bR1 := Lib.hid (bR.out.upd uT1 id)
  have bE1 := Lib.hid (bE.out.upd uT1 id)
  have bT1 := Lib.hid (Blk.new w1 47 [.int .i64 x1, .bool dn1, .slice A1 l1.length c1])
  have hh1' := Lib.hid (HOps.upd hh1 ((Upd.refl No w1).alloc (.cells #[.int .i64 x1, .bool dn1, .slice A1 l1.length c1] 47)) (fun _ _ => id))
  have hb := Lib.hid (cask F _ txs ords A c B d et (H.upd (u0.trans uT1) (fun _ _ => id)))
  have U1 := Lib.hid (u0.trans uT1)
  have M1 := Lib.hid hm1
  have FW1 := Lib.hid hfew1
  have y0 := bE1.out.cell 0
  have y1 := bE1.out.cell 1
  have y2 := bE1.out.cell 2
  have y3 := bE1.out.cell 3
  simp only [List.getElem?_cons_zero, List.getElem?_cons_succ] at y0 y1 y2 y3
  have r0 := bR1.out.cell 0
  have r1 := bR1.out.cell 1
  simp only [List.getElem?_cons_zero, List.getElem?_cons_succ] at r0 r1
  clear u0 hu1 uT1 hh1 hm1 hfew1
  go_wp2_with fail
  refine (hb.out).mono ?_
  rintro e w2 ⟨x2, q2, dn2, A2, l2, c2, rfl, hc2, hfew2, hh2, hm2, hu2⟩
  have uT2 := hu2.alloc (.cells #[.int .i64 x2, .bool dn2, .slice A2 l2.length c2] 47)
  have bR2 := Lib.hid (bR1.out.upd uT2 id)
  have bE2 := Lib.hid (bE1.out.upd uT2 id)
  have bT2 := Lib.hid (Blk.new w2 47 [.int .i64 x2, .bool dn2, .slice A2 l2.length c2])
  have bT12 := Lib.hid (bT1.out.upd uT2 id)
  have hh12 := Lib.hid (HOps.upd hh1'.out uT2 (fun _ _ => id))
  have hh2' := Lib.hid (HOps.upd hh2 ((Upd.refl No w2).alloc (.cells #[.int .i64 x2, .bool dn2, .slice A2 l2.length c2] 47)) (fun _ _ => id))
  have U2 := Lib.hid (U1.out.trans uT2)
  have M2 := Lib.hid hm2
  have FW2 := Lib.hid hfew2
  clear y0 y1 y2 y3 r0 r1
  have y0 := bE2.out.cell 0
  have y1 := bE2.out.cell 1
  have y2 := bE2.out.cell 2
  have y3 := bE2.out.cell 3
  simp only [List.getElem?_cons_zero, List.getElem?_cons_succ] at y0 y1 y2 y3
  have r0 := bR2.out.cell 0
  have r1 := bR2.out.cell 1
  have s0 := bT12.out.cell 0
  have s1 := bT12.out.cell 1
  have s2 := bT12.out.cell 2
  simp only [List.getElem?_cons_zero, List.getElem?_cons_succ] at r0 r1 s0 s1 s2
  clear hu2 uT2 hh2 hm2 hfew2
  cases hd1 : doneT txs ef with
  | none =>
    have hv := Lib.hid (show edgeB ⟨txs, ords, A, c, B, d⟩ ⟨ef, et, ek, ey⟩ = false from edge_no1 hd1)
    have hm1 := M1.out
    rw [hd1] at hm1
    subst hm1
    clear hd1
    go_wp2
    go_ret
    exact ⟨by rw [hv.out]; rfl, U2.out⟩
  | some a =>
    have hm1 := M1.out
    rw [hd1] at hm1
    obtain ⟨rfl, rfl, rfl⟩ := hm1
    have HD1 := Lib.hid hd1
    clear hd1 M1
    cases hd2 : doneT txs et with
    | none =>
      have hv := Lib.hid (show edgeB ⟨txs, ords, A, c, B, d⟩ ⟨ef, et, ek, ey⟩ = false from edge_no2 HD1.out hd2)
      have hm2 := M2.out
      rw [hd2] at hm2
      subst hm2
      clear hd2
      go_wp2
      go_ret
      exact ⟨by rw [hv.out]; rfl, U2.out⟩
    | some b =>
      have hm2 := M2.out
      rw [hd2] at hm2
      obtain ⟨rfl, rfl, rfl⟩ := hm2
      have hv0 := edge_both (h := ⟨txs, ords, A, c, B, d⟩) (e := ⟨ef, et, ek, ey⟩) HD1.out hd2
      clear hd2 M2
      by_cases hft : ef = et
      · rw [if_pos hft] at hv0
        have hv := Lib.hid hv0
        have hfb : (ef == et) = true := by simpa using hft
        clear hft hv0
        go_wp2
        go_ret
        exact ⟨by rw [hv.out]; rfl, U2.out⟩
      · rw [if_neg hft] at hv0
        have hfb : (ef == et) = false := by simpa using hft
        clear hft
        by_cases hk1 : ek = 1
        · rw [if_pos hk1] at hv0
          have hv := Lib.hid hv0
          have hn := Lib.hid (show Calls Tryz.prog 33 #[.agg #[.slice A txs.length c, .slice B ords.length d], .int .i64 ey, .int .i64 ef, .int .i64 et] _ _ from cnext F _ txs ords A c B d ey ef et (H.upd U2.out (fun _ _ => id)))
          have hkb : (ek == 1) = true := by simpa using hk1
          clear hk1 hv0
          go_wp2_with fail
          refine (hn.out).mono ?_
          rintro e w3 ⟨rfl, hu3⟩
          go_wp2
          go_ret
          exact ⟨by rw [hv.out]; rfl, U2.out.trans hu3⟩
        · rw [if_neg hk1] at hv0
          have hkb : (ek == 1) = false := by simpa using hk1
          clear hk1
          by_cases hk2 : ek = 2
          · rw [if_pos hk2] at hv0
            have hv := Lib.hid hv0
            have hkb2 : (ek == 2) = true := by simpa using hk2
            have hn := Lib.hid (creads1 _ _ b.id dn2 A2 c2 b.ops ey ⟨w.heap.size + 1, 0, none⟩ ⟨w.heap.size, 0, none⟩ (fun v => v.tx == ef && lastB txs v) hh2'.out FW2.out
              (Lib.hid fun W v hW => ce1 F W txs ords A c B d w.heap.size (w.heap.size + 1) ⟨ef, et, ek, ey⟩ v (H.upd (U2.out.trans hW) (fun _ _ => id)) (bR2.out.upd hW id) (bE2.out.upd hW id)))
            clear hk2 hv0
            go_wp2_with fail
            refine (hn.out).mono ?_
            rintro e w3 ⟨rfl, hu3⟩
            go_wp2
            go_ret
            exact ⟨by rw [hv.out]; rfl, U2.out.trans hu3⟩
          · rw [if_neg hk2] at hv0
            have hkb2 : (ek == 2) = false := by simpa using hk2
            clear hk2
            by_cases hk3 : ek = 3
            · rw [if_pos hk3] at hv0
              have hv := Lib.hid hv0
              have hkb3 : (ek == 3) = true := by simpa using hk3
              have hn := Lib.hid (creads2 _ _ a.id dn1 A1 c1 a.ops ey ⟨w.heap.size, 0, none⟩ ⟨w.heap.size + 1, 0, none⟩ (fun v => lastB txs v && nextB ords ey v.tx et) hh12.out FW1.out
                (Lib.hid fun W v hW => ce2 F W txs ords A c B d w.heap.size (w.heap.size + 1) ⟨ef, et, ek, ey⟩ v (H.upd (U2.out.trans hW) (fun _ _ => id)) (bR2.out.upd hW id) (bE2.out.upd hW id)))
              clear hk3 hv0
              go_wp2_with fail
              refine (hn.out).mono ?_
              rintro e w3 ⟨rfl, hu3⟩
              go_wp2
              go_ret
              exact ⟨by rw [hv.out]; rfl, U2.out.trans hu3⟩
            · rw [if_neg hk3] at hv0
              have hv := Lib.hid hv0
              have hkb3 : (ek == 3) = false := by simpa using hk3
              clear hk3 hv0
              go_wp2
              go_ret
              exact ⟨by rw [hv.out]; rfl, U2.out⟩
end Go.Proofs.YtgakhpdclhlmpaaGreat
