/- Looking at a history: who is done; which version is the last one; who is next. -/
import Derived.Test.YtgakhpdclhlmpaaHisT
namespace Go.Proofs.Ytgakhpdclhlmpaa
set_option linter.unusedVariables false
open Go.RowKit
/-- what asking for one who is done leaves -/
def Doned (w : World) (o : Option HTx) (e : Ending) (w' : World) : Prop :=
  (match o with
   | some t => ∃ A c, e = .returned (.tuple #[.agg #[.int .i64 t.id, .bool t.done, .slice A t.ops.length c], .bool t.done]) ∧ t.ops.length ≤ c ∧ HOps (fun i => w.heap.size ≤ i) w' A t.ops
   | none => e = .returned (.tuple #[.agg #[.int .i64 0, .bool false, .slice none 0 0], .bool false])) ∧ Upd No w w'
set_option maxRecDepth 100000 in
set_option maxHeartbeats 2000000 in
theorem cdone (F : Nat → Prop) (w : World) (txs : List HTx) (ords : List HOrd) (A : Option Addr) (c : Nat) (B : Option Addr) (d : Nat) (i : Int) (H : Hist.lies F w ⟨txs, ords, A, c, B, d⟩) :
    Calls Try.prog 181 #[.agg #[.slice A txs.length c, .slice B ords.length d], .int .i64 i] w (Doned w (findT txs i)) := by
  have u0 := ((Upd.refl No w).alloc (.cells #[.slice A txs.length c, .slice B ords.length d] 159)).alloc (.cells #[.int .i64 0, .bool false, .slice none 0 0] 41)
  have b1 := Blk.new (w.alloc (.cells #[.slice A txs.length c, .slice B ords.length d] 159)) 41 [.int .i64 0, .bool false, .slice none 0 0]
  simp only [World.size_alloc] at b1
  have B1 := Lib.hid b1
  have HH := Lib.hid (H.upd u0 (fun _ _ => id))
  clear b1
  cases hf : findT txs i with
  | none =>
    have Hf := Lib.hid hf
    clear hf
    go_enter Try.func181, Try.ntmps181
    go_wp2_with fail
    refine (pfind_none F _ txs ords A c B d i HH.out Hf.out).mono ?_
    rintro e w1 ⟨rfl, hu1⟩
    have bt := Blk.new w1 41 [.int .i64 0, .bool false, .slice none 0 0]
    have bz := B1.out.upd hu1 id
    have bs := Blk.new (((w1.setCell ⟨w.heap.size + 1, 0, none⟩ (.int .i64 0)).setCell ⟨w.heap.size + 1, 1, none⟩ (.bool false)).setCell ⟨w.heap.size + 1, 2, none⟩ (.slice none 0 0)) 41 [.int .i64 0, .bool false, .slice none 0 0]
    simp only [World.size_setCell] at bs
    have b3 := ((((bz.set_ 0 (.int .i64 0)).set_ 1 (.bool false)).set_ 2 (.slice none 0 0)).alloc (.cells #[.int .i64 0, .bool false, .slice none 0 0] 41)).drew
    simp only [List.set_cons_zero, List.set_cons_succ] at b3
    have k0 := bt.cell 0
    have k1 := bt.cell 1
    have k2 := bt.cell 2
    have s0 := bs.cell 0
    have s1 := bs.cell 1
    have s2 := bs.cell 2
    have z0 := bz.cell 0
    have z1 := bz.cell 1
    have z2 := bz.cell 2
    have f0 := bz.free 0
    have f1 := bz.free 1
    have f2 := bz.free 2
    simp only [List.getElem?_cons_zero, List.getElem?_cons_succ] at k0 k1 k2 s0 s1 s2 z0 z1 z2
    have B3 := Lib.hid b3
    have hz : w.heap.size + 1 < w1.heap.size := bz.lt
    have U3 := Lib.hid ((((((u0.trans hu1).setCell (p := ⟨w.heap.size + 1, 0, none⟩) (.inr (Nat.le_succ _)) (.int .i64 0)).setCell (p := ⟨w.heap.size + 1, 1, none⟩) (.inr (Nat.le_succ _)) (.bool false)).setCell (p := ⟨w.heap.size + 1, 2, none⟩) (.inr (Nat.le_succ _)) (.slice none 0 0)).alloc (.cells #[.int .i64 0, .bool false, .slice none 0 0] 41)).drew)
    have V3 := Lib.hid ((((((Upd.refl (One (w.heap.size + 1)) w1).setOne 0 (.int .i64 0)).setOne 1 (.bool false)).setOne 2 (.slice none 0 0)).alloc (.cells #[.int .i64 0, .bool false, .slice none 0 0] 41)).drew)
    clear bt bz bs b3
    go_wp2
    refine wp_region_noPanic ?_
    refine wp_region_held_drew (S := (fun w' => w'.cell? ⟨w1.heap.size, 0, none⟩ = some (.int .i64 0) ∧ w'.cell? ⟨w1.heap.size, 1, none⟩ = some (.bool false) ∧ w'.cell? ⟨w1.heap.size, 2, none⟩ = some (.slice none 0 0))) (by kernel_rfl) ?_ (fun hHeld => ?_)
    · (first | exact ⟨k0, k1, k2⟩ | exact ⟨s0, s1, s2⟩)
    refine wpAnyH_take (i := 0) (oi := { dst := some 15, op := Go.Op.load 41 (Go.Operand.tmp 6), type := 41, pos := "check.go:20", after := #[], guard := none }) (v := ?_) rfl (by kernel_rfl) (by kernel_rfl) (by kernel_rfl) (fun _ _ _ h => h) (Or.inl ⟨by rfl, ?_⟩) (by assumption) ?_
    rotate_left
    · (intro W hSw; (try dsimp only at hSw); go_simp; try (with_reducible rfl))
    try simp only [Act.put, List.setIfInBounds_toArray, List.set_cons_zero, List.set_cons_succ]
    refine wpAnyH_take (i := 1) (oi := { dst := some 16, op := Go.Op.move (Go.Operand.tmp 7), type := 4, pos := "check.go:20", after := #[], guard := none }) (v := ?_) rfl (by kernel_rfl) (by kernel_rfl) (by kernel_rfl) (fun _ _ _ h => h) (Or.inl ⟨by rfl, ?_⟩) (by assumption) ?_
    rotate_left
    · (intro W hSw; (try dsimp only at hSw); go_simp; try (with_reducible rfl))
    try simp only [Act.put, List.setIfInBounds_toArray, List.set_cons_zero, List.set_cons_succ]
    refine wpAnyH_take (i := 2) (oi := { dst := some 17, op := Go.Op.move (Go.Operand.tmp 16), type := 4, pos := "check.go:20", after := #[{ on := 1, ground := Go.Ground.data }], guard := none }) (v := ?_) rfl (by kernel_rfl) (by kernel_rfl) (by kernel_rfl) (fun _ _ _ h => h) (Or.inl ⟨by rfl, ?_⟩) (by assumption) ?_
    rotate_left
    · (intro W hSw; (try dsimp only at hSw); go_simp; try (with_reducible rfl))
    try simp only [Act.put, List.setIfInBounds_toArray, List.set_cons_zero, List.set_cons_succ]
    refine wpAnyH_take (i := 3) (oi := { dst := some 18, op := Go.Op.fieldAddr 41 (Go.Operand.tmp 6) 1, type := 0, pos := "check.go:20", after := #[{ on := 2, ground := Go.Ground.guard }, { on := 6, ground := Go.Ground.gcOnly Go.Departure.lateStores }], guard := some (2, true) }) (v := undef) rfl (by kernel_rfl) (by kernel_rfl) (by kernel_rfl) (fun _ _ _ h => h) (Or.inr ⟨by rfl, rfl⟩) (by assumption) ?_
    try simp only [Act.put, List.setIfInBounds_toArray, List.set_cons_zero, List.set_cons_succ]
    refine wpAnyH_take (i := 4) (oi := { dst := some 19, op := Go.Op.load 4 (Go.Operand.tmp 18), type := 4, pos := "check.go:20", after := #[{ on := 3, ground := Go.Ground.data }, { on := 2, ground := Go.Ground.guard }, { on := 6, ground := Go.Ground.gcOnly Go.Departure.lateStores }], guard := some (2, true) }) (v := undef) rfl (by kernel_rfl) (by kernel_rfl) (by kernel_rfl) (fun _ _ _ h => h) (Or.inr ⟨by rfl, rfl⟩) (by assumption) ?_
    try simp only [Act.put, List.setIfInBounds_toArray, List.set_cons_zero, List.set_cons_succ]
    refine wpAnyH_take (i := 5) (oi := { dst := some 20, op := Go.Op.pick (Go.Operand.tmp 17) (Go.Operand.tmp 19) (Go.Operand.const (Go.Value.bool false)), type := 4, pos := "check.go:20", after := #[{ on := 2, ground := Go.Ground.data }, { on := 4, ground := Go.Ground.data }, { on := 6, ground := Go.Ground.gcOnly Go.Departure.lateStores }], guard := none }) (v := ?_) rfl (by kernel_rfl) (by kernel_rfl) (by kernel_rfl) (fun _ _ _ h => h) (Or.inl ⟨by rfl, ?_⟩) (by assumption) ?_
    rotate_left
    · (intro W hSw; (try dsimp only at hSw); go_simp; try (with_reducible rfl))
    try simp only [Act.put, List.setIfInBounds_toArray, List.set_cons_zero, List.set_cons_succ]
    refine wpAnyH_ready (rs := [6]) (by kernel_rfl) (by simp) ?_
    refine AllReadyH.cons (o := { dst := none, op := Go.Op.store 41 (Go.Operand.tmp 4) (Go.Operand.tmp 15), type := 0, pos := "check.go:20", after := #[{ on := 0, ground := Go.Ground.data }, { on := 2, ground := Go.Ground.chain }, { on := 0, ground := Go.Ground.phase }, { on := 1, ground := Go.Ground.textOnly Go.Departure.lateStores }, { on := 2, ground := Go.Ground.textOnly Go.Departure.lateStores }, { on := 3, ground := Go.Ground.textOnly Go.Departure.lateStores }, { on := 4, ground := Go.Ground.textOnly Go.Departure.lateStores }, { on := 5, ground := Go.Ground.textOnly Go.Departure.lateStores }], guard := none }) rfl (fun K hK => ?_) AllReadyH.nil
    go_simp
    refine hK.out _ _ ?_ (fun hHeld => ?_)
    · (first | exact ⟨k0, k1, k2⟩ | exact ⟨s0, s1, s2⟩)
    clear hK K
    try simp only [Act.put, List.setIfInBounds_toArray, List.set_cons_zero, List.set_cons_succ]
    refine wpAnyH_take (i := 7) (oi := { dst := some 5, op := Go.Op.assign (Go.Operand.tmp 20), type := 4, pos := "check.go:20", after := #[{ on := 5, ground := Go.Ground.data }, { on := 6, ground := Go.Ground.chain }, { on := 0, ground := Go.Ground.phase }, { on := 1, ground := Go.Ground.phase }, { on := 2, ground := Go.Ground.phase }, { on := 3, ground := Go.Ground.phase }, { on := 4, ground := Go.Ground.phase }, { on := 5, ground := Go.Ground.phase }, { on := 6, ground := Go.Ground.phase }], guard := none }) (v := ?_) rfl (by kernel_rfl) (by kernel_rfl) (by kernel_rfl) (fun _ _ _ h => h) (Or.inl ⟨by rfl, ?_⟩) (by assumption) ?_
    rotate_left
    · (intro W hSw; (try dsimp only at hSw); go_simp; try (with_reducible rfl))
    try simp only [Act.put, List.setIfInBounds_toArray, List.set_cons_zero, List.set_cons_succ]
    refine wpAnyH_done (by kernel_rfl) (NoPanic.normal ?_) _
    clear hHeld k0 k1 k2 s0 s1 s2 z0 z1 z2 f0 f1 f2
    go_wp2
    have r0 := B3.out.cell 0
    have r1 := B3.out.cell 1
    have r2 := B3.out.cell 2
    simp only [List.getElem?_cons_zero, List.getElem?_cons_succ] at r0 r1 r2
    refine bodyPost_ret (v := .tuple #[.agg #[.int .i64 0, .bool false, .slice none 0 0], .bool false]) (by simp [results, Try.results181, go_sem, r0, r1, r2]) rfl ?_
    unfold Doned
    exact ⟨rfl, U3.out⟩
  | some t =>
    have Hf := Lib.hid hf
    clear hf
    go_enter Try.func181, Try.ntmps181
    go_wp2_with fail
    refine (pfind_some F _ txs ords A c B d i HH.out Hf.out).mono ?_
    rintro e w1 ⟨A1, c1, rfl, hc1, hh1, hu1⟩
    have Hh1 := Lib.hid hh1
    clear hh1
    obtain ⟨td, htd⟩ : ∃ td, t.done = td := ⟨_, rfl⟩
    have Htd := Lib.hid htd
    rw [htd]
    clear htd
    cases td
    · have bt := Blk.new w1 41 [.int .i64 t.id, .bool false, .slice A1 t.ops.length c1]
      have bz := B1.out.upd hu1 id
      have bs := Blk.new (((w1.setCell ⟨w.heap.size + 1, 0, none⟩ (.int .i64 t.id)).setCell ⟨w.heap.size + 1, 1, none⟩ (.bool false)).setCell ⟨w.heap.size + 1, 2, none⟩ (.slice A1 t.ops.length c1)) 41 [.int .i64 t.id, .bool false, .slice A1 t.ops.length c1]
      simp only [World.size_setCell] at bs
      have b3 := ((((bz.set_ 0 (.int .i64 t.id)).set_ 1 (.bool false)).set_ 2 (.slice A1 t.ops.length c1)).alloc (.cells #[.int .i64 t.id, .bool false, .slice A1 t.ops.length c1] 41)).drew
      simp only [List.set_cons_zero, List.set_cons_succ] at b3
      have k0 := bt.cell 0
      have k1 := bt.cell 1
      have k2 := bt.cell 2
      have s0 := bs.cell 0
      have s1 := bs.cell 1
      have s2 := bs.cell 2
      have z0 := bz.cell 0
      have z1 := bz.cell 1
      have z2 := bz.cell 2
      have f0 := bz.free 0
      have f1 := bz.free 1
      have f2 := bz.free 2
      simp only [List.getElem?_cons_zero, List.getElem?_cons_succ] at k0 k1 k2 s0 s1 s2 z0 z1 z2
      have B3 := Lib.hid b3
      have hz : w.heap.size + 1 < w1.heap.size := bz.lt
      have U3 := Lib.hid ((((((u0.trans hu1).setCell (p := ⟨w.heap.size + 1, 0, none⟩) (.inr (Nat.le_succ _)) (.int .i64 t.id)).setCell (p := ⟨w.heap.size + 1, 1, none⟩) (.inr (Nat.le_succ _)) (.bool false)).setCell (p := ⟨w.heap.size + 1, 2, none⟩) (.inr (Nat.le_succ _)) (.slice A1 t.ops.length c1)).alloc (.cells #[.int .i64 t.id, .bool false, .slice A1 t.ops.length c1] 41)).drew)
      have V3 := Lib.hid ((((((Upd.refl (One (w.heap.size + 1)) w1).setOne 0 (.int .i64 t.id)).setOne 1 (.bool false)).setOne 2 (.slice A1 t.ops.length c1)).alloc (.cells #[.int .i64 t.id, .bool false, .slice A1 t.ops.length c1] 41)).drew)
      clear bt bz bs b3
      go_wp2
      refine wp_region_noPanic ?_
      refine wp_region_held_drew (S := (fun w' => w'.cell? ⟨w1.heap.size, 0, none⟩ = some (.int .i64 t.id) ∧ w'.cell? ⟨w1.heap.size, 1, none⟩ = some (.bool false) ∧ w'.cell? ⟨w1.heap.size, 2, none⟩ = some (.slice A1 t.ops.length c1))) (by kernel_rfl) ?_ (fun hHeld => ?_)
      · (first | exact ⟨k0, k1, k2⟩ | exact ⟨s0, s1, s2⟩)
      refine wpAnyH_take (i := 0) (oi := { dst := some 15, op := Go.Op.load 41 (Go.Operand.tmp 6), type := 41, pos := "check.go:20", after := #[], guard := none }) (v := ?_) rfl (by kernel_rfl) (by kernel_rfl) (by kernel_rfl) (fun _ _ _ h => h) (Or.inl ⟨by rfl, ?_⟩) (by assumption) ?_
      rotate_left
      · (intro W hSw; (try dsimp only at hSw); go_simp; try (with_reducible rfl))
      try simp only [Act.put, List.setIfInBounds_toArray, List.set_cons_zero, List.set_cons_succ]
      refine wpAnyH_take (i := 1) (oi := { dst := some 16, op := Go.Op.move (Go.Operand.tmp 7), type := 4, pos := "check.go:20", after := #[], guard := none }) (v := ?_) rfl (by kernel_rfl) (by kernel_rfl) (by kernel_rfl) (fun _ _ _ h => h) (Or.inl ⟨by rfl, ?_⟩) (by assumption) ?_
      rotate_left
      · (intro W hSw; (try dsimp only at hSw); go_simp; try (with_reducible rfl))
      try simp only [Act.put, List.setIfInBounds_toArray, List.set_cons_zero, List.set_cons_succ]
      refine wpAnyH_take (i := 2) (oi := { dst := some 17, op := Go.Op.move (Go.Operand.tmp 16), type := 4, pos := "check.go:20", after := #[{ on := 1, ground := Go.Ground.data }], guard := none }) (v := ?_) rfl (by kernel_rfl) (by kernel_rfl) (by kernel_rfl) (fun _ _ _ h => h) (Or.inl ⟨by rfl, ?_⟩) (by assumption) ?_
      rotate_left
      · (intro W hSw; (try dsimp only at hSw); go_simp; try (with_reducible rfl))
      try simp only [Act.put, List.setIfInBounds_toArray, List.set_cons_zero, List.set_cons_succ]
      refine wpAnyH_take (i := 3) (oi := { dst := some 18, op := Go.Op.fieldAddr 41 (Go.Operand.tmp 6) 1, type := 0, pos := "check.go:20", after := #[{ on := 2, ground := Go.Ground.guard }, { on := 6, ground := Go.Ground.gcOnly Go.Departure.lateStores }], guard := some (2, true) }) (v := ?_) rfl (by kernel_rfl) (by kernel_rfl) (by kernel_rfl) (fun _ _ _ h => h) (Or.inl ⟨by rfl, ?_⟩) (by assumption) ?_
      rotate_left
      · (intro W hSw; (try dsimp only at hSw); go_simp; try (with_reducible rfl))
      try simp only [Act.put, List.setIfInBounds_toArray, List.set_cons_zero, List.set_cons_succ]
      refine wpAnyH_take (i := 4) (oi := { dst := some 19, op := Go.Op.load 4 (Go.Operand.tmp 18), type := 4, pos := "check.go:20", after := #[{ on := 3, ground := Go.Ground.data }, { on := 2, ground := Go.Ground.guard }, { on := 6, ground := Go.Ground.gcOnly Go.Departure.lateStores }], guard := some (2, true) }) (v := ?_) rfl (by kernel_rfl) (by kernel_rfl) (by kernel_rfl) (fun _ _ _ h => h) (Or.inl ⟨by rfl, ?_⟩) (by assumption) ?_
      rotate_left
      · (intro W hSw; (try dsimp only at hSw); go_simp; try (with_reducible rfl))
      try simp only [Act.put, List.setIfInBounds_toArray, List.set_cons_zero, List.set_cons_succ]
      refine wpAnyH_take (i := 5) (oi := { dst := some 20, op := Go.Op.pick (Go.Operand.tmp 17) (Go.Operand.tmp 19) (Go.Operand.const (Go.Value.bool false)), type := 4, pos := "check.go:20", after := #[{ on := 2, ground := Go.Ground.data }, { on := 4, ground := Go.Ground.data }, { on := 6, ground := Go.Ground.gcOnly Go.Departure.lateStores }], guard := none }) (v := ?_) rfl (by kernel_rfl) (by kernel_rfl) (by kernel_rfl) (fun _ _ _ h => h) (Or.inl ⟨by rfl, ?_⟩) (by assumption) ?_
      rotate_left
      · (intro W hSw; (try dsimp only at hSw); go_simp; try (with_reducible rfl))
      try simp only [Act.put, List.setIfInBounds_toArray, List.set_cons_zero, List.set_cons_succ]
      refine wpAnyH_ready (rs := [6]) (by kernel_rfl) (by simp) ?_
      refine AllReadyH.cons (o := { dst := none, op := Go.Op.store 41 (Go.Operand.tmp 4) (Go.Operand.tmp 15), type := 0, pos := "check.go:20", after := #[{ on := 0, ground := Go.Ground.data }, { on := 2, ground := Go.Ground.chain }, { on := 0, ground := Go.Ground.phase }, { on := 1, ground := Go.Ground.textOnly Go.Departure.lateStores }, { on := 2, ground := Go.Ground.textOnly Go.Departure.lateStores }, { on := 3, ground := Go.Ground.textOnly Go.Departure.lateStores }, { on := 4, ground := Go.Ground.textOnly Go.Departure.lateStores }, { on := 5, ground := Go.Ground.textOnly Go.Departure.lateStores }], guard := none }) rfl (fun K hK => ?_) AllReadyH.nil
      go_simp
      refine hK.out _ _ ?_ (fun hHeld => ?_)
      · (first | exact ⟨k0, k1, k2⟩ | exact ⟨s0, s1, s2⟩)
      clear hK K
      try simp only [Act.put, List.setIfInBounds_toArray, List.set_cons_zero, List.set_cons_succ]
      refine wpAnyH_take (i := 7) (oi := { dst := some 5, op := Go.Op.assign (Go.Operand.tmp 20), type := 4, pos := "check.go:20", after := #[{ on := 5, ground := Go.Ground.data }, { on := 6, ground := Go.Ground.chain }, { on := 0, ground := Go.Ground.phase }, { on := 1, ground := Go.Ground.phase }, { on := 2, ground := Go.Ground.phase }, { on := 3, ground := Go.Ground.phase }, { on := 4, ground := Go.Ground.phase }, { on := 5, ground := Go.Ground.phase }, { on := 6, ground := Go.Ground.phase }], guard := none }) (v := ?_) rfl (by kernel_rfl) (by kernel_rfl) (by kernel_rfl) (fun _ _ _ h => h) (Or.inl ⟨by rfl, ?_⟩) (by assumption) ?_
      rotate_left
      · (intro W hSw; (try dsimp only at hSw); go_simp; try (with_reducible rfl))
      try simp only [Act.put, List.setIfInBounds_toArray, List.set_cons_zero, List.set_cons_succ]
      refine wpAnyH_done (by kernel_rfl) (NoPanic.normal ?_) _
      clear hHeld k0 k1 k2 s0 s1 s2 z0 z1 z2 f0 f1 f2
      go_wp2
      have r0 := B3.out.cell 0
      have r1 := B3.out.cell 1
      have r2 := B3.out.cell 2
      simp only [List.getElem?_cons_zero, List.getElem?_cons_succ] at r0 r1 r2
      refine bodyPost_ret (v := .tuple #[.agg #[.int .i64 t.id, .bool false, .slice A1 t.ops.length c1], .bool false]) (by simp [results, Try.results181, go_sem, r0, r1, r2]) rfl ?_
      unfold Doned
      have hh3 := Hh1.out
      simp only [World.size_alloc] at hh3
      exact ⟨⟨A1, c1, by rw [Htd.out], hc1, (Recs.upd hh3 V3.out (fun i hi e => by cases e; omega)).weak (fun i _ e => by omega)⟩, U3.out⟩
    · have bt := Blk.new w1 41 [.int .i64 t.id, .bool true, .slice A1 t.ops.length c1]
      have bz := B1.out.upd hu1 id
      have bs := Blk.new (((w1.setCell ⟨w.heap.size + 1, 0, none⟩ (.int .i64 t.id)).setCell ⟨w.heap.size + 1, 1, none⟩ (.bool true)).setCell ⟨w.heap.size + 1, 2, none⟩ (.slice A1 t.ops.length c1)) 41 [.int .i64 t.id, .bool true, .slice A1 t.ops.length c1]
      simp only [World.size_setCell] at bs
      have b3 := ((((bz.set_ 0 (.int .i64 t.id)).set_ 1 (.bool true)).set_ 2 (.slice A1 t.ops.length c1)).alloc (.cells #[.int .i64 t.id, .bool true, .slice A1 t.ops.length c1] 41)).drew
      simp only [List.set_cons_zero, List.set_cons_succ] at b3
      have k0 := bt.cell 0
      have k1 := bt.cell 1
      have k2 := bt.cell 2
      have s0 := bs.cell 0
      have s1 := bs.cell 1
      have s2 := bs.cell 2
      have z0 := bz.cell 0
      have z1 := bz.cell 1
      have z2 := bz.cell 2
      have f0 := bz.free 0
      have f1 := bz.free 1
      have f2 := bz.free 2
      simp only [List.getElem?_cons_zero, List.getElem?_cons_succ] at k0 k1 k2 s0 s1 s2 z0 z1 z2
      have B3 := Lib.hid b3
      have hz : w.heap.size + 1 < w1.heap.size := bz.lt
      have U3 := Lib.hid ((((((u0.trans hu1).setCell (p := ⟨w.heap.size + 1, 0, none⟩) (.inr (Nat.le_succ _)) (.int .i64 t.id)).setCell (p := ⟨w.heap.size + 1, 1, none⟩) (.inr (Nat.le_succ _)) (.bool true)).setCell (p := ⟨w.heap.size + 1, 2, none⟩) (.inr (Nat.le_succ _)) (.slice A1 t.ops.length c1)).alloc (.cells #[.int .i64 t.id, .bool true, .slice A1 t.ops.length c1] 41)).drew)
      have V3 := Lib.hid ((((((Upd.refl (One (w.heap.size + 1)) w1).setOne 0 (.int .i64 t.id)).setOne 1 (.bool true)).setOne 2 (.slice A1 t.ops.length c1)).alloc (.cells #[.int .i64 t.id, .bool true, .slice A1 t.ops.length c1] 41)).drew)
      clear bt bz bs b3
      go_wp2
      refine wp_region_noPanic ?_
      refine wp_region_held_drew (S := (fun w' => w'.cell? ⟨w1.heap.size, 0, none⟩ = some (.int .i64 t.id) ∧ w'.cell? ⟨w1.heap.size, 1, none⟩ = some (.bool true) ∧ w'.cell? ⟨w1.heap.size, 2, none⟩ = some (.slice A1 t.ops.length c1))) (by kernel_rfl) ?_ (fun hHeld => ?_)
      · (first | exact ⟨k0, k1, k2⟩ | exact ⟨s0, s1, s2⟩)
      refine wpAnyH_take (i := 0) (oi := { dst := some 15, op := Go.Op.load 41 (Go.Operand.tmp 6), type := 41, pos := "check.go:20", after := #[], guard := none }) (v := ?_) rfl (by kernel_rfl) (by kernel_rfl) (by kernel_rfl) (fun _ _ _ h => h) (Or.inl ⟨by rfl, ?_⟩) (by assumption) ?_
      rotate_left
      · (intro W hSw; (try dsimp only at hSw); go_simp; try (with_reducible rfl))
      try simp only [Act.put, List.setIfInBounds_toArray, List.set_cons_zero, List.set_cons_succ]
      refine wpAnyH_take (i := 1) (oi := { dst := some 16, op := Go.Op.move (Go.Operand.tmp 7), type := 4, pos := "check.go:20", after := #[], guard := none }) (v := ?_) rfl (by kernel_rfl) (by kernel_rfl) (by kernel_rfl) (fun _ _ _ h => h) (Or.inl ⟨by rfl, ?_⟩) (by assumption) ?_
      rotate_left
      · (intro W hSw; (try dsimp only at hSw); go_simp; try (with_reducible rfl))
      try simp only [Act.put, List.setIfInBounds_toArray, List.set_cons_zero, List.set_cons_succ]
      refine wpAnyH_take (i := 2) (oi := { dst := some 17, op := Go.Op.move (Go.Operand.tmp 16), type := 4, pos := "check.go:20", after := #[{ on := 1, ground := Go.Ground.data }], guard := none }) (v := ?_) rfl (by kernel_rfl) (by kernel_rfl) (by kernel_rfl) (fun _ _ _ h => h) (Or.inl ⟨by rfl, ?_⟩) (by assumption) ?_
      rotate_left
      · (intro W hSw; (try dsimp only at hSw); go_simp; try (with_reducible rfl))
      try simp only [Act.put, List.setIfInBounds_toArray, List.set_cons_zero, List.set_cons_succ]
      refine wpAnyH_take (i := 3) (oi := { dst := some 18, op := Go.Op.fieldAddr 41 (Go.Operand.tmp 6) 1, type := 0, pos := "check.go:20", after := #[{ on := 2, ground := Go.Ground.guard }, { on := 6, ground := Go.Ground.gcOnly Go.Departure.lateStores }], guard := some (2, true) }) (v := ?_) rfl (by kernel_rfl) (by kernel_rfl) (by kernel_rfl) (fun _ _ _ h => h) (Or.inl ⟨by rfl, ?_⟩) (by assumption) ?_
      rotate_left
      · (intro W hSw; (try dsimp only at hSw); go_simp; try (with_reducible rfl))
      try simp only [Act.put, List.setIfInBounds_toArray, List.set_cons_zero, List.set_cons_succ]
      refine wpAnyH_take (i := 4) (oi := { dst := some 19, op := Go.Op.load 4 (Go.Operand.tmp 18), type := 4, pos := "check.go:20", after := #[{ on := 3, ground := Go.Ground.data }, { on := 2, ground := Go.Ground.guard }, { on := 6, ground := Go.Ground.gcOnly Go.Departure.lateStores }], guard := some (2, true) }) (v := ?_) rfl (by kernel_rfl) (by kernel_rfl) (by kernel_rfl) (fun _ _ _ h => h) (Or.inl ⟨by rfl, ?_⟩) (by assumption) ?_
      rotate_left
      · (intro W hSw; (try dsimp only at hSw); go_simp; try (with_reducible rfl))
      try simp only [Act.put, List.setIfInBounds_toArray, List.set_cons_zero, List.set_cons_succ]
      refine wpAnyH_take (i := 5) (oi := { dst := some 20, op := Go.Op.pick (Go.Operand.tmp 17) (Go.Operand.tmp 19) (Go.Operand.const (Go.Value.bool false)), type := 4, pos := "check.go:20", after := #[{ on := 2, ground := Go.Ground.data }, { on := 4, ground := Go.Ground.data }, { on := 6, ground := Go.Ground.gcOnly Go.Departure.lateStores }], guard := none }) (v := ?_) rfl (by kernel_rfl) (by kernel_rfl) (by kernel_rfl) (fun _ _ _ h => h) (Or.inl ⟨by rfl, ?_⟩) (by assumption) ?_
      rotate_left
      · (intro W hSw; (try dsimp only at hSw); go_simp; try (with_reducible rfl))
      try simp only [Act.put, List.setIfInBounds_toArray, List.set_cons_zero, List.set_cons_succ]
      refine wpAnyH_ready (rs := [6]) (by kernel_rfl) (by simp) ?_
      refine AllReadyH.cons (o := { dst := none, op := Go.Op.store 41 (Go.Operand.tmp 4) (Go.Operand.tmp 15), type := 0, pos := "check.go:20", after := #[{ on := 0, ground := Go.Ground.data }, { on := 2, ground := Go.Ground.chain }, { on := 0, ground := Go.Ground.phase }, { on := 1, ground := Go.Ground.textOnly Go.Departure.lateStores }, { on := 2, ground := Go.Ground.textOnly Go.Departure.lateStores }, { on := 3, ground := Go.Ground.textOnly Go.Departure.lateStores }, { on := 4, ground := Go.Ground.textOnly Go.Departure.lateStores }, { on := 5, ground := Go.Ground.textOnly Go.Departure.lateStores }], guard := none }) rfl (fun K hK => ?_) AllReadyH.nil
      go_simp
      refine hK.out _ _ ?_ (fun hHeld => ?_)
      · (first | exact ⟨k0, k1, k2⟩ | exact ⟨s0, s1, s2⟩)
      clear hK K
      try simp only [Act.put, List.setIfInBounds_toArray, List.set_cons_zero, List.set_cons_succ]
      refine wpAnyH_take (i := 7) (oi := { dst := some 5, op := Go.Op.assign (Go.Operand.tmp 20), type := 4, pos := "check.go:20", after := #[{ on := 5, ground := Go.Ground.data }, { on := 6, ground := Go.Ground.chain }, { on := 0, ground := Go.Ground.phase }, { on := 1, ground := Go.Ground.phase }, { on := 2, ground := Go.Ground.phase }, { on := 3, ground := Go.Ground.phase }, { on := 4, ground := Go.Ground.phase }, { on := 5, ground := Go.Ground.phase }, { on := 6, ground := Go.Ground.phase }], guard := none }) (v := ?_) rfl (by kernel_rfl) (by kernel_rfl) (by kernel_rfl) (fun _ _ _ h => h) (Or.inl ⟨by rfl, ?_⟩) (by assumption) ?_
      rotate_left
      · (intro W hSw; (try dsimp only at hSw); go_simp; try (with_reducible rfl))
      try simp only [Act.put, List.setIfInBounds_toArray, List.set_cons_zero, List.set_cons_succ]
      refine wpAnyH_done (by kernel_rfl) (NoPanic.normal ?_) _
      clear hHeld k0 k1 k2 s0 s1 s2 z0 z1 z2 f0 f1 f2
      go_wp2
      have r0 := B3.out.cell 0
      have r1 := B3.out.cell 1
      have r2 := B3.out.cell 2
      simp only [List.getElem?_cons_zero, List.getElem?_cons_succ] at r0 r1 r2
      refine bodyPost_ret (v := .tuple #[.agg #[.int .i64 t.id, .bool true, .slice A1 t.ops.length c1], .bool true]) (by simp [results, Try.results181, go_sem, r0, r1, r2]) rfl ?_
      unfold Doned
      have hh3 := Hh1.out
      simp only [World.size_alloc] at hh3
      exact ⟨⟨A1, c1, by rw [Htd.out], hc1, (Recs.upd hh3 V3.out (fun i hi e => by cases e; omega)).weak (fun i _ e => by omega)⟩, U3.out⟩
/-- the transaction of an id, if it is done, is it there -/
theorem doneT_none {txs : List HTx} {i : Int} (h : findT txs i = none) : doneT txs i = none := by unfold doneT; rw [h]
theorem doneT_not {txs : List HTx} {i : Int} {t : HTx} (h : findT txs i = some t) (hd : t.done = false) : doneT txs i = none := by unfold doneT; rw [h]; simp [hd]
theorem doneT_yes {txs : List HTx} {i : Int} {t : HTx} (h : findT txs i = some t) (hd : t.done = true) : doneT txs i = some t := by unfold doneT; rw [h]; simp [hd]
/-- what asking leaves, by its sight: a transaction, and whether it is there and done -/
def Asked (w : World) (o : Option HTx) (e : Ending) (w' : World) : Prop :=
  ∃ (x : Int) (b dn : Bool) (A : Option Addr) (l : List HOp) (c : Nat), e = .returned (.tuple #[.agg #[.int .i64 x, .bool dn, .slice A l.length c], .bool b]) ∧ l.length ≤ c ∧ fewOps l.length ∧ HOps (fun i => w.heap.size ≤ i) w' A l ∧
    (match o with | some t => b = true ∧ x = t.id ∧ l = t.ops | none => b = false) ∧ Upd No w w'
theorem cask (F : Nat → Prop) (w : World) (txs : List HTx) (ords : List HOrd) (A : Option Addr) (c : Nat) (B : Option Addr) (d : Nat) (i : Int) (H : Hist.lies F w ⟨txs, ords, A, c, B, d⟩) :
    Calls Try.prog 181 #[.agg #[.slice A txs.length c, .slice B ords.length d], .int .i64 i] w (Asked w (doneT txs i)) := by
  refine (cdone F w txs ords A c B d i H).mono ?_
  intro e w' h
  unfold Doned at h
  unfold Asked
  cases hf : findT txs i with
  | none =>
    rw [hf] at h
    rw [doneT_none hf]
    exact ⟨0, false, false, none, [], 0, h.1, Nat.le_refl _, by unfold fewOps; simp, fun h => absurd rfl h, rfl, h.2⟩
  | some t =>
    rw [hf] at h
    obtain ⟨⟨A', c', h1, h2, h3⟩, h4⟩ := h
    have hfew := (H.tx t (findT_mem hf)).2.2.1
    cases hd : t.done
    · rw [doneT_not hf hd]
      rw [hd] at h1
      exact ⟨_, _, _, A', t.ops, c', h1, h2, hfew, h3, rfl, h4⟩
    · rw [doneT_yes hf hd]
      rw [hd] at h1
      exact ⟨_, _, _, A', t.ops, c', h1, h2, hfew, h3, ⟨rfl, rfl, rfl⟩, h4⟩
end Go.Proofs.Ytgakhpdclhlmpaa
