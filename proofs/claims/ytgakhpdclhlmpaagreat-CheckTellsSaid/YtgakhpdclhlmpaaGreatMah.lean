/- Looking at a history: reads that may not be. -/
import Derived.Test.YtgakhpdclhlmpaaGreatMag
namespace Go.Proofs.YtgakhpdclhlmpaaGreat
set_option linter.unusedVariables false
open Go.RowKit
def udone (txs : List HTx) (i : Int) : Bool := match findT txs i with | some u => u.done | none => false
def uops (txs : List HTx) (i : Int) : List HOp := match findT txs i with | some u => u.ops | none => []
theorem pfindX (F : Nat → Prop) (w : World) (txs : List HTx) (ords : List HOrd) (A : Option Addr) (c : Nat) (B : Option Addr) (d : Nat) (i : Int) (H : Hist.lies F w ⟨txs, ords, A, c, B, d⟩) :
    Calls Tryz.prog 49 #[.agg #[.slice A txs.length c, .slice B ords.length d], .int .i64 i] w fun e w' =>
    ∃ (x : Int) (A' : Option Addr) (c' : Nat) (b : Bool), e = .returned (.tuple #[.agg #[.int .i64 x, .bool (udone txs i), .slice A' (uops txs i).length c'], .bool b]) ∧ fewOps (uops txs i).length ∧ HOps (fun i => w.heap.size ≤ i) w' A' (uops txs i) ∧ Upd No w w' := by
  unfold udone uops
  cases hf : findT txs i with
  | none =>
    refine (pfind_none F w txs ords A c B d i H hf).mono ?_
    rintro e w' ⟨rfl, hu⟩
    exact ⟨0, none, 0, false, rfl, by unfold fewOps; simp, fun h => absurd rfl h, hu⟩
  | some t =>
    refine (pfind_some F w txs ords A c B d i H hf).mono ?_
    rintro e w' ⟨A', c', rfl, h1, h2, h3⟩
    exact ⟨_, A', c', true, rfl, (H.tx t (findT_mem hf)).2.2.1, h2, h3⟩
section
variable {txs : List HTx} {p : Int} {b : HBad}
theorem bad_none (h : doneT txs b.tx = none) : badB txs p b = false := by unfold badB; rw [h]
theorem bad_neg {t : HTx} (h : doneT txs b.tx = some t) (hp : b.place < 0) : badB txs p b = false := by unfold badB; rw [h]; simp [hp]
theorem bad_past {t : HTx} (h : doneT txs b.tx = some t) (hp : (t.ops.length : Int) ≤ b.place) : badB txs p b = false := by
  unfold badB; rw [h]
  have h1 : ¬ b.place < 0 := by omega
  have h2 : t.ops[b.place.toNat]? = none := List.getElem?_eq_none (by omega)
  simp only [if_neg h1, h2]
theorem bad_at {t : HTx} {o : HOp} {k : Nat} (h : doneT txs b.tx = some t) (hp : b.place = k) (ho : t.ops[k]? = some o) : badB txs p b = (if !o.read || !(verOf o == b.of) || o.tx == 0 || o.tx == t.id then false
    else if p = 2 then !(udone txs o.tx) else if p = 3 then decide (o.nth < (writesN (uops txs o.tx) o.key : Int)) else false) := by
  unfold badB
  rw [h]
  have h1 : ¬ b.place < 0 := by omega
  have h2 : b.place.toNat = k := by omega
  simp only [if_neg h1, h2, ho]
  unfold udone uops
  cases findT txs o.tx <;> rfl
end
theorem oofT (w : World) (k t n : Int) : Calls Tryz.prog 48 #[.agg #[.bool true, .int .i64 k, .int .i64 t, .int .i64 n]] w fun e w' => e = .returned (.agg #[.int .i64 t, .int .i64 k, .int .i64 n]) ∧ Upd No w w' := oof w ⟨true, k, t, n⟩
set_option maxRecDepth 100000 in
set_option maxHeartbeats 8000000 in
theorem cbad (F : Nat → Prop) (w : World) (txs : List HTx) (ords : List HOrd) (A : Option Addr) (c : Nat) (B : Option Addr) (d : Nat) (p : Int) (b : HBad) (H : Hist.lies F w ⟨txs, ords, A, c, B, d⟩) :
    Calls Tryz.prog 18 #[.agg #[.slice A txs.length c, .slice B ords.length d], .int .i64 p, .agg b.cells.toArray] w fun r w' => r = .returned (.bool (badB txs p b)) ∧ Upd No w w' := by
  obtain ⟨bx, bp, ⟨vt, vk, vn⟩⟩ := b
  unfold HBad.cells
  have u0 := ((Upd.refl No w).alloc (.cells #[.slice A txs.length c, .slice B ords.length d] 55)).alloc (.cells #[.int .i64 bx, .int .i64 bp, .int .i64 vt, .int .i64 vk, .int .i64 vn] 31)
  have bR := Lib.hid ((Blk.new w 55 [.slice A txs.length c, .slice B ords.length d]).alloc (.cells #[.int .i64 bx, .int .i64 bp, .int .i64 vt, .int .i64 vk, .int .i64 vn] 31))
  have b1 := Blk.new (w.alloc (.cells #[.slice A txs.length c, .slice B ords.length d] 55)) 31 [.int .i64 bx, .int .i64 bp, .int .i64 vt, .int .i64 vk, .int .i64 vn]
  simp only [World.size_alloc] at b1
  have bM := Lib.hid b1
  have ha := Lib.hid (cask F _ txs ords A c B d bx (H.upd u0 (fun _ _ => id)))
  have qN := ver_neq
  unfold verV at qN
  have HQ := Lib.hid qN
  clear b1 qN
  go_enter Tryz.func18, Tryz.ntmps18
  go_wp2_with fail
  refine (ha.out).mono ?_
  rintro e w1 ⟨x1, q1, dn1, A1, l1, c1, rfl, hc1, hfew1, hh1, hm1, hu1⟩
  have uT1 := hu1.alloc (.cells #[.int .i64 x1, .bool dn1, .slice A1 l1.length c1] 47)
  have bR1 := Lib.hid (bR.out.upd uT1 id)
  have bM1 := Lib.hid (bM.out.upd uT1 id)
  have bT1 := Lib.hid (Blk.new w1 47 [.int .i64 x1, .bool dn1, .slice A1 l1.length c1])
  have hh1' := Lib.hid (HOps.upd hh1 ((Upd.refl No w1).alloc (.cells #[.int .i64 x1, .bool dn1, .slice A1 l1.length c1] 47)) (fun _ _ => id))
  have U1 := Lib.hid (u0.trans uT1)
  have M1 := Lib.hid hm1
  unfold fewOps at hfew1
  have m1 := bM1.out.cell 1
  have m2 := bM1.out.cell 2
  have m3 := bM1.out.cell 3
  have m4 := bM1.out.cell 4
  have r0 := bR1.out.cell 0
  have r1 := bR1.out.cell 1
  have t0 := bT1.out.cell 0
  have t2 := bT1.out.cell 2
  simp only [List.getElem?_cons_zero, List.getElem?_cons_succ] at m1 m2 m3 m4 r0 r1 t0 t2
  clear u0 hu1 uT1 hh1 hm1
  cases hd1 : doneT txs bx with
  | none =>
    have hv := Lib.hid (show badB txs p ⟨bx, bp, ⟨vt, vk, vn⟩⟩ = false from bad_none hd1)
    have hm1 := M1.out
    rw [hd1] at hm1
    subst hm1
    clear hd1
    go_wp2
    go_ret
    exact ⟨by rw [hv.out]; rfl, U1.out⟩
  | some t =>
    have hm1 := M1.out
    rw [hd1] at hm1
    obtain ⟨rfl, rfl, rfl⟩ := hm1
    have HD1 := Lib.hid hd1
    clear hd1 M1
    by_cases hp0 : bp < 0
    · have hv := Lib.hid (show badB txs p ⟨bx, bp, ⟨vt, vk, vn⟩⟩ = false from bad_neg HD1.out hp0)
      go_wp2
      go_ret
      exact ⟨by rw [hv.out]; rfl, U1.out⟩
    · by_cases hpl : (t.ops.length : Int) ≤ bp
      · have hv := Lib.hid (show badB txs p ⟨bx, bp, ⟨vt, vk, vn⟩⟩ = false from bad_past HD1.out hpl)
        go_wp2
        go_ret
        exact ⟨by rw [hv.out]; rfl, U1.out⟩
      · obtain ⟨k, rfl⟩ : ∃ k : Nat, bp = k := ⟨bp.toNat, by omega⟩
        have hlt : k < t.ops.length := by omega
        have hb2 : (k : Int) < (t.ops.length : Int) := by omega
        have hb1 : (0 : Int) ≤ (k : Int) := Int.natCast_nonneg _
        have hb3 : decide ((t.ops.length : Int) ≤ (k : Int)) = false := decide_eq_false hpl
        have hb4 : decide (t.ops.length ≤ k) = false := decide_eq_false (by omega)
        obtain ⟨ad, hAd, y0, y1, y2, y3⟩ := hh1'.out.at_ hlt
        obtain ⟨o, ho⟩ : ∃ o, t.ops[k] = o := ⟨_, rfl⟩
        rw [ho] at y0 y1 y2 y3
        subst hAd
        have hv0 := bad_at (txs := txs) (p := p) (b := ⟨bx, (k : Int), ⟨vt, vk, vn⟩⟩) (k := k) (o := o) HD1.out rfl (by rw [List.getElem?_eq_getElem hlt, ho])
        cases hr : o.read
        · have hv := Lib.hid (show badB txs p ⟨bx, (k : Int), ⟨vt, vk, vn⟩⟩ = false by rw [hv0, hr]; rfl)
          rw [hr] at y0
          clear hv0 hr ho
          have bO := Lib.hid (Blk.new (w1.alloc (.cells #[.int .i64 t.id, .bool dn1, .slice (some ad) t.ops.length c1] 47)) 53 [.bool false, .int .i64 o.key, .int .i64 o.tx, .int .i64 o.nth])
          have uO := (Upd.refl No (w1.alloc (.cells #[.int .i64 t.id, .bool dn1, .slice (some ad) t.ops.length c1] 47))).alloc (.cells #[.bool false, .int .i64 o.key, .int .i64 o.tx, .int .i64 o.nth] 53)
          have bR3 := Lib.hid (bR1.out.upd uO id)
          have bM3 := bM1.out.upd uO id
          have bT3 := bT1.out.upd uO id
          have U3 := Lib.hid (U1.out.trans uO)
          have o0 := bO.out.cell 0
          have o1 := bO.out.cell 1
          have o2 := bO.out.cell 2
          have o3 := bO.out.cell 3
          have n2 := bM3.cell 2
          have n3 := bM3.cell 3
          have n4 := bM3.cell 4
          have s0 := bT3.cell 0
          simp only [List.getElem?_cons_zero, List.getElem?_cons_succ, World.size_alloc] at o0 o1 o2 o3 n2 n3 n4 s0
          clear uO bM3 bT3
          go_wp2
          clear t0 m2 m3 m4
          have t0 := s0
          have m2 := n2
          have m3 := n3
          have m4 := n4
          refine wp_region_noPanic ?_
          refine wp_region_held_drew (S := (fun w' => Upd No ((w1.alloc (.cells #[.int .i64 t.id, .bool dn1, .slice (some ad) t.ops.length c1] 47)).alloc (.cells #[.bool false, .int .i64 o.key, .int .i64 o.tx, .int .i64 o.nth] 53)) w' ∧ w'.cell? ⟨w1.heap.size + 1, 0, none⟩ = some (.bool false) ∧ w'.cell? ⟨w1.heap.size + 1, 1, none⟩ = some (.int .i64 o.key) ∧ w'.cell? ⟨w1.heap.size + 1, 2, none⟩ = some (.int .i64 o.tx) ∧ w'.cell? ⟨w1.heap.size + 1, 3, none⟩ = some (.int .i64 o.nth) ∧ w'.cell? ⟨w1.heap.size, 0, none⟩ = some (.int .i64 t.id) ∧ w'.cell? ⟨w.heap.size + 1, 2, none⟩ = some (.int .i64 vt) ∧ w'.cell? ⟨w.heap.size + 1, 3, none⟩ = some (.int .i64 vk) ∧ w'.cell? ⟨w.heap.size + 1, 4, none⟩ = some (.int .i64 vn))) (by kernel_rfl) ?_ (fun hHeld => ?_)
          · (first | exact ⟨(Upd.refl No _).drew, o0, o1, o2, o3, t0, m2, m3, m4⟩ | exact ⟨hHeld.1.trans hu3, hu3.keepNo hHeld.2.1, hu3.keepNo hHeld.2.2.1, hu3.keepNo hHeld.2.2.2.1, hu3.keepNo hHeld.2.2.2.2.1, hu3.keepNo hHeld.2.2.2.2.2.1, hu3.keepNo hHeld.2.2.2.2.2.2.1, hu3.keepNo hHeld.2.2.2.2.2.2.2.1, hu3.keepNo hHeld.2.2.2.2.2.2.2.2⟩)
          refine wpT 0 ⟨some 40, .fieldAddr 53 (.tmp 9) 0, 0, "check.go:73", #[], none⟩ ?_ (.inl ⟨by rfl, ?_⟩) ?_
          rotate_left
          · (intro W hSw; (try dsimp only at hSw); go_simp; try (with_reducible rfl))
          try simp only [Act.put, List.setIfInBounds_toArray, List.set_cons_zero, List.set_cons_succ]
          refine wpT 1 ⟨some 41, .load 4 (.tmp 40), 4, "check.go:73", #[⟨0, .data⟩], none⟩ ?_ (.inl ⟨by rfl, ?_⟩) ?_
          rotate_left
          · (intro W hSw; (try dsimp only at hSw); go_simp; try (with_reducible rfl))
          try simp only [Act.put, List.setIfInBounds_toArray, List.set_cons_zero, List.set_cons_succ]
          refine wpT 2 ⟨some 42, .unOp .not 4 (.tmp 41), 4, "check.go:73", #[⟨1, .data⟩], none⟩ ?_ (.inl ⟨by rfl, ?_⟩) ?_
          rotate_left
          · (intro W hSw; (try dsimp only at hSw); go_simp; try (with_reducible rfl))
          try simp only [Act.put, List.setIfInBounds_toArray, List.set_cons_zero, List.set_cons_succ]
          refine wpT 3 ⟨some 43, .move (.tmp 42), 4, "check.go:73", #[⟨2, .data⟩], none⟩ ?_ (.inl ⟨by rfl, ?_⟩) ?_
          rotate_left
          · (intro W hSw; (try dsimp only at hSw); go_simp; try (with_reducible rfl))
          try simp only [Act.put, List.setIfInBounds_toArray, List.set_cons_zero, List.set_cons_succ]
          refine wpT 4 ⟨some 44, .load 53 (.tmp 9), 53, "check.go:73", #[⟨3, .guard⟩], some (3, false)⟩ undef (.inr ⟨by rfl, rfl⟩) ?_
          try simp only [Act.put, List.setIfInBounds_toArray, List.set_cons_zero, List.set_cons_succ]
          refine wpT 6 ⟨some 46, .fieldAddr 31 (.tmp 5) 2, 0, "check.go:73", #[⟨3, .guard⟩], some (3, false)⟩ undef (.inr ⟨by rfl, rfl⟩) ?_
          try simp only [Act.put, List.setIfInBounds_toArray, List.set_cons_zero, List.set_cons_succ]
          refine wpT 7 ⟨some 47, .load 29 (.tmp 46), 29, "check.go:73", #[⟨6, .data⟩, ⟨3, .guard⟩], some (3, false)⟩ undef (.inr ⟨by rfl, rfl⟩) ?_
          try simp only [Act.put, List.setIfInBounds_toArray, List.set_cons_zero, List.set_cons_succ]
          refine wpAnyH_ready (rs := [5]) (by kernel_rfl) (by simp) ?_
          refine AllReadyH.cons (o := ⟨some 45, .call { callee := .value (.func 48), args := #[.tmp 44], argTypes := #[53] }, 29, "check.go:73", #[⟨4, .data⟩, ⟨3, .chain⟩, ⟨3, .guard⟩], some (3, false)⟩) rfl (fun K hK => ?_) AllReadyH.nil
          go_simp
          refine hK.out _ _ ?_ (fun hHeld => ?_)
          · exact hHeld
          clear hK K
          try simp only [Act.put, List.setIfInBounds_toArray, List.set_cons_zero, List.set_cons_succ]
          refine wpT 8 ⟨some 48, .binOp .neq 29 (.tmp 45) (.tmp 47) 29, 4, "check.go:73", #[⟨5, .data⟩, ⟨7, .data⟩, ⟨3, .guard⟩], some (3, false)⟩ undef (.inr ⟨by rfl, rfl⟩) ?_
          try simp only [Act.put, List.setIfInBounds_toArray, List.set_cons_zero, List.set_cons_succ]
          refine wpT 9 ⟨some 49, .pick (.tmp 43) (.const (.bool true)) (.tmp 48), 4, "check.go:73", #[⟨3, .data⟩, ⟨8, .data⟩], none⟩ ?_ (.inl ⟨by rfl, ?_⟩) ?_
          rotate_left
          · (intro W hSw; (try dsimp only at hSw); go_simp; try (with_reducible rfl))
          try simp only [Act.put, List.setIfInBounds_toArray, List.set_cons_zero, List.set_cons_succ]
          refine wpT 10 ⟨some 50, .move (.tmp 49), 4, "check.go:73", #[⟨9, .data⟩, ⟨5, .chain⟩], none⟩ ?_ (.inl ⟨by rfl, ?_⟩) ?_
          rotate_left
          · (intro W hSw; (try dsimp only at hSw); go_simp; try (with_reducible rfl))
          try simp only [Act.put, List.setIfInBounds_toArray, List.set_cons_zero, List.set_cons_succ]
          refine wpT 11 ⟨some 51, .fieldAddr 53 (.tmp 9) 2, 0, "check.go:73", #[⟨10, .guard⟩], some (10, false)⟩ undef (.inr ⟨by rfl, rfl⟩) ?_
          try simp only [Act.put, List.setIfInBounds_toArray, List.set_cons_zero, List.set_cons_succ]
          refine wpT 12 ⟨some 52, .load 3 (.tmp 51), 3, "check.go:73", #[⟨11, .data⟩, ⟨10, .guard⟩], some (10, false)⟩ undef (.inr ⟨by rfl, rfl⟩) ?_
          try simp only [Act.put, List.setIfInBounds_toArray, List.set_cons_zero, List.set_cons_succ]
          refine wpT 13 ⟨some 53, .binOp .eql 3 (.tmp 52) (.const (.int .i64 0)) 3, 4, "check.go:73", #[⟨12, .data⟩, ⟨10, .guard⟩], some (10, false)⟩ undef (.inr ⟨by rfl, rfl⟩) ?_
          try simp only [Act.put, List.setIfInBounds_toArray, List.set_cons_zero, List.set_cons_succ]
          refine wpT 14 ⟨some 54, .pick (.tmp 50) (.const (.bool true)) (.tmp 53), 4, "check.go:73", #[⟨10, .data⟩, ⟨13, .data⟩], none⟩ ?_ (.inl ⟨by rfl, ?_⟩) ?_
          rotate_left
          · (intro W hSw; (try dsimp only at hSw); go_simp; try (with_reducible rfl))
          try simp only [Act.put, List.setIfInBounds_toArray, List.set_cons_zero, List.set_cons_succ]
          refine wpT 15 ⟨some 55, .move (.tmp 54), 4, "check.go:73", #[⟨14, .data⟩, ⟨10, .chain⟩], none⟩ ?_ (.inl ⟨by rfl, ?_⟩) ?_
          rotate_left
          · (intro W hSw; (try dsimp only at hSw); go_simp; try (with_reducible rfl))
          try simp only [Act.put, List.setIfInBounds_toArray, List.set_cons_zero, List.set_cons_succ]
          refine wpT 16 ⟨some 56, .fieldAddr 53 (.tmp 9) 2, 0, "check.go:73", #[⟨15, .guard⟩], some (15, false)⟩ undef (.inr ⟨by rfl, rfl⟩) ?_
          try simp only [Act.put, List.setIfInBounds_toArray, List.set_cons_zero, List.set_cons_succ]
          refine wpT 17 ⟨some 57, .load 3 (.tmp 56), 3, "check.go:73", #[⟨16, .data⟩, ⟨15, .guard⟩], some (15, false)⟩ undef (.inr ⟨by rfl, rfl⟩) ?_
          try simp only [Act.put, List.setIfInBounds_toArray, List.set_cons_zero, List.set_cons_succ]
          refine wpT 18 ⟨some 58, .fieldAddr 47 (.tmp 7) 0, 0, "check.go:73", #[⟨15, .guard⟩], some (15, false)⟩ undef (.inr ⟨by rfl, rfl⟩) ?_
          try simp only [Act.put, List.setIfInBounds_toArray, List.set_cons_zero, List.set_cons_succ]
          refine wpT 19 ⟨some 59, .load 3 (.tmp 58), 3, "check.go:73", #[⟨18, .data⟩, ⟨15, .guard⟩], some (15, false)⟩ undef (.inr ⟨by rfl, rfl⟩) ?_
          try simp only [Act.put, List.setIfInBounds_toArray, List.set_cons_zero, List.set_cons_succ]
          refine wpT 20 ⟨some 60, .binOp .eql 3 (.tmp 57) (.tmp 59) 3, 4, "check.go:73", #[⟨17, .data⟩, ⟨19, .data⟩, ⟨15, .guard⟩], some (15, false)⟩ undef (.inr ⟨by rfl, rfl⟩) ?_
          try simp only [Act.put, List.setIfInBounds_toArray, List.set_cons_zero, List.set_cons_succ]
          refine wpT 21 ⟨some 61, .pick (.tmp 55) (.const (.bool true)) (.tmp 60), 4, "check.go:73", #[⟨15, .data⟩, ⟨20, .data⟩], none⟩ ?_ (.inl ⟨by rfl, ?_⟩) ?_
          rotate_left
          · (intro W hSw; (try dsimp only at hSw); go_simp; try (with_reducible rfl))
          try simp only [Act.put, List.setIfInBounds_toArray, List.set_cons_zero, List.set_cons_succ]
          refine wpAnyH_done (by kernel_rfl) (NoPanic.normal ?_) _
          have HU := Lib.hid hHeld.1
          clear hHeld
          go_wp2
          go_ret
          exact ⟨by rw [hv.out]; rfl, U3.out.trans HU.out⟩
        · rw [hr] at y0
          have hvo : verOf o = ⟨o.tx, o.key, o.nth⟩ := by unfold verOf; rw [hr]; rfl
          rw [hr, hvo] at hv0
          have qn := fun w => HQ.out w ⟨o.tx, o.key, o.nth⟩ ⟨vt, vk, vn⟩
          clear hr ho hvo
          cases hne : ((⟨o.tx, o.key, o.nth⟩ : Ver) == ⟨vt, vk, vn⟩)
          · have hneb : ((⟨o.tx, o.key, o.nth⟩ : Ver) != ⟨vt, vk, vn⟩) = true := by unfold bne; rw [hne]; rfl
            have hv := Lib.hid (show badB txs p ⟨bx, (k : Int), ⟨vt, vk, vn⟩⟩ = false by rw [hv0]; simp [hne])
            have qn2 := fun w => (qn w).trans (by rw [hneb])
            clear hv0 hneb hne qn
            have bO := Lib.hid (Blk.new (w1.alloc (.cells #[.int .i64 t.id, .bool dn1, .slice (some ad) t.ops.length c1] 47)) 53 [.bool true, .int .i64 o.key, .int .i64 o.tx, .int .i64 o.nth])
            have uO := (Upd.refl No (w1.alloc (.cells #[.int .i64 t.id, .bool dn1, .slice (some ad) t.ops.length c1] 47))).alloc (.cells #[.bool true, .int .i64 o.key, .int .i64 o.tx, .int .i64 o.nth] 53)
            have bR3 := Lib.hid (bR1.out.upd uO id)
            have bM3 := bM1.out.upd uO id
            have bT3 := bT1.out.upd uO id
            have U3 := Lib.hid (U1.out.trans uO)
            have o0 := bO.out.cell 0
            have o1 := bO.out.cell 1
            have o2 := bO.out.cell 2
            have o3 := bO.out.cell 3
            have n2 := bM3.cell 2
            have n3 := bM3.cell 3
            have n4 := bM3.cell 4
            have s0 := bT3.cell 0
            simp only [List.getElem?_cons_zero, List.getElem?_cons_succ, World.size_alloc] at o0 o1 o2 o3 n2 n3 n4 s0
            clear uO bM3 bT3
            go_wp2
            clear t0 m2 m3 m4
            have t0 := s0
            have m2 := n2
            have m3 := n3
            have m4 := n4
            refine wp_region_noPanic ?_
            refine wp_region_held_drew (S := (fun w' => Upd No ((w1.alloc (.cells #[.int .i64 t.id, .bool dn1, .slice (some ad) t.ops.length c1] 47)).alloc (.cells #[.bool true, .int .i64 o.key, .int .i64 o.tx, .int .i64 o.nth] 53)) w' ∧ w'.cell? ⟨w1.heap.size + 1, 0, none⟩ = some (.bool true) ∧ w'.cell? ⟨w1.heap.size + 1, 1, none⟩ = some (.int .i64 o.key) ∧ w'.cell? ⟨w1.heap.size + 1, 2, none⟩ = some (.int .i64 o.tx) ∧ w'.cell? ⟨w1.heap.size + 1, 3, none⟩ = some (.int .i64 o.nth) ∧ w'.cell? ⟨w1.heap.size, 0, none⟩ = some (.int .i64 t.id) ∧ w'.cell? ⟨w.heap.size + 1, 2, none⟩ = some (.int .i64 vt) ∧ w'.cell? ⟨w.heap.size + 1, 3, none⟩ = some (.int .i64 vk) ∧ w'.cell? ⟨w.heap.size + 1, 4, none⟩ = some (.int .i64 vn))) (by kernel_rfl) ?_ (fun hHeld => ?_)
            · (first | exact ⟨(Upd.refl No _).drew, o0, o1, o2, o3, t0, m2, m3, m4⟩ | exact ⟨hHeld.1.trans hu3, hu3.keepNo hHeld.2.1, hu3.keepNo hHeld.2.2.1, hu3.keepNo hHeld.2.2.2.1, hu3.keepNo hHeld.2.2.2.2.1, hu3.keepNo hHeld.2.2.2.2.2.1, hu3.keepNo hHeld.2.2.2.2.2.2.1, hu3.keepNo hHeld.2.2.2.2.2.2.2.1, hu3.keepNo hHeld.2.2.2.2.2.2.2.2⟩)
            refine wpT 0 ⟨some 40, .fieldAddr 53 (.tmp 9) 0, 0, "check.go:73", #[], none⟩ ?_ (.inl ⟨by rfl, ?_⟩) ?_
            rotate_left
            · (intro W hSw; (try dsimp only at hSw); go_simp; try (with_reducible rfl))
            try simp only [Act.put, List.setIfInBounds_toArray, List.set_cons_zero, List.set_cons_succ]
            refine wpT 1 ⟨some 41, .load 4 (.tmp 40), 4, "check.go:73", #[⟨0, .data⟩], none⟩ ?_ (.inl ⟨by rfl, ?_⟩) ?_
            rotate_left
            · (intro W hSw; (try dsimp only at hSw); go_simp; try (with_reducible rfl))
            try simp only [Act.put, List.setIfInBounds_toArray, List.set_cons_zero, List.set_cons_succ]
            refine wpT 2 ⟨some 42, .unOp .not 4 (.tmp 41), 4, "check.go:73", #[⟨1, .data⟩], none⟩ ?_ (.inl ⟨by rfl, ?_⟩) ?_
            rotate_left
            · (intro W hSw; (try dsimp only at hSw); go_simp; try (with_reducible rfl))
            try simp only [Act.put, List.setIfInBounds_toArray, List.set_cons_zero, List.set_cons_succ]
            refine wpT 3 ⟨some 43, .move (.tmp 42), 4, "check.go:73", #[⟨2, .data⟩], none⟩ ?_ (.inl ⟨by rfl, ?_⟩) ?_
            rotate_left
            · (intro W hSw; (try dsimp only at hSw); go_simp; try (with_reducible rfl))
            try simp only [Act.put, List.setIfInBounds_toArray, List.set_cons_zero, List.set_cons_succ]
            refine wpT 4 ⟨some 44, .load 53 (.tmp 9), 53, "check.go:73", #[⟨3, .guard⟩], some (3, false)⟩ ?_ (.inl ⟨by rfl, ?_⟩) ?_
            rotate_left
            · (intro W hSw; (try dsimp only at hSw); go_simp; try (with_reducible rfl))
            try simp only [Act.put, List.setIfInBounds_toArray, List.set_cons_zero, List.set_cons_succ]
            refine wpT 6 ⟨some 46, .fieldAddr 31 (.tmp 5) 2, 0, "check.go:73", #[⟨3, .guard⟩], some (3, false)⟩ ?_ (.inl ⟨by rfl, ?_⟩) ?_
            rotate_left
            · (intro W hSw; (try dsimp only at hSw); go_simp; try (with_reducible rfl))
            try simp only [Act.put, List.setIfInBounds_toArray, List.set_cons_zero, List.set_cons_succ]
            refine wpT 7 ⟨some 47, .load 29 (.tmp 46), 29, "check.go:73", #[⟨6, .data⟩, ⟨3, .guard⟩], some (3, false)⟩ ?_ (.inl ⟨by rfl, ?_⟩) ?_
            rotate_left
            · (intro W hSw; (try dsimp only at hSw); go_simp; try (with_reducible rfl))
            try simp only [Act.put, List.setIfInBounds_toArray, List.set_cons_zero, List.set_cons_succ]
            refine wpAnyH_ready (rs := [5]) (by kernel_rfl) (by simp) ?_
            refine AllReadyH.cons (o := ⟨some 45, .call { callee := .value (.func 48), args := #[.tmp 44], argTypes := #[53] }, 29, "check.go:73", #[⟨4, .data⟩, ⟨3, .chain⟩, ⟨3, .guard⟩], some (3, false)⟩) rfl (fun K hK => ?_) AllReadyH.nil
            go_simp
            (first
    | (go_at_call 48; refine (oofT _ o.key o.tx o.nth).mono ?_; rintro e w3 ⟨rfl, hu3⟩))
            try (go_wp2_with fail)
            refine hK.out _ _ ?_ (fun hHeld => ?_)
            · (first | exact ⟨(Upd.refl No _).drew, o0, o1, o2, o3, t0, m2, m3, m4⟩ | exact ⟨hHeld.1.trans hu3, hu3.keepNo hHeld.2.1, hu3.keepNo hHeld.2.2.1, hu3.keepNo hHeld.2.2.2.1, hu3.keepNo hHeld.2.2.2.2.1, hu3.keepNo hHeld.2.2.2.2.2.1, hu3.keepNo hHeld.2.2.2.2.2.2.1, hu3.keepNo hHeld.2.2.2.2.2.2.2.1, hu3.keepNo hHeld.2.2.2.2.2.2.2.2⟩)
            clear hK K
            try simp only [Act.put, List.setIfInBounds_toArray, List.set_cons_zero, List.set_cons_succ]
            refine wpT 8 ⟨some 48, .binOp .neq 29 (.tmp 45) (.tmp 47) 29, 4, "check.go:73", #[⟨5, .data⟩, ⟨7, .data⟩, ⟨3, .guard⟩], some (3, false)⟩ ?_ (.inl ⟨by rfl, ?_⟩) ?_
            rotate_left
            · (intro W hSw; (try dsimp only at hSw); go_simp; try (with_reducible rfl))
            try simp only [Act.put, List.setIfInBounds_toArray, List.set_cons_zero, List.set_cons_succ]
            refine wpT 9 ⟨some 49, .pick (.tmp 43) (.const (.bool true)) (.tmp 48), 4, "check.go:73", #[⟨3, .data⟩, ⟨8, .data⟩], none⟩ ?_ (.inl ⟨by rfl, ?_⟩) ?_
            rotate_left
            · (intro W hSw; (try dsimp only at hSw); go_simp; try (with_reducible rfl))
            try simp only [Act.put, List.setIfInBounds_toArray, List.set_cons_zero, List.set_cons_succ]
            refine wpT 10 ⟨some 50, .move (.tmp 49), 4, "check.go:73", #[⟨9, .data⟩, ⟨5, .chain⟩], none⟩ ?_ (.inl ⟨by rfl, ?_⟩) ?_
            rotate_left
            · (intro W hSw; (try dsimp only at hSw); go_simp; try (with_reducible rfl))
            try simp only [Act.put, List.setIfInBounds_toArray, List.set_cons_zero, List.set_cons_succ]
            refine wpT 11 ⟨some 51, .fieldAddr 53 (.tmp 9) 2, 0, "check.go:73", #[⟨10, .guard⟩], some (10, false)⟩ undef (.inr ⟨by rfl, rfl⟩) ?_
            try simp only [Act.put, List.setIfInBounds_toArray, List.set_cons_zero, List.set_cons_succ]
            refine wpT 12 ⟨some 52, .load 3 (.tmp 51), 3, "check.go:73", #[⟨11, .data⟩, ⟨10, .guard⟩], some (10, false)⟩ undef (.inr ⟨by rfl, rfl⟩) ?_
            try simp only [Act.put, List.setIfInBounds_toArray, List.set_cons_zero, List.set_cons_succ]
            refine wpT 13 ⟨some 53, .binOp .eql 3 (.tmp 52) (.const (.int .i64 0)) 3, 4, "check.go:73", #[⟨12, .data⟩, ⟨10, .guard⟩], some (10, false)⟩ undef (.inr ⟨by rfl, rfl⟩) ?_
            try simp only [Act.put, List.setIfInBounds_toArray, List.set_cons_zero, List.set_cons_succ]
            refine wpT 14 ⟨some 54, .pick (.tmp 50) (.const (.bool true)) (.tmp 53), 4, "check.go:73", #[⟨10, .data⟩, ⟨13, .data⟩], none⟩ ?_ (.inl ⟨by rfl, ?_⟩) ?_
            rotate_left
            · (intro W hSw; (try dsimp only at hSw); go_simp; try (with_reducible rfl))
            try simp only [Act.put, List.setIfInBounds_toArray, List.set_cons_zero, List.set_cons_succ]
            refine wpT 15 ⟨some 55, .move (.tmp 54), 4, "check.go:73", #[⟨14, .data⟩, ⟨10, .chain⟩], none⟩ ?_ (.inl ⟨by rfl, ?_⟩) ?_
            rotate_left
            · (intro W hSw; (try dsimp only at hSw); go_simp; try (with_reducible rfl))
            try simp only [Act.put, List.setIfInBounds_toArray, List.set_cons_zero, List.set_cons_succ]
            refine wpT 16 ⟨some 56, .fieldAddr 53 (.tmp 9) 2, 0, "check.go:73", #[⟨15, .guard⟩], some (15, false)⟩ undef (.inr ⟨by rfl, rfl⟩) ?_
            try simp only [Act.put, List.setIfInBounds_toArray, List.set_cons_zero, List.set_cons_succ]
            refine wpT 17 ⟨some 57, .load 3 (.tmp 56), 3, "check.go:73", #[⟨16, .data⟩, ⟨15, .guard⟩], some (15, false)⟩ undef (.inr ⟨by rfl, rfl⟩) ?_
            try simp only [Act.put, List.setIfInBounds_toArray, List.set_cons_zero, List.set_cons_succ]
            refine wpT 18 ⟨some 58, .fieldAddr 47 (.tmp 7) 0, 0, "check.go:73", #[⟨15, .guard⟩], some (15, false)⟩ undef (.inr ⟨by rfl, rfl⟩) ?_
            try simp only [Act.put, List.setIfInBounds_toArray, List.set_cons_zero, List.set_cons_succ]
            refine wpT 19 ⟨some 59, .load 3 (.tmp 58), 3, "check.go:73", #[⟨18, .data⟩, ⟨15, .guard⟩], some (15, false)⟩ undef (.inr ⟨by rfl, rfl⟩) ?_
            try simp only [Act.put, List.setIfInBounds_toArray, List.set_cons_zero, List.set_cons_succ]
            refine wpT 20 ⟨some 60, .binOp .eql 3 (.tmp 57) (.tmp 59) 3, 4, "check.go:73", #[⟨17, .data⟩, ⟨19, .data⟩, ⟨15, .guard⟩], some (15, false)⟩ undef (.inr ⟨by rfl, rfl⟩) ?_
            try simp only [Act.put, List.setIfInBounds_toArray, List.set_cons_zero, List.set_cons_succ]
            refine wpT 21 ⟨some 61, .pick (.tmp 55) (.const (.bool true)) (.tmp 60), 4, "check.go:73", #[⟨15, .data⟩, ⟨20, .data⟩], none⟩ ?_ (.inl ⟨by rfl, ?_⟩) ?_
            rotate_left
            · (intro W hSw; (try dsimp only at hSw); go_simp; try (with_reducible rfl))
            try simp only [Act.put, List.setIfInBounds_toArray, List.set_cons_zero, List.set_cons_succ]
            refine wpAnyH_done (by kernel_rfl) (NoPanic.normal ?_) _
            have HU := Lib.hid hHeld.1
            clear hHeld
            go_wp2
            go_ret
            exact ⟨by rw [hv.out]; rfl, U3.out.trans HU.out⟩
          · have hneb : ((⟨o.tx, o.key, o.nth⟩ : Ver) != ⟨vt, vk, vn⟩) = false := by unfold bne; rw [hne]; rfl
            have qn2 := fun w => (qn w).trans (by rw [hneb])
            rw [show ((⟨o.tx, o.key, o.nth⟩ : Ver) == (HBad.mk bx (k : Int) ⟨vt, vk, vn⟩).of) = true from hne] at hv0
            clear hneb hne qn
            cases h0 : o.tx == 0
            · cases hti : o.tx == t.id
              · rw [h0, hti] at hv0
                simp only [Bool.not_true, Bool.or_self, Bool.or_false, if_false, Bool.false_eq_true] at hv0
                have HV := Lib.hid hv0
                clear hv0
                have bO := Lib.hid (Blk.new (w1.alloc (.cells #[.int .i64 t.id, .bool dn1, .slice (some ad) t.ops.length c1] 47)) 53 [.bool true, .int .i64 o.key, .int .i64 o.tx, .int .i64 o.nth])
                have uO := (Upd.refl No (w1.alloc (.cells #[.int .i64 t.id, .bool dn1, .slice (some ad) t.ops.length c1] 47))).alloc (.cells #[.bool true, .int .i64 o.key, .int .i64 o.tx, .int .i64 o.nth] 53)
                have bR3 := Lib.hid (bR1.out.upd uO id)
                have bM3 := bM1.out.upd uO id
                have bT3 := bT1.out.upd uO id
                have U3 := Lib.hid (U1.out.trans uO)
                have o0 := bO.out.cell 0
                have o1 := bO.out.cell 1
                have o2 := bO.out.cell 2
                have o3 := bO.out.cell 3
                have n2 := bM3.cell 2
                have n3 := bM3.cell 3
                have n4 := bM3.cell 4
                have s0 := bT3.cell 0
                simp only [List.getElem?_cons_zero, List.getElem?_cons_succ, World.size_alloc] at o0 o1 o2 o3 n2 n3 n4 s0
                clear uO bM3 bT3
                go_wp2
                clear t0 m2 m3 m4
                have t0 := s0
                have m2 := n2
                have m3 := n3
                have m4 := n4
                refine wp_region_noPanic ?_
                refine wp_region_held_drew (S := (fun w' => Upd No ((w1.alloc (.cells #[.int .i64 t.id, .bool dn1, .slice (some ad) t.ops.length c1] 47)).alloc (.cells #[.bool true, .int .i64 o.key, .int .i64 o.tx, .int .i64 o.nth] 53)) w' ∧ w'.cell? ⟨w1.heap.size + 1, 0, none⟩ = some (.bool true) ∧ w'.cell? ⟨w1.heap.size + 1, 1, none⟩ = some (.int .i64 o.key) ∧ w'.cell? ⟨w1.heap.size + 1, 2, none⟩ = some (.int .i64 o.tx) ∧ w'.cell? ⟨w1.heap.size + 1, 3, none⟩ = some (.int .i64 o.nth) ∧ w'.cell? ⟨w1.heap.size, 0, none⟩ = some (.int .i64 t.id) ∧ w'.cell? ⟨w.heap.size + 1, 2, none⟩ = some (.int .i64 vt) ∧ w'.cell? ⟨w.heap.size + 1, 3, none⟩ = some (.int .i64 vk) ∧ w'.cell? ⟨w.heap.size + 1, 4, none⟩ = some (.int .i64 vn))) (by kernel_rfl) ?_ (fun hHeld => ?_)
                · (first | exact ⟨(Upd.refl No _).drew, o0, o1, o2, o3, t0, m2, m3, m4⟩ | exact ⟨hHeld.1.trans hu3, hu3.keepNo hHeld.2.1, hu3.keepNo hHeld.2.2.1, hu3.keepNo hHeld.2.2.2.1, hu3.keepNo hHeld.2.2.2.2.1, hu3.keepNo hHeld.2.2.2.2.2.1, hu3.keepNo hHeld.2.2.2.2.2.2.1, hu3.keepNo hHeld.2.2.2.2.2.2.2.1, hu3.keepNo hHeld.2.2.2.2.2.2.2.2⟩)
                refine wpT 0 ⟨some 40, .fieldAddr 53 (.tmp 9) 0, 0, "check.go:73", #[], none⟩ ?_ (.inl ⟨by rfl, ?_⟩) ?_
                rotate_left
                · (intro W hSw; (try dsimp only at hSw); go_simp; try (with_reducible rfl))
                try simp only [Act.put, List.setIfInBounds_toArray, List.set_cons_zero, List.set_cons_succ]
                refine wpT 1 ⟨some 41, .load 4 (.tmp 40), 4, "check.go:73", #[⟨0, .data⟩], none⟩ ?_ (.inl ⟨by rfl, ?_⟩) ?_
                rotate_left
                · (intro W hSw; (try dsimp only at hSw); go_simp; try (with_reducible rfl))
                try simp only [Act.put, List.setIfInBounds_toArray, List.set_cons_zero, List.set_cons_succ]
                refine wpT 2 ⟨some 42, .unOp .not 4 (.tmp 41), 4, "check.go:73", #[⟨1, .data⟩], none⟩ ?_ (.inl ⟨by rfl, ?_⟩) ?_
                rotate_left
                · (intro W hSw; (try dsimp only at hSw); go_simp; try (with_reducible rfl))
                try simp only [Act.put, List.setIfInBounds_toArray, List.set_cons_zero, List.set_cons_succ]
                refine wpT 3 ⟨some 43, .move (.tmp 42), 4, "check.go:73", #[⟨2, .data⟩], none⟩ ?_ (.inl ⟨by rfl, ?_⟩) ?_
                rotate_left
                · (intro W hSw; (try dsimp only at hSw); go_simp; try (with_reducible rfl))
                try simp only [Act.put, List.setIfInBounds_toArray, List.set_cons_zero, List.set_cons_succ]
                refine wpT 4 ⟨some 44, .load 53 (.tmp 9), 53, "check.go:73", #[⟨3, .guard⟩], some (3, false)⟩ ?_ (.inl ⟨by rfl, ?_⟩) ?_
                rotate_left
                · (intro W hSw; (try dsimp only at hSw); go_simp; try (with_reducible rfl))
                try simp only [Act.put, List.setIfInBounds_toArray, List.set_cons_zero, List.set_cons_succ]
                refine wpT 6 ⟨some 46, .fieldAddr 31 (.tmp 5) 2, 0, "check.go:73", #[⟨3, .guard⟩], some (3, false)⟩ ?_ (.inl ⟨by rfl, ?_⟩) ?_
                rotate_left
                · (intro W hSw; (try dsimp only at hSw); go_simp; try (with_reducible rfl))
                try simp only [Act.put, List.setIfInBounds_toArray, List.set_cons_zero, List.set_cons_succ]
                refine wpT 7 ⟨some 47, .load 29 (.tmp 46), 29, "check.go:73", #[⟨6, .data⟩, ⟨3, .guard⟩], some (3, false)⟩ ?_ (.inl ⟨by rfl, ?_⟩) ?_
                rotate_left
                · (intro W hSw; (try dsimp only at hSw); go_simp; try (with_reducible rfl))
                try simp only [Act.put, List.setIfInBounds_toArray, List.set_cons_zero, List.set_cons_succ]
                refine wpAnyH_ready (rs := [5]) (by kernel_rfl) (by simp) ?_
                refine AllReadyH.cons (o := ⟨some 45, .call { callee := .value (.func 48), args := #[.tmp 44], argTypes := #[53] }, 29, "check.go:73", #[⟨4, .data⟩, ⟨3, .chain⟩, ⟨3, .guard⟩], some (3, false)⟩) rfl (fun K hK => ?_) AllReadyH.nil
                go_simp
                (first
    | (go_at_call 48; refine (oofT _ o.key o.tx o.nth).mono ?_; rintro e w3 ⟨rfl, hu3⟩))
                try (go_wp2_with fail)
                refine hK.out _ _ ?_ (fun hHeld => ?_)
                · (first | exact ⟨(Upd.refl No _).drew, o0, o1, o2, o3, t0, m2, m3, m4⟩ | exact ⟨hHeld.1.trans hu3, hu3.keepNo hHeld.2.1, hu3.keepNo hHeld.2.2.1, hu3.keepNo hHeld.2.2.2.1, hu3.keepNo hHeld.2.2.2.2.1, hu3.keepNo hHeld.2.2.2.2.2.1, hu3.keepNo hHeld.2.2.2.2.2.2.1, hu3.keepNo hHeld.2.2.2.2.2.2.2.1, hu3.keepNo hHeld.2.2.2.2.2.2.2.2⟩)
                clear hK K
                try simp only [Act.put, List.setIfInBounds_toArray, List.set_cons_zero, List.set_cons_succ]
                refine wpT 8 ⟨some 48, .binOp .neq 29 (.tmp 45) (.tmp 47) 29, 4, "check.go:73", #[⟨5, .data⟩, ⟨7, .data⟩, ⟨3, .guard⟩], some (3, false)⟩ ?_ (.inl ⟨by rfl, ?_⟩) ?_
                rotate_left
                · (intro W hSw; (try dsimp only at hSw); go_simp; try (with_reducible rfl))
                try simp only [Act.put, List.setIfInBounds_toArray, List.set_cons_zero, List.set_cons_succ]
                refine wpT 9 ⟨some 49, .pick (.tmp 43) (.const (.bool true)) (.tmp 48), 4, "check.go:73", #[⟨3, .data⟩, ⟨8, .data⟩], none⟩ ?_ (.inl ⟨by rfl, ?_⟩) ?_
                rotate_left
                · (intro W hSw; (try dsimp only at hSw); go_simp; try (with_reducible rfl))
                try simp only [Act.put, List.setIfInBounds_toArray, List.set_cons_zero, List.set_cons_succ]
                refine wpT 10 ⟨some 50, .move (.tmp 49), 4, "check.go:73", #[⟨9, .data⟩, ⟨5, .chain⟩], none⟩ ?_ (.inl ⟨by rfl, ?_⟩) ?_
                rotate_left
                · (intro W hSw; (try dsimp only at hSw); go_simp; try (with_reducible rfl))
                try simp only [Act.put, List.setIfInBounds_toArray, List.set_cons_zero, List.set_cons_succ]
                refine wpT 11 ⟨some 51, .fieldAddr 53 (.tmp 9) 2, 0, "check.go:73", #[⟨10, .guard⟩], some (10, false)⟩ ?_ (.inl ⟨by rfl, ?_⟩) ?_
                rotate_left
                · (intro W hSw; (try dsimp only at hSw); go_simp; try (with_reducible rfl))
                try simp only [Act.put, List.setIfInBounds_toArray, List.set_cons_zero, List.set_cons_succ]
                refine wpT 12 ⟨some 52, .load 3 (.tmp 51), 3, "check.go:73", #[⟨11, .data⟩, ⟨10, .guard⟩], some (10, false)⟩ ?_ (.inl ⟨by rfl, ?_⟩) ?_
                rotate_left
                · (intro W hSw; (try dsimp only at hSw); go_simp; try (with_reducible rfl))
                try simp only [Act.put, List.setIfInBounds_toArray, List.set_cons_zero, List.set_cons_succ]
                refine wpT 13 ⟨some 53, .binOp .eql 3 (.tmp 52) (.const (.int .i64 0)) 3, 4, "check.go:73", #[⟨12, .data⟩, ⟨10, .guard⟩], some (10, false)⟩ ?_ (.inl ⟨by rfl, ?_⟩) ?_
                rotate_left
                · (intro W hSw; (try dsimp only at hSw); go_simp; try (with_reducible rfl))
                try simp only [Act.put, List.setIfInBounds_toArray, List.set_cons_zero, List.set_cons_succ]
                refine wpT 14 ⟨some 54, .pick (.tmp 50) (.const (.bool true)) (.tmp 53), 4, "check.go:73", #[⟨10, .data⟩, ⟨13, .data⟩], none⟩ ?_ (.inl ⟨by rfl, ?_⟩) ?_
                rotate_left
                · (intro W hSw; (try dsimp only at hSw); go_simp; try (with_reducible rfl))
                try simp only [Act.put, List.setIfInBounds_toArray, List.set_cons_zero, List.set_cons_succ]
                refine wpT 15 ⟨some 55, .move (.tmp 54), 4, "check.go:73", #[⟨14, .data⟩, ⟨10, .chain⟩], none⟩ ?_ (.inl ⟨by rfl, ?_⟩) ?_
                rotate_left
                · (intro W hSw; (try dsimp only at hSw); go_simp; try (with_reducible rfl))
                try simp only [Act.put, List.setIfInBounds_toArray, List.set_cons_zero, List.set_cons_succ]
                refine wpT 16 ⟨some 56, .fieldAddr 53 (.tmp 9) 2, 0, "check.go:73", #[⟨15, .guard⟩], some (15, false)⟩ ?_ (.inl ⟨by rfl, ?_⟩) ?_
                rotate_left
                · (intro W hSw; (try dsimp only at hSw); go_simp; try (with_reducible rfl))
                try simp only [Act.put, List.setIfInBounds_toArray, List.set_cons_zero, List.set_cons_succ]
                refine wpT 17 ⟨some 57, .load 3 (.tmp 56), 3, "check.go:73", #[⟨16, .data⟩, ⟨15, .guard⟩], some (15, false)⟩ ?_ (.inl ⟨by rfl, ?_⟩) ?_
                rotate_left
                · (intro W hSw; (try dsimp only at hSw); go_simp; try (with_reducible rfl))
                try simp only [Act.put, List.setIfInBounds_toArray, List.set_cons_zero, List.set_cons_succ]
                refine wpT 18 ⟨some 58, .fieldAddr 47 (.tmp 7) 0, 0, "check.go:73", #[⟨15, .guard⟩], some (15, false)⟩ ?_ (.inl ⟨by rfl, ?_⟩) ?_
                rotate_left
                · (intro W hSw; (try dsimp only at hSw); go_simp; try (with_reducible rfl))
                try simp only [Act.put, List.setIfInBounds_toArray, List.set_cons_zero, List.set_cons_succ]
                refine wpT 19 ⟨some 59, .load 3 (.tmp 58), 3, "check.go:73", #[⟨18, .data⟩, ⟨15, .guard⟩], some (15, false)⟩ ?_ (.inl ⟨by rfl, ?_⟩) ?_
                rotate_left
                · (intro W hSw; (try dsimp only at hSw); go_simp; try (with_reducible rfl))
                try simp only [Act.put, List.setIfInBounds_toArray, List.set_cons_zero, List.set_cons_succ]
                refine wpT 20 ⟨some 60, .binOp .eql 3 (.tmp 57) (.tmp 59) 3, 4, "check.go:73", #[⟨17, .data⟩, ⟨19, .data⟩, ⟨15, .guard⟩], some (15, false)⟩ ?_ (.inl ⟨by rfl, ?_⟩) ?_
                rotate_left
                · (intro W hSw; (try dsimp only at hSw); go_simp; try (with_reducible rfl))
                try simp only [Act.put, List.setIfInBounds_toArray, List.set_cons_zero, List.set_cons_succ]
                refine wpT 21 ⟨some 61, .pick (.tmp 55) (.const (.bool true)) (.tmp 60), 4, "check.go:73", #[⟨15, .data⟩, ⟨20, .data⟩], none⟩ ?_ (.inl ⟨by rfl, ?_⟩) ?_
                rotate_left
                · (intro W hSw; (try dsimp only at hSw); go_simp; try (with_reducible rfl))
                try simp only [Act.put, List.setIfInBounds_toArray, List.set_cons_zero, List.set_cons_succ]
                refine wpAnyH_done (by kernel_rfl) (NoPanic.normal ?_) _
                have HU := Lib.hid hHeld.1
                clear hHeld
                have bO3 := Lib.hid (bO.out.upd HU.out id)
                have bR4 := bR3.out.upd HU.out id
                clear o0 o1 o2 o3 n2 n3 n4 s0 t0 m2 m3 m4 r0 r1 t2 m1 qn2
                have o2 := bO3.out.cell 2
                have r0 := bR4.cell 0
                have r1 := bR4.cell 1
                simp only [List.getElem?_cons_zero, List.getElem?_cons_succ, World.size_alloc] at o2 r0 r1
                have HF := Lib.hid (pfindX F _ txs ords A c B d o.tx (H.upd (U3.out.trans HU.out) (fun _ _ => id)))
                clear bR4
                go_wp2_with fail
                refine (HF.out).mono ?_
                rintro e w4 ⟨x4, A4, c4, b4, rfl, hfew4, hh4, hu4⟩
                obtain ⟨ud, hud⟩ : ∃ ud, udone txs o.tx = ud := ⟨_, rfl⟩
                obtain ⟨ul, hul⟩ : ∃ ul, uops txs o.tx = ul := ⟨_, rfl⟩
                rw [hul] at hfew4 hh4
                rw [hud, hul]
                have hv1 := HV.out
                rw [hud, hul] at hv1
                have bU := Blk.new w4 47 [.int .i64 x4, .bool ud, .slice A4 ul.length c4]
                have uU := hu4.alloc (.cells #[.int .i64 x4, .bool ud, .slice A4 ul.length c4] 47)
                have hh5 := Lib.hid (HOps.upd hh4 ((Upd.refl No w4).alloc (.cells #[.int .i64 x4, .bool ud, .slice A4 ul.length c4] 47)).drew (fun _ _ => id))
                have bO4 := bO3.out.upd uU id
                have U5 := Lib.hid ((U3.out.trans HU.out).trans uU)
                have Hfew := Lib.hid hfew4
                clear o2 r0 r1
                have o1 := bO4.cell 1
                have o3 := bO4.cell 3
                have k0 := bU.cell 0
                have k1 := bU.cell 1
                have k2 := bU.cell 2
                simp only [List.getElem?_cons_zero, List.getElem?_cons_succ, World.size_alloc] at o1 o3 k0 k1 k2
                clear hud hul hh4 hfew4 bU uU bO4 hu4
                by_cases hp2 : p = 2
                · rw [if_pos hp2] at hv1
                  have hv := Lib.hid hv1
                  have hpb : (p == 2) = true := by simpa using hp2
                  clear hp2 hv1
                  go_wp2
                  go_ret
                  exact ⟨by rw [hv.out]; rfl, U5.out⟩
                · rw [if_neg hp2] at hv1
                  have hpb : (p == 2) = false := by simpa using hp2
                  clear hp2
                  by_cases hp3 : p = 3
                  · rw [if_pos hp3] at hv1
                    have hv := Lib.hid hv1
                    have hpb3 : (p == 3) = true := by simpa using hp3
                    clear hp3 hv1
                    go_wp2
                    refine wp_region_noPanic ?_
                    refine wp_region_held_drew (S := (fun w' => Upd No w w' ∧ w'.cell? ⟨w1.heap.size + 1, 1, none⟩ = some (.int .i64 o.key) ∧ w'.cell? ⟨w1.heap.size + 1, 3, none⟩ = some (.int .i64 o.nth) ∧ w'.cell? ⟨w4.heap.size, 0, none⟩ = some (.int .i64 x4) ∧ w'.cell? ⟨w4.heap.size, 1, none⟩ = some (.bool ud) ∧ w'.cell? ⟨w4.heap.size, 2, none⟩ = some (.slice A4 ul.length c4))) (by kernel_rfl) ?_ (fun hHeld => ?_)
                    · (first | exact ⟨U5.out.drew, o1, o3, k0, k1, k2⟩ | exact ⟨hHeld.1.trans hu5, hu5.keepNo hHeld.2.1, hu5.keepNo hHeld.2.2.1, hu5.keepNo hHeld.2.2.2.1, hu5.keepNo hHeld.2.2.2.2.1, hu5.keepNo hHeld.2.2.2.2.2⟩)
                    refine wpT 0 ⟨some 78, .fieldAddr 53 (.tmp 9) 3, 0, "check.go:81", #[], none⟩ ?_ (.inl ⟨by rfl, ?_⟩) ?_
                    rotate_left
                    · (intro W hSw; (try dsimp only at hSw); go_simp; try (with_reducible rfl))
                    try simp only [Act.put, List.setIfInBounds_toArray, List.set_cons_zero, List.set_cons_succ]
                    refine wpT 1 ⟨some 79, .load 3 (.tmp 78), 3, "check.go:81", #[⟨0, .data⟩], none⟩ ?_ (.inl ⟨by rfl, ?_⟩) ?_
                    rotate_left
                    · (intro W hSw; (try dsimp only at hSw); go_simp; try (with_reducible rfl))
                    try simp only [Act.put, List.setIfInBounds_toArray, List.set_cons_zero, List.set_cons_succ]
                    refine wpT 2 ⟨some 80, .load 47 (.tmp 10), 47, "check.go:81", #[], none⟩ ?_ (.inl ⟨by rfl, ?_⟩) ?_
                    rotate_left
                    · (intro W hSw; (try dsimp only at hSw); go_simp; try (with_reducible rfl))
                    try simp only [Act.put, List.setIfInBounds_toArray, List.set_cons_zero, List.set_cons_succ]
                    refine wpT 3 ⟨some 81, .fieldAddr 53 (.tmp 9) 1, 0, "check.go:81", #[], none⟩ ?_ (.inl ⟨by rfl, ?_⟩) ?_
                    rotate_left
                    · (intro W hSw; (try dsimp only at hSw); go_simp; try (with_reducible rfl))
                    try simp only [Act.put, List.setIfInBounds_toArray, List.set_cons_zero, List.set_cons_succ]
                    refine wpT 4 ⟨some 82, .load 3 (.tmp 81), 3, "check.go:81", #[⟨3, .data⟩], none⟩ ?_ (.inl ⟨by rfl, ?_⟩) ?_
                    rotate_left
                    · (intro W hSw; (try dsimp only at hSw); go_simp; try (with_reducible rfl))
                    try simp only [Act.put, List.setIfInBounds_toArray, List.set_cons_zero, List.set_cons_succ]
                    refine wpAnyH_ready (rs := [5]) (by kernel_rfl) (by simp) ?_
                    refine AllReadyH.cons (o := ⟨some 83, .call { callee := .value (.func 50), args := #[.tmp 80, .tmp 82], argTypes := #[47, 3] }, 3, "check.go:81", #[⟨2, .data⟩, ⟨4, .data⟩], none⟩) rfl (fun K hK => ?_) AllReadyH.nil
                    go_simp
                    (first
    | (go_at_call 50; refine (pwrites _ _ x4 ud A4 c4 ul o.key hh5.out Hfew.out).mono ?_; rintro e w5 ⟨rfl, hu5⟩))
                    try (go_wp2_with fail)
                    refine hK.out _ _ ?_ (fun hHeld => ?_)
                    · (first | exact ⟨U5.out.drew, o1, o3, k0, k1, k2⟩ | exact ⟨hHeld.1.trans hu5, hu5.keepNo hHeld.2.1, hu5.keepNo hHeld.2.2.1, hu5.keepNo hHeld.2.2.2.1, hu5.keepNo hHeld.2.2.2.2.1, hu5.keepNo hHeld.2.2.2.2.2⟩)
                    clear hK K
                    try simp only [Act.put, List.setIfInBounds_toArray, List.set_cons_zero, List.set_cons_succ]
                    refine wpT 6 ⟨some 84, .binOp .lss 3 (.tmp 79) (.tmp 83) 3, 4, "check.go:81", #[⟨1, .data⟩, ⟨5, .data⟩], none⟩ ?_ (.inl ⟨by rfl, ?_⟩) ?_
                    rotate_left
                    · (intro W hSw; (try dsimp only at hSw); go_simp; try (with_reducible rfl))
                    try simp only [Act.put, List.setIfInBounds_toArray, List.set_cons_zero, List.set_cons_succ]
                    refine wpT 7 ⟨some 6, .assign (.tmp 84), 4, "check.go:81", #[⟨6, .data⟩, ⟨5, .chain⟩, ⟨0, .phase⟩, ⟨1, .phase⟩, ⟨2, .phase⟩, ⟨3, .phase⟩, ⟨4, .phase⟩, ⟨5, .phase⟩, ⟨6, .phase⟩], none⟩ ?_ (.inl ⟨by rfl, ?_⟩) ?_
                    rotate_left
                    · (intro W hSw; (try dsimp only at hSw); go_simp; try (with_reducible rfl))
                    try simp only [Act.put, List.setIfInBounds_toArray, List.set_cons_zero, List.set_cons_succ]
                    refine wpAnyH_done (by kernel_rfl) (NoPanic.normal ?_) _
                    have HU5 := Lib.hid hHeld.1
                    clear hHeld
                    go_wp2
                    go_ret
                    exact ⟨by rw [hv.out]; rfl, HU5.out⟩
                  · rw [if_neg hp3] at hv1
                    have hv := Lib.hid hv1
                    have hpb3 : (p == 3) = false := by simpa using hp3
                    clear hp3 hv1
                    go_wp2
                    go_ret
                    exact ⟨by rw [hv.out]; rfl, U5.out⟩
              · have hv := Lib.hid (show badB txs p ⟨bx, (k : Int), ⟨vt, vk, vn⟩⟩ = false by rw [hv0]; simp [hti])
                clear hv0
                have bO := Lib.hid (Blk.new (w1.alloc (.cells #[.int .i64 t.id, .bool dn1, .slice (some ad) t.ops.length c1] 47)) 53 [.bool true, .int .i64 o.key, .int .i64 o.tx, .int .i64 o.nth])
                have uO := (Upd.refl No (w1.alloc (.cells #[.int .i64 t.id, .bool dn1, .slice (some ad) t.ops.length c1] 47))).alloc (.cells #[.bool true, .int .i64 o.key, .int .i64 o.tx, .int .i64 o.nth] 53)
                have bR3 := Lib.hid (bR1.out.upd uO id)
                have bM3 := bM1.out.upd uO id
                have bT3 := bT1.out.upd uO id
                have U3 := Lib.hid (U1.out.trans uO)
                have o0 := bO.out.cell 0
                have o1 := bO.out.cell 1
                have o2 := bO.out.cell 2
                have o3 := bO.out.cell 3
                have n2 := bM3.cell 2
                have n3 := bM3.cell 3
                have n4 := bM3.cell 4
                have s0 := bT3.cell 0
                simp only [List.getElem?_cons_zero, List.getElem?_cons_succ, World.size_alloc] at o0 o1 o2 o3 n2 n3 n4 s0
                clear uO bM3 bT3
                go_wp2
                clear t0 m2 m3 m4
                have t0 := s0
                have m2 := n2
                have m3 := n3
                have m4 := n4
                refine wp_region_noPanic ?_
                refine wp_region_held_drew (S := (fun w' => Upd No ((w1.alloc (.cells #[.int .i64 t.id, .bool dn1, .slice (some ad) t.ops.length c1] 47)).alloc (.cells #[.bool true, .int .i64 o.key, .int .i64 o.tx, .int .i64 o.nth] 53)) w' ∧ w'.cell? ⟨w1.heap.size + 1, 0, none⟩ = some (.bool true) ∧ w'.cell? ⟨w1.heap.size + 1, 1, none⟩ = some (.int .i64 o.key) ∧ w'.cell? ⟨w1.heap.size + 1, 2, none⟩ = some (.int .i64 o.tx) ∧ w'.cell? ⟨w1.heap.size + 1, 3, none⟩ = some (.int .i64 o.nth) ∧ w'.cell? ⟨w1.heap.size, 0, none⟩ = some (.int .i64 t.id) ∧ w'.cell? ⟨w.heap.size + 1, 2, none⟩ = some (.int .i64 vt) ∧ w'.cell? ⟨w.heap.size + 1, 3, none⟩ = some (.int .i64 vk) ∧ w'.cell? ⟨w.heap.size + 1, 4, none⟩ = some (.int .i64 vn))) (by kernel_rfl) ?_ (fun hHeld => ?_)
                · (first | exact ⟨(Upd.refl No _).drew, o0, o1, o2, o3, t0, m2, m3, m4⟩ | exact ⟨hHeld.1.trans hu3, hu3.keepNo hHeld.2.1, hu3.keepNo hHeld.2.2.1, hu3.keepNo hHeld.2.2.2.1, hu3.keepNo hHeld.2.2.2.2.1, hu3.keepNo hHeld.2.2.2.2.2.1, hu3.keepNo hHeld.2.2.2.2.2.2.1, hu3.keepNo hHeld.2.2.2.2.2.2.2.1, hu3.keepNo hHeld.2.2.2.2.2.2.2.2⟩)
                refine wpT 0 ⟨some 40, .fieldAddr 53 (.tmp 9) 0, 0, "check.go:73", #[], none⟩ ?_ (.inl ⟨by rfl, ?_⟩) ?_
                rotate_left
                · (intro W hSw; (try dsimp only at hSw); go_simp; try (with_reducible rfl))
                try simp only [Act.put, List.setIfInBounds_toArray, List.set_cons_zero, List.set_cons_succ]
                refine wpT 1 ⟨some 41, .load 4 (.tmp 40), 4, "check.go:73", #[⟨0, .data⟩], none⟩ ?_ (.inl ⟨by rfl, ?_⟩) ?_
                rotate_left
                · (intro W hSw; (try dsimp only at hSw); go_simp; try (with_reducible rfl))
                try simp only [Act.put, List.setIfInBounds_toArray, List.set_cons_zero, List.set_cons_succ]
                refine wpT 2 ⟨some 42, .unOp .not 4 (.tmp 41), 4, "check.go:73", #[⟨1, .data⟩], none⟩ ?_ (.inl ⟨by rfl, ?_⟩) ?_
                rotate_left
                · (intro W hSw; (try dsimp only at hSw); go_simp; try (with_reducible rfl))
                try simp only [Act.put, List.setIfInBounds_toArray, List.set_cons_zero, List.set_cons_succ]
                refine wpT 3 ⟨some 43, .move (.tmp 42), 4, "check.go:73", #[⟨2, .data⟩], none⟩ ?_ (.inl ⟨by rfl, ?_⟩) ?_
                rotate_left
                · (intro W hSw; (try dsimp only at hSw); go_simp; try (with_reducible rfl))
                try simp only [Act.put, List.setIfInBounds_toArray, List.set_cons_zero, List.set_cons_succ]
                refine wpT 4 ⟨some 44, .load 53 (.tmp 9), 53, "check.go:73", #[⟨3, .guard⟩], some (3, false)⟩ ?_ (.inl ⟨by rfl, ?_⟩) ?_
                rotate_left
                · (intro W hSw; (try dsimp only at hSw); go_simp; try (with_reducible rfl))
                try simp only [Act.put, List.setIfInBounds_toArray, List.set_cons_zero, List.set_cons_succ]
                refine wpT 6 ⟨some 46, .fieldAddr 31 (.tmp 5) 2, 0, "check.go:73", #[⟨3, .guard⟩], some (3, false)⟩ ?_ (.inl ⟨by rfl, ?_⟩) ?_
                rotate_left
                · (intro W hSw; (try dsimp only at hSw); go_simp; try (with_reducible rfl))
                try simp only [Act.put, List.setIfInBounds_toArray, List.set_cons_zero, List.set_cons_succ]
                refine wpT 7 ⟨some 47, .load 29 (.tmp 46), 29, "check.go:73", #[⟨6, .data⟩, ⟨3, .guard⟩], some (3, false)⟩ ?_ (.inl ⟨by rfl, ?_⟩) ?_
                rotate_left
                · (intro W hSw; (try dsimp only at hSw); go_simp; try (with_reducible rfl))
                try simp only [Act.put, List.setIfInBounds_toArray, List.set_cons_zero, List.set_cons_succ]
                refine wpAnyH_ready (rs := [5]) (by kernel_rfl) (by simp) ?_
                refine AllReadyH.cons (o := ⟨some 45, .call { callee := .value (.func 48), args := #[.tmp 44], argTypes := #[53] }, 29, "check.go:73", #[⟨4, .data⟩, ⟨3, .chain⟩, ⟨3, .guard⟩], some (3, false)⟩) rfl (fun K hK => ?_) AllReadyH.nil
                go_simp
                (first
    | (go_at_call 48; refine (oofT _ o.key o.tx o.nth).mono ?_; rintro e w3 ⟨rfl, hu3⟩))
                try (go_wp2_with fail)
                refine hK.out _ _ ?_ (fun hHeld => ?_)
                · (first | exact ⟨(Upd.refl No _).drew, o0, o1, o2, o3, t0, m2, m3, m4⟩ | exact ⟨hHeld.1.trans hu3, hu3.keepNo hHeld.2.1, hu3.keepNo hHeld.2.2.1, hu3.keepNo hHeld.2.2.2.1, hu3.keepNo hHeld.2.2.2.2.1, hu3.keepNo hHeld.2.2.2.2.2.1, hu3.keepNo hHeld.2.2.2.2.2.2.1, hu3.keepNo hHeld.2.2.2.2.2.2.2.1, hu3.keepNo hHeld.2.2.2.2.2.2.2.2⟩)
                clear hK K
                try simp only [Act.put, List.setIfInBounds_toArray, List.set_cons_zero, List.set_cons_succ]
                refine wpT 8 ⟨some 48, .binOp .neq 29 (.tmp 45) (.tmp 47) 29, 4, "check.go:73", #[⟨5, .data⟩, ⟨7, .data⟩, ⟨3, .guard⟩], some (3, false)⟩ ?_ (.inl ⟨by rfl, ?_⟩) ?_
                rotate_left
                · (intro W hSw; (try dsimp only at hSw); go_simp; try (with_reducible rfl))
                try simp only [Act.put, List.setIfInBounds_toArray, List.set_cons_zero, List.set_cons_succ]
                refine wpT 9 ⟨some 49, .pick (.tmp 43) (.const (.bool true)) (.tmp 48), 4, "check.go:73", #[⟨3, .data⟩, ⟨8, .data⟩], none⟩ ?_ (.inl ⟨by rfl, ?_⟩) ?_
                rotate_left
                · (intro W hSw; (try dsimp only at hSw); go_simp; try (with_reducible rfl))
                try simp only [Act.put, List.setIfInBounds_toArray, List.set_cons_zero, List.set_cons_succ]
                refine wpT 10 ⟨some 50, .move (.tmp 49), 4, "check.go:73", #[⟨9, .data⟩, ⟨5, .chain⟩], none⟩ ?_ (.inl ⟨by rfl, ?_⟩) ?_
                rotate_left
                · (intro W hSw; (try dsimp only at hSw); go_simp; try (with_reducible rfl))
                try simp only [Act.put, List.setIfInBounds_toArray, List.set_cons_zero, List.set_cons_succ]
                refine wpT 11 ⟨some 51, .fieldAddr 53 (.tmp 9) 2, 0, "check.go:73", #[⟨10, .guard⟩], some (10, false)⟩ ?_ (.inl ⟨by rfl, ?_⟩) ?_
                rotate_left
                · (intro W hSw; (try dsimp only at hSw); go_simp; try (with_reducible rfl))
                try simp only [Act.put, List.setIfInBounds_toArray, List.set_cons_zero, List.set_cons_succ]
                refine wpT 12 ⟨some 52, .load 3 (.tmp 51), 3, "check.go:73", #[⟨11, .data⟩, ⟨10, .guard⟩], some (10, false)⟩ ?_ (.inl ⟨by rfl, ?_⟩) ?_
                rotate_left
                · (intro W hSw; (try dsimp only at hSw); go_simp; try (with_reducible rfl))
                try simp only [Act.put, List.setIfInBounds_toArray, List.set_cons_zero, List.set_cons_succ]
                refine wpT 13 ⟨some 53, .binOp .eql 3 (.tmp 52) (.const (.int .i64 0)) 3, 4, "check.go:73", #[⟨12, .data⟩, ⟨10, .guard⟩], some (10, false)⟩ ?_ (.inl ⟨by rfl, ?_⟩) ?_
                rotate_left
                · (intro W hSw; (try dsimp only at hSw); go_simp; try (with_reducible rfl))
                try simp only [Act.put, List.setIfInBounds_toArray, List.set_cons_zero, List.set_cons_succ]
                refine wpT 14 ⟨some 54, .pick (.tmp 50) (.const (.bool true)) (.tmp 53), 4, "check.go:73", #[⟨10, .data⟩, ⟨13, .data⟩], none⟩ ?_ (.inl ⟨by rfl, ?_⟩) ?_
                rotate_left
                · (intro W hSw; (try dsimp only at hSw); go_simp; try (with_reducible rfl))
                try simp only [Act.put, List.setIfInBounds_toArray, List.set_cons_zero, List.set_cons_succ]
                refine wpT 15 ⟨some 55, .move (.tmp 54), 4, "check.go:73", #[⟨14, .data⟩, ⟨10, .chain⟩], none⟩ ?_ (.inl ⟨by rfl, ?_⟩) ?_
                rotate_left
                · (intro W hSw; (try dsimp only at hSw); go_simp; try (with_reducible rfl))
                try simp only [Act.put, List.setIfInBounds_toArray, List.set_cons_zero, List.set_cons_succ]
                refine wpT 16 ⟨some 56, .fieldAddr 53 (.tmp 9) 2, 0, "check.go:73", #[⟨15, .guard⟩], some (15, false)⟩ ?_ (.inl ⟨by rfl, ?_⟩) ?_
                rotate_left
                · (intro W hSw; (try dsimp only at hSw); go_simp; try (with_reducible rfl))
                try simp only [Act.put, List.setIfInBounds_toArray, List.set_cons_zero, List.set_cons_succ]
                refine wpT 17 ⟨some 57, .load 3 (.tmp 56), 3, "check.go:73", #[⟨16, .data⟩, ⟨15, .guard⟩], some (15, false)⟩ ?_ (.inl ⟨by rfl, ?_⟩) ?_
                rotate_left
                · (intro W hSw; (try dsimp only at hSw); go_simp; try (with_reducible rfl))
                try simp only [Act.put, List.setIfInBounds_toArray, List.set_cons_zero, List.set_cons_succ]
                refine wpT 18 ⟨some 58, .fieldAddr 47 (.tmp 7) 0, 0, "check.go:73", #[⟨15, .guard⟩], some (15, false)⟩ ?_ (.inl ⟨by rfl, ?_⟩) ?_
                rotate_left
                · (intro W hSw; (try dsimp only at hSw); go_simp; try (with_reducible rfl))
                try simp only [Act.put, List.setIfInBounds_toArray, List.set_cons_zero, List.set_cons_succ]
                refine wpT 19 ⟨some 59, .load 3 (.tmp 58), 3, "check.go:73", #[⟨18, .data⟩, ⟨15, .guard⟩], some (15, false)⟩ ?_ (.inl ⟨by rfl, ?_⟩) ?_
                rotate_left
                · (intro W hSw; (try dsimp only at hSw); go_simp; try (with_reducible rfl))
                try simp only [Act.put, List.setIfInBounds_toArray, List.set_cons_zero, List.set_cons_succ]
                refine wpT 20 ⟨some 60, .binOp .eql 3 (.tmp 57) (.tmp 59) 3, 4, "check.go:73", #[⟨17, .data⟩, ⟨19, .data⟩, ⟨15, .guard⟩], some (15, false)⟩ ?_ (.inl ⟨by rfl, ?_⟩) ?_
                rotate_left
                · (intro W hSw; (try dsimp only at hSw); go_simp; try (with_reducible rfl))
                try simp only [Act.put, List.setIfInBounds_toArray, List.set_cons_zero, List.set_cons_succ]
                refine wpT 21 ⟨some 61, .pick (.tmp 55) (.const (.bool true)) (.tmp 60), 4, "check.go:73", #[⟨15, .data⟩, ⟨20, .data⟩], none⟩ ?_ (.inl ⟨by rfl, ?_⟩) ?_
                rotate_left
                · (intro W hSw; (try dsimp only at hSw); go_simp; try (with_reducible rfl))
                try simp only [Act.put, List.setIfInBounds_toArray, List.set_cons_zero, List.set_cons_succ]
                refine wpAnyH_done (by kernel_rfl) (NoPanic.normal ?_) _
                have HU := Lib.hid hHeld.1
                clear hHeld
                go_wp2
                go_ret
                exact ⟨by rw [hv.out]; rfl, U3.out.trans HU.out⟩
            · have hv := Lib.hid (show badB txs p ⟨bx, (k : Int), ⟨vt, vk, vn⟩⟩ = false by rw [hv0]; simp [h0])
              clear hv0
              have bO := Lib.hid (Blk.new (w1.alloc (.cells #[.int .i64 t.id, .bool dn1, .slice (some ad) t.ops.length c1] 47)) 53 [.bool true, .int .i64 o.key, .int .i64 o.tx, .int .i64 o.nth])
              have uO := (Upd.refl No (w1.alloc (.cells #[.int .i64 t.id, .bool dn1, .slice (some ad) t.ops.length c1] 47))).alloc (.cells #[.bool true, .int .i64 o.key, .int .i64 o.tx, .int .i64 o.nth] 53)
              have bR3 := Lib.hid (bR1.out.upd uO id)
              have bM3 := bM1.out.upd uO id
              have bT3 := bT1.out.upd uO id
              have U3 := Lib.hid (U1.out.trans uO)
              have o0 := bO.out.cell 0
              have o1 := bO.out.cell 1
              have o2 := bO.out.cell 2
              have o3 := bO.out.cell 3
              have n2 := bM3.cell 2
              have n3 := bM3.cell 3
              have n4 := bM3.cell 4
              have s0 := bT3.cell 0
              simp only [List.getElem?_cons_zero, List.getElem?_cons_succ, World.size_alloc] at o0 o1 o2 o3 n2 n3 n4 s0
              clear uO bM3 bT3
              go_wp2
              clear t0 m2 m3 m4
              have t0 := s0
              have m2 := n2
              have m3 := n3
              have m4 := n4
              refine wp_region_noPanic ?_
              refine wp_region_held_drew (S := (fun w' => Upd No ((w1.alloc (.cells #[.int .i64 t.id, .bool dn1, .slice (some ad) t.ops.length c1] 47)).alloc (.cells #[.bool true, .int .i64 o.key, .int .i64 o.tx, .int .i64 o.nth] 53)) w' ∧ w'.cell? ⟨w1.heap.size + 1, 0, none⟩ = some (.bool true) ∧ w'.cell? ⟨w1.heap.size + 1, 1, none⟩ = some (.int .i64 o.key) ∧ w'.cell? ⟨w1.heap.size + 1, 2, none⟩ = some (.int .i64 o.tx) ∧ w'.cell? ⟨w1.heap.size + 1, 3, none⟩ = some (.int .i64 o.nth) ∧ w'.cell? ⟨w1.heap.size, 0, none⟩ = some (.int .i64 t.id) ∧ w'.cell? ⟨w.heap.size + 1, 2, none⟩ = some (.int .i64 vt) ∧ w'.cell? ⟨w.heap.size + 1, 3, none⟩ = some (.int .i64 vk) ∧ w'.cell? ⟨w.heap.size + 1, 4, none⟩ = some (.int .i64 vn))) (by kernel_rfl) ?_ (fun hHeld => ?_)
              · (first | exact ⟨(Upd.refl No _).drew, o0, o1, o2, o3, t0, m2, m3, m4⟩ | exact ⟨hHeld.1.trans hu3, hu3.keepNo hHeld.2.1, hu3.keepNo hHeld.2.2.1, hu3.keepNo hHeld.2.2.2.1, hu3.keepNo hHeld.2.2.2.2.1, hu3.keepNo hHeld.2.2.2.2.2.1, hu3.keepNo hHeld.2.2.2.2.2.2.1, hu3.keepNo hHeld.2.2.2.2.2.2.2.1, hu3.keepNo hHeld.2.2.2.2.2.2.2.2⟩)
              refine wpT 0 ⟨some 40, .fieldAddr 53 (.tmp 9) 0, 0, "check.go:73", #[], none⟩ ?_ (.inl ⟨by rfl, ?_⟩) ?_
              rotate_left
              · (intro W hSw; (try dsimp only at hSw); go_simp; try (with_reducible rfl))
              try simp only [Act.put, List.setIfInBounds_toArray, List.set_cons_zero, List.set_cons_succ]
              refine wpT 1 ⟨some 41, .load 4 (.tmp 40), 4, "check.go:73", #[⟨0, .data⟩], none⟩ ?_ (.inl ⟨by rfl, ?_⟩) ?_
              rotate_left
              · (intro W hSw; (try dsimp only at hSw); go_simp; try (with_reducible rfl))
              try simp only [Act.put, List.setIfInBounds_toArray, List.set_cons_zero, List.set_cons_succ]
              refine wpT 2 ⟨some 42, .unOp .not 4 (.tmp 41), 4, "check.go:73", #[⟨1, .data⟩], none⟩ ?_ (.inl ⟨by rfl, ?_⟩) ?_
              rotate_left
              · (intro W hSw; (try dsimp only at hSw); go_simp; try (with_reducible rfl))
              try simp only [Act.put, List.setIfInBounds_toArray, List.set_cons_zero, List.set_cons_succ]
              refine wpT 3 ⟨some 43, .move (.tmp 42), 4, "check.go:73", #[⟨2, .data⟩], none⟩ ?_ (.inl ⟨by rfl, ?_⟩) ?_
              rotate_left
              · (intro W hSw; (try dsimp only at hSw); go_simp; try (with_reducible rfl))
              try simp only [Act.put, List.setIfInBounds_toArray, List.set_cons_zero, List.set_cons_succ]
              refine wpT 4 ⟨some 44, .load 53 (.tmp 9), 53, "check.go:73", #[⟨3, .guard⟩], some (3, false)⟩ ?_ (.inl ⟨by rfl, ?_⟩) ?_
              rotate_left
              · (intro W hSw; (try dsimp only at hSw); go_simp; try (with_reducible rfl))
              try simp only [Act.put, List.setIfInBounds_toArray, List.set_cons_zero, List.set_cons_succ]
              refine wpT 6 ⟨some 46, .fieldAddr 31 (.tmp 5) 2, 0, "check.go:73", #[⟨3, .guard⟩], some (3, false)⟩ ?_ (.inl ⟨by rfl, ?_⟩) ?_
              rotate_left
              · (intro W hSw; (try dsimp only at hSw); go_simp; try (with_reducible rfl))
              try simp only [Act.put, List.setIfInBounds_toArray, List.set_cons_zero, List.set_cons_succ]
              refine wpT 7 ⟨some 47, .load 29 (.tmp 46), 29, "check.go:73", #[⟨6, .data⟩, ⟨3, .guard⟩], some (3, false)⟩ ?_ (.inl ⟨by rfl, ?_⟩) ?_
              rotate_left
              · (intro W hSw; (try dsimp only at hSw); go_simp; try (with_reducible rfl))
              try simp only [Act.put, List.setIfInBounds_toArray, List.set_cons_zero, List.set_cons_succ]
              refine wpAnyH_ready (rs := [5]) (by kernel_rfl) (by simp) ?_
              refine AllReadyH.cons (o := ⟨some 45, .call { callee := .value (.func 48), args := #[.tmp 44], argTypes := #[53] }, 29, "check.go:73", #[⟨4, .data⟩, ⟨3, .chain⟩, ⟨3, .guard⟩], some (3, false)⟩) rfl (fun K hK => ?_) AllReadyH.nil
              go_simp
              (first
    | (go_at_call 48; refine (oofT _ o.key o.tx o.nth).mono ?_; rintro e w3 ⟨rfl, hu3⟩))
              try (go_wp2_with fail)
              refine hK.out _ _ ?_ (fun hHeld => ?_)
              · (first | exact ⟨(Upd.refl No _).drew, o0, o1, o2, o3, t0, m2, m3, m4⟩ | exact ⟨hHeld.1.trans hu3, hu3.keepNo hHeld.2.1, hu3.keepNo hHeld.2.2.1, hu3.keepNo hHeld.2.2.2.1, hu3.keepNo hHeld.2.2.2.2.1, hu3.keepNo hHeld.2.2.2.2.2.1, hu3.keepNo hHeld.2.2.2.2.2.2.1, hu3.keepNo hHeld.2.2.2.2.2.2.2.1, hu3.keepNo hHeld.2.2.2.2.2.2.2.2⟩)
              clear hK K
              try simp only [Act.put, List.setIfInBounds_toArray, List.set_cons_zero, List.set_cons_succ]
              refine wpT 8 ⟨some 48, .binOp .neq 29 (.tmp 45) (.tmp 47) 29, 4, "check.go:73", #[⟨5, .data⟩, ⟨7, .data⟩, ⟨3, .guard⟩], some (3, false)⟩ ?_ (.inl ⟨by rfl, ?_⟩) ?_
              rotate_left
              · (intro W hSw; (try dsimp only at hSw); go_simp; try (with_reducible rfl))
              try simp only [Act.put, List.setIfInBounds_toArray, List.set_cons_zero, List.set_cons_succ]
              refine wpT 9 ⟨some 49, .pick (.tmp 43) (.const (.bool true)) (.tmp 48), 4, "check.go:73", #[⟨3, .data⟩, ⟨8, .data⟩], none⟩ ?_ (.inl ⟨by rfl, ?_⟩) ?_
              rotate_left
              · (intro W hSw; (try dsimp only at hSw); go_simp; try (with_reducible rfl))
              try simp only [Act.put, List.setIfInBounds_toArray, List.set_cons_zero, List.set_cons_succ]
              refine wpT 10 ⟨some 50, .move (.tmp 49), 4, "check.go:73", #[⟨9, .data⟩, ⟨5, .chain⟩], none⟩ ?_ (.inl ⟨by rfl, ?_⟩) ?_
              rotate_left
              · (intro W hSw; (try dsimp only at hSw); go_simp; try (with_reducible rfl))
              try simp only [Act.put, List.setIfInBounds_toArray, List.set_cons_zero, List.set_cons_succ]
              refine wpT 11 ⟨some 51, .fieldAddr 53 (.tmp 9) 2, 0, "check.go:73", #[⟨10, .guard⟩], some (10, false)⟩ ?_ (.inl ⟨by rfl, ?_⟩) ?_
              rotate_left
              · (intro W hSw; (try dsimp only at hSw); go_simp; try (with_reducible rfl))
              try simp only [Act.put, List.setIfInBounds_toArray, List.set_cons_zero, List.set_cons_succ]
              refine wpT 12 ⟨some 52, .load 3 (.tmp 51), 3, "check.go:73", #[⟨11, .data⟩, ⟨10, .guard⟩], some (10, false)⟩ ?_ (.inl ⟨by rfl, ?_⟩) ?_
              rotate_left
              · (intro W hSw; (try dsimp only at hSw); go_simp; try (with_reducible rfl))
              try simp only [Act.put, List.setIfInBounds_toArray, List.set_cons_zero, List.set_cons_succ]
              refine wpT 13 ⟨some 53, .binOp .eql 3 (.tmp 52) (.const (.int .i64 0)) 3, 4, "check.go:73", #[⟨12, .data⟩, ⟨10, .guard⟩], some (10, false)⟩ ?_ (.inl ⟨by rfl, ?_⟩) ?_
              rotate_left
              · (intro W hSw; (try dsimp only at hSw); go_simp; try (with_reducible rfl))
              try simp only [Act.put, List.setIfInBounds_toArray, List.set_cons_zero, List.set_cons_succ]
              refine wpT 14 ⟨some 54, .pick (.tmp 50) (.const (.bool true)) (.tmp 53), 4, "check.go:73", #[⟨10, .data⟩, ⟨13, .data⟩], none⟩ ?_ (.inl ⟨by rfl, ?_⟩) ?_
              rotate_left
              · (intro W hSw; (try dsimp only at hSw); go_simp; try (with_reducible rfl))
              try simp only [Act.put, List.setIfInBounds_toArray, List.set_cons_zero, List.set_cons_succ]
              refine wpT 15 ⟨some 55, .move (.tmp 54), 4, "check.go:73", #[⟨14, .data⟩, ⟨10, .chain⟩], none⟩ ?_ (.inl ⟨by rfl, ?_⟩) ?_
              rotate_left
              · (intro W hSw; (try dsimp only at hSw); go_simp; try (with_reducible rfl))
              try simp only [Act.put, List.setIfInBounds_toArray, List.set_cons_zero, List.set_cons_succ]
              refine wpT 16 ⟨some 56, .fieldAddr 53 (.tmp 9) 2, 0, "check.go:73", #[⟨15, .guard⟩], some (15, false)⟩ undef (.inr ⟨by rfl, rfl⟩) ?_
              try simp only [Act.put, List.setIfInBounds_toArray, List.set_cons_zero, List.set_cons_succ]
              refine wpT 17 ⟨some 57, .load 3 (.tmp 56), 3, "check.go:73", #[⟨16, .data⟩, ⟨15, .guard⟩], some (15, false)⟩ undef (.inr ⟨by rfl, rfl⟩) ?_
              try simp only [Act.put, List.setIfInBounds_toArray, List.set_cons_zero, List.set_cons_succ]
              refine wpT 18 ⟨some 58, .fieldAddr 47 (.tmp 7) 0, 0, "check.go:73", #[⟨15, .guard⟩], some (15, false)⟩ undef (.inr ⟨by rfl, rfl⟩) ?_
              try simp only [Act.put, List.setIfInBounds_toArray, List.set_cons_zero, List.set_cons_succ]
              refine wpT 19 ⟨some 59, .load 3 (.tmp 58), 3, "check.go:73", #[⟨18, .data⟩, ⟨15, .guard⟩], some (15, false)⟩ undef (.inr ⟨by rfl, rfl⟩) ?_
              try simp only [Act.put, List.setIfInBounds_toArray, List.set_cons_zero, List.set_cons_succ]
              refine wpT 20 ⟨some 60, .binOp .eql 3 (.tmp 57) (.tmp 59) 3, 4, "check.go:73", #[⟨17, .data⟩, ⟨19, .data⟩, ⟨15, .guard⟩], some (15, false)⟩ undef (.inr ⟨by rfl, rfl⟩) ?_
              try simp only [Act.put, List.setIfInBounds_toArray, List.set_cons_zero, List.set_cons_succ]
              refine wpT 21 ⟨some 61, .pick (.tmp 55) (.const (.bool true)) (.tmp 60), 4, "check.go:73", #[⟨15, .data⟩, ⟨20, .data⟩], none⟩ ?_ (.inl ⟨by rfl, ?_⟩) ?_
              rotate_left
              · (intro W hSw; (try dsimp only at hSw); go_simp; try (with_reducible rfl))
              try simp only [Act.put, List.setIfInBounds_toArray, List.set_cons_zero, List.set_cons_succ]
              refine wpAnyH_done (by kernel_rfl) (NoPanic.normal ?_) _
              have HU := Lib.hid hHeld.1
              clear hHeld
              go_wp2
              go_ret
              exact ⟨by rw [hv.out]; rfl, U3.out.trans HU.out⟩
end Go.Proofs.YtgakhpdclhlmpaaGreat
