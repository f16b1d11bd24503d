/- Closed walks: the numbers of some edges. -/
import Derived.Test.YtaicemjckagcaaaMbp
import Derived.Test.YtaicemjckagcaaaMbq
namespace Go.Proofs.Ytaicemjckagcaaa
set_option linter.unusedVariables false
open Go.RowKit
theorem run_storeVar_1 {P : Program} (w : World) (g i : Nat) (t ty : TypeId) (old : Array Value) (v : Value) (hg : w.heap[g]? = some (.cells old t (0, 0))) (hi : (P.info? ty).map (·.size) = some 1)
    (ho : i < old.size) (h1 : v.oneCell' = true) :
    (storeVar ty ⟨g, i, none⟩ v).run P w = .ok () (w.setCell ⟨g, i, none⟩ v) := by
  have hst : ∀ m, (store ⟨g, i, none⟩ v m).run P w = .ok () (w.setCell ⟨g, i, none⟩ v) := fun m => by
    rw [run_store P w _ v m h1]
    simp [World.cell?, World.frozen?, hg, ho]
  have hadd : (⟨g, i, none⟩ : Addr).add 0 = ⟨g, i, none⟩ := by unfold Addr.add; simp
  have hsc : (storeCells ⟨g, i, none⟩ [v] 0).run P w = .ok () (w.setCell ⟨g, i, none⟩ v) := by
    simp only [storeCells, Sem.run_bind, hadd, hst, Result.andThen_ok]
    rfl
  cases hq : P.info? ty with
  | none => simp [hq] at hi
  | some j =>
    have hs : j.size = 1 := by simpa [hq] using hi
    cases v <;> first | (simp [Value.oneCell'] at h1; done) | simp [storeVar, sizeOf, typeInfo, hq, hs, Value.cells, hsc]
/-- one cell of a block stored into -/
theorem wp_put1 {P : Program} {o : Oper} {a : Act} {W : World} {K : Act → World → Prop} {Q : Exit → Act → World → Prop} {ty : TypeId} {x y : Operand} (ho : o.op = .store ty x y)
    {g i : Nat} {t : TypeId} {old : List Value} {v : Value} (hx : a.eval x = .pointer (some ⟨g, i, none⟩)) (hy : a.eval y = v) (hb : Blk W g t old) (hi : (P.info? ty).map (·.size) = some 1) (hl : i < old.length) (h1 : v.oneCell' = true)
    (h : ∀ w', Blk w' g t (old.set i v) → Upd (One g) W w' → K (a.put o.dst undef) w') : o.wp P a W K Q := by
  unfold Oper.wp execOp
  simp only [ho, hx, hy, Instr.storeAt, Instr.sureAddr, Sem.run_bind, Sem.run_pure, Result.andThen_ok, run_storeVar_1 W g i t ty old.toArray v hb hi (by simpa using hl) h1]
  exact h _ (hb.set_ i v) ((Upd.refl (One g) W).setOne i v)
theorem step_put1 {P : Program} {ops : Array Oper} {o : Oper} {a : Act} {W : World} {K : Act → World → Prop} {Q : Exit → Act → World → Prop} {E : Prop} (hgd : o.guard = none) {ty : TypeId} {x y : Operand} (ho : o.op = .store ty x y)
    {g i : Nat} {t : TypeId} {old : List Value} {v : Value} (hx : a.eval x = .pointer (some ⟨g, i, none⟩)) (hy : a.eval y = v) (hb : Blk W g t old) (hi : (P.info? ty).map (·.size) = some 1) (hl : i < old.length) (h1 : v.oneCell' = true)
    (h : ∀ w', Blk w' g t (old.set i v) → Upd (One g) W w' → K (a.put o.dst undef) w') : if Region.wanted o (yielded ops a.tmps) = true then Oper.wp P o a W K Q else E := by
  rw [if_pos (by simp [Region.wanted, hgd])]
  exact wp_put1 ho hx hy hb hi hl h1 h
theorem own_any {A : Option Addr} {n m c d i : Nat} (h : Own (.slice A n c) i) : Own (.slice A m d) i := by
  cases A with
  | none => cases h
  | some a => exact h
theorem src_new {W : World} {cs : List Value} {e : TypeId} {n m : Nat} (hn : n = W.heap.size) (hm : cs.length = m) : Src (W.alloc (.cells cs.toArray e)) (some ⟨n, 0, none⟩) m 1 cs := by
  subst hn
  exact ⟨by omega, fun _ => ⟨_, rfl, fun j v hj => news_new j v hj⟩⟩
set_option maxRecDepth 100000 in
set_option maxHeartbeats 8000000 in
theorem cnamed (F : Nat → Prop) (w : World) (A : Option Addr) (c : Nat) (l : List Edge) (h : Walk F w A l) (hl : l.length ≤ 1000000) :
    Calls Try.prog 66 #[.slice A l.length c] w fun e w' => ∃ A1 c1 A2 c2, e = .returned (.agg #[.slice A1 (idsE l).length c1, .slice A2 (keysE l).length c2]) ∧ Ints (fun i => w.heap.size ≤ i) w' A1 (idsE l) ∧ Ints (fun i => w.heap.size ≤ i) w' A2 (keysE l) ∧ Upd No w w' := by
  have HA := Lib.hid h
  have HL := Lib.hid (show (idsL l).length = 2 * l.length from idsL_len l)
  clear h
  go_enter Try.func66, Try.ntmps66
  go_wp2
  go_loopg [8] l.length (fun gk i wr => ∃ (k : Nat) (A1 : Option Addr) (c1 : Nat) (xs : List Int) (A2 : Option Addr) (c2 : Nat) (ys : List Int), k + gk = l.length ∧ i = .int .i64 k ∧ Hid (xs ++ idsL (l.drop k) = idsL l) ∧ Hid (ys ++ (l.drop k).map Edge.key = l.map Edge.key) ∧ xs.length = 2 * k ∧ ys.length = k ∧
    Blk wr (w.heap.size + 1) 106 [.slice A1 xs.length c1, .slice A2 ys.length c2] ∧ Blk wr w.heap.size 106 [.slice none 0 0, .slice none 0 0] ∧
    wr.ownsRow (w.heap.size + 2) 3 1 (.slice A1 xs.length c1) xs.length (xs.map (Value.int .i64)) ∧ wr.ownsRow (w.heap.size + 2) 3 1 (.slice A2 ys.length c2) ys.length (ys.map (Value.int .i64)) ∧ (∀ i, Own (.slice A1 0 0) i → ¬ Own (.slice A2 0 0) i) ∧ Upd No w wr)
  case atStart =>
    refine ⟨0, none, 0, [], none, 0, [], by omega, rfl, Lib.hid rfl, Lib.hid rfl, rfl, rfl, ?_, ?_, World.ownsRow_nil _ _ _ _, World.ownsRow_nil _ _ _ _, ?_, ?_⟩
    · simpa using Blk.new (w.alloc (.cells #[.slice none 0 0, .slice none 0 0] 106)) 106 [.slice none 0 0, .slice none 0 0]
    · exact (Blk.new w 106 [.slice none 0 0, .slice none 0 0]).alloc _
    · intro i e
      exact (by cases e)
    · exact ((Upd.refl No w).alloc _).alloc _
  case round =>
    obtain ⟨k, A1, c1, xs, A2, c2, ys, hgk, rfl, hx, hy, hxl, hyl, bN, bR, ho1, ho2, hd, hu⟩ := hrel
    by_cases hlt : k < l.length
    · obtain ⟨ax, rfl, q0, q1, q2, q3⟩ := (HA.out.upd hu (fun _ _ => id)).at_ hlt
      obtain ⟨x, hxx⟩ : ∃ x, l[k] = x := ⟨_, rfl⟩
      have hdr := List.drop_eq_getElem_cons hlt
      rw [hxx] at q0 q1 q2 q3 hdr
      have HX := Lib.hid (show (xs ++ [x.f, x.t]) ++ idsL (l.drop (k + 1)) = idsL l by rw [← hx.out, hdr]; simp [idsL])
      have HY := Lib.hid (show (ys ++ [x.key]) ++ (l.drop (k + 1)).map Edge.key = l.map Edge.key by rw [← hy.out, hdr]; simp)
      have i1 : (0 : Int) ≤ (k : Int) := Int.natCast_nonneg _
      have i2 : (k : Int) < (l.length : Int) := by omega
      obtain ⟨wx, hwx⟩ : ∃ wx, wr.alloc (.cells #[.int .i64 x.f, .int .i64 x.t, .int .i64 x.k, .int .i64 x.key] 33) = wx := ⟨_, rfl⟩
      have ux : Upd No wr wx := by rw [← hwx]; exact (Upd.refl No wr).alloc _
      have bo : Blk wx wr.heap.size 33 [.int .i64 x.f, .int .i64 x.t, .int .i64 x.k, .int .i64 x.key] := by rw [← hwx]; exact Blk.new wr _ _
      have hsx : wx.heap.size = wr.heap.size + 1 := by rw [← hwx]; simp
      have HUX := Lib.hid (hu.trans ux)
      have hNl := bN.lt
      have bNx := bN.upd ux id
      have HBR := Lib.hid (bR.upd ux id)
      have g0 := bo.cell 0
      have g1 := bo.cell 1
      have g2 := bo.cell 2
      have g3 := bo.cell 3
      have c0 := bNx.cell 0
      have c1' := bNx.cell 1
      simp only [List.getElem?_cons_zero, List.getElem?_cons_succ] at g0 g1 g2 g3 c0 c1'
      have HG1 := Lib.hid (fun i e => ho1.lt i e)
      have HG2 := Lib.hid (fun i e => ho2.lt i e)
      have HO1 := Lib.hid (own_upd ho1 ux (fun _ _ => id))
      have HO2 := Lib.hid (own_upd ho2 ux (fun _ _ => id))
      have HD := Lib.hid hd
      have BO := Lib.hid bo
      have BN := Lib.hid bNx
      have HXL := Lib.hid hxl
      have HYL := Lib.hid hyl
      have ne1 : ¬ w.heap.size + 1 = wr.heap.size := by omega
      have ne2 : ¬ wr.heap.size = w.heap.size + 1 := by omega
      clear bN bR ho1 ho2 hd ux bo bNx hdr hxx hx hy hxl hyl
      go_wp2_with (at_builtin; (first
        | (refine appN rfl rfl slt_int (v := .slice A1 xs.length c1) (n := xs.length) (m := 2) (xs := xs.map (Value.int .i64)) (news := [.int .i64 x.f, .int .i64 x.t]) rfl rfl (own_upd HO1.out ((Upd.refl No _).alloc _) (fun _ _ => id)) (src_new hsx.symm rfl) (by simp [Value.oneCell']) (by have := HXL.out; omega) (by have := HXL.out; omega) (by simp; omega) ?_
           intro v4 w4 hown4 hu4 hg4
           obtain ⟨A4, c4, rfl⟩ := own_slice hown4
           have U4 : Upd (Own (.slice A1 xs.length c1)) wx w4 := ((Upd.refl _ wx).alloc _).trans hu4
           have hs4 := U4.size
           have bN4 := BN.out.upd U4 (fun e => by have := (HG1.out _ e).1; omega)
           have bo4 := BO.out.upd U4 (fun e => by have := (HG1.out _ e).2; omega)
           have HBR4 := Lib.hid (HBR.out.upd U4 (fun e => by have := (HG1.out _ e).1; omega))
           have HO24 := Lib.hid (own_upd HO2.out U4 (fun i e e2 => HD.out i (own_any e2) (own_any e)))
           have HUX4 := Lib.hid (HUX.out.then_ U4 (fun i e => .inr (by have := (HG1.out i e).1; omega)))
           have HG4 := Lib.hid (fun i (e : Own (.slice A4 (xs.length + 2) c4) i) => (show w.heap.size + 2 ≤ i ∧ i < w4.heap.size ∧ ¬ Own (.slice A2 0 0) i from ⟨(hown4.lt i e).1, (hown4.lt i e).2, fun e2 => by
             rcases hg4 with e3 | ⟨j, e3, e4⟩
             · exact HD.out i (own_any (n := xs.length) (c := c1) (by unfold Own at e ⊢; rw [← e3]; exact e)) e2
             · have h5 := (HG2.out i (own_any e2)).2
               have : i = j := by unfold Own at e; rw [e3] at e; injection e with e; exact e.symm
               simp at e4
               omega⟩))
           have k0 := bN4.cell 0
           have k1 := bN4.cell 1
           have k3 := bo4.cell 3
           have fr0 := bN4.free 0
           simp only [List.getElem?_cons_zero, List.getElem?_cons_succ] at k0 k1 k3
           have BN4 := Lib.hid bN4
           have HO4 := Lib.hid hown4
           clear bN4 bo4 U4 hu4 hg4 hown4 c0 c1' g0 g1 g2 g3 q0 q1 q2 q3)
        | (refine appN rfl rfl slt_int (v := .slice A2 ys.length c2) (n := ys.length) (m := 1) (xs := ys.map (Value.int .i64)) (news := [.int .i64 x.key]) rfl rfl (own_upd (own_upd HO24.out ((Upd.refl (One (w.heap.size + 1)) w4).setOne 0 _) (fun i e e2 => by have := (HG2.out i (own_any e)).1; unfold One at e2; omega)) ((Upd.refl No _).alloc _) (fun _ _ => id)) (src_new (by simp) rfl) (by simp [Value.oneCell']) (by have := HYL.out; omega) (by have := HYL.out; omega) (by simp; omega) ?_
           intro v6 w6 hown6 hu6 hg6
           obtain ⟨A6, c6, rfl⟩ := own_slice hown6
           have U5 := (Upd.refl (One (w.heap.size + 1)) w4).setOne 0 (.slice A4 (xs.length + 2) c4)
           have U6 : Upd (Own (.slice A2 ys.length c2)) (w4.setCell ⟨w.heap.size + 1, 0, none⟩ (.slice A4 (xs.length + 2) c4)) w6 := ((Upd.refl _ _).alloc _).trans hu6
           have hs6 := U6.size
           simp only [World.size_setCell] at hs6
           have bN6 := (BN4.out.set_ 0 (.slice A4 (xs.length + 2) c4)).upd U6 (fun e => by have := (HG2.out _ e).1; omega)
           have HBR6 := Lib.hid ((HBR4.out.upd U5 (by unfold One; omega)).upd U6 (fun e => by have := (HG2.out _ e).1; omega))
           have HO46 := Lib.hid (own_upd (own_upd HO4.out U5 (fun i e e2 => by have := (HG4.out i e).1; unfold One at e2; omega)) U6 (fun i e e2 => (HG4.out i e).2.2 (own_any e2)))
           have HUX6 := Lib.hid ((HUX4.out.then_ U5 (fun i e => .inr (by unfold One at e; omega))).then_ U6 (fun i e => .inr (by have := (HG2.out i e).1; omega)))
           have HG6 := Lib.hid (fun i (e : Own (.slice A6 (ys.length + 1) c6) i) => (show w.heap.size + 2 ≤ i ∧ ¬ Own (.slice A4 0 0) i from ⟨(hown6.lt i e).1, fun e2 => by
             rcases hg6 with e3 | ⟨j, e3, e4⟩
             · exact (HG4.out i (own_any e2)).2.2 (own_any (n := ys.length) (c := c2) (by unfold Own at e ⊢; rw [← e3]; exact e))
             · have h5 := (HG4.out i (own_any e2)).2.1
               have : i = j := by unfold Own at e; rw [e3] at e; injection e with e; exact e.symm
               simp at e4
               omega⟩))
           have k0 := bN6.cell 0
           have k1 := bN6.cell 1
           have fr1 := bN6.free 1
           simp only [List.set_cons_zero, List.getElem?_cons_zero, List.getElem?_cons_succ] at k0 k1
           have BN6 := Lib.hid bN6
           have HO6 := Lib.hid hown6
           clear bN6 U6 U5 hu6 hg6 hown6)))
      go_roundg (gk - 1)
      case measure => omega
      case rel =>
        have U7 := (Upd.refl (One (w.heap.size + 1)) w6).setOne 1 (.slice A6 (ys.length + 1) c6)
        have b7 := BN6.out.set_ 1 (.slice A6 (ys.length + 1) c6)
        simp only [List.set_cons_zero, List.set_cons_succ] at b7
        refine ⟨k + 1, A4, c4, xs ++ [x.f, x.t], A6, c6, ys ++ [x.key], by omega, by go_num, HX, HY, by have := HXL.out; simp; omega, by have := HYL.out; simp; omega, by simpa using b7, HBR6.out.upd U7 (by unfold One; omega), ?_, ?_, fun i e e2 => (HG6.out i (own_any e2)).2 (own_any e), HUX6.out.then_ U7 (fun i e => .inr (by unfold One at e; omega))⟩
        · have := own_upd HO46.out U7 (fun i e e2 => by have := (HG4.out i e).1; unfold One at e2; omega)
          simpa using this
        · have := own_upd HO6.out U7 (fun i e e2 => by have := (HG6.out i e).1; unfold One at e2; omega)
          simpa using this
    · obtain rfl : k = l.length := by omega
      have hxs : xs = idsL l := by have := hx.out; rw [List.drop_length] at this; simpa [idsL] using this
      have hys : ys = l.map Edge.key := by have := hy.out; rw [List.drop_length] at this; simpa using this
      have hEx : setK xs = idsE l := by rw [hxs]; rfl
      have hEy : setK ys = keysE l := by rw [hys]; rfl
      have HEX := Lib.hid hEx
      have HEY := Lib.hid hEy
      have HXL := Lib.hid hxl
      have HYL := Lib.hid hyl
      have HN := Lib.hid bN
      have HR := Lib.hid bR
      have HO1 := Lib.hid (own_upd ho1 ((Upd.refl No wr).drew) (fun _ _ => id))
      have HO2 := Lib.hid (own_upd ho2 ((Upd.refl No wr).drew) (fun _ _ => id))
      have HG1 := Lib.hid (fun i (e : Own (.slice A1 0 0) i) => (ho1.lt i (own_any e)).1)
      have HG2 := Lib.hid (fun i (e : Own (.slice A2 0 0) i) => (ho2.lt i (own_any e)).1)
      have HD := Lib.hid hd
      have HU := Lib.hid hu
      have c0 := bN.cell 0
      have c1' := bN.cell 1
      simp only [List.getElem?_cons_zero, List.getElem?_cons_succ] at c0 c1'
      clear hxs hys hEx hEy bN bR ho1 ho2 hd hx hy hu hxl hyl
      go_wp2
      refine wp_region_noPanic ?_
      refine wp_region_held_drew (S := (fun w' => Upd (fun i => w.heap.size ≤ i) w w')) (by kernel_rfl) ?_ (fun hHeld => ?_)
      · (first | exact ((HU.out.mono (fun _ _ e => e.elim)).drew) | exact hHeld | exact hHeld.trans hq)
      refine wpT 0 ⟨some 29, .fieldAddr 106 (.tmp 3) 0, 0, "cycle.go:31", #[], none⟩ ?_ (.inl ⟨by rfl, ?_⟩) ?_
      rotate_left
      · (intro W hSw; (try dsimp only at hSw); go_simp; try (with_reducible rfl))
      try simp only [Act.put]
      try simp only [List.setIfInBounds_toArray]
      try simp only [List.set_cons_succ]
      try simp only [List.set_cons_zero]
      refine wpT 3 ⟨some 32, .fieldAddr 106 (.tmp 3) 1, 0, "cycle.go:31", #[], none⟩ ?_ (.inl ⟨by rfl, ?_⟩) ?_
      rotate_left
      · (intro W hSw; (try dsimp only at hSw); go_simp; try (with_reducible rfl))
      try simp only [Act.put]
      try simp only [List.setIfInBounds_toArray]
      try simp only [List.set_cons_succ]
      try simp only [List.set_cons_zero]
      refine wpAnyH_ready (rs := [1, 4]) (by kernel_rfl) (by simp) ?_
      refine AllReadyH.cons (o := ⟨some 30, .load 22 (.tmp 29), 22, "cycle.go:31", #[⟨0, .data⟩], none⟩) rfl (fun K hK => ?_) ?_
      · go_simp
        refine hK.out _ _ ?_ (fun hHeld => ?_)
        · (first | exact ((HU.out.mono (fun _ _ e => e.elim)).drew) | exact hHeld | exact hHeld.trans hq)
        clear hK K
        try simp only [Act.put]
        try simp only [List.setIfInBounds_toArray]
        try simp only [List.set_cons_succ]
        try simp only [List.set_cons_zero]
        refine wpAnyH_ready (rs := [2, 4]) (by kernel_rfl) (by simp) ?_
        refine AllReadyH.cons (o := ⟨some 31, .call { callee := .value (.func 123), args := #[.tmp 30], argTypes := #[22] }, 22, "cycle.go:31", #[⟨1, .data⟩], none⟩) rfl (fun K hK => ?_) ?_
        · go_simp
          (first
        | (go_at_call 123; refine (cranks wr.drew _ A1 c1 xs HO1.out (by have := HXL.out; omega)).mono ?_; rintro e w4 ⟨rfl, ho4, hu4⟩; have HN4 := Lib.hid ((show Blk wr.drew _ _ _ from HN.out).upd hu4 (fun e => by have := HG1.out _ (own_any e); omega)); have HR4 := Lib.hid ((show Blk wr.drew _ _ _ from HR.out).upd hu4 (fun e => by have := HG1.out _ (own_any e); omega)); have HO14 := Lib.hid ho4; have HO24 := Lib.hid (own_upd HO2.out hu4 (fun i e e2 => HD.out i (own_any e2) (own_any e))); have hq : Upd (fun i => w.heap.size ≤ i) wr.drew w4 := hu4.mono (fun i _ e => by have := HG1.out _ (own_any e); omega); have c41 := HN4.out.cell 1; simp only [List.getElem?_cons_zero, List.getElem?_cons_succ] at c41))
          try (go_wp2_with fail)
          refine hK.out _ _ ?_ (fun hHeld => ?_)
          · (first | exact ((HU.out.mono (fun _ _ e => e.elim)).drew) | exact hHeld | exact hHeld.trans hq)
          clear hK K
          try simp only [Act.put]
          try simp only [List.setIfInBounds_toArray]
          try simp only [List.set_cons_succ]
          try simp only [List.set_cons_zero]
          refine wpAnyH_ready (rs := [4]) (by kernel_rfl) (by simp) ?_
          refine AllReadyH.cons (o := ⟨some 33, .load 22 (.tmp 32), 22, "cycle.go:31", #[⟨3, .data⟩], none⟩) rfl (fun K hK => ?_) AllReadyH.nil
          go_simp
          refine hK.out _ _ ?_ (fun hHeld => ?_)
          · (first | exact ((HU.out.mono (fun _ _ e => e.elim)).drew) | exact hHeld | exact hHeld.trans hq)
          clear hK K
          try simp only [Act.put]
          try simp only [List.setIfInBounds_toArray]
          try simp only [List.set_cons_succ]
          try simp only [List.set_cons_zero]
          refine wpT 6 ⟨some 35, .fieldAddr 106 (.tmp 3) 0, 0, "cycle.go:31", #[⟨0, .phase⟩, ⟨1, .phase⟩, ⟨2, .phase⟩, ⟨3, .phase⟩, ⟨4, .phase⟩, { on := 5, ground := Go.Ground.textOnly Go.Departure.lateStoresUnsure }], none⟩ ?_ (.inl ⟨by rfl, ?_⟩) ?_
          rotate_left
          · (intro W hSw; (try dsimp only at hSw); go_simp; try (with_reducible rfl))
          try simp only [Act.put]
          try simp only [List.setIfInBounds_toArray]
          try simp only [List.set_cons_succ]
          try simp only [List.set_cons_zero]
          refine wpAnyH_ready (rs := [5]) (by kernel_rfl) (by simp) ?_
          refine AllReadyH.cons (o := ⟨some 34, .call { callee := .value (.func 123), args := #[.tmp 33], argTypes := #[22] }, 22, "cycle.go:31", #[⟨4, .data⟩, ⟨2, .chain⟩], none⟩) rfl (fun K hK => ?_) AllReadyH.nil
          go_simp
          (first
        | (go_at_call 123; refine (cranks w4 _ A2 c2 ys HO24.out (by have := HYL.out; omega)).mono ?_; rintro e w5 ⟨rfl, ho5, hu5⟩; have HN5 := Lib.hid (HN4.out.upd hu5 (fun e => by have := HG2.out _ (own_any e); omega)); have HR5 := Lib.hid (HR4.out.upd hu5 (fun e => by have := HG2.out _ (own_any e); omega)); have HO25 := Lib.hid ho5; have HO15 := Lib.hid (own_upd HO14.out hu5 (fun i e e2 => HD.out i (own_any e) (own_any e2))); have hq : Upd (fun i => w.heap.size ≤ i) w4 w5 := hu5.mono (fun i _ e => by have := HG2.out _ (own_any e); omega)))
          try (go_wp2_with fail)
          refine hK.out _ _ ?_ (fun hHeld => ?_)
          · (first | exact ((HU.out.mono (fun _ _ e => e.elim)).drew) | exact hHeld | exact hHeld.trans hq)
          clear hK K
          try simp only [Act.put]
          try simp only [List.setIfInBounds_toArray]
          try simp only [List.set_cons_succ]
          try simp only [List.set_cons_zero]
          refine wpAnyH_ready (rs := [7]) (by kernel_rfl) (by simp) ?_
          refine AllReadyH.cons (o := ⟨none, .store 22 (.tmp 35) (.tmp 31), 0, "cycle.go:31", #[⟨6, .data⟩, ⟨2, .data⟩, ⟨5, .chain⟩, ⟨0, .phase⟩, ⟨1, .phase⟩, ⟨2, .phase⟩, ⟨3, .phase⟩, ⟨4, .phase⟩, { on := 5, ground := Go.Ground.textOnly Go.Departure.lateStoresUnsure }], none⟩) rfl (fun K hK => ?_) AllReadyH.nil
          (first
        | (refine step_put1 rfl rfl (g := w.heap.size + 1) (i := 0) (v := .slice A1 (setK xs).length c1) rfl rfl HN5.out (by kernel_rfl) (by simp) rfl ?_; intro w6 hb6 hu6; have HN6 := Lib.hid hb6; have HR6 := Lib.hid (HR5.out.upd hu6 (by unfold One; omega)); have HO16 := Lib.hid (own_upd HO15.out hu6 (fun i e e2 => by have := HG1.out _ (own_any e); unfold One at e2; omega)); have HO26 := Lib.hid (own_upd HO25.out hu6 (fun i e e2 => by have := HG2.out _ (own_any e); unfold One at e2; omega)); have hq : Upd (fun i => w.heap.size ≤ i) w5 w6 := hu6.mono (fun i _ e => by unfold One at e; omega))
        | (refine step_put1 rfl rfl (g := w.heap.size + 1) (i := 1) (v := .slice A2 (setK ys).length c2) rfl rfl HN6.out (by kernel_rfl) (by simp) rfl ?_; intro w7 hb7 hu7; have HN7 := Lib.hid hb7; have HR7 := Lib.hid (HR6.out.upd hu7 (by unfold One; omega)); have HO17 := Lib.hid (own_upd HO16.out hu7 (fun i e e2 => by have := HG1.out _ (own_any e); unfold One at e2; omega)); have HO27 := Lib.hid (own_upd HO26.out hu7 (fun i e e2 => by have := HG2.out _ (own_any e); unfold One at e2; omega)); have hq : Upd (fun i => w.heap.size ≤ i) w6 w7 := hu7.mono (fun i _ e => by unfold One at e; omega)))
          refine hK.out _ _ ?_ (fun hHeld => ?_)
          · (first | exact ((HU.out.mono (fun _ _ e => e.elim)).drew) | exact hHeld | exact hHeld.trans hq)
          clear hK K
          try simp only [Act.put]
          try simp only [List.setIfInBounds_toArray]
          try simp only [List.set_cons_succ]
          try simp only [List.set_cons_zero]
          refine wpT 8 ⟨some 36, .fieldAddr 106 (.tmp 3) 1, 0, "cycle.go:31", #[⟨0, .phase⟩, ⟨1, .phase⟩, ⟨2, .phase⟩, ⟨3, .phase⟩, ⟨4, .phase⟩, ⟨5, .phase⟩, ⟨6, .phase⟩, ⟨7, .phase⟩], none⟩ ?_ (.inl ⟨by rfl, ?_⟩) ?_
          rotate_left
          · (intro W hSw; (try dsimp only at hSw); go_simp; try (with_reducible rfl))
          try simp only [Act.put]
          try simp only [List.setIfInBounds_toArray]
          try simp only [List.set_cons_succ]
          try simp only [List.set_cons_zero]
          refine wpAnyH_ready (rs := [9]) (by kernel_rfl) (by simp) ?_
          refine AllReadyH.cons (o := ⟨none, .store 22 (.tmp 36) (.tmp 34), 0, "cycle.go:31", #[⟨8, .data⟩, ⟨5, .data⟩, ⟨7, .chain⟩, ⟨0, .phase⟩, ⟨1, .phase⟩, ⟨2, .phase⟩, ⟨3, .phase⟩, ⟨4, .phase⟩, ⟨5, .phase⟩, ⟨6, .phase⟩, ⟨7, .phase⟩], none⟩) rfl (fun K hK => ?_) AllReadyH.nil
          (first
        | (refine step_put1 rfl rfl (g := w.heap.size + 1) (i := 0) (v := .slice A1 (setK xs).length c1) rfl rfl HN5.out (by kernel_rfl) (by simp) rfl ?_; intro w6 hb6 hu6; have HN6 := Lib.hid hb6; have HR6 := Lib.hid (HR5.out.upd hu6 (by unfold One; omega)); have HO16 := Lib.hid (own_upd HO15.out hu6 (fun i e e2 => by have := HG1.out _ (own_any e); unfold One at e2; omega)); have HO26 := Lib.hid (own_upd HO25.out hu6 (fun i e e2 => by have := HG2.out _ (own_any e); unfold One at e2; omega)); have hq : Upd (fun i => w.heap.size ≤ i) w5 w6 := hu6.mono (fun i _ e => by unfold One at e; omega))
        | (refine step_put1 rfl rfl (g := w.heap.size + 1) (i := 1) (v := .slice A2 (setK ys).length c2) rfl rfl HN6.out (by kernel_rfl) (by simp) rfl ?_; intro w7 hb7 hu7; have HN7 := Lib.hid hb7; have HR7 := Lib.hid (HR6.out.upd hu7 (by unfold One; omega)); have HO17 := Lib.hid (own_upd HO16.out hu7 (fun i e e2 => by have := HG1.out _ (own_any e); unfold One at e2; omega)); have HO27 := Lib.hid (own_upd HO26.out hu7 (fun i e e2 => by have := HG2.out _ (own_any e); unfold One at e2; omega)); have hq : Upd (fun i => w.heap.size ≤ i) w6 w7 := hu7.mono (fun i _ e => by unfold One at e; omega)))
          refine hK.out _ _ ?_ (fun hHeld => ?_)
          · (first | exact ((HU.out.mono (fun _ _ e => e.elim)).drew) | exact hHeld | exact hHeld.trans hq)
          clear hK K
          try simp only [Act.put]
          try simp only [List.setIfInBounds_toArray]
          try simp only [List.set_cons_succ]
          try simp only [List.set_cons_zero]
          refine wpAnyH_done (by kernel_rfl) (NoPanic.normal ?_) _
          have m0 := HN7.out.cell 0
          have m1 := HN7.out.cell 1
          have s0 := HR7.out.cell 0
          have s1 := HR7.out.cell 1
          have t0 := HR7.out.free 0
          have t1 := HR7.out.free 1
          simp only [List.set_cons_zero, List.set_cons_succ, List.getElem?_cons_zero, List.getElem?_cons_succ] at m0 m1 s0 s1
          have HZ := Lib.hid hHeld
          clear hHeld hq hb6 hb7 ho4 ho5 hu4 hu5 hu6 hu7 c0 c1' c41 HN4 HN5 HN6 HN7 HR4 HR5 HR6 HO14 HO24 HO15 HO25 HO16 HO26
          go_wp2
          have b9 := (HR7.out.set_ 0 (.slice A1 (setK xs).length c1)).set_ 1 (.slice A2 (setK ys).length c2)
          simp only [List.set_cons_zero, List.set_cons_succ] at b9
          have US := ((Upd.refl (One w.heap.size) w7).setOne 0 (.slice A1 (setK xs).length c1)).setOne 1 (.slice A2 (setK ys).length c2)
          refine bodyPost_ret (results_cell_row (p := 2) rfl _ _ _ _ _ _ _ rfl b9 Try.underlying106 rfl (by kernel_rfl)) rfl ⟨A1, c1, A2, c2, by rw [← HEX.out, ← HEY.out], ?_, ?_, ?_⟩
          · rw [← HEX.out]; exact (Ints.of_owned (own_upd HO17.out US (fun i e e2 => by have := HG1.out _ (own_any e); unfold One at e2; omega))).weak (fun i _ h => by omega)
          · rw [← HEY.out]; exact (Ints.of_owned (own_upd HO27.out US (fun i e e2 => by have := HG2.out _ (own_any e); unfold One at e2; omega))).weak (fun i _ h => by omega)
          · exact ((Upd.refl No w).then_ (HZ.out.then_ US (fun i e => .inr (by unfold One at e; omega))) (fun i e => .inr e))
        refine AllReadyH.cons (o := ⟨some 33, .load 22 (.tmp 32), 22, "cycle.go:31", #[⟨3, .data⟩], none⟩) rfl (fun K hK => ?_) AllReadyH.nil
        go_simp
        refine hK.out _ _ ?_ (fun hHeld => ?_)
        · (first | exact ((HU.out.mono (fun _ _ e => e.elim)).drew) | exact hHeld | exact hHeld.trans hq)
        clear hK K
        try simp only [Act.put]
        try simp only [List.setIfInBounds_toArray]
        try simp only [List.set_cons_succ]
        try simp only [List.set_cons_zero]
        refine wpAnyH_ready (rs := [2]) (by kernel_rfl) (by simp) ?_
        refine AllReadyH.cons (o := ⟨some 31, .call { callee := .value (.func 123), args := #[.tmp 30], argTypes := #[22] }, 22, "cycle.go:31", #[⟨1, .data⟩], none⟩) rfl (fun K hK => ?_) AllReadyH.nil
        go_simp
        (first
      | (go_at_call 123; refine (cranks wr.drew _ A1 c1 xs HO1.out (by have := HXL.out; omega)).mono ?_; rintro e w4 ⟨rfl, ho4, hu4⟩; have HN4 := Lib.hid ((show Blk wr.drew _ _ _ from HN.out).upd hu4 (fun e => by have := HG1.out _ (own_any e); omega)); have HR4 := Lib.hid ((show Blk wr.drew _ _ _ from HR.out).upd hu4 (fun e => by have := HG1.out _ (own_any e); omega)); have HO14 := Lib.hid ho4; have HO24 := Lib.hid (own_upd HO2.out hu4 (fun i e e2 => HD.out i (own_any e2) (own_any e))); have hq : Upd (fun i => w.heap.size ≤ i) wr.drew w4 := hu4.mono (fun i _ e => by have := HG1.out _ (own_any e); omega); have c41 := HN4.out.cell 1; simp only [List.getElem?_cons_zero, List.getElem?_cons_succ] at c41))
        try (go_wp2_with fail)
        refine hK.out _ _ ?_ (fun hHeld => ?_)
        · (first | exact ((HU.out.mono (fun _ _ e => e.elim)).drew) | exact hHeld | exact hHeld.trans hq)
        clear hK K
        try simp only [Act.put]
        try simp only [List.setIfInBounds_toArray]
        try simp only [List.set_cons_succ]
        try simp only [List.set_cons_zero]
        refine wpT 6 ⟨some 35, .fieldAddr 106 (.tmp 3) 0, 0, "cycle.go:31", #[⟨0, .phase⟩, ⟨1, .phase⟩, ⟨2, .phase⟩, ⟨3, .phase⟩, ⟨4, .phase⟩, { on := 5, ground := Go.Ground.textOnly Go.Departure.lateStoresUnsure }], none⟩ ?_ (.inl ⟨by rfl, ?_⟩) ?_
        rotate_left
        · (intro W hSw; (try dsimp only at hSw); go_simp; try (with_reducible rfl))
        try simp only [Act.put]
        try simp only [List.setIfInBounds_toArray]
        try simp only [List.set_cons_succ]
        try simp only [List.set_cons_zero]
        refine wpAnyH_ready (rs := [5]) (by kernel_rfl) (by simp) ?_
        refine AllReadyH.cons (o := ⟨some 34, .call { callee := .value (.func 123), args := #[.tmp 33], argTypes := #[22] }, 22, "cycle.go:31", #[⟨4, .data⟩, ⟨2, .chain⟩], none⟩) rfl (fun K hK => ?_) AllReadyH.nil
        go_simp
        (first
      | (go_at_call 123; refine (cranks w4 _ A2 c2 ys HO24.out (by have := HYL.out; omega)).mono ?_; rintro e w5 ⟨rfl, ho5, hu5⟩; have HN5 := Lib.hid (HN4.out.upd hu5 (fun e => by have := HG2.out _ (own_any e); omega)); have HR5 := Lib.hid (HR4.out.upd hu5 (fun e => by have := HG2.out _ (own_any e); omega)); have HO25 := Lib.hid ho5; have HO15 := Lib.hid (own_upd HO14.out hu5 (fun i e e2 => HD.out i (own_any e) (own_any e2))); have hq : Upd (fun i => w.heap.size ≤ i) w4 w5 := hu5.mono (fun i _ e => by have := HG2.out _ (own_any e); omega)))
        try (go_wp2_with fail)
        refine hK.out _ _ ?_ (fun hHeld => ?_)
        · (first | exact ((HU.out.mono (fun _ _ e => e.elim)).drew) | exact hHeld | exact hHeld.trans hq)
        clear hK K
        try simp only [Act.put]
        try simp only [List.setIfInBounds_toArray]
        try simp only [List.set_cons_succ]
        try simp only [List.set_cons_zero]
        refine wpAnyH_ready (rs := [7]) (by kernel_rfl) (by simp) ?_
        refine AllReadyH.cons (o := ⟨none, .store 22 (.tmp 35) (.tmp 31), 0, "cycle.go:31", #[⟨6, .data⟩, ⟨2, .data⟩, ⟨5, .chain⟩, ⟨0, .phase⟩, ⟨1, .phase⟩, ⟨2, .phase⟩, ⟨3, .phase⟩, ⟨4, .phase⟩, { on := 5, ground := Go.Ground.textOnly Go.Departure.lateStoresUnsure }], none⟩) rfl (fun K hK => ?_) AllReadyH.nil
        (first
      | (refine step_put1 rfl rfl (g := w.heap.size + 1) (i := 0) (v := .slice A1 (setK xs).length c1) rfl rfl HN5.out (by kernel_rfl) (by simp) rfl ?_; intro w6 hb6 hu6; have HN6 := Lib.hid hb6; have HR6 := Lib.hid (HR5.out.upd hu6 (by unfold One; omega)); have HO16 := Lib.hid (own_upd HO15.out hu6 (fun i e e2 => by have := HG1.out _ (own_any e); unfold One at e2; omega)); have HO26 := Lib.hid (own_upd HO25.out hu6 (fun i e e2 => by have := HG2.out _ (own_any e); unfold One at e2; omega)); have hq : Upd (fun i => w.heap.size ≤ i) w5 w6 := hu6.mono (fun i _ e => by unfold One at e; omega))
      | (refine step_put1 rfl rfl (g := w.heap.size + 1) (i := 1) (v := .slice A2 (setK ys).length c2) rfl rfl HN6.out (by kernel_rfl) (by simp) rfl ?_; intro w7 hb7 hu7; have HN7 := Lib.hid hb7; have HR7 := Lib.hid (HR6.out.upd hu7 (by unfold One; omega)); have HO17 := Lib.hid (own_upd HO16.out hu7 (fun i e e2 => by have := HG1.out _ (own_any e); unfold One at e2; omega)); have HO27 := Lib.hid (own_upd HO26.out hu7 (fun i e e2 => by have := HG2.out _ (own_any e); unfold One at e2; omega)); have hq : Upd (fun i => w.heap.size ≤ i) w6 w7 := hu7.mono (fun i _ e => by unfold One at e; omega)))
        refine hK.out _ _ ?_ (fun hHeld => ?_)
        · (first | exact ((HU.out.mono (fun _ _ e => e.elim)).drew) | exact hHeld | exact hHeld.trans hq)
        clear hK K
        try simp only [Act.put]
        try simp only [List.setIfInBounds_toArray]
        try simp only [List.set_cons_succ]
        try simp only [List.set_cons_zero]
        refine wpT 8 ⟨some 36, .fieldAddr 106 (.tmp 3) 1, 0, "cycle.go:31", #[⟨0, .phase⟩, ⟨1, .phase⟩, ⟨2, .phase⟩, ⟨3, .phase⟩, ⟨4, .phase⟩, ⟨5, .phase⟩, ⟨6, .phase⟩, ⟨7, .phase⟩], none⟩ ?_ (.inl ⟨by rfl, ?_⟩) ?_
        rotate_left
        · (intro W hSw; (try dsimp only at hSw); go_simp; try (with_reducible rfl))
        try simp only [Act.put]
        try simp only [List.setIfInBounds_toArray]
        try simp only [List.set_cons_succ]
        try simp only [List.set_cons_zero]
        refine wpAnyH_ready (rs := [9]) (by kernel_rfl) (by simp) ?_
        refine AllReadyH.cons (o := ⟨none, .store 22 (.tmp 36) (.tmp 34), 0, "cycle.go:31", #[⟨8, .data⟩, ⟨5, .data⟩, ⟨7, .chain⟩, ⟨0, .phase⟩, ⟨1, .phase⟩, ⟨2, .phase⟩, ⟨3, .phase⟩, ⟨4, .phase⟩, ⟨5, .phase⟩, ⟨6, .phase⟩, ⟨7, .phase⟩], none⟩) rfl (fun K hK => ?_) AllReadyH.nil
        (first
      | (refine step_put1 rfl rfl (g := w.heap.size + 1) (i := 0) (v := .slice A1 (setK xs).length c1) rfl rfl HN5.out (by kernel_rfl) (by simp) rfl ?_; intro w6 hb6 hu6; have HN6 := Lib.hid hb6; have HR6 := Lib.hid (HR5.out.upd hu6 (by unfold One; omega)); have HO16 := Lib.hid (own_upd HO15.out hu6 (fun i e e2 => by have := HG1.out _ (own_any e); unfold One at e2; omega)); have HO26 := Lib.hid (own_upd HO25.out hu6 (fun i e e2 => by have := HG2.out _ (own_any e); unfold One at e2; omega)); have hq : Upd (fun i => w.heap.size ≤ i) w5 w6 := hu6.mono (fun i _ e => by unfold One at e; omega))
      | (refine step_put1 rfl rfl (g := w.heap.size + 1) (i := 1) (v := .slice A2 (setK ys).length c2) rfl rfl HN6.out (by kernel_rfl) (by simp) rfl ?_; intro w7 hb7 hu7; have HN7 := Lib.hid hb7; have HR7 := Lib.hid (HR6.out.upd hu7 (by unfold One; omega)); have HO17 := Lib.hid (own_upd HO16.out hu7 (fun i e e2 => by have := HG1.out _ (own_any e); unfold One at e2; omega)); have HO27 := Lib.hid (own_upd HO26.out hu7 (fun i e e2 => by have := HG2.out _ (own_any e); unfold One at e2; omega)); have hq : Upd (fun i => w.heap.size ≤ i) w6 w7 := hu7.mono (fun i _ e => by unfold One at e; omega)))
        refine hK.out _ _ ?_ (fun hHeld => ?_)
        · (first | exact ((HU.out.mono (fun _ _ e => e.elim)).drew) | exact hHeld | exact hHeld.trans hq)
        clear hK K
        try simp only [Act.put]
        try simp only [List.setIfInBounds_toArray]
        try simp only [List.set_cons_succ]
        try simp only [List.set_cons_zero]
        refine wpAnyH_done (by kernel_rfl) (NoPanic.normal ?_) _
        have m0 := HN7.out.cell 0
        have m1 := HN7.out.cell 1
        have s0 := HR7.out.cell 0
        have s1 := HR7.out.cell 1
        have t0 := HR7.out.free 0
        have t1 := HR7.out.free 1
        simp only [List.set_cons_zero, List.set_cons_succ, List.getElem?_cons_zero, List.getElem?_cons_succ] at m0 m1 s0 s1
        have HZ := Lib.hid hHeld
        clear hHeld hq hb6 hb7 ho4 ho5 hu4 hu5 hu6 hu7 c0 c1' c41 HN4 HN5 HN6 HN7 HR4 HR5 HR6 HO14 HO24 HO15 HO25 HO16 HO26
        go_wp2
        have b9 := (HR7.out.set_ 0 (.slice A1 (setK xs).length c1)).set_ 1 (.slice A2 (setK ys).length c2)
        simp only [List.set_cons_zero, List.set_cons_succ] at b9
        have US := ((Upd.refl (One w.heap.size) w7).setOne 0 (.slice A1 (setK xs).length c1)).setOne 1 (.slice A2 (setK ys).length c2)
        refine bodyPost_ret (results_cell_row (p := 2) rfl _ _ _ _ _ _ _ rfl b9 Try.underlying106 rfl (by kernel_rfl)) rfl ⟨A1, c1, A2, c2, by rw [← HEX.out, ← HEY.out], ?_, ?_, ?_⟩
        · rw [← HEX.out]; exact (Ints.of_owned (own_upd HO17.out US (fun i e e2 => by have := HG1.out _ (own_any e); unfold One at e2; omega))).weak (fun i _ h => by omega)
        · rw [← HEY.out]; exact (Ints.of_owned (own_upd HO27.out US (fun i e e2 => by have := HG2.out _ (own_any e); unfold One at e2; omega))).weak (fun i _ h => by omega)
        · exact ((Upd.refl No w).then_ (HZ.out.then_ US (fun i e => .inr (by unfold One at e; omega))) (fun i e => .inr e))
      refine AllReadyH.cons (o := ⟨some 33, .load 22 (.tmp 32), 22, "cycle.go:31", #[⟨3, .data⟩], none⟩) rfl (fun K hK => ?_) AllReadyH.nil
      go_simp
      refine hK.out _ _ ?_ (fun hHeld => ?_)
      · (first | exact ((HU.out.mono (fun _ _ e => e.elim)).drew) | exact hHeld | exact hHeld.trans hq)
      clear hK K
      try simp only [Act.put]
      try simp only [List.setIfInBounds_toArray]
      try simp only [List.set_cons_succ]
      try simp only [List.set_cons_zero]
      refine wpAnyH_ready (rs := [1]) (by kernel_rfl) (by simp) ?_
      refine AllReadyH.cons (o := ⟨some 30, .load 22 (.tmp 29), 22, "cycle.go:31", #[⟨0, .data⟩], none⟩) rfl (fun K hK => ?_) AllReadyH.nil
      go_simp
      refine hK.out _ _ ?_ (fun hHeld => ?_)
      · (first | exact ((HU.out.mono (fun _ _ e => e.elim)).drew) | exact hHeld | exact hHeld.trans hq)
      clear hK K
      try simp only [Act.put]
      try simp only [List.setIfInBounds_toArray]
      try simp only [List.set_cons_succ]
      try simp only [List.set_cons_zero]
      refine wpAnyH_ready (rs := [2]) (by kernel_rfl) (by simp) ?_
      refine AllReadyH.cons (o := ⟨some 31, .call { callee := .value (.func 123), args := #[.tmp 30], argTypes := #[22] }, 22, "cycle.go:31", #[⟨1, .data⟩], none⟩) rfl (fun K hK => ?_) AllReadyH.nil
      go_simp
      (first
    | (go_at_call 123; refine (cranks wr.drew _ A1 c1 xs HO1.out (by have := HXL.out; omega)).mono ?_; rintro e w4 ⟨rfl, ho4, hu4⟩; have HN4 := Lib.hid ((show Blk wr.drew _ _ _ from HN.out).upd hu4 (fun e => by have := HG1.out _ (own_any e); omega)); have HR4 := Lib.hid ((show Blk wr.drew _ _ _ from HR.out).upd hu4 (fun e => by have := HG1.out _ (own_any e); omega)); have HO14 := Lib.hid ho4; have HO24 := Lib.hid (own_upd HO2.out hu4 (fun i e e2 => HD.out i (own_any e2) (own_any e))); have hq : Upd (fun i => w.heap.size ≤ i) wr.drew w4 := hu4.mono (fun i _ e => by have := HG1.out _ (own_any e); omega); have c41 := HN4.out.cell 1; simp only [List.getElem?_cons_zero, List.getElem?_cons_succ] at c41))
      try (go_wp2_with fail)
      refine hK.out _ _ ?_ (fun hHeld => ?_)
      · (first | exact ((HU.out.mono (fun _ _ e => e.elim)).drew) | exact hHeld | exact hHeld.trans hq)
      clear hK K
      try simp only [Act.put]
      try simp only [List.setIfInBounds_toArray]
      try simp only [List.set_cons_succ]
      try simp only [List.set_cons_zero]
      refine wpT 6 ⟨some 35, .fieldAddr 106 (.tmp 3) 0, 0, "cycle.go:31", #[⟨0, .phase⟩, ⟨1, .phase⟩, ⟨2, .phase⟩, ⟨3, .phase⟩, ⟨4, .phase⟩, { on := 5, ground := Go.Ground.textOnly Go.Departure.lateStoresUnsure }], none⟩ ?_ (.inl ⟨by rfl, ?_⟩) ?_
      rotate_left
      · (intro W hSw; (try dsimp only at hSw); go_simp; try (with_reducible rfl))
      try simp only [Act.put]
      try simp only [List.setIfInBounds_toArray]
      try simp only [List.set_cons_succ]
      try simp only [List.set_cons_zero]
      refine wpAnyH_ready (rs := [5]) (by kernel_rfl) (by simp) ?_
      refine AllReadyH.cons (o := ⟨some 34, .call { callee := .value (.func 123), args := #[.tmp 33], argTypes := #[22] }, 22, "cycle.go:31", #[⟨4, .data⟩, ⟨2, .chain⟩], none⟩) rfl (fun K hK => ?_) AllReadyH.nil
      go_simp
      (first
    | (go_at_call 123; refine (cranks w4 _ A2 c2 ys HO24.out (by have := HYL.out; omega)).mono ?_; rintro e w5 ⟨rfl, ho5, hu5⟩; have HN5 := Lib.hid (HN4.out.upd hu5 (fun e => by have := HG2.out _ (own_any e); omega)); have HR5 := Lib.hid (HR4.out.upd hu5 (fun e => by have := HG2.out _ (own_any e); omega)); have HO25 := Lib.hid ho5; have HO15 := Lib.hid (own_upd HO14.out hu5 (fun i e e2 => HD.out i (own_any e) (own_any e2))); have hq : Upd (fun i => w.heap.size ≤ i) w4 w5 := hu5.mono (fun i _ e => by have := HG2.out _ (own_any e); omega)))
      try (go_wp2_with fail)
      refine hK.out _ _ ?_ (fun hHeld => ?_)
      · (first | exact ((HU.out.mono (fun _ _ e => e.elim)).drew) | exact hHeld | exact hHeld.trans hq)
      clear hK K
      try simp only [Act.put]
      try simp only [List.setIfInBounds_toArray]
      try simp only [List.set_cons_succ]
      try simp only [List.set_cons_zero]
      refine wpAnyH_ready (rs := [7]) (by kernel_rfl) (by simp) ?_
      refine AllReadyH.cons (o := ⟨none, .store 22 (.tmp 35) (.tmp 31), 0, "cycle.go:31", #[⟨6, .data⟩, ⟨2, .data⟩, ⟨5, .chain⟩, ⟨0, .phase⟩, ⟨1, .phase⟩, ⟨2, .phase⟩, ⟨3, .phase⟩, ⟨4, .phase⟩, { on := 5, ground := Go.Ground.textOnly Go.Departure.lateStoresUnsure }], none⟩) rfl (fun K hK => ?_) AllReadyH.nil
      (first
    | (refine step_put1 rfl rfl (g := w.heap.size + 1) (i := 0) (v := .slice A1 (setK xs).length c1) rfl rfl HN5.out (by kernel_rfl) (by simp) rfl ?_; intro w6 hb6 hu6; have HN6 := Lib.hid hb6; have HR6 := Lib.hid (HR5.out.upd hu6 (by unfold One; omega)); have HO16 := Lib.hid (own_upd HO15.out hu6 (fun i e e2 => by have := HG1.out _ (own_any e); unfold One at e2; omega)); have HO26 := Lib.hid (own_upd HO25.out hu6 (fun i e e2 => by have := HG2.out _ (own_any e); unfold One at e2; omega)); have hq : Upd (fun i => w.heap.size ≤ i) w5 w6 := hu6.mono (fun i _ e => by unfold One at e; omega))
    | (refine step_put1 rfl rfl (g := w.heap.size + 1) (i := 1) (v := .slice A2 (setK ys).length c2) rfl rfl HN6.out (by kernel_rfl) (by simp) rfl ?_; intro w7 hb7 hu7; have HN7 := Lib.hid hb7; have HR7 := Lib.hid (HR6.out.upd hu7 (by unfold One; omega)); have HO17 := Lib.hid (own_upd HO16.out hu7 (fun i e e2 => by have := HG1.out _ (own_any e); unfold One at e2; omega)); have HO27 := Lib.hid (own_upd HO26.out hu7 (fun i e e2 => by have := HG2.out _ (own_any e); unfold One at e2; omega)); have hq : Upd (fun i => w.heap.size ≤ i) w6 w7 := hu7.mono (fun i _ e => by unfold One at e; omega)))
      refine hK.out _ _ ?_ (fun hHeld => ?_)
      · (first | exact ((HU.out.mono (fun _ _ e => e.elim)).drew) | exact hHeld | exact hHeld.trans hq)
      clear hK K
      try simp only [Act.put]
      try simp only [List.setIfInBounds_toArray]
      try simp only [List.set_cons_succ]
      try simp only [List.set_cons_zero]
      refine wpT 8 ⟨some 36, .fieldAddr 106 (.tmp 3) 1, 0, "cycle.go:31", #[⟨0, .phase⟩, ⟨1, .phase⟩, ⟨2, .phase⟩, ⟨3, .phase⟩, ⟨4, .phase⟩, ⟨5, .phase⟩, ⟨6, .phase⟩, ⟨7, .phase⟩], none⟩ ?_ (.inl ⟨by rfl, ?_⟩) ?_
      rotate_left
      · (intro W hSw; (try dsimp only at hSw); go_simp; try (with_reducible rfl))
      try simp only [Act.put]
      try simp only [List.setIfInBounds_toArray]
      try simp only [List.set_cons_succ]
      try simp only [List.set_cons_zero]
      refine wpAnyH_ready (rs := [9]) (by kernel_rfl) (by simp) ?_
      refine AllReadyH.cons (o := ⟨none, .store 22 (.tmp 36) (.tmp 34), 0, "cycle.go:31", #[⟨8, .data⟩, ⟨5, .data⟩, ⟨7, .chain⟩, ⟨0, .phase⟩, ⟨1, .phase⟩, ⟨2, .phase⟩, ⟨3, .phase⟩, ⟨4, .phase⟩, ⟨5, .phase⟩, ⟨6, .phase⟩, ⟨7, .phase⟩], none⟩) rfl (fun K hK => ?_) AllReadyH.nil
      (first
    | (refine step_put1 rfl rfl (g := w.heap.size + 1) (i := 0) (v := .slice A1 (setK xs).length c1) rfl rfl HN5.out (by kernel_rfl) (by simp) rfl ?_; intro w6 hb6 hu6; have HN6 := Lib.hid hb6; have HR6 := Lib.hid (HR5.out.upd hu6 (by unfold One; omega)); have HO16 := Lib.hid (own_upd HO15.out hu6 (fun i e e2 => by have := HG1.out _ (own_any e); unfold One at e2; omega)); have HO26 := Lib.hid (own_upd HO25.out hu6 (fun i e e2 => by have := HG2.out _ (own_any e); unfold One at e2; omega)); have hq : Upd (fun i => w.heap.size ≤ i) w5 w6 := hu6.mono (fun i _ e => by unfold One at e; omega))
    | (refine step_put1 rfl rfl (g := w.heap.size + 1) (i := 1) (v := .slice A2 (setK ys).length c2) rfl rfl HN6.out (by kernel_rfl) (by simp) rfl ?_; intro w7 hb7 hu7; have HN7 := Lib.hid hb7; have HR7 := Lib.hid (HR6.out.upd hu7 (by unfold One; omega)); have HO17 := Lib.hid (own_upd HO16.out hu7 (fun i e e2 => by have := HG1.out _ (own_any e); unfold One at e2; omega)); have HO27 := Lib.hid (own_upd HO26.out hu7 (fun i e e2 => by have := HG2.out _ (own_any e); unfold One at e2; omega)); have hq : Upd (fun i => w.heap.size ≤ i) w6 w7 := hu7.mono (fun i _ e => by unfold One at e; omega)))
      refine hK.out _ _ ?_ (fun hHeld => ?_)
      · (first | exact ((HU.out.mono (fun _ _ e => e.elim)).drew) | exact hHeld | exact hHeld.trans hq)
      clear hK K
      try simp only [Act.put]
      try simp only [List.setIfInBounds_toArray]
      try simp only [List.set_cons_succ]
      try simp only [List.set_cons_zero]
      refine wpAnyH_done (by kernel_rfl) (NoPanic.normal ?_) _
      have m0 := HN7.out.cell 0
      have m1 := HN7.out.cell 1
      have s0 := HR7.out.cell 0
      have s1 := HR7.out.cell 1
      have t0 := HR7.out.free 0
      have t1 := HR7.out.free 1
      simp only [List.set_cons_zero, List.set_cons_succ, List.getElem?_cons_zero, List.getElem?_cons_succ] at m0 m1 s0 s1
      have HZ := Lib.hid hHeld
      clear hHeld hq hb6 hb7 ho4 ho5 hu4 hu5 hu6 hu7 c0 c1' c41 HN4 HN5 HN6 HN7 HR4 HR5 HR6 HO14 HO24 HO15 HO25 HO16 HO26
      go_wp2
      have b9 := (HR7.out.set_ 0 (.slice A1 (setK xs).length c1)).set_ 1 (.slice A2 (setK ys).length c2)
      simp only [List.set_cons_zero, List.set_cons_succ] at b9
      have US := ((Upd.refl (One w.heap.size) w7).setOne 0 (.slice A1 (setK xs).length c1)).setOne 1 (.slice A2 (setK ys).length c2)
      refine bodyPost_ret (results_cell_row (p := 2) rfl _ _ _ _ _ _ _ rfl b9 Try.underlying106 rfl (by kernel_rfl)) rfl ⟨A1, c1, A2, c2, by rw [← HEX.out, ← HEY.out], ?_, ?_, ?_⟩
      · rw [← HEX.out]; exact (Ints.of_owned (own_upd HO17.out US (fun i e e2 => by have := HG1.out _ (own_any e); unfold One at e2; omega))).weak (fun i _ h => by omega)
      · rw [← HEY.out]; exact (Ints.of_owned (own_upd HO27.out US (fun i e e2 => by have := HG2.out _ (own_any e); unfold One at e2; omega))).weak (fun i _ h => by omega)
      · exact ((Upd.refl No w).then_ (HZ.out.then_ US (fun i e => .inr (by unfold One at e; omega))) (fun i e => .inr e))
end Go.Proofs.Ytaicemjckagcaaa
