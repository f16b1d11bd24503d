/- Closed walks: what is left behind an arc. -/
import Derived.Test.YtaicemjckagcaaaMbf
import Derived.Test.YtaicemjckagcaaaMbk
import Derived.Test.YtaicemjckagcaaaMbl
import Derived.Test.YtaicemjckagcaaaMbm
namespace Go.Proofs.Ytaicemjckagcaaa
set_option linter.unusedVariables false
open Go.RowKit
/-- the two rows of distances in memory -/
structure LoopI (w : World) (A B : Option Addr) (N : Nat) (da dw : Int → Int) : Prop where
  a : Ints (fun _ => True) w A (rowD N da)
  b : Ints (fun _ => True) w B (rowD N dw)
theorem LoopI.upd {w w' : World} {A B : Option Addr} {N : Nat} {da dw : Int → Int} (h : LoopI w A B N da dw) (hu : Upd No w w') : LoopI w' A B N da dw := ⟨h.a.upd hu (fun _ _ => id), h.b.upd hu (fun _ _ => id)⟩
theorem and_one0 (x : Int) : (bits .and .i64 x 1 == 0) = !decide (x % 2 = 1) := by
  have h := and_lit x 1 (by omega)
  rw [Nat.and_one_is_mod] at h
  have h' : bits .and .i64 x 1 = (((x % 18446744073709551616).toNat % 2 : Nat) : Int) := h
  rw [h', Bool.eq_iff_iff, beq_iff_eq, Bool.not_eq_true', decide_eq_false_iff_not]
  omega
set_option maxRecDepth 100000 in
set_option maxHeartbeats 4000000 in
theorem cleft (w : World) (p0 A B : Option Addr) (N : Nat) (mask must : Int) (da dw : Int → Int) (h : LoopI w A B N da dw) (a : HArc) (hk1 : 1 ≤ a.kind) (hk2 : a.kind ≤ 3) (ht0 : 0 ≤ a.t) (ht1 : a.t < (N : Int)) (need : Bool) :
    Calls Try.prog 127 #[.agg #[.pointer p0, .int .i64 mask, .int .i64 must, .slice A N N, .slice B N N], .agg a.cells.toArray, .bool need] w fun e w' => e = .returned (.int .i64 (leftF must da dw need a)) ∧ Upd No w w' := by
  obtain ⟨af, at', ak, al⟩ := a
  simp only at hk1 hk2 ht0 ht1
  obtain ⟨t, rfl⟩ : ∃ t : Nat, at' = (t : Int) := ⟨at'.toNat, by omega⟩
  have ht : t < N := by omega
  have hk : ak = 1 ∨ ak = 2 ∨ ak = 3 := by omega
  obtain ⟨wb, hwb⟩ : ∃ wb, (w.alloc (.cells #[.pointer p0, .int .i64 mask, .int .i64 must, .slice A N N, .slice B N N] 111)).alloc (.cells #[.int .i64 af, .int .i64 (t : Int), .int .i64 ak, .int .i64 al] 41) = wb := ⟨_, rfl⟩
  have u0 : Upd No w wb := by rw [← hwb]; exact ((Upd.refl No w).alloc _).alloc _
  obtain ⟨aa, rfl, _, _, ca⟩ := (h.upd u0).a.at_ (k := t) (by rw [rowD_len]; exact ht)
  obtain ⟨ab, rfl, _, _, cb⟩ := (h.upd u0).b.at_ (k := t) (by rw [rowD_len]; exact ht)
  have ea : (rowD N da)[t]'(by rw [rowD_len]; exact ht) = da t := by have := rowD_at da ht; rw [List.getElem?_eq_some_iff] at this; exact this.2
  have eb : (rowD N dw)[t]'(by rw [rowD_len]; exact ht) = dw t := by have := rowD_at dw ht; rw [List.getElem?_eq_some_iff] at this; exact this.2
  rw [ea] at ca
  rw [eb] at cb
  have i1 : (0 : Int) ≤ (t : Int) := Int.natCast_nonneg _
  rw [← hwb] at ca cb
  have U0 := Lib.hid u0
  subst hwb
  unfold HArc.cells
  clear h u0 ea eb hk1 hk2 ht0
  rcases hk with rfl | rfl | rfl
  · have hb := and_one0 (must / 2)
    rw [show decide ((must / 2) % 2 = 1) = bitM must 1 from rfl] at hb
    have hv := Lib.hid (show leftF must da dw need ⟨af, t, 1, al⟩ = if (need && !bitM must 1) = true then dw t else da t from rfl)
    cases hbm : bitM must 1
    all_goals
      rw [hbm] at hb hv
      have hv' := hv.out
      first | rw [Bool.not_false] at hb | rw [Bool.not_true] at hb
      cases need
      all_goals
        have HV := Lib.hid hv'
        clear hv hv' hbm
        go_enter Try.func127, Try.ntmps127
        go_wp2
        go_ret
        exact ⟨by rw [HV.out]; rfl, U0.out⟩
  · have hb := and_one0 (must / 4)
    rw [show decide ((must / 4) % 2 = 1) = bitM must 2 from rfl] at hb
    have hv := Lib.hid (show leftF must da dw need ⟨af, t, 2, al⟩ = if (need && !bitM must 2) = true then dw t else da t from rfl)
    cases hbm : bitM must 2
    all_goals
      rw [hbm] at hb hv
      have hv' := hv.out
      first | rw [Bool.not_false] at hb | rw [Bool.not_true] at hb
      cases need
      all_goals
        have HV := Lib.hid hv'
        clear hv hv' hbm
        go_enter Try.func127, Try.ntmps127
        go_wp2
        go_ret
        exact ⟨by rw [HV.out]; rfl, U0.out⟩
  · have hb := and_one0 (must / 8)
    rw [show decide ((must / 8) % 2 = 1) = bitM must 3 from rfl] at hb
    have hv := Lib.hid (show leftF must da dw need ⟨af, t, 3, al⟩ = if (need && !bitM must 3) = true then dw t else da t from rfl)
    cases hbm : bitM must 3
    all_goals
      rw [hbm] at hb hv
      have hv' := hv.out
      first | rw [Bool.not_false] at hb | rw [Bool.not_true] at hb
      cases need
      all_goals
        have HV := Lib.hid hv'
        clear hv hv' hbm
        go_enter Try.func127, Try.ntmps127
        go_wp2
        go_ret
        exact ⟨by rw [HV.out]; rfl, U0.out⟩
end Go.Proofs.Ytaicemjckagcaaa

/- Closed walks: the rows at a node. -/
namespace Go.Proofs.Ytaicemjckagcaaa
set_option linter.unusedVariables false
open Go.RowKit
/-- what the rows at a node are -/
def anyD (N : Nat) (q : List HArc) (mask i : Int) : Int → Int := distL N (ofA mask q) i i
theorem row0_with (N : Nat) (q : List HArc) (mask must i : Int) : row0 N (mustL N (ofA (bits .andNot .i64 mask must) q) (ofA (bits .and .i64 mask must) q) (bits .andNot .i64 mask must) (bits .and .i64 mask must) i i) 1 = rowD N (withF N q mask must i) := rfl
theorem blk_intsD {w : World} {g : Nat} {xs : List Int} (h : Blk w g 3 (xs.map (Value.int .i64))) : Ints (fun i => i = g) w (some ⟨g, 0, none⟩) xs :=
  Ints.of_row h rfl fun j v hj => by rw [List.getElem?_toArray, List.getElem?_map, hj]; rfl
set_option maxRecDepth 100000 in
set_option maxHeartbeats 4000000 in
theorem cat_ (w : World) (G : Nat → Prop) (p0 : Option Addr) (N K : Nat) (q : List HArc) (h : DG w G p0 N K q) (hK : K ≤ 100000) (mask must i : Int) :
    Calls Try.prog 68 #[.pointer p0, .int .i64 mask, .int .i64 must, .int .i64 i] w fun e w' => ∃ A B, e = .returned (.agg #[.pointer p0, .int .i64 mask, .int .i64 must, .slice A N N, .slice B N N]) ∧ LoopI w' A B N (anyD N q mask i) (withF N q mask must i) ∧ Upd No w w' := by
  obtain ⟨wb, hwb⟩ : ∃ wb, w.alloc (.cells #[.pointer none, .int .i64 0, .int .i64 0, .slice none 0 0, .slice none 0 0] 111) = wb := ⟨_, rfl⟩
  have u0 : Upd No w wb := by rw [← hwb]; exact (Upd.refl No w).alloc _
  have HT := Lib.hid (fun (W : World) (u : Upd No wb W) => dto W G p0 N K q (h.no (u0.trans u)) hK mask i i)
  have HM := Lib.hid (fun (W : World) (u : Upd No wb W) => row0_with N q mask must i ▸ dmust W G p0 N K q (h.no (u0.trans u)) hK mask must i i)
  have bL : Blk wb w.heap.size 111 [.pointer none, .int .i64 0, .int .i64 0, .slice none 0 0, .slice none 0 0] := by rw [← hwb]; exact Blk.new w _ _
  have U0 := Lib.hid u0
  clear h u0
  go_enter Try.func68, Try.ntmps68
  go_wp2_with fail
  refine (HT.out wb (Upd.refl _ _)).mono ?_
  rintro e w1 ⟨ga, rfl, hb1, hg1, hu1⟩
  go_wp2_with fail
  refine (HM.out w1 hu1).mono ?_
  rintro e w2 ⟨gb, rfl, hb2, hg2, hu2⟩
  have hb := (bL.upd hu1 id).upd hu2 id
  have c0 := hb.cell 0
  have c1 := hb.cell 1
  have c2 := hb.cell 2
  have c3 := hb.cell 3
  have c4 := hb.cell 4
  have f0 := hb.free 0
  have f1 := hb.free 1
  have f2 := hb.free 2
  have f3 := hb.free 3
  have f4 := hb.free 4
  simp only [List.getElem?_cons_zero, List.getElem?_cons_succ] at c0 c1 c2 c3 c4
  have hlt := bL.lt
  have h1s := hu1.size
  have U1 := Lib.hid (((U0.out.trans hu1).trans hu2))
  have HB1 := Lib.hid (hb1.upd hu2 id)
  have HB2 := Lib.hid hb2
  have n1 : ga ≠ w.heap.size := by omega
  have n2 : gb ≠ w.heap.size := by omega
  have HB := Lib.hid hb
  clear hwb bL hb hb1 hb2 HT HM hu1 hu2
  go_wp2
  have b3 := (((((HB.out).set_ 0 (.pointer p0)).set_ 1 (.int .i64 mask)).set_ 2 (.int .i64 must)).set_ 3 (.slice (some ⟨ga, 0, none⟩) (rowD N (distL N (ofA mask q) i i)).length (rowD N (distL N (ofA mask q) i i)).length)).set_ 4 (.slice (some ⟨gb, 0, none⟩) (rowD N (withF N q mask must i)).length (rowD N (withF N q mask must i)).length)
  simp only [List.set_cons_zero, List.set_cons_succ] at b3
  have US := (((((Upd.refl (One w.heap.size) w2).setOne 0 (.pointer p0)).setOne 1 (.int .i64 mask)).setOne 2 (.int .i64 must)).setOne 3 (.slice (some ⟨ga, 0, none⟩) (rowD N (distL N (ofA mask q) i i)).length (rowD N (distL N (ofA mask q) i i)).length)).setOne 4 (.slice (some ⟨gb, 0, none⟩) (rowD N (withF N q mask must i)).length (rowD N (withF N q mask must i)).length)
  refine bodyPost_ret (results_cell_row (p := 8) rfl _ _ _ _ _ _ _ rfl b3 Try.underlying111 rfl (by kernel_rfl)) rfl ⟨some ⟨ga, 0, none⟩, some ⟨gb, 0, none⟩, by simp only [rowD_len], ⟨?_, ?_⟩, ?_⟩
  · exact (blk_intsD (HB1.out.upd US n1)).weak (fun _ _ _ => trivial)
  · exact (blk_intsD (HB2.out.upd US n2)).weak (fun _ _ _ => trivial)
  · exact U1.out.then_ US fun k e => .inr (by unfold One at e; omega)
end Go.Proofs.Ytaicemjckagcaaa

/- Closed walks, plain: the bounds of the rows. -/
namespace Go.Proofs.Ytaicemjckagcaaa
set_option linter.unusedVariables false
open Go.RowKit
theorem okW_le {p : List HArc} {i : Int} : ∀ {l : List HArc} {u : Int}, okW p i u l i → i ≤ u
  | [], u, h => by have h : u = i := h; omega
  | _ :: _, _, h => h.2.2.1
theorem rows_bdT {N : Nat} {q : List HArc} (hN : N ≤ 100000) (hr : ∀ a ∈ q, rightA N a = true) (mask must i : Int) (h0 : 0 ≤ i) (h1 : i < (N : Int)) :
    ∀ u, (-1 ≤ anyD N q mask i u ∧ anyD N q mask i u ≤ 900000) ∧ -1 ≤ withF N q mask must i u ∧ withF N q mask must i u ≤ 900000 := by
  intro u
  have hf : ∀ m, ∀ x ∈ ofA m q, 0 ≤ x.f ∧ x.f < (N : Int) := fun m x hx => by
    have := (rightA_iff _ _).1 (hr x (mem_ofA.1 hx).1)
    exact ⟨this.1, this.2.1⟩
  have hs := startB_self h0 h1
  have hd := distL_is (hf mask) i i
  refine ⟨⟨hd.lo u, ?_⟩, ?_⟩
  · have := hd.hi u
    unfold anyD
    omega
  have hdm : i * 2 ∈ nodesZ (2 * N) := mem_nodesZ.2 ⟨by omega, by omega⟩
  have hcl : ∀ v ∈ nodesZ (2 * N), ∀ u ∈ prev2 (ofA (bits .andNot .i64 mask must) q) (ofA (bits .and .i64 mask must) q) (bits .andNot .i64 mask must) (bits .and .i64 mask must) v, okL2 i u = true → u ∈ nodesZ (2 * N) := fun v _ u hu _ => prev2_in (hf _) (hf _) v u hu
  have B0 := BInv.start (ok := okL2 i) (ps := prev2 (ofA (bits .andNot .i64 mask must) q) (ofA (bits .and .i64 mask must) q) (bits .andNot .i64 mask must) (bits .and .i64 mask must)) hdm (nodesZ_nodup (2 * N))
  have B1 := bfsA_end (nodesZ_nodup (2 * N)) hcl (2 * N) _ _ B0 (by have := B0.fit; unfold Fits at this; rw [nodesZ_len] at this; exact this)
  have hw : withF N q mask must i u = bfsA (okL2 i) (prev2 (ofA (bits .andNot .i64 mask must) q) (ofA (bits .and .i64 mask must) q) (bits .andNot .i64 mask must) (bits .and .i64 mask must)) (2 * N) ((fun u => if u = i * 2 then 0 else -1), [i * 2]) (u * 2 + 1) := by
    unfold withF mustL
    rw [if_pos hs]
    rfl
  have h2 := B1.lo (u * 2 + 1)
  have h3 := B1.cap (u * 2 + 1)
  rw [nodesZ_len] at h3
  rw [hw]
  exact ⟨h2, by omega⟩
theorem rows_bd {N : Nat} {q : List HArc} (hN : N ≤ 100000) (hr : ∀ a ∈ q, rightA N a = true) (mask must i : Int) (h0 : 0 ≤ i) (h1 : i < (N : Int)) :
    ∀ u, (-1 ≤ anyD N q mask i u ∧ anyD N q mask i u ≤ 1000000) ∧ -1 ≤ withF N q mask must i u ∧ withF N q mask must i u ≤ 1000000 := fun u => by
  have := rows_bdT hN hr mask must i h0 h1 u
  omega
theorem any_ge {N : Nat} {q : List HArc} (hr : ∀ a ∈ q, rightA N a = true) (mask must i : Int) (h0 : 0 ≤ i) (h1 : i < (N : Int)) (u : Int) (hu : 0 ≤ anyD N q mask i u) : i ≤ u := by
  obtain ⟨l, h, _⟩ := (loopD_of hr mask must i h0 h1).a2 u hu
  exact okW_le h
theorem with_ge {N : Nat} {q : List HArc} (hr : ∀ a ∈ q, rightA N a = true) (mask must i : Int) (h0 : 0 ≤ i) (h1 : i < (N : Int)) (u : Int) (hu : 0 ≤ withF N q mask must i u) : i ≤ u := by
  obtain ⟨l, h, _⟩ := (loopD_of hr mask must i h0 h1).w2 u hu
  exact okW_le h
end Go.Proofs.Ytaicemjckagcaaa

/- Closed walks: how many arcs the shortest has. -/
namespace Go.Proofs.Ytaicemjckagcaaa
set_option linter.unusedVariables false
open Go.RowKit
theorem left_bd {must : Int} {da dw : Int → Int} (hbd : ∀ u, (-1 ≤ da u ∧ da u ≤ 1000000) ∧ -1 ≤ dw u ∧ dw u ≤ 1000000) (need : Bool) (x : HArc) : -1 ≤ leftF must da dw need x ∧ leftF must da dw need x ≤ 1000000 := by
  unfold leftF
  split
  · exact (hbd x.t).2
  · exact (hbd x.t).1
theorem shortF_cons (lf : HArc → Int) (best : Int) (a : HArc) (l : List HArc) : shortF lf best (a :: l) = shortF lf (if (decide (0 ≤ lf a) && (best == 0 || decide (lf a + 1 < best))) = true then lf a + 1 else best) l := rfl
set_option maxRecDepth 100000 in
set_option maxHeartbeats 4000000 in
theorem cshortest (w : World) (G : Nat → Prop) (p0 A B : Option Addr) (N K : Nat) (q : List HArc) (hG : DG w G p0 N K q) (hK : K ≤ 100000) (mask must : Int) (da dw : Int → Int) (h : LoopI w A B N da dw)
    (hbd : ∀ u, (-1 ≤ da u ∧ da u ≤ 1000000) ∧ -1 ≤ dw u ∧ dw u ≤ 1000000) (i : Int) (need : Bool) :
    Calls Try.prog 69 #[.agg #[.pointer p0, .int .i64 mask, .int .i64 must, .slice A N N, .slice B N N], .int .i64 i, .bool need] w fun e w' => e = .returned (.int .i64 (shortA (ofA mask q) must i da dw need)) ∧ Upd No w w' := by
  obtain ⟨wb, hwb⟩ : ∃ wb, w.alloc (.cells #[.pointer p0, .int .i64 mask, .int .i64 must, .slice A N N, .slice B N N] 111) = wb := ⟨_, rfl⟩
  have u0 : Upd No w wb := by rw [← hwb]; exact (Upd.refl No w).alloc _
  have bL : Blk wb w.heap.size 111 [.pointer p0, .int .i64 mask, .int .i64 must, .slice A N N, .slice B N N] := by rw [← hwb]; exact Blk.new w _ _
  have U0 := Lib.hid u0
  obtain ⟨ys, hys⟩ : ∃ ys, ((ofA mask q).filter fun a => a.f == i) = ys := ⟨_, rfl⟩
  have hyr : ∀ y ∈ ys, (1 ≤ y.kind ∧ y.kind ≤ 3) ∧ 0 ≤ y.t ∧ y.t < (N : Int) := fun y hy => by
    rw [← hys] at hy
    have := (rightA_iff _ _).1 (hG.right y (mem_ofA.1 (List.mem_filter.1 hy).1).1)
    exact ⟨⟨this.2.2.2.2.1, this.2.2.2.2.2.1⟩, this.2.2.1, this.2.2.2.1⟩
  have hyl : ys.length ≤ 1000000 := by
    rw [← hys]
    have h1 := List.length_filter_le (fun a : HArc => a.f == i) (ofA mask q)
    have h2 := List.length_filter_le (fun x : HArc => bitM mask x.kind) q
    have h3 := hG.few
    unfold ofA at h1 ⊢
    omega
  have HO := Lib.hid (hys ▸ dgout (hG.no u0) i mask)
  have HLI := Lib.hid (fun (W : World) (u : Upd No wb W) => h.upd (u0.trans u))
  have HBL := Lib.hid (fun (W : World) (u : Upd No wb W) => bL.upd u id)
  obtain ⟨R, hR⟩ : ∃ R, shortA (ofA mask q) must i da dw need = R := ⟨_, rfl⟩
  have HR := Lib.hid (show shortF (leftF must da dw need) 0 ys = R by rw [← hR, ← hys]; rfl)
  rw [hR]
  have c0 := bL.cell 0
  have c1 := bL.cell 1
  simp only [List.getElem?_cons_zero, List.getElem?_cons_succ] at c0 c1
  have HY := Lib.hid hyr
  clear hR hys hG h bL u0 hyr
  go_enter Try.func69, Try.ntmps69
  go_wp2_with fail
  refine (HO.out).mono ?_
  rintro e w1 ⟨A1, k1, rfl, ho1, hu1⟩
  have Ho1 := Lib.hid (arcs_own' ho1)
  have Hu1 := Lib.hid hu1
  clear ho1 hu1 HO c0 c1
  go_wp2
  go_loopg [7, 18] ys.length (fun gk s j wr => ∃ (k : Nat) (b : Int), k + gk = ys.length ∧ j = .int .i64 k ∧ s = .int .i64 b ∧ 0 ≤ b ∧ b ≤ 1000001 ∧ Hid (shortF (leftF must da dw need) b (ys.drop k) = R) ∧ Upd No w1 wr)
  case atStart => exact ⟨0, 0, by omega, rfl, rfl, by omega, by omega, HR, Upd.refl _ _⟩
  case round =>
    obtain ⟨k, b, hgk, rfl, rfl, hb0, hb1, hs, hu⟩ := hrel
    by_cases hlt : k < ys.length
    · obtain ⟨ax, rfl, q0, q1, q2, q3⟩ := (Ho1.out.upd hu (fun _ _ => id)).at_ hlt
      obtain ⟨x, hx⟩ : ∃ x, ys[k] = x := ⟨_, rfl⟩
      obtain ⟨⟨hk1, hk2⟩, ht0, ht1⟩ := HY.out _ (List.getElem_mem hlt)
      rw [hx] at q0 q1 q2 q3 hk1 hk2 ht0 ht1
      have hs' := hs.out
      rw [List.drop_eq_getElem_cons hlt, hx, shortF_cons] at hs'
      have hv := left_bd (must := must) hbd need x
      have i1 : (0 : Int) ≤ (k : Int) := Int.natCast_nonneg _
      have i2 : (k : Int) < (ys.length : Int) := by omega
      have uA := (Upd.refl No wr).alloc (.cells #[.int .i64 x.f, .int .i64 x.t, .int .i64 x.kind, .int .i64 x.label] 41)
      have bo := Blk.new wr 41 [.int .i64 x.f, .int .i64 x.t, .int .i64 x.kind, .int .i64 x.label]
      have g0 := bo.cell 0
      have g1 := bo.cell 1
      have g2 := bo.cell 2
      have g3 := bo.cell 3
      have bw := HBL.out _ ((Hu1.out.trans hu).trans uA)
      have c0 := bw.cell 0
      have c1 := bw.cell 1
      have c2 := bw.cell 2
      have c3 := bw.cell 3
      have c4 := bw.cell 4
      simp only [List.getElem?_cons_zero, List.getElem?_cons_succ] at g0 g1 g2 g3 c0 c1 c2 c3 c4
      have HF := Lib.hid (cleft _ p0 A B N mask must da dw (HLI.out _ ((Hu1.out.trans hu).trans uA)) x hk1 hk2 ht0 ht1 need)
      generalize leftF must da dw need x = v at hs' hv HF
      have hw1 : IntKind.i64.wrap (v + 1) = v + 1 := IntWalk.i64_in _ (by omega)
      have HUA := Lib.hid (hu.trans uA)
      have HS := Lib.hid hs'
      unfold HArc.cells at HF
      clear hs hs' hx hk1 hk2 ht0 ht1 bo bw uA
      go_wp2_with fail
      refine (HF.out).mono ?_
      rintro e w2 ⟨rfl, hu2⟩
      have HU2 := Lib.hid (HUA.out.trans hu2)
      clear hu2 HF
      by_cases hv0 : 0 ≤ v
      · have hn1 : decide (0 ≤ v) = true := decide_eq_true hv0
        by_cases hbz : b = 0
        · subst hbz
          have HS2 := Lib.hid (show shortF (leftF must da dw need) (v + 1) (ys.drop (k + 1)) = R by have := HS.out; rw [hn1] at this; exact this)
          go_wp2
          go_roundg (gk - 1)
          case measure => omega
          case rel => exact ⟨k + 1, v + 1, by omega, by go_num, by first | rfl | simp, by omega, by omega, HS2, HU2.out⟩
        · have hn2 : (b == 0) = false := beq_eq_false_iff_ne.2 hbz
          by_cases hvb : v + 1 < b
          · have hn3 : decide (v + 1 < b) = true := decide_eq_true hvb
            have HS2 := Lib.hid (show shortF (leftF must da dw need) (v + 1) (ys.drop (k + 1)) = R by have := HS.out; rw [hn1, hn2, hn3] at this; exact this)
            go_wp2
            go_roundg (gk - 1)
            case measure => omega
            case rel => exact ⟨k + 1, v + 1, by omega, by go_num, by first | rfl | simp, by omega, by omega, HS2, HU2.out⟩
          · have hn3 : decide (v + 1 < b) = false := decide_eq_false hvb
            have HS2 := Lib.hid (show shortF (leftF must da dw need) b (ys.drop (k + 1)) = R by have := HS.out; rw [hn1, hn2, hn3] at this; exact this)
            go_wp2
            go_roundg (gk - 1)
            case measure => omega
            case rel => exact ⟨k + 1, b, by omega, by go_num, by first | rfl | simp, by omega, by omega, HS2, HU2.out⟩
      · have hn1 : decide (0 ≤ v) = false := decide_eq_false hv0
        have HS2 := Lib.hid (show shortF (leftF must da dw need) b (ys.drop (k + 1)) = R by have := HS.out; rw [hn1] at this; exact this)
        go_wp2
        go_roundg (gk - 1)
        case measure => omega
        case rel => exact ⟨k + 1, b, by omega, by go_num, by first | rfl | simp, by omega, by omega, HS2, HU2.out⟩
    · obtain rfl : k = ys.length := by omega
      have Hx := Lib.hid (show b = R by have := hs.out; rw [List.drop_length] at this; exact this)
      clear hs
      go_wp2
      go_ret
      exact ⟨by first | rfl | (rw [Hx.out]; rfl) | (rw [← Hx.out]; rfl), (U0.out.trans Hu1.out).trans hu⟩
end Go.Proofs.Ytaicemjckagcaaa

/- Closed walks: the first of so many arcs. -/
namespace Go.Proofs.Ytaicemjckagcaaa
set_option linter.unusedVariables false
open Go.RowKit
/-- what is looked for -/
def isC (must i : Int) (da dw : Int → Int) (n : Int) (need : Bool) (a : HArc) : Bool := decide (i ≤ a.t) && decide (leftF must da dw need a = n)
theorem walkC_some {p : List HArc} {must i : Int} {da dw : Int → Int} {n : Nat} {here : Int} {need : Bool} {a : HArc} (h : (p.filter fun a => a.f == here).find? (isC must i da dw (n : Int) need) = some a) :
    walkC p must i da dw (n + 1) here need = a :: walkC p must i da dw n a.t (need && !isM must a) := by
  show (match (p.filter fun a => a.f == here).find? (isC must i da dw (n : Int) need) with | some a => a :: walkC p must i da dw n a.t (need && !isM must a) | none => walkC p must i da dw n here need) = _
  rw [h]
theorem walkC_none {p : List HArc} {must i : Int} {da dw : Int → Int} {n : Nat} {here : Int} {need : Bool} (h : (p.filter fun a => a.f == here).find? (isC must i da dw (n : Int) need) = none) :
    walkC p must i da dw (n + 1) here need = walkC p must i da dw n here need := by
  show (match (p.filter fun a => a.f == here).find? (isC must i da dw (n : Int) need) with | some a => a :: walkC p must i da dw n a.t (need && !isM must a) | none => walkC p must i da dw n here need) = _
  rw [h]
theorem drop_findY {l : List HArc} {k : Nat} {x : HArc} {P : HArc → Bool} (hk : k < l.length) (hx : l[k] = x) (h : P x = true) : (l.drop k).find? P = some x := by
  rw [List.drop_eq_getElem_cons hk, hx, List.find?_cons_of_pos h]
theorem drop_findN {l : List HArc} {k : Nat} {x : HArc} {P : HArc → Bool} (hk : k < l.length) (hx : l[k] = x) (h : P x = false) : (l.drop k).find? P = (l.drop (k + 1)).find? P := by
  rw [List.drop_eq_getElem_cons hk, hx, List.find?_cons_of_neg (by simp [h])]
theorem need_next (must : Int) (x : HArc) : (x.kind = 1 → (bits .and .i64 (must / 2) 1 == 0) = !isM must x) ∧ (x.kind = 2 → (bits .and .i64 (must / 4) 1 == 0) = !isM must x) ∧ (x.kind = 3 → (bits .and .i64 (must / 8) 1 == 0) = !isM must x) := by
  unfold isM bitM
  refine ⟨fun e => ?_, fun e => ?_, fun e => ?_⟩ <;> (rw [and_one0, e]; rfl)
set_option maxRecDepth 100000 in
set_option maxHeartbeats 8000000 in
theorem cwalk (w : World) (G : Nat → Prop) (p0 A B : Option Addr) (N K : Nat) (q : List HArc) (hG : DG w G p0 N K q) (hK : K ≤ 100000) (mask must : Int) (da dw : Int → Int) (h : LoopI w A B N da dw)
    (hbd : ∀ u, (-1 ≤ da u ∧ da u ≤ 1000000) ∧ -1 ≤ dw u ∧ dw u ≤ 1000000) (i : Int) (n : Nat) (hn : n ≤ 1000000) (need : Bool) :
    Calls Try.prog 70 #[.agg #[.pointer p0, .int .i64 mask, .int .i64 must, .slice A N N, .slice B N N], .int .i64 i, .int .i64 n, .bool need] w (NewA w (walkC (ofA mask q) must i da dw n i need)) := by
  obtain ⟨wb, hwb⟩ : ∃ wb, w.alloc (.cells #[.pointer p0, .int .i64 mask, .int .i64 must, .slice A N N, .slice B N N] 111) = wb := ⟨_, rfl⟩
  have u0 : Upd No w wb := by rw [← hwb]; exact (Upd.refl No w).alloc _
  have bL : Blk wb w.heap.size 111 [.pointer p0, .int .i64 mask, .int .i64 must, .slice A N N, .slice B N N] := by rw [← hwb]; exact Blk.new w _ _
  have U0 := Lib.hid u0
  obtain ⟨p, hp⟩ : ∃ p, ofA mask q = p := ⟨_, rfl⟩
  have hpr : ∀ y ∈ p, (1 ≤ y.kind ∧ y.kind ≤ 3) ∧ 0 ≤ y.t ∧ y.t < (N : Int) := fun y hy => by
    rw [← hp] at hy
    have := (rightA_iff _ _).1 (hG.right y (mem_ofA.1 hy).1)
    exact ⟨⟨this.2.2.2.2.1, this.2.2.2.2.2.1⟩, this.2.2.1, this.2.2.2.1⟩
  have hpl : p.length ≤ 1000000 := by
    rw [← hp]
    have h2 := List.length_filter_le (fun x : HArc => bitM mask x.kind) q
    have h3 := hG.few
    unfold ofA
    omega
  have HO := Lib.hid (fun (W : World) (u : Upd No wb W) (j : Int) => hp ▸ dgout (hG.no (u0.trans u)) j mask)
  have HLI := Lib.hid (fun (W : World) (u : Upd No wb W) => h.upd (u0.trans u))
  have HBL := Lib.hid (fun (W : World) (u : Upd No wb W) => bL.upd u id)
  have HLT := Lib.hid bL.lt
  rw [hp]
  obtain ⟨R, hR⟩ : ∃ R, walkC p must i da dw n i need = R := ⟨_, rfl⟩
  have HR := Lib.hid hR
  rw [hR]
  have HP := Lib.hid hpr
  clear hR hp hG h bL u0 hpr
  go_enter Try.func70, Try.ntmps70
  go_wp2
  go_loopg [2, 3, 9, 10] n (fun gk sn sd s a wr => ∃ (nd : Bool) (A5 : Option Addr) (c5 : Nat) (xs : List HArc) (ai : Int), sn = .int .i64 (gk : Int) ∧ sd = .bool nd ∧ s = .slice A5 xs.length c5 ∧ a = .int .i64 ai ∧ Hid (xs ++ walkC p must i da dw gk ai nd = R) ∧
    xs.length + gk ≤ n ∧ wr.ownsRow wb.heap.size 41 4 (.slice A5 xs.length c5) xs.length (arcsF xs) ∧ Upd No wb wr)
  case atStart => exact ⟨need, none, 0, [], i, rfl, rfl, rfl, rfl, Lib.hid (by rw [List.nil_append]; exact HR.out), by simp, World.ownsRow_nil _ _ _ _, Upd.refl _ _⟩
  case round =>
    obtain ⟨nd, A5, c5, xs, ai, rfl, rfl, rfl, rfl, hR, hxl, hown, hu⟩ := hrel
    cases gk with
    | zero =>
      have HRx := Lib.hid (show xs = R by have := hR.out; simpa [walkC] using this)
      clear hR
      go_wp2
      go_ret
      have := U0.out.size
      rw [← HRx.out]
      exact ⟨A5, c5, rfl, own_base hown this, U0.out.trans hu⟩
    | succ g1 =>
      obtain ⟨ys, hys⟩ : ∃ ys, (p.filter fun a => a.f == ai) = ys := ⟨_, rfl⟩
      have hyl : ys.length ≤ 1000000 := by rw [← hys]; exact Nat.le_trans (List.length_filter_le _ _) hpl
      have hyp : ∀ y ∈ ys, y ∈ p := fun y hy => by rw [← hys] at hy; exact (List.mem_filter.1 hy).1
      have hO := Lib.hid (hys ▸ HO.out wr hu ai)
      have HYS := Lib.hid hys
      have HYP := Lib.hid hyp
      have HR2 := hR
      have bw := HBL.out wr hu
      have c0 := bw.cell 0
      have c1 := bw.cell 1
      simp only [List.getElem?_cons_zero, List.getElem?_cons_succ] at c0 c1
      have hg0 : (0 : Int) < ((g1 + 1 : Nat) : Int) := by omega
      clear hys hyp hR bw
      obtain ⟨ng, hng⟩ : ∃ ng : Int, ((g1 + 1 : Nat) : Int) = ng := ⟨_, rfl⟩
      rw [hng] at hg0
      have hw1 : IntKind.i64.wrap (ng - 1) = ng - 1 := IntWalk.i64_in _ (by omega)
      generalize hgg : g1 + 1 = m0 at *
      rw [hng]
      go_wp2_with fail
      refine (hO.out).mono ?_
      rintro e w3 ⟨A7, c7, rfl, ho7, hu7⟩
      have HOW := Lib.hid hown
      have HY := Lib.hid (arcs_own' ho7)
      have HO3 := Lib.hid (own_upd hown hu7 (fun _ _ => id))
      have HU3 := Lib.hid (hu.trans hu7)
      clear hO ho7 hu7 hown hu c0 c1
      go_wp2
      obtain ⟨fo, hfo⟩ : ∃ fo, ys.find? (isC must i da dw (g1 : Int) nd) = fo := ⟨_, rfl⟩
      have HFO := Lib.hid hfo
      have HG1 := Lib.hid (show (g1 : Int) = ng - 1 by omega)
      clear hfo
      go_loopg [3, 9, 10, 25] ys.length (fun gk sd s a j wr => ∃ (k : Nat), k + gk = ys.length ∧ j = .int .i64 k ∧ sd = .bool nd ∧ s = .slice A5 xs.length c5 ∧ a = .int .i64 ai ∧ Hid ((ys.drop k).find? (isC must i da dw (g1 : Int) nd) = fo) ∧ Upd No w3 wr)
      case atStart => exact ⟨0, by omega, rfl, rfl, rfl, rfl, HFO, Upd.refl _ _⟩
      case round =>
        obtain ⟨k, hgj, rfl, rfl, rfl, rfl, hf, hu⟩ := hrel
        by_cases hlt : k < ys.length
        · obtain ⟨ax, rfl, q0, q1, q2, q3⟩ := (HY.out.upd hu (fun _ _ => id)).at_ hlt
          obtain ⟨x, hx⟩ : ∃ x, ys[k] = x := ⟨_, rfl⟩
          obtain ⟨⟨hk1, hk2⟩, ht0, ht1⟩ := HP.out _ (HYP.out _ (List.getElem_mem hlt))
          rw [hx] at q0 q1 q2 q3 hk1 hk2 ht0 ht1
          have i1 : (0 : Int) ≤ (k : Int) := Int.natCast_nonneg _
          have i2 : (k : Int) < (ys.length : Int) := by omega
          obtain ⟨wx, hwx⟩ : ∃ wx, wr.alloc (.cells #[.int .i64 x.f, .int .i64 x.t, .int .i64 x.kind, .int .i64 x.label] 41) = wx := ⟨_, rfl⟩
          have ux : Upd No wr wx := by rw [← hwx]; exact (Upd.refl No wr).alloc _
          have bo : Blk wx wr.heap.size 41 [.int .i64 x.f, .int .i64 x.t, .int .i64 x.kind, .int .i64 x.label] := by rw [← hwx]; exact Blk.new wr _ _
          have HUX := Lib.hid (hu.trans ux)
          have g0 := bo.cell 0
          have g1' := bo.cell 1
          have g2 := bo.cell 2
          have g3 := bo.cell 3
          have bw := HBL.out wx (HU3.out.trans HUX.out)
          have c0 := bw.cell 0
          have c1 := bw.cell 1
          have c2 := bw.cell 2
          have c3 := bw.cell 3
          have c4 := bw.cell 4
          simp only [List.getElem?_cons_zero, List.getElem?_cons_succ] at g0 g1' g2 g3 c0 c1 c2 c3 c4
          have hown0 := own_upd HO3.out hu (fun _ _ => id)
          have HGE := Lib.hid (fun i e => (hown0.lt i e).2)
          have HB0 := Lib.hid (fun i e => (hown0.lt i e).1)
          have HOX := Lib.hid (own_upd hown0 ux (fun _ _ => id))
          have BO := Lib.hid bo
          have HF := Lib.hid (cleft wx p0 A B N mask must da dw (HLI.out wx (HU3.out.trans HUX.out)) x hk1 hk2 ht0 ht1 nd)
          have HK := Lib.hid (show x.kind = 1 ∨ x.kind = 2 ∨ x.kind = 3 by omega)
          have HX := Lib.hid hx
          have hval : isC must i da dw (g1 : Int) nd x = (decide (i ≤ x.t) && decide (leftF must da dw nd x = ng - 1)) := by unfold isC; rw [HG1.out]
          generalize leftF must da dw nd x = v at hval HF
          have HVAL := Lib.hid hval
          unfold HArc.cells at HF
          clear hx hk1 hk2 ht0 ht1 bo bw ux hown0 hval hu
          by_cases hl : x.t < i
          · have HN := Lib.hid (show (ys.drop (k + 1)).find? (isC must i da dw (g1 : Int) nd) = fo by rw [← hf.out, drop_findN hlt HX.out (by rw [HVAL.out, decide_eq_false (by omega)]; rfl)])
            go_wp2
            go_roundg (gk - 1)
            case measure => omega
            case rel => exact ⟨k + 1, by omega, by go_num, rfl, rfl, rfl, HN, HUX.out⟩
          · go_wp2_with fail
            refine (HF.out).mono ?_
            rintro e w4 ⟨rfl, hu4⟩
            have bo4 := BO.out.upd hu4 id
            have g0 := bo4.cell 0
            have g1' := bo4.cell 1
            have g2 := bo4.cell 2
            have g3 := bo4.cell 3
            have BW4 := Lib.hid (HBL.out w4 ((HU3.out.trans HUX.out).trans hu4))
            have HO4 := Lib.hid (own_upd HOX.out hu4 (fun _ _ => id))
            have HU4 := Lib.hid ((HU3.out.trans HUX.out).trans hu4)
            have HU43 := Lib.hid (HUX.out.trans hu4)
            have hz4 := ((HU3.out.trans HUX.out).trans hu4).size
            have BO4 := Lib.hid bo4
            simp only [List.getElem?_cons_zero, List.getElem?_cons_succ] at g0 g1' g2 g3
            clear bo4 BO HOX HF hu4 c0 c1 c2 c3 c4 q0 q1 q2 q3 hwx
            by_cases hv : v = ng - 1
            · have hv1 : (v == ng - 1) = true := by simpa using hv
              have hv2 : (v != ng - 1) = false := by simpa using hv
              have HFX := Lib.hid (show fo = some x by rw [← hf.out, drop_findY hlt HX.out (by rw [HVAL.out, decide_eq_true hl, decide_eq_true hv]; rfl)])
              have HRX := Lib.hid (show xs ++ (x :: walkC p must i da dw g1 x.t (nd && !isM must x)) = R by
                have := HR2.out
                rw [← hgg, walkC_some (by rw [HYS.out, HFO.out, HFX.out])] at this
                exact this)
              clear HVAL HX HFX hv hf
              have HL := Lib.hid (arcsF_len xs)
              obtain ⟨xf, xt, xk, xl⟩ := x
              simp only at g0 g1' g2 g3 HRX HK
              cases nd
              · have HRY := Lib.hid (show (xs ++ [(⟨xf, xt, xk, xl⟩ : HArc)]) ++ walkC p must i da dw g1 xt false = R by have := HRX.out; rw [Bool.false_and] at this; rw [List.append_assoc]; exact this)
                clear HRX
                go_wp2_with (at_builtin; refine app1s rfl rfl slt_arc (v := .slice A5 xs.length c5) (n := xs.length) (xs := arcsF xs) (by rfl) rfl HO4.out rfl rfl (by omega) (by omega) hz4 ?_; intro g9 c9 w9 hown9 hu9 hg9 hlt9; have b9 := BO4.out.upd hu9 (fun e => absurd (HGE.out _ e) (Nat.lt_irrefl _)); have l9 := BW4.out.upd hu9 (fun e => absurd HLT.out (Nat.not_lt.2 (HB0.out _ e))); have r1 := b9.cell 1; have r2 := b9.cell 2; have r3 := l9.cell 2; simp only [List.getElem?_cons_zero, List.getElem?_cons_succ] at r1 r2 r3; have HO9 := Lib.hid hown9; have HU9 := Lib.hid hu9; clear hown9 hu9 hg9 b9 l9 g0 g1' g2 g3)
                go_roundg g1
                case measure => omega
                case rel => exact ⟨_, some ⟨g9, 0, none⟩, c9, _, _, by rw [HG1.out], rfl, by simp, rfl, HRY, by simp; omega, by simpa [arcsF, HArc.cells] using HO9.out, HU4.out.then_ HU9.out fun i e => .inr (HB0.out i e)⟩
              · have HNX := Lib.hid (need_next must ⟨xf, xt, xk, xl⟩)
                rcases HK.out with rfl | rfl | rfl
                · have HRY := Lib.hid (show (xs ++ [(⟨xf, xt, 1, xl⟩ : HArc)]) ++ walkC p must i da dw g1 xt (bits .and .i64 (must / 2) 1 == 0) = R by have := HRX.out; rw [Bool.true_and, ← HNX.out.1 rfl] at this; rw [List.append_assoc]; exact this)
                  clear HRX HK
                  go_wp2_with (at_builtin; refine app1s rfl rfl slt_arc (v := .slice A5 xs.length c5) (n := xs.length) (xs := arcsF xs) (by rfl) rfl HO4.out rfl rfl (by omega) (by omega) hz4 ?_; intro g9 c9 w9 hown9 hu9 hg9 hlt9; have b9 := BO4.out.upd hu9 (fun e => absurd (HGE.out _ e) (Nat.lt_irrefl _)); have l9 := BW4.out.upd hu9 (fun e => absurd HLT.out (Nat.not_lt.2 (HB0.out _ e))); have r1 := b9.cell 1; have r2 := b9.cell 2; have r3 := l9.cell 2; simp only [List.getElem?_cons_zero, List.getElem?_cons_succ] at r1 r2 r3; have HO9 := Lib.hid hown9; have HU9 := Lib.hid hu9; clear hown9 hu9 hg9 b9 l9 g0 g1' g2 g3)
                  go_roundg g1
                  case measure => omega
                  case rel => exact ⟨_, some ⟨g9, 0, none⟩, c9, _, _, by rw [HG1.out], rfl, by simp, rfl, HRY, by simp; omega, by simpa [arcsF, HArc.cells] using HO9.out, HU4.out.then_ HU9.out fun i e => .inr (HB0.out i e)⟩
                · have HRY := Lib.hid (show (xs ++ [(⟨xf, xt, 2, xl⟩ : HArc)]) ++ walkC p must i da dw g1 xt (bits .and .i64 (must / 4) 1 == 0) = R by have := HRX.out; rw [Bool.true_and, ← HNX.out.2.1 rfl] at this; rw [List.append_assoc]; exact this)
                  clear HRX HK
                  go_wp2_with (at_builtin; refine app1s rfl rfl slt_arc (v := .slice A5 xs.length c5) (n := xs.length) (xs := arcsF xs) (by rfl) rfl HO4.out rfl rfl (by omega) (by omega) hz4 ?_; intro g9 c9 w9 hown9 hu9 hg9 hlt9; have b9 := BO4.out.upd hu9 (fun e => absurd (HGE.out _ e) (Nat.lt_irrefl _)); have l9 := BW4.out.upd hu9 (fun e => absurd HLT.out (Nat.not_lt.2 (HB0.out _ e))); have r1 := b9.cell 1; have r2 := b9.cell 2; have r3 := l9.cell 2; simp only [List.getElem?_cons_zero, List.getElem?_cons_succ] at r1 r2 r3; have HO9 := Lib.hid hown9; have HU9 := Lib.hid hu9; clear hown9 hu9 hg9 b9 l9 g0 g1' g2 g3)
                  go_roundg g1
                  case measure => omega
                  case rel => exact ⟨_, some ⟨g9, 0, none⟩, c9, _, _, by rw [HG1.out], rfl, by simp, rfl, HRY, by simp; omega, by simpa [arcsF, HArc.cells] using HO9.out, HU4.out.then_ HU9.out fun i e => .inr (HB0.out i e)⟩
                · have HRY := Lib.hid (show (xs ++ [(⟨xf, xt, 3, xl⟩ : HArc)]) ++ walkC p must i da dw g1 xt (bits .and .i64 (must / 8) 1 == 0) = R by have := HRX.out; rw [Bool.true_and, ← HNX.out.2.2 rfl] at this; rw [List.append_assoc]; exact this)
                  clear HRX HK
                  go_wp2_with (at_builtin; refine app1s rfl rfl slt_arc (v := .slice A5 xs.length c5) (n := xs.length) (xs := arcsF xs) (by rfl) rfl HO4.out rfl rfl (by omega) (by omega) hz4 ?_; intro g9 c9 w9 hown9 hu9 hg9 hlt9; have b9 := BO4.out.upd hu9 (fun e => absurd (HGE.out _ e) (Nat.lt_irrefl _)); have l9 := BW4.out.upd hu9 (fun e => absurd HLT.out (Nat.not_lt.2 (HB0.out _ e))); have r1 := b9.cell 1; have r2 := b9.cell 2; have r3 := l9.cell 2; simp only [List.getElem?_cons_zero, List.getElem?_cons_succ] at r1 r2 r3; have HO9 := Lib.hid hown9; have HU9 := Lib.hid hu9; clear hown9 hu9 hg9 b9 l9 g0 g1' g2 g3)
                  go_roundg g1
                  case measure => omega
                  case rel => exact ⟨_, some ⟨g9, 0, none⟩, c9, _, _, by rw [HG1.out], rfl, by simp, rfl, HRY, by simp; omega, by simpa [arcsF, HArc.cells] using HO9.out, HU4.out.then_ HU9.out fun i e => .inr (HB0.out i e)⟩
            · have hv1 : (v == ng - 1) = false := by simpa using hv
              have hv2 : (v != ng - 1) = true := by simpa using hv
              have HN := Lib.hid (show (ys.drop (k + 1)).find? (isC must i da dw (g1 : Int) nd) = fo by rw [← hf.out, drop_findN hlt HX.out (by rw [HVAL.out, decide_eq_false hv, Bool.and_false])])
              clear HVAL HX hv hf
              go_wp2
              go_roundg (gk - 1)
              case measure => omega
              case rel => exact ⟨k + 1, by omega, by go_num, rfl, rfl, rfl, HN, HU43.out⟩
        · obtain rfl : k = ys.length := by omega
          have HRX := Lib.hid (show xs ++ walkC p must i da dw g1 ai nd = R by
            have hfo := hf.out
            rw [List.drop_length, List.find?_nil] at hfo
            have := HR2.out
            rw [← hgg, walkC_none (by rw [HYS.out, HFO.out, ← hfo])] at this
            exact this)
          clear hf HFO
          go_wp2
          go_roundg g1
          case measure => omega
          case rel => exact ⟨nd, A5, c5, xs, ai, by rw [HG1.out], rfl, rfl, rfl, HRX, by omega, own_upd HO3.out hu (fun _ _ => id), HU3.out.trans hu⟩
end Go.Proofs.Ytaicemjckagcaaa

/- Closed walks: numbers by ranks. -/
namespace Go.Proofs.Ytaicemjckagcaaa
set_option linter.unusedVariables false
open Go.RowKit
set_option maxRecDepth 100000 in
set_option maxHeartbeats 4000000 in
theorem cranks (w : World) (base : Nat) (A : Option Addr) (c : Nat) (l : List Int) (hown : w.ownsRow base 3 1 (.slice A l.length c) l.length (l.map (Value.int .i64))) (hl : l.length ≤ 17592186044415) :
    Calls Try.prog 123 #[.slice A l.length c] w fun e w' => e = .returned (.slice A (setK l).length c) ∧ w'.ownsRow base 3 1 (.slice A (setK l).length c) (setK l).length ((setK l).map (Value.int .i64)) ∧ Upd (Own (.slice A l.length c)) w w' := by
  have HS := Lib.hid (isort w base A c l hown hl)
  have HC := Lib.hid (fun (W : World) (ho : W.ownsRow base 3 1 (.slice A l.length c) l.length ((sortI l).map (Value.int .i64))) => (by
    have h1 := icompact W base A c (sortI l) (by rw [sortI_len]; exact ho) (by rw [sortI_len]; exact hl)
    rw [sortI_len, setK_compact] at h1
    exact h1 : Calls Try.prog 137 #[.slice A l.length c] W fun e w' => e = .returned (.slice A (setK l).length c) ∧ w'.ownsRow base 3 1 (.slice A (setK l).length c) (setK l).length ((setK l).map (Value.int .i64)) ∧ Upd (Own (.slice A l.length c)) W w'))
  clear hown
  go_enter Try.func123, Try.ntmps123
  go_wp2_with fail
  refine (HS.out).mono ?_
  rintro e w1 ⟨rfl, ho1, hu1⟩
  go_wp2_with fail
  refine (HC.out w1 ho1).mono ?_
  rintro e w2 ⟨rfl, ho2, hu2⟩
  go_wp2
  go_ret
  exact ⟨rfl, ho2, hu1.trans hu2⟩
end Go.Proofs.Ytaicemjckagcaaa
