/- Edges of a history: dsg.list. -/
import Derived.Test.YtaicemjckagcaaaGreatMbf
import Derived.Test.YtaicemjckagcaaaGreatMbm
import Derived.Test.YtaicemjckagcaaaGreatMbo
import Derived.Test.YtaicemjckagcaaaGreatMbp
import Derived.Test.YtaicemjckagcaaaGreatMbq
namespace Go.Proofs.YtaicemjckagcaaaGreat
set_option linter.unusedVariables false
open Go.RowKit
/-- an edge, and how often there is a reason for it -/
structure Hvy where
  e : Edge
  n : Int
deriving DecidableEq
def Hvy.cells (h : Hvy) : List Value := [.int .i64 h.e.f, .int .i64 h.e.t, .int .i64 h.e.k, .int .i64 h.e.key, .int .i64 h.n]
def hvyF (l : List Hvy) : List Value := (l.map Hvy.cells).flatten
theorem hvy_len {l : List Hvy} : ∀ r ∈ l.map Hvy.cells, r.length = 5 := fun r hr => by
  obtain ⟨e, _, rfl⟩ := List.mem_map.1 hr; rfl
theorem hvyF_snoc (l : List Hvy) (x : Hvy) : hvyF (l ++ [x]) = hvyF l ++ x.cells := by unfold hvyF; simp
/-- such edges lie there -/
def Hvys (F : Nat → Prop) (w : World) (A : Option Addr) (l : List Hvy) : Prop := Recs F w A 5 (l.map Hvy.cells)
theorem Hvys.upd {F S : Nat → Prop} {w w' : World} {A : Option Addr} {l : List Hvy} (h : Hvys F w A l) (k : Upd S w w') (hn : ∀ i, F i → ¬ S i) : Hvys F w' A l := Recs.upd h k hn
theorem slt_hvy : SlT Tryz.prog 30 75 5 40 := SlT.mk_ Tryz.underlying30 (z := .agg #[.int .i64 0, .int .i64 0, .int .i64 0, .int .i64 0, .int .i64 0]) (by kernel_rfl) rfl (by omega)
/-- a new row of such edges -/
def NewHv (w : World) (l : List Hvy) (e : Ending) (w' : World) : Prop := ∃ A c, e = .returned (.slice A l.length c) ∧ w'.ownsRow w.heap.size 75 5 (.slice A l.length c) l.length (hvyF l) ∧ Upd No w w'
def hvL (g : Edge → Nat) (l : List Edge) : List Hvy := l.map fun e => ⟨e, (g e : Int)⟩
theorem hvL_take {g : Edge → Nat} {l : List Edge} {k : Nat} {x : Edge} (hk : k < l.length) (hx : l[k] = x) : hvL g (l.take (k + 1)) = hvL g (l.take k) ++ [⟨x, (g x : Int)⟩] := by
  subst hx
  unfold hvL
  rw [List.take_succ_eq_append_getElem hk, List.map_append]; rfl
set_option maxRecDepth 100000 in
set_option maxHeartbeats 8000000 in
theorem dlist (w : World) (bc : Nat) (mc : List (Edge × Value)) (g : Edge → Nat) (hm : MapE w bc encE mc) (hg : CntM mc g) (hl : mc.length ≤ 1000000) :
    Calls Tryz.prog 41 #[.map (some bc)] w (NewHv w (hvL g (ddE (mc.map (·.1))))) := by
  obtain ⟨es, hes⟩ : ∃ es, ddE (mc.map (·.1)) = es := ⟨_, rfl⟩
  rw [hes]
  have HES := Lib.hid hes
  clear hes
  obtain ⟨w1, hw1⟩ : ∃ w1, w.alloc (.cells #[.map (some bc)] 85) = w1 := ⟨_, rfl⟩
  have u1 : Upd No w w1 := by rw [← hw1]; exact (Upd.refl No w).alloc _
  have b1 : Blk w1 w.heap.size 85 [.map (some bc)] := by rw [← hw1]; exact Blk.new w _ _
  have HK := Lib.hid (ekeys w (some bc))
  rw [hw1] at HK
  have HC := Lib.hid (ecollect w1 w.heap.size bc mc (by simpa using b1.cell 0) (hm.upd u1 id) hl)
  have HM := Lib.hid hm
  have HG := Lib.hid hg
  have HU1 := Lib.hid u1
  have HKL := Lib.hid (show (mc.map (·.1)).length ≤ 1000000 by rw [List.length_map]; exact hl)
  clear hm hg hw1 u1 b1
  go_enter Tryz.func41, Tryz.ntmps41
  go_wp2_with fail
  refine (HK.out).mono ?_
  rintro e w2 ⟨rfl, rfl⟩
  go_wp2_with fail
  refine (HC.out).mono ?_
  rintro e w3 ⟨A3, c3, ks, rfl, hpm, ho3, hu3⟩
  have HP := Lib.hid (psort (Own (.slice A3 ks.length c3)) w3 A3 c3 ks (Recs.of_own edges_len (by omega) ho3) (by have := hpm.length_eq; have := HKL.out; omega))
  rw [ddE_perm hpm] at HP
  have hv3 := HU1.out.trans hu3
  clear hpm ho3 hu3
  have hel : es.length ≤ 1000000 := by
    rw [← HES.out]
    have h1 := ddF_len (sortE (mc.map (·.1))) (mc.map (·.1)).length
    have h2 := HKL.out
    unfold ddE
    omega
  rw [HES.out] at HP
  go_wp2_with fail
  refine (HP.out).mono ?_
  rintro e w4 ⟨A4, c4, rfl, hx4, hu4⟩
  have HV4 := Lib.hid (hv3.trans hu4)
  obtain ⟨G4, hx4⟩ := hx4
  have HX4 := Lib.hid hx4
  clear hx4 hu4 hv3
  go_wp2
  go_loopg [3, 11] es.length (fun gk s i wr => ∃ (k : Nat) (A5 : Option Addr) (c5 : Nat) (xs : List Hvy), k + gk = es.length ∧ i = .int .i64 k ∧ s = .slice A5 xs.length c5 ∧ Hid (xs = hvL g (es.take k)) ∧ Hid (wr.ownsRow w4.heap.size 75 5 (.slice A5 xs.length c5) xs.length (hvyF xs)) ∧ Upd No w4 wr)
  case atStart => exact ⟨0, none, 0, [], by omega, rfl, rfl, Lib.hid rfl, Lib.hid (World.ownsRow_nil _ _ _ _), Upd.refl _ _⟩
  case round =>
    obtain ⟨k, A5, c5, xs, hgk, rfl, rfl, hs, hown, hu⟩ := hrel
    have hxl : xs.length ≤ 1000000 := by rw [hs.out]; unfold hvL; rw [List.length_map, List.length_take]; omega
    by_cases hlt : k < es.length
    · obtain ⟨ax, rfl, q0, q1, q2, q3⟩ := Walk.at_ (Walk.upd HX4.out hu (fun _ _ => id)) hlt
      obtain ⟨x, hxx⟩ : ∃ x, es[k] = x := ⟨_, rfl⟩
      rw [hxx] at q0 q1 q2 q3
      have HS := Lib.hid (show xs ++ [⟨x, (g x : Int)⟩] = hvL g (es.take (k + 1)) by rw [hs.out]; exact (hvL_take hlt hxx).symm)
      have i1 : (0 : Int) ≤ (k : Int) := Int.natCast_nonneg _
      have i2 : (k : Int) < (es.length : Int) := by omega
      obtain ⟨wx, hwx⟩ : ∃ wx, wr.alloc (.cells #[.int .i64 x.f, .int .i64 x.t, .int .i64 x.k, .int .i64 x.key] 27) = wx := ⟨_, rfl⟩
      have ux : Upd No wr wx := by rw [← hwx]; exact (Upd.refl No wr).alloc _
      have bo : Blk wx wr.heap.size 27 [.int .i64 x.f, .int .i64 x.t, .int .i64 x.k, .int .i64 x.key] := by rw [← hwx]; exact Blk.new wr _ _
      have d0 : ∀ W, Upd (Own (.slice A5 xs.length c5)) wx W → W.cell? ⟨wr.heap.size, 0, none⟩ = some (.int .i64 x.f) := fun W u => by have := (bo.upd u (fun e => by have := (hown.out.lt _ e).2; omega)).cell 0; simpa using this
      have d1 : ∀ W, Upd (Own (.slice A5 xs.length c5)) wx W → W.cell? ⟨wr.heap.size, 1, none⟩ = some (.int .i64 x.t) := fun W u => by have := (bo.upd u (fun e => by have := (hown.out.lt _ e).2; omega)).cell 1; simpa using this
      have d2 : ∀ W, Upd (Own (.slice A5 xs.length c5)) wx W → W.cell? ⟨wr.heap.size, 2, none⟩ = some (.int .i64 x.k) := fun W u => by have := (bo.upd u (fun e => by have := (hown.out.lt _ e).2; omega)).cell 2; simpa using this
      have d3 : ∀ W, Upd (Own (.slice A5 xs.length c5)) wx W → W.cell? ⟨wr.heap.size, 3, none⟩ = some (.int .i64 x.key) := fun W u => by have := (bo.upd u (fun e => by have := (hown.out.lt _ e).2; omega)).cell 3; simpa using this
      obtain ⟨N, hN⟩ : ∃ N, g x = N := ⟨_, rfl⟩
      rw [hN] at HS
      have HWX := Lib.hid ((HV4.out.trans hu).trans ux)
      have L1 : ∀ W, Upd (Own (.slice A5 xs.length c5)) wx W → (Instr.lookup 85 (.map (some bc)) (.agg #[.int .i64 x.f, .int .i64 x.t, .int .i64 x.k, .int .i64 x.key]) false).run Tryz.prog W = .ok (.int .i64 (N : Int)) W := fun W u => by
        have := run_look kbyedge Tryz.underlying85 zeroCnt ((HM.out.upd (S := No) HWX.out id).upd u (fun e => by have h1 := (hown.out.lt _ e).1; have h2 := HM.out.lt; have h3 := HV4.out.size; omega)).is x
        rwa [HG.out.val, hN] at this
      have HO := Lib.hid (own_upd hown.out ux (fun _ _ => id))
      have HUX := Lib.hid (hu.trans ux)
      have HSZ := Lib.hid (show w4.heap.size ≤ wx.heap.size from (hu.trans ux).size)
      have hxz : Upd (Own (.slice A5 xs.length c5)) wx wx := Upd.refl _ _
      have hzd : Upd No wx (wx.alloc (.cells #[.int .i64 x.f, .int .i64 x.t, .int .i64 x.k, .int .i64 x.key, .int .i64 (N : Int)] 75)).drew := ((Upd.refl No wx).alloc _).drew
      clear hxx bo ux hN hown
      go_wp2
      refine wp_region_noPanic ?_
      refine wp_region_held_drew (S := (fun W' => Upd (Own (.slice A5 xs.length c5)) wx W')) (by kernel_rfl) ?_ (fun hHeld => ?_)
      · (first | exact (Upd.refl _ wx).drew | exact hHeld | exact hHeld.alloc _ | exact hU6)
      refine wpT 0 ⟨some 15, .move (.tmp 3), 30, "dsg.go:84", #[], none⟩ ?_ (.inl ⟨by rfl, ?_⟩) ?_
      rotate_left
      · (intro W hSw; (try dsimp only at hSw); go_simp; try (with_reducible rfl))
      try simp only [Act.put]
      try simp only [List.setIfInBounds_toArray]
      try simp only [List.set_cons_succ]
      try simp only [List.set_cons_zero]
      refine wpT 1 ⟨some 16, .load 27 (.tmp 5), 27, "dsg.go:84", #[], none⟩ ?_ (.inl ⟨by rfl, ?_⟩) ?_
      rotate_left
      · (intro W hSw; (try dsimp only at hSw); go_simp; try (with_reducible rfl))
      try simp only [Act.put]
      try simp only [List.setIfInBounds_toArray]
      try simp only [List.set_cons_succ]
      try simp only [List.set_cons_zero]
      refine wpT 2 ⟨some 17, .move (.tmp 0), 85, "dsg.go:84", #[], none⟩ ?_ (.inl ⟨by rfl, ?_⟩) ?_
      rotate_left
      · (intro W hSw; (try dsimp only at hSw); go_simp; try (with_reducible rfl))
      try simp only [Act.put]
      try simp only [List.setIfInBounds_toArray]
      try simp only [List.set_cons_succ]
      try simp only [List.set_cons_zero]
      refine wpT 3 ⟨some 18, .load 27 (.tmp 5), 27, "dsg.go:84", #[], none⟩ ?_ (.inl ⟨by rfl, ?_⟩) ?_
      rotate_left
      · (intro W hSw; (try dsimp only at hSw); go_simp; try (with_reducible rfl))
      try simp only [Act.put]
      try simp only [List.setIfInBounds_toArray]
      try simp only [List.set_cons_succ]
      try simp only [List.set_cons_zero]
      refine wpAnyH_ready (rs := [4]) (by kernel_rfl) (by simp) ?_
      refine AllReadyH.cons (o := ⟨some 19, .lookup 85 (.tmp 17) (.tmp 18) false, 3, "dsg.go:84", #[⟨2, .data⟩, ⟨3, .data⟩], none⟩) rfl (fun K hK => ?_) AllReadyH.nil
      go_simp
      refine hK.out _ _ ?_ (fun hHeld => ?_)
      · (first | exact (Upd.refl _ wx).drew | exact hHeld | exact hHeld.alloc _ | exact hU6)
      clear hK K
      try simp only [Act.put]
      try simp only [List.setIfInBounds_toArray]
      try simp only [List.set_cons_succ]
      try simp only [List.set_cons_zero]
      refine wpT 5 ⟨some 20, .build 75 #[(0, .tmp 16), (1, .tmp 19)], 75, "dsg.go:84", #[⟨1, .data⟩, ⟨4, .data⟩], none⟩ ?_ (.inl ⟨by rfl, ?_⟩) ?_
      rotate_left
      · (intro W hSw; (try dsimp only at hSw); go_simp; try (with_reducible rfl))
      try simp only [Act.put]
      try simp only [List.setIfInBounds_toArray]
      try simp only [List.set_cons_succ]
      try simp only [List.set_cons_zero]
      refine wpAnyH_ready (rs := [6]) (by kernel_rfl) (by simp) ?_
      refine AllReadyH.cons (o := ⟨some 21, .buildSlice 30 1 #[(0, .tmp 20)], 30, "dsg.go:84", #[⟨5, .data⟩], none⟩) rfl (fun K hK => ?_) AllReadyH.nil
      go_simp
      refine hK.out _ _ ?_ (fun hHeld => ?_)
      · (first | exact (Upd.refl _ wx).drew | exact hHeld | exact hHeld.alloc _ | exact hU6)
      clear hK K
      try simp only [Act.put]
      try simp only [List.setIfInBounds_toArray]
      try simp only [List.set_cons_succ]
      try simp only [List.set_cons_zero]
      refine wpAnyH_ready (rs := [7]) (by kernel_rfl) (by simp) ?_
      refine AllReadyH.cons (o := ⟨some 22, .call { callee := .builtin .append, args := #[.tmp 15, .tmp 21], argTypes := #[30, 30] }, 30, "dsg.go:84", #[⟨0, .data⟩, ⟨6, .data⟩], none⟩) rfl (fun K hK => ?_) AllReadyH.nil
      (first
    | (refine step_app1 (by rfl) (by rfl) slt_hvy (v := .slice A5 xs.length c5) (n := xs.length) (xs := hvyF xs) (cells := [.int .i64 x.f, .int .i64 x.t, .int .i64 x.k, .int .i64 x.key, .int .i64 (N : Int)]) (by rfl) (by rfl) (by exact own_upd HO.out hzd (fun _ _ => id)) rfl (by exact news_new) (by rfl) (by omega) (by omega) (by have := HSZ.out; simp; omega) ?_; intro g6 c6 w6 hown6 hu6 hg6 hlt6; have hU6 : Upd (Own (.slice A5 xs.length c5)) wx w6 := hHeld.trans hu6))
      refine hK.out _ _ ?_ (fun hHeld => ?_)
      · (first | exact (Upd.refl _ wx).drew | exact hHeld | exact hHeld.alloc _ | exact hU6)
      clear hK K
      try simp only [Act.put]
      try simp only [List.setIfInBounds_toArray]
      try simp only [List.set_cons_succ]
      try simp only [List.set_cons_zero]
      refine wpT 8 ⟨some 3, .assign (.tmp 22), 30, "dsg.go:84", #[⟨7, .data⟩, ⟨7, .chain⟩, ⟨0, .phase⟩, ⟨1, .phase⟩, ⟨2, .phase⟩, ⟨3, .phase⟩, ⟨4, .phase⟩, ⟨5, .phase⟩, ⟨6, .phase⟩, ⟨7, .phase⟩], none⟩ ?_ (.inl ⟨by rfl, ?_⟩) ?_
      rotate_left
      · (intro W hSw; (try dsimp only at hSw); go_simp; try (with_reducible rfl))
      try simp only [Act.put]
      try simp only [List.setIfInBounds_toArray]
      try simp only [List.set_cons_succ]
      try simp only [List.set_cons_zero]
      refine wpAnyH_done (by kernel_rfl) (NoPanic.normal ?_) _
      have HU6 := Lib.hid hHeld
      clear hHeld
      go_wp2
      go_roundg (gk - 1)
      case measure => omega
      case rel =>
        have hl1 : (xs ++ [(⟨x, (N : Int)⟩ : Hvy)]).length = xs.length + 1 := by simp
        exact ⟨k + 1, some ⟨g6, 0, none⟩, c6, xs ++ [⟨x, (N : Int)⟩], by omega, by go_num, by rw [hl1], HS, Lib.hid (by rw [hl1, hvyF_snoc]; exact hown6), HUX.out.then_ HU6.out (fun i e => Or.inr (HO.out.lt i e).1)⟩
    · obtain rfl : k = es.length := by omega
      go_wp2
      go_ret
      have h1 := hs.out
      rw [List.take_length] at h1
      subst h1
      exact ⟨A5, c5, rfl, own_base hown.out HV4.out.size, HV4.out.trans hu⟩
end Go.Proofs.YtaicemjckagcaaaGreat

/- Edges of a history: dsg.Edges, Of, Count, Plain. -/
namespace Go.Proofs.YtaicemjckagcaaaGreat
set_option linter.unusedVariables false
open Go.RowKit
/-- all edges of which there are not too many -/
def fewG (g : Edge → Nat) : Prop := ∀ mc : List (Edge × Value), CntM mc g → mc.length ≤ 1000000
/-- the edges that have a count, in order -/
def EdsOf (g : Edge → Nat) (l : List Hvy) : Prop := ∀ mc : List (Edge × Value), CntM mc g → hvL g (ddE (mc.map (·.1))) = l
section
variable {F : Nat → Prop} {w : World} {txs : List HTx} {ords : List HOrd} {A : Option Addr} {c : Nat} {B : Option Addr} {d : Nat} {l : List Hvy}
set_option maxRecDepth 100000 in
set_option maxHeartbeats 4000000 in
theorem dEdges (H : Hist.lies F w ⟨txs, ords, A, c, B, d⟩) (hf : fewG (gAll (fun _ => true) ⟨txs, ords, A, c, B, d⟩)) (he : EdsOf (gAll (fun _ => true) ⟨txs, ords, A, c, B, d⟩) l) :
    Calls Tryz.prog 11 #[.agg #[.slice A txs.length c, .slice B ords.length d]] w (NewHv w l) := by
  obtain ⟨w1, hw1⟩ : ∃ w1, w.alloc (.cells #[.slice A txs.length c, .slice B ords.length d] 25) = w1 := ⟨_, rfl⟩
  have u1 : Upd No w w1 := by rw [← hw1]; exact (Upd.refl No w).alloc _
  have b1 : Blk w1 w.heap.size 25 [.slice A txs.length c, .slice B ords.length d] := by rw [← hw1]; exact Blk.new w _ _
  have HC := Lib.hid (dcounted0 F w1 txs ords A c B d (fun _ => true) (H.upd u1 (fun _ _ => id)) (Lib.hid (fun W key _ => dEdges1 W key)))
  have d0 := b1.cell 0
  have d1 := b1.cell 1
  simp only [List.getElem?_cons_zero, List.getElem?_cons_succ] at d0 d1
  have HU1 := Lib.hid u1
  have HF := Lib.hid hf
  have HE := Lib.hid he
  clear b1 u1 hf he H
  go_enter Tryz.func11, Tryz.ntmps11
  go_wp2_with fail
  refine (HC.out).mono ?_
  rintro e w2 ⟨bc, mc, rfl, hbc, hm, hg, hu2⟩
  have HL := Lib.hid (dlist w2 bc mc _ hm hg (HF.out mc hg))
  rw [HE.out mc hg] at HL
  have hv2 := HU1.out.trans hu2
  clear hbc hm hg hu2
  go_wp2_with fail
  refine (HL.out).mono ?_
  rintro e w3 ⟨A3, c3, rfl, ho3, hu3⟩
  go_wp2
  go_ret
  exact ⟨A3, c3, rfl, own_base ho3 hv2.size, hv2.trans hu3⟩
set_option maxRecDepth 100000 in
set_option maxHeartbeats 4000000 in
theorem dOf (key : Int) (H : Hist.lies F w ⟨txs, ords, A, c, B, d⟩) (hf : fewG (gAll (fun k => k == key) ⟨txs, ords, A, c, B, d⟩)) (he : EdsOf (gAll (fun k => k == key) ⟨txs, ords, A, c, B, d⟩) l) :
    Calls Tryz.prog 12 #[.agg #[.slice A txs.length c, .slice B ords.length d], .int .i64 key] w (NewHv w l) := by
  obtain ⟨w1, hw1⟩ : ∃ w1, (w.alloc (.cells #[.slice A txs.length c, .slice B ords.length d] 25)).alloc (.cells #[.int .i64 key] 3) = w1 := ⟨_, rfl⟩
  have u1 : Upd No w w1 := by rw [← hw1]; exact ((Upd.refl No w).alloc _).alloc _
  have b1 : Blk w1 w.heap.size 25 [.slice A txs.length c, .slice B ords.length d] := by rw [← hw1]; exact (Blk.new w _ _).alloc _
  have b2 : Blk w1 (w.heap.size + 1) 3 [.int .i64 key] := by
    rw [← hw1]
    have := Blk.new (w.alloc (.cells #[.slice A txs.length c, .slice B ords.length d] 25)) 3 [.int .i64 key]
    simpa using this
  have HC := Lib.hid (dcounted1 F w1 txs ords A c B d ⟨w.heap.size + 1, 0, none⟩ (fun k => k == key) (H.upd u1 (fun _ _ => id)) (Lib.hid (fun W k u => dOf1 W k key ⟨w.heap.size + 1, 0, none⟩ (by simpa using (b2.upd u id).cell 0))))
  have d0 := b1.cell 0
  have d1 := b1.cell 1
  simp only [List.getElem?_cons_zero, List.getElem?_cons_succ] at d0 d1
  have HU1 := Lib.hid u1
  have HF := Lib.hid hf
  have HE := Lib.hid he
  clear b1 b2 u1 hf he H
  go_enter Tryz.func12, Tryz.ntmps12
  go_wp2_with fail
  refine (HC.out).mono ?_
  rintro e w2 ⟨bc, mc, rfl, hbc, hm, hg, hu2⟩
  have HL := Lib.hid (dlist w2 bc mc _ hm hg (HF.out mc hg))
  rw [HE.out mc hg] at HL
  have hv2 := HU1.out.trans hu2
  clear hbc hm hg hu2
  go_wp2_with fail
  refine (HL.out).mono ?_
  rintro e w3 ⟨A3, c3, rfl, ho3, hu3⟩
  go_wp2
  go_ret
  exact ⟨A3, c3, rfl, own_base ho3 hv2.size, hv2.trans hu3⟩
set_option maxRecDepth 100000 in
set_option maxHeartbeats 4000000 in
theorem dCount (e : Edge) (H : Hist.lies F w ⟨txs, ords, A, c, B, d⟩) {n : Nat} (hn : gAll (fun k => k == e.key) ⟨txs, ords, A, c, B, d⟩ e = n) :
    Calls Tryz.prog 14 #[.agg #[.slice A txs.length c, .slice B ords.length d], .agg #[.int .i64 e.f, .int .i64 e.t, .int .i64 e.k, .int .i64 e.key]] w fun r w' => r = .returned (.int .i64 (n : Int)) ∧ Upd No w w' := by
  obtain ⟨w1, hw1⟩ : ∃ w1, (w.alloc (.cells #[.slice A txs.length c, .slice B ords.length d] 25)).alloc (.cells #[.int .i64 e.f, .int .i64 e.t, .int .i64 e.k, .int .i64 e.key] 27) = w1 := ⟨_, rfl⟩
  have u1 : Upd No w w1 := by rw [← hw1]; exact ((Upd.refl No w).alloc _).alloc _
  have b1 : Blk w1 w.heap.size 25 [.slice A txs.length c, .slice B ords.length d] := by rw [← hw1]; exact (Blk.new w _ _).alloc _
  have b2 : Blk w1 (w.heap.size + 1) 27 [.int .i64 e.f, .int .i64 e.t, .int .i64 e.k, .int .i64 e.key] := by
    rw [← hw1]
    have := Blk.new (w.alloc (.cells #[.slice A txs.length c, .slice B ords.length d] 25)) 27 [.int .i64 e.f, .int .i64 e.t, .int .i64 e.k, .int .i64 e.key]
    simpa using this
  have HC := Lib.hid (fun W0 (u0 : Upd No w1 W0) => dcounted2 F W0 txs ords A c B d ⟨w.heap.size + 1, 0, none⟩ (fun k => k == e.key) (H.upd (u1.trans u0) (fun _ _ => id)) (Lib.hid (fun W k u => dCount1 W k e.key (w.heap.size + 1) (by simpa using (b2.upd (u0.trans u) id).cell 3))))
  have d0 : ∀ W, Upd No w1 W → W.cell? ⟨w.heap.size, 0, none⟩ = some (.slice A txs.length c) := fun W u => (b1.upd u id).cell 0
  have d1 : ∀ W, Upd No w1 W → W.cell? ⟨w.heap.size, 1, none⟩ = some (.slice B ords.length d) := fun W u => (b1.upd u id).cell 1
  have e0 : ∀ W, Upd No w1 W → W.cell? ⟨w.heap.size + 1, 0, none⟩ = some (.int .i64 e.f) := fun W u => (b2.upd u id).cell 0
  have e1 : ∀ W, Upd No w1 W → W.cell? ⟨w.heap.size + 1, 1, none⟩ = some (.int .i64 e.t) := fun W u => (b2.upd u id).cell 1
  have e2 : ∀ W, Upd No w1 W → W.cell? ⟨w.heap.size + 1, 2, none⟩ = some (.int .i64 e.k) := fun W u => (b2.upd u id).cell 2
  have e3 : ∀ W, Upd No w1 W → W.cell? ⟨w.heap.size + 1, 3, none⟩ = some (.int .i64 e.key) := fun W u => (b2.upd u id).cell 3
  have HU1 := Lib.hid u1
  have HN := Lib.hid hn
  have hxz : Upd No w1 w1 := Upd.refl _ _
  clear b1 b2 u1 hn H
  go_enter Tryz.func14, Tryz.ntmps14
  go_wp2
  refine wp_region_noPanic ?_
  refine wp_region_held_drew (S := (fun W' => Upd No w1 W')) (by kernel_rfl) ?_ (fun hHeld => ?_)
  · (first | exact hxz.drew | exact hHeld.trans hu2 | exact hHeld)
  refine wpT 0 ⟨some 5, .load 25 (.tmp 2), 25, "dsg.go:101", #[], none⟩ ?_ (.inl ⟨by rfl, ?_⟩) ?_
  rotate_left
  · (intro W hSw; (try dsimp only at hSw); go_simp; try (with_reducible rfl))
  try simp only [Act.put]
  try simp only [List.setIfInBounds_toArray]
  try simp only [List.set_cons_succ]
  try simp only [List.set_cons_zero]
  refine wpT 3 ⟨some 8, .load 27 (.tmp 3), 27, "dsg.go:101", #[], none⟩ ?_ (.inl ⟨by rfl, ?_⟩) ?_
  rotate_left
  · (intro W hSw; (try dsimp only at hSw); go_simp; try (with_reducible rfl))
  try simp only [Act.put]
  try simp only [List.setIfInBounds_toArray]
  try simp only [List.set_cons_succ]
  try simp only [List.set_cons_zero]
  refine wpAnyH_ready (rs := [1]) (by kernel_rfl) (by simp) ?_
  refine AllReadyH.cons (o := ⟨some 6, .makeFunc (Go.Fn.func 45) #[] #[.tmp 3], 87, "dsg.go:101", #[], none⟩) rfl (fun K hK => ?_) AllReadyH.nil
  go_simp
  refine hK.out _ _ ?_ (fun hHeld => ?_)
  · (first | exact hxz.drew | exact hHeld.trans hu2 | exact hHeld)
  clear hK K
  try simp only [Act.put]
  try simp only [List.setIfInBounds_toArray]
  try simp only [List.set_cons_succ]
  try simp only [List.set_cons_zero]
  refine wpAnyH_ready (rs := [2]) (by kernel_rfl) (by simp) ?_
  refine AllReadyH.cons (o := ⟨some 7, .call { callee := .value (.func 42), args := #[.tmp 5, .tmp 6], argTypes := #[25, 87] }, 85, "dsg.go:101", #[⟨0, .data⟩, ⟨1, .data⟩], none⟩) rfl (fun K hK => ?_) AllReadyH.nil
  go_simp
  (first
    | (go_at_call 42; refine Calls.mono (HC.out _ hHeld) ?_; rintro r w2 ⟨bc, mc, rfl, hbc, hm, hg, hu2⟩; have L1 : ∀ W, Upd No w2 W → (Instr.lookup 85 (.map (some bc)) (.agg #[.int .i64 e.f, .int .i64 e.t, .int .i64 e.k, .int .i64 e.key]) false).run Tryz.prog W = .ok (.int .i64 (n : Int)) W := (fun W u => by have h9 := run_look kbyedge Tryz.underlying85 zeroCnt (hm.upd u id).is e; rw [hg.val, HN.out] at h9; exact h9); have hz2 : Upd No w2 w2 := Upd.refl _ _; clear hbc hm hg))
  try (go_wp2_with fail)
  refine hK.out _ _ ?_ (fun hHeld => ?_)
  · (first | exact hxz.drew | exact hHeld.trans hu2 | exact hHeld)
  clear hK K
  try simp only [Act.put]
  try simp only [List.setIfInBounds_toArray]
  try simp only [List.set_cons_succ]
  try simp only [List.set_cons_zero]
  refine wpAnyH_ready (rs := [4]) (by kernel_rfl) (by simp) ?_
  refine AllReadyH.cons (o := ⟨some 9, .lookup 85 (.tmp 7) (.tmp 8) false, 3, "dsg.go:101", #[⟨2, .data⟩, ⟨3, .data⟩], none⟩) rfl (fun K hK => ?_) AllReadyH.nil
  go_simp
  refine hK.out _ _ ?_ (fun hHeld => ?_)
  · (first | exact hxz.drew | exact hHeld.trans hu2 | exact hHeld)
  clear hK K
  try simp only [Act.put]
  try simp only [List.setIfInBounds_toArray]
  try simp only [List.set_cons_succ]
  try simp only [List.set_cons_zero]
  refine wpT 5 ⟨some 4, .assign (.tmp 9), 3, "dsg.go:101", #[⟨4, .data⟩, ⟨2, .chain⟩, ⟨0, .phase⟩, ⟨1, .phase⟩, ⟨2, .phase⟩, ⟨3, .phase⟩, ⟨4, .phase⟩], none⟩ ?_ (.inl ⟨by rfl, ?_⟩) ?_
  rotate_left
  · (intro W hSw; (try dsimp only at hSw); go_simp; try (with_reducible rfl))
  try simp only [Act.put]
  try simp only [List.setIfInBounds_toArray]
  try simp only [List.set_cons_succ]
  try simp only [List.set_cons_zero]
  refine wpAnyH_done (by kernel_rfl) (NoPanic.normal ?_) _
  have HH := Lib.hid hHeld
  clear hHeld
  go_wp2
  go_ret
  exact ⟨rfl, HU1.out.trans HH.out⟩
end
end Go.Proofs.YtaicemjckagcaaaGreat

/- Edges of a history, the document's: those of a key, without counts; whether two lists are one. -/
namespace Go.Proofs.YtaicemjckagcaaaGreat
set_option linter.unusedVariables false
open Go.RowKit
theorem Hvys.at_ {F : Nat → Prop} {w : World} {A : Option Addr} {l : List Hvy} (h : Hvys F w A l) {k : Nat} (hk : k < l.length) : ∃ ad, A = some ad ∧
    w.cell? (ad.add (k * 5)) = some (.int .i64 l[k].e.f) ∧ w.cell? ⟨(ad.add (k * 5)).block, (ad.add (k * 5)).off + 1, none⟩ = some (.int .i64 l[k].e.t) ∧
    w.cell? ⟨(ad.add (k * 5)).block, (ad.add (k * 5)).off + 2, none⟩ = some (.int .i64 l[k].e.k) ∧ w.cell? ⟨(ad.add (k * 5)).block, (ad.add (k * 5)).off + 3, none⟩ = some (.int .i64 l[k].e.key) ∧
    w.cell? ⟨(ad.add (k * 5)).block, (ad.add (k * 5)).off + 4, none⟩ = some (.int .i64 l[k].n) := by
  have hk' : k < (l.map Hvy.cells).length := by simpa using hk
  obtain ⟨ad, e, _, _, hc⟩ := Recs.at_ h hk'
  rw [List.getElem_map] at hc
  exact ⟨ad, e, by simpa using hc 0 _ rfl, by simpa using hc 1 _ rfl, by simpa using hc 2 _ rfl, by simpa using hc 3 _ rfl, by simpa using hc 4 _ rfl⟩
def plainL (l : List Hvy) : List Edge := l.map (·.e)
theorem plainL_take {l : List Hvy} {k : Nat} {x : Hvy} (hk : k < l.length) (hx : l[k] = x) : plainL (l.take (k + 1)) = plainL (l.take k) ++ [x.e] := by
  subst hx
  unfold plainL
  rw [List.take_succ_eq_append_getElem hk, List.map_append]; rfl
def rowsE (l : List Edge) : List Value := (l.map Edge.cells).flatten
theorem rowsE_snoc (xs : List Edge) (e : Edge) : rowsE (xs ++ [e]) = rowsE xs ++ e.cells := by unfold rowsE; simp
/-- a new row of edges -/
def NewEs (w : World) (l : List Edge) (e : Ending) (w' : World) : Prop := ∃ A c, e = .returned (.slice A l.length c) ∧ w'.ownsRow w.heap.size 27 4 (.slice A l.length c) l.length (rowsE l) ∧ Upd No w w'
def ofKey (key : Int) (l : List Hvy) : List Hvy := l.filter fun x => x.e.key == key
theorem ofKey_take {key : Int} {l : List Hvy} {k : Nat} {x : Hvy} (hk : k < l.length) (hx : l[k] = x) : ofKey key (l.take (k + 1)) = ofKey key (l.take k) ++ if x.e.key = key then [x] else [] := by
  subst hx
  unfold ofKey
  rw [List.take_succ_eq_append_getElem hk, List.filter_append]
  congr 1
  split
  · rename_i h; rw [List.filter_cons_of_pos (by simpa using h)]; rfl
  · rename_i h; rw [List.filter_cons_of_neg (by simpa using h)]; rfl
set_option maxRecDepth 100000 in
set_option maxHeartbeats 4000000 in
theorem dPlain (F : Nat → Prop) (w : World) (A : Option Addr) (c : Nat) (l : List Hvy) (h : Hvys F w A l) (hl : l.length ≤ 1000000) : Calls Tryz.prog 17 #[.slice A l.length c] w (NewEs w (plainL l)) := by
  go_enter Tryz.func17, Tryz.ntmps17
  go_wp2
  go_loopg [3, 8] l.length (fun gk s i wr => ∃ (k : Nat) (A5 : Option Addr) (c5 : Nat) (xs : List Edge), k + gk = l.length ∧ i = .int .i64 k ∧ s = .slice A5 xs.length c5 ∧ Hid (xs = plainL (l.take k)) ∧ Hid (wr.ownsRow w.heap.size 27 4 (.slice A5 xs.length c5) xs.length (rowsE xs)) ∧ Upd No w wr)
  case atStart => exact ⟨0, none, 0, [], by omega, rfl, rfl, Lib.hid rfl, Lib.hid (World.ownsRow_nil _ _ _ _), Upd.refl _ _⟩
  case round =>
    obtain ⟨k, A5, c5, xs, hgk, rfl, rfl, hs, hown, hu⟩ := hrel
    have hxl : xs.length ≤ 1000000 := by rw [hs.out]; unfold plainL; rw [List.length_map, List.length_take]; omega
    by_cases hlt : k < l.length
    · obtain ⟨ax, rfl, q0, q1, q2, q3, q4⟩ := (h.upd hu (fun _ _ => id)).at_ hlt
      obtain ⟨⟨⟨xf, xt, xk, xy⟩, xn⟩, hxx⟩ : ∃ x, l[k] = x := ⟨_, rfl⟩
      rw [hxx] at q0 q1 q2 q3 q4
      simp only at q0 q1 q2 q3 q4
      have i1 : (0 : Int) ≤ (k : Int) := Int.natCast_nonneg _
      have i2 : (k : Int) < (l.length : Int) := by omega
      obtain ⟨wx, hwx⟩ : ∃ wx, wr.alloc (.cells #[.int .i64 xf, .int .i64 xt, .int .i64 xk, .int .i64 xy, .int .i64 xn] 75) = wx := ⟨_, rfl⟩
      have ux : Upd No wr wx := by rw [← hwx]; exact (Upd.refl No wr).alloc _
      have bo : Blk wx wr.heap.size 75 [.int .i64 xf, .int .i64 xt, .int .i64 xk, .int .i64 xy, .int .i64 xn] := by rw [← hwx]; exact Blk.new wr _ _
      have d0 := bo.cell 0
      have d1 := bo.cell 1
      have d2 := bo.cell 2
      have d3 := bo.cell 3
      have d4 := bo.cell 4
      simp only [List.getElem?_cons_zero, List.getElem?_cons_succ] at d0 d1 d2 d3 d4
      have HUX := Lib.hid (hu.trans ux)
      have HO := Lib.hid (own_upd hown.out ux (fun _ _ => id))
      have hsz := (hu.trans ux).size
      have HS := Lib.hid (show xs ++ [⟨xf, xt, xk, xy⟩] = plainL (l.take (k + 1)) by rw [hs.out]; exact (plainL_take hlt hxx).symm)
      clear hxx bo ux hown
      go_wp2_with (at_builtin; refine app1s rfl rfl slt_edges (base := w.heap.size) (v := .slice A5 xs.length c5) (n := xs.length) (xs := rowsE xs) (cells := [.int .i64 xf, .int .i64 xt, .int .i64 xk, .int .i64 xy]) (by rfl) (by rfl) HO.out rfl rfl (by omega) (by omega) (by omega) ?_; intro g9 c9 w9 hown9 hu9 hg9 hlt9)
      go_roundg (gk - 1)
      case measure => omega
      case rel =>
        have hl1 : (xs ++ [(⟨xf, xt, xk, xy⟩ : Edge)]).length = xs.length + 1 := by simp
        exact ⟨k + 1, some ⟨g9, 0, none⟩, c9, xs ++ [⟨xf, xt, xk, xy⟩], by omega, by go_num, by rw [hl1], HS, Lib.hid (by rw [hl1, rowsE_snoc]; exact hown9), HUX.out.then_ hu9 (fun i e => Or.inr (HO.out.lt i e).1)⟩
    · obtain rfl : k = l.length := by omega
      go_wp2
      go_ret
      have h1 := hs.out
      rw [List.take_length] at h1
      subst h1
      exact ⟨A5, c5, rfl, hown.out, hu⟩
set_option maxRecDepth 100000 in
set_option maxHeartbeats 4000000 in
theorem rPlain16 (F : Nat → Prop) (w : World) (A : Option Addr) (c : Nat) (l : List Hvy) (h : Hvys F w A l) (hl : l.length ≤ 1000000) : Calls Tryz.prog 18 #[.slice A l.length c] w (NewEs w (plainL l)) := by
  go_enter Tryz.func18, Tryz.ntmps18
  go_wp2
  go_loopg [3, 8] l.length (fun gk s i wr => ∃ (k : Nat) (A5 : Option Addr) (c5 : Nat) (xs : List Edge), k + gk = l.length ∧ i = .int .i64 k ∧ s = .slice A5 xs.length c5 ∧ Hid (xs = plainL (l.take k)) ∧ Hid (wr.ownsRow w.heap.size 27 4 (.slice A5 xs.length c5) xs.length (rowsE xs)) ∧ Upd No w wr)
  case atStart => exact ⟨0, none, 0, [], by omega, rfl, rfl, Lib.hid rfl, Lib.hid (World.ownsRow_nil _ _ _ _), Upd.refl _ _⟩
  case round =>
    obtain ⟨k, A5, c5, xs, hgk, rfl, rfl, hs, hown, hu⟩ := hrel
    have hxl : xs.length ≤ 1000000 := by rw [hs.out]; unfold plainL; rw [List.length_map, List.length_take]; omega
    by_cases hlt : k < l.length
    · obtain ⟨ax, rfl, q0, q1, q2, q3, q4⟩ := (h.upd hu (fun _ _ => id)).at_ hlt
      obtain ⟨⟨⟨xf, xt, xk, xy⟩, xn⟩, hxx⟩ : ∃ x, l[k] = x := ⟨_, rfl⟩
      rw [hxx] at q0 q1 q2 q3 q4
      simp only at q0 q1 q2 q3 q4
      have i1 : (0 : Int) ≤ (k : Int) := Int.natCast_nonneg _
      have i2 : (k : Int) < (l.length : Int) := by omega
      obtain ⟨wx, hwx⟩ : ∃ wx, wr.alloc (.cells #[.int .i64 xf, .int .i64 xt, .int .i64 xk, .int .i64 xy, .int .i64 xn] 75) = wx := ⟨_, rfl⟩
      have ux : Upd No wr wx := by rw [← hwx]; exact (Upd.refl No wr).alloc _
      have bo : Blk wx wr.heap.size 75 [.int .i64 xf, .int .i64 xt, .int .i64 xk, .int .i64 xy, .int .i64 xn] := by rw [← hwx]; exact Blk.new wr _ _
      have d0 := bo.cell 0
      have d1 := bo.cell 1
      have d2 := bo.cell 2
      have d3 := bo.cell 3
      have d4 := bo.cell 4
      simp only [List.getElem?_cons_zero, List.getElem?_cons_succ] at d0 d1 d2 d3 d4
      have HUX := Lib.hid (hu.trans ux)
      have HO := Lib.hid (own_upd hown.out ux (fun _ _ => id))
      have hsz := (hu.trans ux).size
      have HS := Lib.hid (show xs ++ [⟨xf, xt, xk, xy⟩] = plainL (l.take (k + 1)) by rw [hs.out]; exact (plainL_take hlt hxx).symm)
      clear hxx bo ux hown
      go_wp2_with (at_builtin; refine app1s rfl rfl slt_edges (base := w.heap.size) (v := .slice A5 xs.length c5) (n := xs.length) (xs := rowsE xs) (cells := [.int .i64 xf, .int .i64 xt, .int .i64 xk, .int .i64 xy]) (by rfl) (by rfl) HO.out rfl rfl (by omega) (by omega) (by omega) ?_; intro g9 c9 w9 hown9 hu9 hg9 hlt9)
      go_roundg (gk - 1)
      case measure => omega
      case rel =>
        have hl1 : (xs ++ [(⟨xf, xt, xk, xy⟩ : Edge)]).length = xs.length + 1 := by simp
        exact ⟨k + 1, some ⟨g9, 0, none⟩, c9, xs ++ [⟨xf, xt, xk, xy⟩], by omega, by go_num, by rw [hl1], HS, Lib.hid (by rw [hl1, rowsE_snoc]; exact hown9), HUX.out.then_ hu9 (fun i e => Or.inr (HO.out.lt i e).1)⟩
    · obtain rfl : k = l.length := by omega
      go_wp2
      go_ret
      have h1 := hs.out
      rw [List.take_length] at h1
      subst h1
      exact ⟨A5, c5, rfl, hown.out, hu⟩
set_option maxRecDepth 100000 in
set_option maxHeartbeats 4000000 in
theorem rOf16 (F : Nat → Prop) (w : World) (A : Option Addr) (c : Nat) (l : List Hvy) (key : Int) (h : Hvys F w A l) (hl : l.length ≤ 1000000) : Calls Tryz.prog 13 #[.slice A l.length c, .int .i64 key] w (NewHv w (ofKey key l)) := by
  go_enter Tryz.func13, Tryz.ntmps13
  go_wp2
  go_loopg [5, 10] l.length (fun gk s i wr => ∃ (k : Nat) (A5 : Option Addr) (c5 : Nat) (xs : List Hvy), k + gk = l.length ∧ i = .int .i64 k ∧ s = .slice A5 xs.length c5 ∧ Hid (xs = ofKey key (l.take k)) ∧ Hid (wr.ownsRow w.heap.size 75 5 (.slice A5 xs.length c5) xs.length (hvyF xs)) ∧ Upd No w wr)
  case atStart => exact ⟨0, none, 0, [], by omega, rfl, rfl, Lib.hid rfl, Lib.hid (World.ownsRow_nil _ _ _ _), Upd.refl _ _⟩
  case round =>
    obtain ⟨k, A5, c5, xs, hgk, rfl, rfl, hs, hown, hu⟩ := hrel
    have hxl : xs.length ≤ 1000000 := by rw [hs.out]; unfold ofKey; have := List.length_filter_le (fun x : Hvy => x.e.key == key) (l.take k); rw [List.length_take] at this; omega
    by_cases hlt : k < l.length
    · obtain ⟨ax, rfl, q0, q1, q2, q3, q4⟩ := (h.upd hu (fun _ _ => id)).at_ hlt
      obtain ⟨⟨⟨xf, xt, xk, xy⟩, xn⟩, hxx⟩ : ∃ x, l[k] = x := ⟨_, rfl⟩
      rw [hxx] at q0 q1 q2 q3 q4
      simp only at q0 q1 q2 q3 q4
      have i1 : (0 : Int) ≤ (k : Int) := Int.natCast_nonneg _
      have i2 : (k : Int) < (l.length : Int) := by omega
      obtain ⟨wx, hwx⟩ : ∃ wx, wr.alloc (.cells #[.int .i64 xf, .int .i64 xt, .int .i64 xk, .int .i64 xy, .int .i64 xn] 75) = wx := ⟨_, rfl⟩
      have ux : Upd No wr wx := by rw [← hwx]; exact (Upd.refl No wr).alloc _
      have bo : Blk wx wr.heap.size 75 [.int .i64 xf, .int .i64 xt, .int .i64 xk, .int .i64 xy, .int .i64 xn] := by rw [← hwx]; exact Blk.new wr _ _
      have d0 := bo.cell 0
      have d1 := bo.cell 1
      have d2 := bo.cell 2
      have d3 := bo.cell 3
      have d4 := bo.cell 4
      simp only [List.getElem?_cons_zero, List.getElem?_cons_succ] at d0 d1 d2 d3 d4
      have HUX := Lib.hid (hu.trans ux)
      have HO := Lib.hid (own_upd hown.out ux (fun _ _ => id))
      have hsz := (hu.trans ux).size
      have HT := Lib.hid (ofKey_take (key := key) hlt hxx)
      simp only at HT
      clear hxx bo ux hown
      by_cases hk : xy = key
      · have HS := Lib.hid (show xs ++ [⟨⟨xf, xt, xk, xy⟩, xn⟩] = ofKey key (l.take (k + 1)) by rw [HT.out, if_pos hk, hs.out])
        subst hk
        go_wp2_with (at_builtin; refine app1s rfl rfl slt_hvy (base := w.heap.size) (v := .slice A5 xs.length c5) (n := xs.length) (xs := hvyF xs) (cells := [.int .i64 xf, .int .i64 xt, .int .i64 xk, .int .i64 xy, .int .i64 xn]) (by rfl) (by rfl) HO.out rfl rfl (by omega) (by omega) (by omega) ?_; intro g9 c9 w9 hown9 hu9 hg9 hlt9)
        go_roundg (gk - 1)
        case measure => omega
        case rel =>
          have hl1 : (xs ++ [(⟨⟨xf, xt, xk, xy⟩, xn⟩ : Hvy)]).length = xs.length + 1 := by simp
          exact ⟨k + 1, some ⟨g9, 0, none⟩, c9, xs ++ [⟨⟨xf, xt, xk, xy⟩, xn⟩], by omega, by go_num, by rw [hl1], HS, Lib.hid (by rw [hl1, hvyF_snoc]; exact hown9), HUX.out.then_ hu9 (fun i e => Or.inr (HO.out.lt i e).1)⟩
      · have HS := Lib.hid (show xs = ofKey key (l.take (k + 1)) by rw [HT.out, if_neg hk, List.append_nil, hs.out])
        have hk2 : (xy == key) = false := by simpa using hk
        clear hk
        go_wp2
        go_roundg (gk - 1)
        case measure => omega
        case rel => exact ⟨k + 1, A5, c5, xs, by omega, by go_num, rfl, HS, HO, HUX.out⟩
    · obtain rfl : k = l.length := by omega
      go_wp2
      go_ret
      have h1 := hs.out
      rw [List.take_length] at h1
      subst h1
      exact ⟨A5, c5, rfl, hown.out, hu⟩
theorem edge_equalD (w : World) (n : Nat) (a b c d a' b' c' d' : Int) : (Op.equalIn (n + 1 + 1) 27 (.agg #[.int .i64 a, .int .i64 b, .int .i64 c, .int .i64 d]) (.agg #[.int .i64 a', .int .i64 b', .int .i64 c', .int .i64 d'])).run Tryz.prog w = .ok (decide ((⟨a, b, c, d⟩ : Edge) = ⟨a', b', c', d'⟩)) w := by
  rw [run_equalIn_struct w _ _ _ _ (by kernel_rfl) (by kernel_rfl)]
  have hI : ∀ (w : World) (d : Nat) (x y : Int), (Op.equalIn (d + 1) 3 (.int .i64 x) (.int .i64 y)).run Tryz.prog w = .ok (x == y) w := fun w d x y => run_equalIn_int w d _ _ _ x y Tryz.underlying3
  by_cases h1 : a = a' <;> by_cases h2 : b = b' <;> by_cases h3 : c = c' <;> by_cases h4 : d = d' <;>
    simp [Program.fieldsOf, Tryz.underlying27, Op.eqFields, part, hI, h1, h2, h3, h4, Result.andThen]
theorem hvy_equal (w : World) (x y : Hvy) : (Op.equalIn 10000 75 (.agg #[.int .i64 x.e.f, .int .i64 x.e.t, .int .i64 x.e.k, .int .i64 x.e.key, .int .i64 x.n]) (.agg #[.int .i64 y.e.f, .int .i64 y.e.t, .int .i64 y.e.k, .int .i64 y.e.key, .int .i64 y.n])).run Tryz.prog w = .ok (decide (x = y)) w := by
  obtain ⟨⟨a, b, c, d⟩, e⟩ := x
  obtain ⟨⟨a', b', c', d'⟩, e'⟩ := y
  show (Op.equalIn (9997 + 1 + 1 + 1) _ _ _).run _ w = _
  rw [run_equalIn_struct w _ _ _ _ (by kernel_rfl) (by kernel_rfl)]
  generalize 9997 = n
  have hI : ∀ (w : World) (d : Nat) (x y : Int), (Op.equalIn (d + 1) 3 (.int .i64 x) (.int .i64 y)).run Tryz.prog w = .ok (x == y) w := fun w d x y => run_equalIn_int w d _ _ _ x y Tryz.underlying3
  have hV := fun w => edge_equalD w n a b c d a' b' c' d'
  have hp : ∀ (w : World) (q r c d e : Value), (part 27 #[q, r, c, d, e] 0).run Tryz.prog w = .ok (.agg #[q, r, c, d]) w := fun w q r c d e => by
    obtain ⟨i, hi, _, hs, _⟩ := info_parts (P := Tryz.prog) (e := 27) (z := .agg #[.int .i64 0, .int .i64 0, .int .i64 0, .int .i64 0]) (size := 4) (bytes := 32) (by kernel_rfl)
    simp [part, isAgg, run_underlying Tryz.underlying27, sizeOf, typeInfo, hi, hs, Result.andThen]
  have hp4 : ∀ (w : World) (q r c d e : Value), (part 3 #[q, r, c, d, e] 4).run Tryz.prog w = .ok e w := fun w q r c d e => by simp [part, isAgg, run_underlying Tryz.underlying3]
  by_cases h1 : (⟨a, b, c, d⟩ : Edge) = ⟨a', b', c', d'⟩ <;> by_cases h2 : e = e' <;>
    simp [Program.fieldsOf, Tryz.underlying75, Op.eqFields, hp, hp4, hI, hV, h1, h2, Result.andThen]
theorem hvy_neq (w : World) (x y : Hvy) : (binOp .neq 75 (.agg #[.int .i64 x.e.f, .int .i64 x.e.t, .int .i64 x.e.k, .int .i64 x.e.key, .int .i64 x.n]) (.agg #[.int .i64 y.e.f, .int .i64 y.e.t, .int .i64 y.e.k, .int .i64 y.e.key, .int .i64 y.n])).run Tryz.prog w = .ok (.bool (x != y)) w := by
  have := hvy_equal w x y
  rw [run_neq_struct, this]
  simp only [Result.andThen]
  by_cases h : x = y <;> simp [h]
set_option maxRecDepth 100000 in
set_option maxHeartbeats 4000000 in
theorem rSame16 (w : World) (F G : Nat → Prop) (A B : Option Addr) (c d : Nat) (xs ys : List Hvy) (hx : Hvys F w A xs) (hy : Hvys G w B ys) (hl : xs.length ≤ 1048576) (hl2 : ys.length ≤ 1048576) {v : Bool} (hv : (xs == ys) = v) :
    Calls Tryz.prog 10 #[.slice A xs.length c, .slice B ys.length d] w fun e w' => e = .returned (.bool v) ∧ Upd No w w' := by
  have qG : ∀ (op : BinOp) (x y : Operand) (xs ys : Array Value) (w : World), (eqGuard op 75 x y (.agg xs) (.agg ys)).run Tryz.prog w = .ok () w := fun op x y xs ys w => run_eqGuard_agg w op _ x y xs ys (by kernel_rfl)
  subst hv
  by_cases hn : xs.length = ys.length
  · have hnb : ((xs.length : Int) != (ys.length : Int)) = false := by rw [bne_eq_false_iff_eq]; omega
    have HN := Lib.hid hn
    clear hn
    go_enter Tryz.func10, Tryz.ntmps10
    go_wp2
    go_loopg [5, 13] xs.length (fun gk j i wr => ∃ k : Nat, k + gk = xs.length ∧ i = .int .i64 k ∧ Hid (xs.take k = ys.take k) ∧ Upd No w wr)
    case atStart => exact ⟨0, by omega, rfl, Lib.hid rfl, Upd.refl _ _⟩
    case round =>
      obtain ⟨k, hgk, rfl, hs, hu⟩ := hrel
      by_cases hlt : k < xs.length
      · have hlt2 : k < ys.length := by have := HN.out; omega
        obtain ⟨ax, rfl, q0, q1, q2, q3, q4⟩ := (hx.upd hu (fun _ _ => id)).at_ hlt
        obtain ⟨ay, rfl, r0, r1, r2, r3, r4⟩ := (hy.upd hu (fun _ _ => id)).at_ hlt2
        obtain ⟨x, hxx⟩ : ∃ x, xs[k] = x := ⟨_, rfl⟩
        obtain ⟨y, hyy⟩ : ∃ y, ys[k] = y := ⟨_, rfl⟩
        rw [hxx] at q0 q1 q2 q3 q4
        rw [hyy] at r0 r1 r2 r3 r4
        have hq := fun W => hvy_neq W x y
        have i1 : (0 : Int) ≤ (k : Int) := Int.natCast_nonneg _
        have i2 : (k : Int) < (xs.length : Int) := by omega
        have i3 : (k : Int) < (ys.length : Int) := by omega
        have HX := Lib.hid hxx
        have HY := Lib.hid hyy
        clear hxx hyy
        by_cases he : x = y
        · have HN2 := Lib.hid (show xs.take (k + 1) = ys.take (k + 1) by rw [List.take_succ_eq_append_getElem hlt, List.take_succ_eq_append_getElem hlt2, hs.out, HX.out, HY.out, he])
          have heb : (x != y) = false := by simpa using he
          rw [heb] at hq
          clear he heb
          go_wp2
          go_quiet (fail)
          go_wp2
          go_roundg (gk - 1)
          case measure => omega
          case rel => exact ⟨k + 1, by omega, by go_num, HN2, hu.drewN _⟩
        · have HF := Lib.hid (show (xs == ys) = false from by
            rw [beq_eq_false_iff_ne]
            intro e
            subst e
            exact he (HX.out.symm.trans HY.out))
          have heb : (x != y) = true := by simpa using he
          rw [heb] at hq
          clear he heb
          go_wp2
          go_quiet (fail)
          go_wp2
          go_ret
          exact ⟨by rw [HF.out]; rfl, hu.drewN _⟩
      · obtain rfl : k = xs.length := by omega
        have HT := Lib.hid (show (xs == ys) = true from by
          rw [beq_iff_eq]
          have := hs.out
          rwa [List.take_length, HN.out, List.take_length] at this)
        go_wp2
        go_ret
        exact ⟨by rw [HT.out]; rfl, hu⟩
  · have HF := Lib.hid (show (xs == ys) = false from by
      rw [beq_eq_false_iff_ne]
      intro e
      exact hn (by rw [e]))
    have hnb : ((xs.length : Int) != (ys.length : Int)) = true := by rw [bne_iff_ne]; omega
    clear hn
    go_enter Tryz.func10, Tryz.ntmps10
    go_wp2
    go_ret
    exact ⟨by rw [HF.out]; rfl, Upd.refl _ _⟩
end Go.Proofs.YtaicemjckagcaaaGreat

/- Edges of a history, the document's: all keys; all edges. -/
namespace Go.Proofs.YtaicemjckagcaaaGreat
set_option linter.unusedVariables false
open Go.RowKit
def opK (l : List HOp) : List Int := l.map (·.key)
def txK (txs : List HTx) : List Int := txs.flatMap fun t => opK t.ops
/-- the keys of all operations, rising -/
def allK (txs : List HTx) : List Int := putAll [] (txK txs)
theorem putAll_append (s a b : List Int) : putAll s (a ++ b) = putAll (putAll s a) b := by
  induction a generalizing s with
  | nil => rfl
  | cons x a ih => exact ih _
theorem txK_succ {txs : List HTx} {k : Nat} {x : HTx} (hk : k < txs.length) (hx : txs[k] = x) : txK (txs.take (k + 1)) = txK (txs.take k) ++ opK x.ops := by
  subst hx
  unfold txK
  rw [List.take_succ_eq_append_getElem hk, List.flatMap_append]
  simp
theorem opK_succ {l : List HOp} {k : Nat} {x : HOp} (hk : k < l.length) (hx : l[k] = x) : opK (l.take (k + 1)) = opK (l.take k) ++ [x.key] := by
  subst hx
  unfold opK
  rw [List.take_succ_eq_append_getElem hk, List.map_append]; rfl
def NewK (w : World) (l : List Int) (e : Ending) (w' : World) : Prop := ∃ A c, e = .returned (.slice A l.length c) ∧ Ints (fun i => w.heap.size ≤ i) w' A l ∧ Upd No w w'
set_option maxRecDepth 100000 in
set_option maxHeartbeats 4000000 in
theorem rkeys16 (F : Nat → Prop) (w : World) (txs : List HTx) (ords : List HOrd) (A : Option Addr) (c : Nat) (B : Option Addr) (d : Nat) (H : Hist.lies F w ⟨txs, ords, A, c, B, d⟩) (n1 : txs.length ≤ 4096) (n2 : ∀ t ∈ txs, t.ops.length ≤ 4095) :
    Calls Tryz.prog 39 #[.agg #[.slice A txs.length c, .slice B ords.length d]] w (NewK w (allK txs)) := by
  have HH := Lib.hid H
  obtain ⟨wb, hwb⟩ : ∃ wb, w.alloc (.cells #[.slice A txs.length c, .slice B ords.length d] 25) = wb := ⟨_, rfl⟩
  have u1 : Upd No w wb := by rw [← hwb]; exact (Upd.refl No w).alloc _
  have b1 : Blk wb w.heap.size 25 [.slice A txs.length c, .slice B ords.length d] := by rw [← hwb]; exact Blk.new w _ _
  have d0 := b1.cell 0
  simp only [List.getElem?_cons_zero] at d0
  have HU := Lib.hid u1
  clear b1 u1 H
  go_enter Tryz.func39, Tryz.ntmps39
  go_wp2
  go_loopg [3, 11] txs.length (fun gk s i wr => ∃ (k : Nat) (A5 : Option Addr) (c5 : Nat) (xs : List Int), k + gk = txs.length ∧ i = .int .i64 k ∧ s = .slice A5 xs.length c5 ∧ Hid (xs = putAll [] (txK (txs.take k))) ∧ Hid (xs.length ≤ 4095 * k) ∧ Hid (Ints (fun i => w.heap.size ≤ i) wr A5 xs) ∧ Upd No w wr)
  case atStart => exact ⟨0, none, 0, [], by omega, rfl, rfl, Lib.hid rfl, Lib.hid (by simp), Lib.hid Ints.nil_, HU.out⟩
  case round =>
    obtain ⟨k, A5, c5, xs, hgk, rfl, rfl, hs, hln, hi, hu⟩ := hrel
    by_cases hlt : k < txs.length
    · obtain ⟨ad, hAd, q0, q1, q2⟩ := (HH.out.upd hu (fun _ _ => id)).tx_at hlt
      simp only at hAd q0 q1 q2
      have hx2 := n2 _ (List.getElem_mem hlt)
      have hx0 := HH.out.tx txs[k] (List.getElem_mem hlt)
      obtain ⟨⟨xi, xd, xo, xA, xc⟩, hx⟩ : ∃ x, txs[k] = x := ⟨_, rfl⟩
      rw [hx] at q0 q1 q2 hx2 hx0
      simp only at q0 q1 q2 hx2
      subst hAd
      have HX0 := Lib.hid (show HOps F w xA xo from hx0.1)
      have b1 : (0 : Int) ≤ (k : Int) := Int.natCast_nonneg _
      have b2 : (k : Int) < (txs.length : Int) := by omega
      obtain ⟨wx, hwx⟩ : ∃ wx, wr.alloc (.cells #[.int .i64 xi, .bool xd, .slice xA xo.length xc] 47) = wx := ⟨_, rfl⟩
      have ux : Upd No wr wx := by rw [← hwx]; exact (Upd.refl No wr).alloc _
      have bo : Blk wx wr.heap.size 47 [.int .i64 xi, .bool xd, .slice xA xo.length xc] := by rw [← hwx]; exact Blk.new wr _ _
      have t2 := bo.cell 2
      simp only [List.getElem?_cons_zero, List.getElem?_cons_succ] at t2
      have HUX := Lib.hid (hu.trans ux)
      have HIX := Lib.hid (hi.out.upd ux (fun _ _ => id))
      have HT := Lib.hid (txK_succ hlt hx)
      simp only at HT
      have HP := Lib.hid hs.out
      clear hx bo ux hx0 hs hi
      obtain ⟨wo, hwo⟩ : ∃ wo, wo = wr := ⟨_, rfl⟩
      subst hwo
      generalize gk = GK at *
      go_wp2
      go_loopg [3, 18] xo.length (fun gj s i wr => ∃ (j : Nat) (A5 : Option Addr) (c5 : Nat) (ys : List Int), j + gj = xo.length ∧ i = .int .i64 j ∧ s = .slice A5 ys.length c5 ∧ Hid (ys = putAll xs (opK (xo.take j))) ∧ Hid (ys.length ≤ 4095 * k + j) ∧ Hid (Ints (fun i => w.heap.size ≤ i) wr A5 ys) ∧ Upd No w wr)
      case atStart => exact ⟨0, A5, c5, xs, by omega, rfl, rfl, Lib.hid rfl, Lib.hid (by have := hln.out; omega), HIX, HUX.out⟩
      case round =>
        obtain ⟨j, A6, c6, ys, hgj, rfl, rfl, hs2, hl2, hi2, hu2⟩ := hrel
        by_cases hltj : j < xo.length
        · obtain ⟨ad2, hAd2, p0, p1, p2, p3⟩ := (HX0.out.upd hu2 (fun _ _ => id)).at_ hltj
          obtain ⟨⟨yr, yk, yt, yn⟩, hy⟩ : ∃ y, xo[j] = y := ⟨_, rfl⟩
          rw [hy] at p0 p1 p2 p3
          simp only at p0 p1 p2 p3
          subst hAd2
          have c1 : (0 : Int) ≤ (j : Int) := Int.natCast_nonneg _
          have c2 : (j : Int) < (xo.length : Int) := by omega
          obtain ⟨wy, hwy⟩ : ∃ wy, wr.alloc (.cells #[.bool yr, .int .i64 yk, .int .i64 yt, .int .i64 yn] 96) = wy := ⟨_, rfl⟩
          have uy : Upd No wr wy := by rw [← hwy]; exact (Upd.refl No wr).alloc _
          have bo : Blk wy wr.heap.size 96 [.bool yr, .int .i64 yk, .int .i64 yt, .int .i64 yn] := by rw [← hwy]; exact Blk.new wr _ _
          have o1 := bo.cell 1
          simp only [List.getElem?_cons_zero, List.getElem?_cons_succ] at o1
          have hys : ys.length ≤ 100000000 := by have := hl2.out; omega
          have HPT := Lib.hid (rPut _ wy A6 c6 ys yk (hi2.out.upd uy (fun _ _ => id)) hys)
          have HUY := Lib.hid (hu2.trans uy)
          have HO := Lib.hid (show putL yk ys = putAll xs (opK (xo.take (j + 1))) by rw [opK_succ hltj hy, putAll_append, ← hs2.out]; rfl)
          have HLN := Lib.hid (putL_len yk ys)
          clear hy bo uy
          go_wp2_with fail
          refine (HPT.out).mono ?_
          rintro e w5 ⟨A7, c7, rfl, ho7, hu7⟩
          have HI7 := Lib.hid ((Ints.of_owned ho7).weak (G := fun i => w.heap.size ≤ i) (fun i _ h => Nat.le_trans HUY.out.size h))
          have HU7 := Lib.hid (HUY.out.trans hu7)
          clear ho7 hu7
          go_wp2
          go_roundg (gk - 1)
          case measure => omega
          case rel => exact ⟨j + 1, A7, c7, _, by omega, by go_num, rfl, HO, Lib.hid (by have := HLN.out; have := hl2.out; omega), HI7, HU7.out⟩
        · obtain rfl : j = xo.length := by omega
          have HN := Lib.hid (show ys = putAll [] (txK (txs.take (k + 1))) by rw [HT.out, putAll_append, ← HP.out]; have := hs2.out; rwa [List.take_length] at this)
          go_wp2
          go_roundg (GK - 1)
          case measure => omega
          case rel => exact ⟨k + 1, A6, c6, ys, by omega, by go_num, rfl, HN, Lib.hid (by have := hl2.out; omega), hi2, hu2⟩
    · obtain rfl : k = txs.length := by omega
      go_wp2
      go_ret
      have h1 := hs.out
      rw [List.take_length] at h1
      subst h1
      exact ⟨A5, c5, rfl, hi.out, hu⟩
/-! all edges -/
def hrB (h : Hist) (a kind key : Int) (bs : List HTx) : List Hvy := bs.flatMap fun b => if 0 < cntR h ⟨a, b.id, kind, key⟩ then [⟨⟨a, b.id, kind, key⟩, (cntR h ⟨a, b.id, kind, key⟩ : Int)⟩] else []
def hrK (h : Hist) (a kind : Int) (ks : List Int) : List Hvy := ks.flatMap fun key => hrB h a kind key h.txs
def hrN (h : Hist) (a : Int) : Nat → List Hvy
  | 0 => []
  | n + 1 => hrN h a n ++ hrK h a ((n : Int) + 1) (allK h.txs)
def hrA (h : Hist) (ts : List HTx) : List Hvy := ts.flatMap fun t => hrN h t.id 3
def edgesR (h : Hist) : List Hvy := if rightB h = true then hrA h h.txs else []
theorem hrB_succ {h : Hist} {a kind key : Int} {bs : List HTx} {k : Nat} {x : HTx} (hk : k < bs.length) (hx : bs[k] = x) : hrB h a kind key (bs.take (k + 1)) = hrB h a kind key (bs.take k) ++ if 0 < cntR h ⟨a, x.id, kind, key⟩ then [⟨⟨a, x.id, kind, key⟩, (cntR h ⟨a, x.id, kind, key⟩ : Int)⟩] else [] := by
  subst hx
  unfold hrB
  rw [List.take_succ_eq_append_getElem hk, List.flatMap_append]
  simp
theorem hrK_succ {h : Hist} {a kind : Int} {ks : List Int} {k : Nat} {x : Int} (hk : k < ks.length) (hx : ks[k] = x) : hrK h a kind (ks.take (k + 1)) = hrK h a kind (ks.take k) ++ hrB h a kind x h.txs := by
  subst hx
  unfold hrK
  rw [List.take_succ_eq_append_getElem hk, List.flatMap_append]
  simp
theorem hrA_succ {h : Hist} {ts : List HTx} {k : Nat} {x : HTx} (hk : k < ts.length) (hx : ts[k] = x) : hrA h (ts.take (k + 1)) = hrA h (ts.take k) ++ hrN h x.id 3 := by
  subst hx
  unfold hrA
  rw [List.take_succ_eq_append_getElem hk, List.flatMap_append]
  simp
end Go.Proofs.YtaicemjckagcaaaGreat

/- Edges of a history, in plain words: what is counted is what the document counts. -/
namespace Go.Proofs.YtaicemjckagcaaaGreat
set_option linter.unusedVariables false
open Go.RowKit
theorem mem_wwO (key : Int) (e : Edge) : ∀ l : List Int, e ∈ wwO key l ↔ e.k = 1 ∧ e.key = key ∧ ∃ i : Nat, l[i]? = some e.f ∧ l[i + 1]? = some e.t
  | [] => by simp [wwO]
  | [a] => by
    simp [wwO]
  | a :: b :: l => by
    have ih := mem_wwO key e (b :: l)
    show e ∈ [⟨a, b, 1, key⟩] ++ wwO key (b :: l) ↔ _
    rw [List.mem_append, List.mem_singleton, ih]
    constructor
    · rintro (rfl | ⟨h1, h2, i, h3, h4⟩)
      · exact ⟨rfl, rfl, 0, rfl, rfl⟩
      · exact ⟨h1, h2, i + 1, h3, h4⟩
    · rintro ⟨h1, h2, i, h3, h4⟩
      cases i with
      | zero =>
        left
        simp at h3 h4
        obtain ⟨ef, et, ek, ey⟩ := e
        simp only at h1 h2 h3 h4
        subst h1 h2 h3 h4
        rfl
      | succ i => exact Or.inr ⟨h1, h2, i, h3, h4⟩
theorem mem_wwL (cnt : Int → Bool) (ords : List HOrd) (e : Edge) : e ∈ wwL cnt ords ↔ e.k = 1 ∧ cnt e.key = true ∧ ∃ o ∈ ords, o.key = e.key ∧ ∃ i : Nat, o.txs[i]? = some e.f ∧ o.txs[i + 1]? = some e.t := by
  unfold wwL
  rw [List.mem_flatMap]
  constructor
  · rintro ⟨o, ho, h⟩
    unfold wwC at h
    split at h
    · rename_i hc
      obtain ⟨h1, h2, h3⟩ := (mem_wwO _ _ _).1 h
      exact ⟨h1, by rw [h2]; exact hc, o, ho, h2.symm, h3⟩
    · cases h
  · rintro ⟨h1, h2, o, ho, h3, h4⟩
    refine ⟨o, ho, ?_⟩
    unfold wwC
    rw [if_pos (by rw [h3]; exact h2)]
    exact (mem_wwO _ _ _).2 ⟨h1, h3.symm, h4⟩
/-! what was laid last -/
theorem lastW_none (p : Int × Int) : ∀ (L : List ((Int × Int) × Int)) (a : Int), (∀ e ∈ L, e.1 ≠ p) → L.foldl (fun a e => if e.1 = p then e.2 else a) a = a
  | [], _, _ => rfl
  | e :: L, a, h => by
    rw [List.foldl_cons, if_neg (h e (List.mem_cons_self ..))]
    exact lastW_none p L a fun x hx => h x (List.mem_cons_of_mem _ hx)
theorem lastW_all (p : Int × Int) (v : Int) : ∀ (L : List ((Int × Int) × Int)) (a : Int), (∀ e ∈ L, e.1 = p → e.2 = v) → (a = v ∨ ∃ e ∈ L, e.1 = p) → L.foldl (fun a e => if e.1 = p then e.2 else a) a = v
  | [], a, _, h => by
    rcases h with h | ⟨e, he, _⟩
    · exact h
    · cases he
  | e :: L, a, h, h2 => by
    rw [List.foldl_cons]
    refine lastW_all p v L _ (fun x hx => h x (List.mem_cons_of_mem _ hx)) ?_
    by_cases hp : e.1 = p
    · rw [if_pos hp]; exact Or.inl (h e (List.mem_cons_self ..) hp)
    · rw [if_neg hp]
      rcases h2 with h2 | ⟨x, hx, hxp⟩
      · exact Or.inl h2
      · rcases List.mem_cons.1 hx with rfl | hx
        · exact absurd hxp hp
        · exact Or.inr ⟨x, hx, hxp⟩
theorem mem_pairs (key : Int) (e : (Int × Int) × Int) : ∀ (l : List Int) (a : Int), e ∈ pairsL key a l ↔ e.1.1 = key ∧ ∃ i : Nat, (a :: l)[i]? = some e.1.2 ∧ l[i]? = some e.2
  | [], a => by simp [pairsL]
  | x :: l, a => by
    show e ∈ ((key, a), x) :: pairsL key x l ↔ _
    rw [List.mem_cons, mem_pairs key e l x]
    constructor
    · rintro (rfl | ⟨h1, i, h2, h3⟩)
      · exact ⟨rfl, 0, rfl, rfl⟩
      · exact ⟨h1, i + 1, h2, h3⟩
    · rintro ⟨h1, i, h2, h3⟩
      cases i with
      | zero =>
        left
        obtain ⟨⟨e1, e2⟩, e3⟩ := e
        simp at h1 h2 h3
        subst h1 h2 h3
        rfl
      | succ i => exact Or.inr ⟨h1, i, h2, h3⟩
/-- who stands behind whom in the order of a key; 0 stands ahead of all -/
def Nx (ords : List HOrd) (key x y : Int) : Prop := ∃ o ∈ ords, o.key = key ∧ ∃ i : Nat, (0 :: o.txs)[i]? = some x ∧ o.txs[i]? = some y
theorem mem_nexts (ords : List HOrd) (key x y : Int) : ((key, x), y) ∈ nextsL ords ↔ Nx ords key x y := by
  unfold nextsL Nx
  rw [List.mem_flatMap]
  constructor
  · rintro ⟨o, ho, h⟩
    obtain ⟨h1, h2⟩ := (mem_pairs _ _ _ _).1 h
    exact ⟨o, ho, h1.symm, h2⟩
  · rintro ⟨o, ho, h1, h2⟩
    exact ⟨o, ho, (mem_pairs _ _ _ _).2 ⟨h1.symm, h2⟩⟩
section
variable {h : Hist}
theorem right_ordOk (hr : rightB h = true) {i : Nat} (hi : i < h.ords.length) : ordOk h.txs h.ords i = true := by
  unfold rightB at hr
  simp only [Bool.and_eq_true, List.all_eq_true, List.mem_range] at hr
  exact hr.2 i hi
theorem right_ord_key (hr : rightB h = true) : (h.ords.map (·.key)).Pairwise (· < ·) := rise_at fun j hj => by
  rw [List.length_map] at hj
  have := ((ordOk_at hj).1 (right_ordOk hr hj)).1 j rfl
  rw [show (h.ords.map (·.key)).getD (j + 1) 0 = h.ords[j + 1].key by rw [List.getD_eq_getElem?_getD, List.getElem?_map, List.getElem?_eq_getElem hj]; rfl]
  exact this
theorem right_ord_perm (hr : rightB h = true) {o : HOrd} (ho : o ∈ h.ords) : o.txs.Perm (writersOf h.txs o.key) := by
  obtain ⟨j, hj, rfl⟩ := List.mem_iff_getElem.1 ho
  have := ((ordOk_at hj).1 (right_ordOk hr hj)).2.2
  rw [permR_eq, beq_iff_eq] at this
  exact (sortK_perm _).symm.trans (this ▸ sortK_perm _)
theorem right_nodup (hr : rightB h = true) : (h.txs.map (·.id)).Nodup := rise_nodup (right_rise hr)
theorem right_ord_nodup (hr : rightB h = true) {o : HOrd} (ho : o ∈ h.ords) : o.txs.Nodup := by
  refine (right_ord_perm hr ho).nodup_iff.2 ?_
  unfold writersOf
  exact (right_nodup hr).sublist (List.filter_sublist.map _)
theorem right_ord_mem (hr : rightB h = true) {o : HOrd} (ho : o ∈ h.ords) {x : Int} (hx : x ∈ o.txs) : ∃ t, doneT h.txs x = some t ∧ 1 ≤ x := by
  have h1 := (right_ord_perm hr ho).mem_iff.1 hx
  unfold writersOf at h1
  obtain ⟨t, ht, rfl⟩ := List.mem_map.1 h1
  rw [List.mem_filter, Bool.and_eq_true] at ht
  refine ⟨t, ?_, right_id hr ht.1⟩
  unfold doneT
  rw [right_find hr ht.1]
  simp [ht.2.1]
theorem right_ord_one (hr : rightB h = true) {o u : HOrd} (ho : o ∈ h.ords) (hu : u ∈ h.ords) (hk : o.key = u.key) : o = u := by
  obtain ⟨i, hi, rfl⟩ := List.mem_iff_getElem.1 ho
  obtain ⟨j, hj, rfl⟩ := List.mem_iff_getElem.1 hu
  have hp := List.pairwise_iff_getElem.1 (right_ord_key hr)
  rcases Nat.lt_trichotomy i j with h1 | h1 | h1
  · have := hp i j (by simpa using hi) (by simpa using hj) h1
    simp only [List.getElem_map] at this
    omega
  · subst h1; rfl
  · have := hp j i (by simpa using hj) (by simpa using hi) h1
    simp only [List.getElem_map] at this
    omega
theorem nodup_idx {l : List Int} (hn : l.Nodup) {i j : Nat} {x : Int} (h1 : l[i]? = some x) (h2 : l[j]? = some x) : i = j := by
  obtain ⟨hi, e1⟩ := List.getElem?_eq_some_iff.1 h1
  obtain ⟨hj, e2⟩ := List.getElem?_eq_some_iff.1 h2
  exact (List.getElem_inj hn).1 (e1.trans e2.symm)
theorem right_zero_nodup (hr : rightB h = true) {o : HOrd} (ho : o ∈ h.ords) : (0 :: o.txs).Nodup := by
  refine List.nodup_cons.2 ⟨fun hm => ?_, right_ord_nodup hr ho⟩
  obtain ⟨_, _, h1⟩ := right_ord_mem hr ho hm
  omega
theorem Nx.one (hr : rightB h = true) {key x y z : Int} (h1 : Nx h.ords key x y) (h2 : Nx h.ords key x z) : y = z := by
  obtain ⟨o, ho, hk, i, hi, hy⟩ := h1
  obtain ⟨u, hu, hk2, j, hj, hz⟩ := h2
  obtain rfl := right_ord_one hr ho hu (hk.trans hk2.symm)
  obtain rfl := nodup_idx (right_zero_nodup hr ho) hi hj
  rw [hy] at hz
  exact Option.some.inj hz
theorem Nx.ids (hr : rightB h = true) {key x y : Int} (h1 : Nx h.ords key x y) : (∃ t, doneT h.txs y = some t) ∧ 1 ≤ y ∧ x ≠ y ∧ (x = 0 ∨ ∃ t, doneT h.txs x = some t) := by
  obtain ⟨o, ho, hk, i, hi, hy⟩ := h1
  obtain ⟨t, ht, h2⟩ := right_ord_mem hr ho (List.mem_of_getElem? hy)
  refine ⟨⟨t, ht⟩, h2, fun e => ?_, ?_⟩
  · subst e
    have h3 : (0 :: o.txs)[i + 1]? = some x := hy
    have := nodup_idx (right_zero_nodup hr ho) hi h3
    omega
  · cases i with
    | zero => left; simpa using hi.symm
    | succ i =>
      right
      obtain ⟨t2, ht2, _⟩ := right_ord_mem hr ho (List.mem_of_getElem? (show o.txs[i]? = some x from hi))
      exact ⟨t2, ht2⟩
theorem last_nx (hr : rightB h = true) (key x : Int) : (lastW (nextsL h.ords) (key, x) = 0 ∧ ∀ y, ¬ Nx h.ords key x y) ∨ Nx h.ords key x (lastW (nextsL h.ords) (key, x)) := by
  by_cases hx : ∃ y, Nx h.ords key x y
  · obtain ⟨y, hy⟩ := hx
    right
    have : lastW (nextsL h.ords) (key, x) = y := by
      unfold lastW
      refine lastW_all (key, x) y _ 0 (fun e he hp => ?_) (Or.inr ⟨((key, x), y), (mem_nexts _ _ _ _).2 hy, rfl⟩)
      obtain ⟨p, v⟩ := e
      simp only at hp
      subst hp
      exact Nx.one hr ((mem_nexts _ _ _ _).1 he) hy
    rw [this]; exact hy
  · left
    refine ⟨?_, fun y hy => hx ⟨y, hy⟩⟩
    unfold lastW
    refine lastW_none (key, x) _ 0 fun e he hp => hx ⟨e.2, ?_⟩
    obtain ⟨p, v⟩ := e
    simp only at hp
    subst hp
    exact (mem_nexts _ _ _ _).1 he
theorem last_iff (hr : rightB h = true) (key x y : Int) (hy : y ≠ 0) : lastW (nextsL h.ords) (key, x) = y ↔ Nx h.ords key x y := by
  rcases last_nx hr key x with ⟨h1, h2⟩ | h1
  · rw [h1]
    exact ⟨fun e => absurd e.symm hy, fun e => absurd e (h2 y)⟩
  · constructor
    · intro e; rw [← e]; exact h1
    · intro e; exact Nx.one hr h1 e
theorem orderOf_some (hr : rightB h = true) {o : HOrd} (ho : o ∈ h.ords) : orderOf h.ords o.key = o.txs := by
  obtain ⟨k, hk, rfl⟩ := List.mem_iff_getElem.1 ho
  have hp := List.pairwise_iff_getElem.1 (right_ord_key hr)
  have : posO h.ords h.ords[k].key = k := posO_hit hk (fun j hj => by
    have := hp j k (by simp; omega) (by simpa using hk) hj
    simp only [List.getElem_map] at this
    rw [beq_eq_false_iff_ne]; omega) (by simp)
  unfold orderOf
  rw [this, List.getElem?_eq_getElem hk]
theorem orderOf_none {key : Int} (hn : ∀ o ∈ h.ords, o.key ≠ key) : orderOf h.ords key = [] := by
  have : posO h.ords key = h.ords.length := by
    unfold posO
    rw [List.findIdx_eq_length]
    intro o ho
    simpa using hn o ho
  unfold orderOf
  rw [this, List.getElem?_eq_none (Nat.le_refl _)]
theorem nextI_iff {l : List Int} (hn : (0 :: l).Nodup) (x y : Int) : nextI l x = some y ↔ ∃ i : Nat, (0 :: l)[i]? = some x ∧ l[i]? = some y := by
  unfold nextI
  by_cases h0 : x = 0
  · subst h0
    rw [if_pos rfl]
    constructor
    · intro h; exact ⟨0, rfl, h⟩
    · rintro ⟨i, h1, h2⟩
      obtain rfl := nodup_idx hn h1 (show (0 :: l)[0]? = some 0 from rfl)
      exact h2
  · rw [if_neg h0]
    by_cases hm : x ∈ l
    · obtain ⟨k, hk, hx⟩ := List.mem_iff_getElem.1 hm
      have hpos : posI l x < l.length := by
        unfold posI
        rw [List.findIdx_lt_length]
        exact ⟨x, hm, by simp⟩
      have hget : l[posI l x]? = some x := by
        have := List.findIdx_getElem (p := (· == x)) (xs := l) (w := hpos)
        rw [beq_iff_eq] at this
        rw [List.getElem?_eq_getElem hpos]
        exact congrArg some this
      rw [if_pos hpos]
      constructor
      · intro h; exact ⟨posI l x + 1, hget, h⟩
      · rintro ⟨i, h1, h2⟩
        have := nodup_idx hn h1 (show (0 :: l)[posI l x + 1]? = some x from hget)
        rw [← this]; exact h2
    · have hpos : ¬ posI l x < l.length := by
        unfold posI
        rw [List.findIdx_lt_length]
        rintro ⟨z, hz, e⟩
        simp at e
        subst e
        exact hm hz
      rw [if_neg hpos]
      constructor
      · intro h; cases h
      · rintro ⟨i, h1, h2⟩
        cases i with
        | zero => exact absurd (by simpa using h1.symm) h0
        | succ i => exact absurd (List.mem_of_getElem? (show l[i]? = some x from h1)) hm
theorem nextB_iff (hr : rightB h = true) (key x y : Int) : nextB h.ords key x y = true ↔ Nx h.ords key x y := by
  unfold nextB
  rw [beq_iff_eq]
  by_cases hk : ∃ o ∈ h.ords, o.key = key
  · obtain ⟨o, ho, rfl⟩ := hk
    rw [orderOf_some hr ho, nextI_iff (right_zero_nodup hr ho)]
    constructor
    · intro h1; exact ⟨o, ho, rfl, h1⟩
    · rintro ⟨u, hu, hk, h1⟩
      obtain rfl := right_ord_one hr hu ho hk
      exact h1
  · rw [orderOf_none (fun o ho e => hk ⟨o, ho, e⟩)]
    constructor
    · intro h1
      unfold nextI posI at h1
      simp at h1
    · rintro ⟨u, hu, hk2, _⟩
      exact absurd ⟨u, hu, hk2⟩ hk
end
end Go.Proofs.YtaicemjckagcaaaGreat
