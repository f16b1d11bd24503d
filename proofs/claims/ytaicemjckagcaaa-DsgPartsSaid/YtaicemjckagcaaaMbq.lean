/- Edges of a history: dsg.list. -/
import Derived.Test.YtaicemjckagcaaaMbc
import Derived.Test.YtaicemjckagcaaaMbi
import Derived.Test.YtaicemjckagcaaaMbl
import Derived.Test.YtaicemjckagcaaaMbm
import Derived.Test.YtaicemjckagcaaaMbn
import Derived.Test.YtaicemjckagcaaaMbo
namespace Go.Proofs.Ytaicemjckagcaaa
set_option linter.unusedVariables false
open Go.RowKit
/-- an edge, and how often there is a reason for it -/
structure Hvy where
  e : Edge
  n : Int
deriving DecidableEq
def Hvy.cells (h : Hvy) : List Value := [.int .i64 h.e.f, .int .i64 h.e.t, .int .i64 h.e.k, .int .i64 h.e.key, .int .i64 h.n]
def hvyF (l : List Hvy) : List Value := (l.map Hvy.cells).flatten
theorem hvy_len {l : List Hvy} : ∀ r ∈ l.map Hvy.cells, r.length = 5 := fun r hr => by
  obtain ⟨e, _, rfl⟩ := List.mem_map.1 hr; rfl
theorem hvyF_snoc (l : List Hvy) (x : Hvy) : hvyF (l ++ [x]) = hvyF l ++ x.cells := by unfold hvyF; simp
/-- such edges lie there -/
def Hvys (F : Nat → Prop) (w : World) (A : Option Addr) (l : List Hvy) : Prop := Recs F w A 5 (l.map Hvy.cells)
theorem Hvys.upd {F S : Nat → Prop} {w w' : World} {A : Option Addr} {l : List Hvy} (h : Hvys F w A l) (k : Upd S w w') (hn : ∀ i, F i → ¬ S i) : Hvys F w' A l := Recs.upd h k hn
theorem slt_hvy : SlT Try.prog 60 69 5 40 := SlT.mk_ Try.underlying60 (z := .agg #[.int .i64 0, .int .i64 0, .int .i64 0, .int .i64 0, .int .i64 0]) (by kernel_rfl) rfl (by omega)
/-- a new row of such edges -/
def NewHv (w : World) (l : List Hvy) (e : Ending) (w' : World) : Prop := ∃ A c, e = .returned (.slice A l.length c) ∧ w'.ownsRow w.heap.size 69 5 (.slice A l.length c) l.length (hvyF l) ∧ Upd No w w'
def hvL (g : Edge → Nat) (l : List Edge) : List Hvy := l.map fun e => ⟨e, (g e : Int)⟩
theorem hvL_take {g : Edge → Nat} {l : List Edge} {k : Nat} {x : Edge} (hk : k < l.length) (hx : l[k] = x) : hvL g (l.take (k + 1)) = hvL g (l.take k) ++ [⟨x, (g x : Int)⟩] := by
  subst hx
  unfold hvL
  rw [List.take_succ_eq_append_getElem hk, List.map_append]; rfl
set_option maxRecDepth 100000 in
set_option maxHeartbeats 8000000 in
theorem dlist (w : World) (bc : Nat) (mc : List (Edge × Value)) (g : Edge → Nat) (hm : MapE w bc encE mc) (hg : CntM mc g) (hl : mc.length ≤ 1000000) :
    Calls Try.prog 94 #[.map (some bc)] w (NewHv w (hvL g (ddE (mc.map (·.1))))) := by
  obtain ⟨es, hes⟩ : ∃ es, ddE (mc.map (·.1)) = es := ⟨_, rfl⟩
  rw [hes]
  have HES := Lib.hid hes
  clear hes
  obtain ⟨w1, hw1⟩ : ∃ w1, w.alloc (.cells #[.map (some bc)] 148) = w1 := ⟨_, rfl⟩
  have u1 : Upd No w w1 := by rw [← hw1]; exact (Upd.refl No w).alloc _
  have b1 : Blk w1 w.heap.size 148 [.map (some bc)] := by rw [← hw1]; exact Blk.new w _ _
  have HK := Lib.hid (ekeys w (some bc))
  rw [hw1] at HK
  have HC := Lib.hid (ecollect w1 w.heap.size bc mc (by simpa using b1.cell 0) (hm.upd u1 id) hl)
  have HM := Lib.hid hm
  have HG := Lib.hid hg
  have HU1 := Lib.hid u1
  have HKL := Lib.hid (show (mc.map (·.1)).length ≤ 1000000 by rw [List.length_map]; exact hl)
  clear hm hg hw1 u1 b1
  go_enter Try.func94, Try.ntmps94
  go_wp2_with fail
  refine (HK.out).mono ?_
  rintro e w2 ⟨rfl, rfl⟩
  go_wp2_with fail
  refine (HC.out).mono ?_
  rintro e w3 ⟨A3, c3, ks, rfl, hpm, ho3, hu3⟩
  have HP := Lib.hid (psort (Own (.slice A3 ks.length c3)) w3 A3 c3 ks (Recs.of_own edges_len (by omega) ho3) (by have := hpm.length_eq; have := HKL.out; omega))
  rw [ddE_perm hpm] at HP
  have hv3 := HU1.out.trans hu3
  clear hpm ho3 hu3
  have hel : es.length ≤ 1000000 := by
    rw [← HES.out]
    have h1 := ddF_len (sortE (mc.map (·.1))) (mc.map (·.1)).length
    have h2 := HKL.out
    unfold ddE
    omega
  rw [HES.out] at HP
  go_wp2_with fail
  refine (HP.out).mono ?_
  rintro e w4 ⟨A4, c4, rfl, hx4, hu4⟩
  have HV4 := Lib.hid (hv3.trans hu4)
  obtain ⟨G4, hx4⟩ := hx4
  have HX4 := Lib.hid hx4
  clear hx4 hu4 hv3
  go_wp2
  go_loopg [3, 11] es.length (fun gk s i wr => ∃ (k : Nat) (A5 : Option Addr) (c5 : Nat) (xs : List Hvy), k + gk = es.length ∧ i = .int .i64 k ∧ s = .slice A5 xs.length c5 ∧ Hid (xs = hvL g (es.take k)) ∧ Hid (wr.ownsRow w4.heap.size 69 5 (.slice A5 xs.length c5) xs.length (hvyF xs)) ∧ Upd No w4 wr)
  case atStart => exact ⟨0, none, 0, [], by omega, rfl, rfl, Lib.hid rfl, Lib.hid (World.ownsRow_nil _ _ _ _), Upd.refl _ _⟩
  case round =>
    obtain ⟨k, A5, c5, xs, hgk, rfl, rfl, hs, hown, hu⟩ := hrel
    have hxl : xs.length ≤ 1000000 := by rw [hs.out]; unfold hvL; rw [List.length_map, List.length_take]; omega
    by_cases hlt : k < es.length
    · obtain ⟨ax, rfl, q0, q1, q2, q3⟩ := Walk.at_ (Walk.upd HX4.out hu (fun _ _ => id)) hlt
      obtain ⟨x, hxx⟩ : ∃ x, es[k] = x := ⟨_, rfl⟩
      rw [hxx] at q0 q1 q2 q3
      have HS := Lib.hid (show xs ++ [⟨x, (g x : Int)⟩] = hvL g (es.take (k + 1)) by rw [hs.out]; exact (hvL_take hlt hxx).symm)
      have i1 : (0 : Int) ≤ (k : Int) := Int.natCast_nonneg _
      have i2 : (k : Int) < (es.length : Int) := by omega
      obtain ⟨wx, hwx⟩ : ∃ wx, wr.alloc (.cells #[.int .i64 x.f, .int .i64 x.t, .int .i64 x.k, .int .i64 x.key] 33) = wx := ⟨_, rfl⟩
      have ux : Upd No wr wx := by rw [← hwx]; exact (Upd.refl No wr).alloc _
      have bo : Blk wx wr.heap.size 33 [.int .i64 x.f, .int .i64 x.t, .int .i64 x.k, .int .i64 x.key] := by rw [← hwx]; exact Blk.new wr _ _
      have d0 : ∀ W, Upd (Own (.slice A5 xs.length c5)) wx W → W.cell? ⟨wr.heap.size, 0, none⟩ = some (.int .i64 x.f) := fun W u => by have := (bo.upd u (fun e => by have := (hown.out.lt _ e).2; omega)).cell 0; simpa using this
      have d1 : ∀ W, Upd (Own (.slice A5 xs.length c5)) wx W → W.cell? ⟨wr.heap.size, 1, none⟩ = some (.int .i64 x.t) := fun W u => by have := (bo.upd u (fun e => by have := (hown.out.lt _ e).2; omega)).cell 1; simpa using this
      have d2 : ∀ W, Upd (Own (.slice A5 xs.length c5)) wx W → W.cell? ⟨wr.heap.size, 2, none⟩ = some (.int .i64 x.k) := fun W u => by have := (bo.upd u (fun e => by have := (hown.out.lt _ e).2; omega)).cell 2; simpa using this
      have d3 : ∀ W, Upd (Own (.slice A5 xs.length c5)) wx W → W.cell? ⟨wr.heap.size, 3, none⟩ = some (.int .i64 x.key) := fun W u => by have := (bo.upd u (fun e => by have := (hown.out.lt _ e).2; omega)).cell 3; simpa using this
      obtain ⟨N, hN⟩ : ∃ N, g x = N := ⟨_, rfl⟩
      rw [hN] at HS
      have HWX := Lib.hid ((HV4.out.trans hu).trans ux)
      have L1 : ∀ W, Upd (Own (.slice A5 xs.length c5)) wx W → (Instr.lookup 148 (.map (some bc)) (.agg #[.int .i64 x.f, .int .i64 x.t, .int .i64 x.k, .int .i64 x.key]) false).run Try.prog W = .ok (.int .i64 (N : Int)) W := fun W u => by
        have := run_look kbyedge Try.underlying148 zeroCnt ((HM.out.upd (S := No) HWX.out id).upd u (fun e => by have h1 := (hown.out.lt _ e).1; have h2 := HM.out.lt; have h3 := HV4.out.size; omega)).is x
        rwa [HG.out.val, hN] at this
      have HO := Lib.hid (own_upd hown.out ux (fun _ _ => id))
      have HUX := Lib.hid (hu.trans ux)
      have HSZ := Lib.hid (show w4.heap.size ≤ wx.heap.size from (hu.trans ux).size)
      have hxz : Upd (Own (.slice A5 xs.length c5)) wx wx := Upd.refl _ _
      have hzd : Upd No wx (wx.alloc (.cells #[.int .i64 x.f, .int .i64 x.t, .int .i64 x.k, .int .i64 x.key, .int .i64 (N : Int)] 69)).drew := ((Upd.refl No wx).alloc _).drew
      clear hxx bo ux hN hown
      go_wp2
      refine wp_region_noPanic ?_
      refine wp_region_held_drew (S := (fun W' => Upd (Own (.slice A5 xs.length c5)) wx W')) (by kernel_rfl) ?_ (fun hHeld => ?_)
      · (first | exact (Upd.refl _ wx).drew | exact hHeld | exact hHeld.alloc _ | exact hU6)
      refine wpT 0 ⟨some 15, .move (.tmp 3), 60, "dsg.go:84", #[], none⟩ ?_ (.inl ⟨by rfl, ?_⟩) ?_
      rotate_left
      · (intro W hSw; (try dsimp only at hSw); go_simp; try (with_reducible rfl))
      try simp only [Act.put]
      try simp only [List.setIfInBounds_toArray]
      try simp only [List.set_cons_succ]
      try simp only [List.set_cons_zero]
      refine wpT 1 ⟨some 16, .load 33 (.tmp 5), 33, "dsg.go:84", #[], none⟩ ?_ (.inl ⟨by rfl, ?_⟩) ?_
      rotate_left
      · (intro W hSw; (try dsimp only at hSw); go_simp; try (with_reducible rfl))
      try simp only [Act.put]
      try simp only [List.setIfInBounds_toArray]
      try simp only [List.set_cons_succ]
      try simp only [List.set_cons_zero]
      refine wpT 2 ⟨some 17, .move (.tmp 0), 148, "dsg.go:84", #[], none⟩ ?_ (.inl ⟨by rfl, ?_⟩) ?_
      rotate_left
      · (intro W hSw; (try dsimp only at hSw); go_simp; try (with_reducible rfl))
      try simp only [Act.put]
      try simp only [List.setIfInBounds_toArray]
      try simp only [List.set_cons_succ]
      try simp only [List.set_cons_zero]
      refine wpT 3 ⟨some 18, .load 33 (.tmp 5), 33, "dsg.go:84", #[], none⟩ ?_ (.inl ⟨by rfl, ?_⟩) ?_
      rotate_left
      · (intro W hSw; (try dsimp only at hSw); go_simp; try (with_reducible rfl))
      try simp only [Act.put]
      try simp only [List.setIfInBounds_toArray]
      try simp only [List.set_cons_succ]
      try simp only [List.set_cons_zero]
      refine wpAnyH_ready (rs := [4]) (by kernel_rfl) (by simp) ?_
      refine AllReadyH.cons (o := ⟨some 19, .lookup 148 (.tmp 17) (.tmp 18) false, 3, "dsg.go:84", #[⟨2, .data⟩, ⟨3, .data⟩], none⟩) rfl (fun K hK => ?_) AllReadyH.nil
      go_simp
      refine hK.out _ _ ?_ (fun hHeld => ?_)
      · (first | exact (Upd.refl _ wx).drew | exact hHeld | exact hHeld.alloc _ | exact hU6)
      clear hK K
      try simp only [Act.put]
      try simp only [List.setIfInBounds_toArray]
      try simp only [List.set_cons_succ]
      try simp only [List.set_cons_zero]
      refine wpT 5 ⟨some 20, .build 69 #[(0, .tmp 16), (1, .tmp 19)], 69, "dsg.go:84", #[⟨1, .data⟩, ⟨4, .data⟩], none⟩ ?_ (.inl ⟨by rfl, ?_⟩) ?_
      rotate_left
      · (intro W hSw; (try dsimp only at hSw); go_simp; try (with_reducible rfl))
      try simp only [Act.put]
      try simp only [List.setIfInBounds_toArray]
      try simp only [List.set_cons_succ]
      try simp only [List.set_cons_zero]
      refine wpAnyH_ready (rs := [6]) (by kernel_rfl) (by simp) ?_
      refine AllReadyH.cons (o := ⟨some 21, .buildSlice 60 1 #[(0, .tmp 20)], 60, "dsg.go:84", #[⟨5, .data⟩], none⟩) rfl (fun K hK => ?_) AllReadyH.nil
      go_simp
      refine hK.out _ _ ?_ (fun hHeld => ?_)
      · (first | exact (Upd.refl _ wx).drew | exact hHeld | exact hHeld.alloc _ | exact hU6)
      clear hK K
      try simp only [Act.put]
      try simp only [List.setIfInBounds_toArray]
      try simp only [List.set_cons_succ]
      try simp only [List.set_cons_zero]
      refine wpAnyH_ready (rs := [7]) (by kernel_rfl) (by simp) ?_
      refine AllReadyH.cons (o := ⟨some 22, .call { callee := .builtin .append, args := #[.tmp 15, .tmp 21], argTypes := #[60, 60] }, 60, "dsg.go:84", #[⟨0, .data⟩, ⟨6, .data⟩], none⟩) rfl (fun K hK => ?_) AllReadyH.nil
      (first
    | (refine step_app1 (by rfl) (by rfl) slt_hvy (v := .slice A5 xs.length c5) (n := xs.length) (xs := hvyF xs) (cells := [.int .i64 x.f, .int .i64 x.t, .int .i64 x.k, .int .i64 x.key, .int .i64 (N : Int)]) (by rfl) (by rfl) (by exact own_upd HO.out hzd (fun _ _ => id)) rfl (by exact news_new) (by rfl) (by omega) (by omega) (by have := HSZ.out; simp; omega) ?_; intro g6 c6 w6 hown6 hu6 hg6 hlt6; have hU6 : Upd (Own (.slice A5 xs.length c5)) wx w6 := hHeld.trans hu6))
      refine hK.out _ _ ?_ (fun hHeld => ?_)
      · (first | exact (Upd.refl _ wx).drew | exact hHeld | exact hHeld.alloc _ | exact hU6)
      clear hK K
      try simp only [Act.put]
      try simp only [List.setIfInBounds_toArray]
      try simp only [List.set_cons_succ]
      try simp only [List.set_cons_zero]
      refine wpT 8 ⟨some 3, .assign (.tmp 22), 60, "dsg.go:84", #[⟨7, .data⟩, ⟨7, .chain⟩, ⟨0, .phase⟩, ⟨1, .phase⟩, ⟨2, .phase⟩, ⟨3, .phase⟩, ⟨4, .phase⟩, ⟨5, .phase⟩, ⟨6, .phase⟩, ⟨7, .phase⟩], none⟩ ?_ (.inl ⟨by rfl, ?_⟩) ?_
      rotate_left
      · (intro W hSw; (try dsimp only at hSw); go_simp; try (with_reducible rfl))
      try simp only [Act.put]
      try simp only [List.setIfInBounds_toArray]
      try simp only [List.set_cons_succ]
      try simp only [List.set_cons_zero]
      refine wpAnyH_done (by kernel_rfl) (NoPanic.normal ?_) _
      have HU6 := Lib.hid hHeld
      clear hHeld
      go_wp2
      go_roundg (gk - 1)
      case measure => omega
      case rel =>
        have hl1 : (xs ++ [(⟨x, (N : Int)⟩ : Hvy)]).length = xs.length + 1 := by simp
        exact ⟨k + 1, some ⟨g6, 0, none⟩, c6, xs ++ [⟨x, (N : Int)⟩], by omega, by go_num, by rw [hl1], HS, Lib.hid (by rw [hl1, hvyF_snoc]; exact hown6), HUX.out.then_ HU6.out (fun i e => Or.inr (HO.out.lt i e).1)⟩
    · obtain rfl : k = es.length := by omega
      go_wp2
      go_ret
      have h1 := hs.out
      rw [List.take_length] at h1
      subst h1
      exact ⟨A5, c5, rfl, own_base hown.out HV4.out.size, HV4.out.trans hu⟩
end Go.Proofs.Ytaicemjckagcaaa

/- Edges of a history: dsg.Edges, Of, Count, Plain. -/
namespace Go.Proofs.Ytaicemjckagcaaa
set_option linter.unusedVariables false
open Go.RowKit
/-- all edges of which there are not too many -/
def fewG (g : Edge → Nat) : Prop := ∀ mc : List (Edge × Value), CntM mc g → mc.length ≤ 1000000
/-- the edges that have a count, in order -/
def EdsOf (g : Edge → Nat) (l : List Hvy) : Prop := ∀ mc : List (Edge × Value), CntM mc g → hvL g (ddE (mc.map (·.1))) = l
section
variable {F : Nat → Prop} {w : World} {txs : List HTx} {ords : List HOrd} {A : Option Addr} {c : Nat} {B : Option Addr} {d : Nat} {l : List Hvy}
set_option maxRecDepth 100000 in
set_option maxHeartbeats 4000000 in
theorem dEdges (H : Hist.lies F w ⟨txs, ords, A, c, B, d⟩) (hf : fewG (gAll (fun _ => true) ⟨txs, ords, A, c, B, d⟩)) (he : EdsOf (gAll (fun _ => true) ⟨txs, ords, A, c, B, d⟩) l) :
    Calls Try.prog 36 #[.agg #[.slice A txs.length c, .slice B ords.length d]] w (NewHv w l) := by
  obtain ⟨w1, hw1⟩ : ∃ w1, w.alloc (.cells #[.slice A txs.length c, .slice B ords.length d] 58) = w1 := ⟨_, rfl⟩
  have u1 : Upd No w w1 := by rw [← hw1]; exact (Upd.refl No w).alloc _
  have b1 : Blk w1 w.heap.size 58 [.slice A txs.length c, .slice B ords.length d] := by rw [← hw1]; exact Blk.new w _ _
  have HC := Lib.hid (dcounted0 F w1 txs ords A c B d (fun _ => true) (H.upd u1 (fun _ _ => id)) (Lib.hid (fun W key _ => dEdges1 W key)))
  have d0 := b1.cell 0
  have d1 := b1.cell 1
  simp only [List.getElem?_cons_zero, List.getElem?_cons_succ] at d0 d1
  have HU1 := Lib.hid u1
  have HF := Lib.hid hf
  have HE := Lib.hid he
  clear b1 u1 hf he H
  go_enter Try.func36, Try.ntmps36
  go_wp2_with fail
  refine (HC.out).mono ?_
  rintro e w2 ⟨bc, mc, rfl, hbc, hm, hg, hu2⟩
  have HL := Lib.hid (dlist w2 bc mc _ hm hg (HF.out mc hg))
  rw [HE.out mc hg] at HL
  have hv2 := HU1.out.trans hu2
  clear hbc hm hg hu2
  go_wp2_with fail
  refine (HL.out).mono ?_
  rintro e w3 ⟨A3, c3, rfl, ho3, hu3⟩
  go_wp2
  go_ret
  exact ⟨A3, c3, rfl, own_base ho3 hv2.size, hv2.trans hu3⟩
set_option maxRecDepth 100000 in
set_option maxHeartbeats 4000000 in
theorem dOf (key : Int) (H : Hist.lies F w ⟨txs, ords, A, c, B, d⟩) (hf : fewG (gAll (fun k => k == key) ⟨txs, ords, A, c, B, d⟩)) (he : EdsOf (gAll (fun k => k == key) ⟨txs, ords, A, c, B, d⟩) l) :
    Calls Try.prog 37 #[.agg #[.slice A txs.length c, .slice B ords.length d], .int .i64 key] w (NewHv w l) := by
  obtain ⟨w1, hw1⟩ : ∃ w1, (w.alloc (.cells #[.slice A txs.length c, .slice B ords.length d] 58)).alloc (.cells #[.int .i64 key] 3) = w1 := ⟨_, rfl⟩
  have u1 : Upd No w w1 := by rw [← hw1]; exact ((Upd.refl No w).alloc _).alloc _
  have b1 : Blk w1 w.heap.size 58 [.slice A txs.length c, .slice B ords.length d] := by rw [← hw1]; exact (Blk.new w _ _).alloc _
  have b2 : Blk w1 (w.heap.size + 1) 3 [.int .i64 key] := by
    rw [← hw1]
    have := Blk.new (w.alloc (.cells #[.slice A txs.length c, .slice B ords.length d] 58)) 3 [.int .i64 key]
    simpa using this
  have HC := Lib.hid (dcounted1 F w1 txs ords A c B d ⟨w.heap.size + 1, 0, none⟩ (fun k => k == key) (H.upd u1 (fun _ _ => id)) (Lib.hid (fun W k u => dOf1 W k key ⟨w.heap.size + 1, 0, none⟩ (by simpa using (b2.upd u id).cell 0))))
  have d0 := b1.cell 0
  have d1 := b1.cell 1
  simp only [List.getElem?_cons_zero, List.getElem?_cons_succ] at d0 d1
  have HU1 := Lib.hid u1
  have HF := Lib.hid hf
  have HE := Lib.hid he
  clear b1 b2 u1 hf he H
  go_enter Try.func37, Try.ntmps37
  go_wp2_with fail
  refine (HC.out).mono ?_
  rintro e w2 ⟨bc, mc, rfl, hbc, hm, hg, hu2⟩
  have HL := Lib.hid (dlist w2 bc mc _ hm hg (HF.out mc hg))
  rw [HE.out mc hg] at HL
  have hv2 := HU1.out.trans hu2
  clear hbc hm hg hu2
  go_wp2_with fail
  refine (HL.out).mono ?_
  rintro e w3 ⟨A3, c3, rfl, ho3, hu3⟩
  go_wp2
  go_ret
  exact ⟨A3, c3, rfl, own_base ho3 hv2.size, hv2.trans hu3⟩
set_option maxRecDepth 100000 in
set_option maxHeartbeats 4000000 in
theorem dCount (e : Edge) (H : Hist.lies F w ⟨txs, ords, A, c, B, d⟩) {n : Nat} (hn : gAll (fun k => k == e.key) ⟨txs, ords, A, c, B, d⟩ e = n) :
    Calls Try.prog 38 #[.agg #[.slice A txs.length c, .slice B ords.length d], .agg #[.int .i64 e.f, .int .i64 e.t, .int .i64 e.k, .int .i64 e.key]] w fun r w' => r = .returned (.int .i64 (n : Int)) ∧ Upd No w w' := by
  obtain ⟨w1, hw1⟩ : ∃ w1, (w.alloc (.cells #[.slice A txs.length c, .slice B ords.length d] 58)).alloc (.cells #[.int .i64 e.f, .int .i64 e.t, .int .i64 e.k, .int .i64 e.key] 33) = w1 := ⟨_, rfl⟩
  have u1 : Upd No w w1 := by rw [← hw1]; exact ((Upd.refl No w).alloc _).alloc _
  have b1 : Blk w1 w.heap.size 58 [.slice A txs.length c, .slice B ords.length d] := by rw [← hw1]; exact (Blk.new w _ _).alloc _
  have b2 : Blk w1 (w.heap.size + 1) 33 [.int .i64 e.f, .int .i64 e.t, .int .i64 e.k, .int .i64 e.key] := by
    rw [← hw1]
    have := Blk.new (w.alloc (.cells #[.slice A txs.length c, .slice B ords.length d] 58)) 33 [.int .i64 e.f, .int .i64 e.t, .int .i64 e.k, .int .i64 e.key]
    simpa using this
  have HC := Lib.hid (fun W0 (u0 : Upd No w1 W0) => dcounted2 F W0 txs ords A c B d ⟨w.heap.size + 1, 0, none⟩ (fun k => k == e.key) (H.upd (u1.trans u0) (fun _ _ => id)) (Lib.hid (fun W k u => dCount1 W k e.key (w.heap.size + 1) (by simpa using (b2.upd (u0.trans u) id).cell 3))))
  have d0 : ∀ W, Upd No w1 W → W.cell? ⟨w.heap.size, 0, none⟩ = some (.slice A txs.length c) := fun W u => (b1.upd u id).cell 0
  have d1 : ∀ W, Upd No w1 W → W.cell? ⟨w.heap.size, 1, none⟩ = some (.slice B ords.length d) := fun W u => (b1.upd u id).cell 1
  have e0 : ∀ W, Upd No w1 W → W.cell? ⟨w.heap.size + 1, 0, none⟩ = some (.int .i64 e.f) := fun W u => (b2.upd u id).cell 0
  have e1 : ∀ W, Upd No w1 W → W.cell? ⟨w.heap.size + 1, 1, none⟩ = some (.int .i64 e.t) := fun W u => (b2.upd u id).cell 1
  have e2 : ∀ W, Upd No w1 W → W.cell? ⟨w.heap.size + 1, 2, none⟩ = some (.int .i64 e.k) := fun W u => (b2.upd u id).cell 2
  have e3 : ∀ W, Upd No w1 W → W.cell? ⟨w.heap.size + 1, 3, none⟩ = some (.int .i64 e.key) := fun W u => (b2.upd u id).cell 3
  have HU1 := Lib.hid u1
  have HN := Lib.hid hn
  have hxz : Upd No w1 w1 := Upd.refl _ _
  clear b1 b2 u1 hn H
  go_enter Try.func38, Try.ntmps38
  go_wp2
  refine wp_region_noPanic ?_
  refine wp_region_held_drew (S := (fun W' => Upd No w1 W')) (by kernel_rfl) ?_ (fun hHeld => ?_)
  · (first | exact hxz.drew | exact hHeld.trans hu2 | exact hHeld)
  refine wpT 0 ⟨some 5, .load 58 (.tmp 2), 58, "dsg.go:101", #[], none⟩ ?_ (.inl ⟨by rfl, ?_⟩) ?_
  rotate_left
  · (intro W hSw; (try dsimp only at hSw); go_simp; try (with_reducible rfl))
  try simp only [Act.put]
  try simp only [List.setIfInBounds_toArray]
  try simp only [List.set_cons_succ]
  try simp only [List.set_cons_zero]
  refine wpT 3 ⟨some 8, .load 33 (.tmp 3), 33, "dsg.go:101", #[], none⟩ ?_ (.inl ⟨by rfl, ?_⟩) ?_
  rotate_left
  · (intro W hSw; (try dsimp only at hSw); go_simp; try (with_reducible rfl))
  try simp only [Act.put]
  try simp only [List.setIfInBounds_toArray]
  try simp only [List.set_cons_succ]
  try simp only [List.set_cons_zero]
  refine wpAnyH_ready (rs := [1]) (by kernel_rfl) (by simp) ?_
  refine AllReadyH.cons (o := ⟨some 6, .makeFunc (Go.Fn.func 98) #[] #[.tmp 3], 131, "dsg.go:101", #[], none⟩) rfl (fun K hK => ?_) AllReadyH.nil
  go_simp
  refine hK.out _ _ ?_ (fun hHeld => ?_)
  · (first | exact hxz.drew | exact hHeld.trans hu2 | exact hHeld)
  clear hK K
  try simp only [Act.put]
  try simp only [List.setIfInBounds_toArray]
  try simp only [List.set_cons_succ]
  try simp only [List.set_cons_zero]
  refine wpAnyH_ready (rs := [2]) (by kernel_rfl) (by simp) ?_
  refine AllReadyH.cons (o := ⟨some 7, .call { callee := .value (.func 95), args := #[.tmp 5, .tmp 6], argTypes := #[58, 131] }, 148, "dsg.go:101", #[⟨0, .data⟩, ⟨1, .data⟩], none⟩) rfl (fun K hK => ?_) AllReadyH.nil
  go_simp
  (first
    | (go_at_call 95; refine Calls.mono (HC.out _ hHeld) ?_; rintro r w2 ⟨bc, mc, rfl, hbc, hm, hg, hu2⟩; have L1 : ∀ W, Upd No w2 W → (Instr.lookup 148 (.map (some bc)) (.agg #[.int .i64 e.f, .int .i64 e.t, .int .i64 e.k, .int .i64 e.key]) false).run Try.prog W = .ok (.int .i64 (n : Int)) W := (fun W u => by have h9 := run_look kbyedge Try.underlying148 zeroCnt (hm.upd u id).is e; rw [hg.val, HN.out] at h9; exact h9); have hz2 : Upd No w2 w2 := Upd.refl _ _; clear hbc hm hg))
  try (go_wp2_with fail)
  refine hK.out _ _ ?_ (fun hHeld => ?_)
  · (first | exact hxz.drew | exact hHeld.trans hu2 | exact hHeld)
  clear hK K
  try simp only [Act.put]
  try simp only [List.setIfInBounds_toArray]
  try simp only [List.set_cons_succ]
  try simp only [List.set_cons_zero]
  refine wpAnyH_ready (rs := [4]) (by kernel_rfl) (by simp) ?_
  refine AllReadyH.cons (o := ⟨some 9, .lookup 148 (.tmp 7) (.tmp 8) false, 3, "dsg.go:101", #[⟨2, .data⟩, ⟨3, .data⟩], none⟩) rfl (fun K hK => ?_) AllReadyH.nil
  go_simp
  refine hK.out _ _ ?_ (fun hHeld => ?_)
  · (first | exact hxz.drew | exact hHeld.trans hu2 | exact hHeld)
  clear hK K
  try simp only [Act.put]
  try simp only [List.setIfInBounds_toArray]
  try simp only [List.set_cons_succ]
  try simp only [List.set_cons_zero]
  refine wpT 5 ⟨some 4, .assign (.tmp 9), 3, "dsg.go:101", #[⟨4, .data⟩, ⟨2, .chain⟩, ⟨0, .phase⟩, ⟨1, .phase⟩, ⟨2, .phase⟩, ⟨3, .phase⟩, ⟨4, .phase⟩], none⟩ ?_ (.inl ⟨by rfl, ?_⟩) ?_
  rotate_left
  · (intro W hSw; (try dsimp only at hSw); go_simp; try (with_reducible rfl))
  try simp only [Act.put]
  try simp only [List.setIfInBounds_toArray]
  try simp only [List.set_cons_succ]
  try simp only [List.set_cons_zero]
  refine wpAnyH_done (by kernel_rfl) (NoPanic.normal ?_) _
  have HH := Lib.hid hHeld
  clear hHeld
  go_wp2
  go_ret
  exact ⟨rfl, HU1.out.trans HH.out⟩
end
end Go.Proofs.Ytaicemjckagcaaa

/- Edges of a history, the document's: those of a key, without counts; whether two lists are one. -/
namespace Go.Proofs.Ytaicemjckagcaaa
set_option linter.unusedVariables false
open Go.RowKit
theorem Hvys.at_ {F : Nat → Prop} {w : World} {A : Option Addr} {l : List Hvy} (h : Hvys F w A l) {k : Nat} (hk : k < l.length) : ∃ ad, A = some ad ∧
    w.cell? (ad.add (k * 5)) = some (.int .i64 l[k].e.f) ∧ w.cell? ⟨(ad.add (k * 5)).block, (ad.add (k * 5)).off + 1, none⟩ = some (.int .i64 l[k].e.t) ∧
    w.cell? ⟨(ad.add (k * 5)).block, (ad.add (k * 5)).off + 2, none⟩ = some (.int .i64 l[k].e.k) ∧ w.cell? ⟨(ad.add (k * 5)).block, (ad.add (k * 5)).off + 3, none⟩ = some (.int .i64 l[k].e.key) ∧
    w.cell? ⟨(ad.add (k * 5)).block, (ad.add (k * 5)).off + 4, none⟩ = some (.int .i64 l[k].n) := by
  have hk' : k < (l.map Hvy.cells).length := by simpa using hk
  obtain ⟨ad, e, _, _, hc⟩ := Recs.at_ h hk'
  rw [List.getElem_map] at hc
  exact ⟨ad, e, by simpa using hc 0 _ rfl, by simpa using hc 1 _ rfl, by simpa using hc 2 _ rfl, by simpa using hc 3 _ rfl, by simpa using hc 4 _ rfl⟩
def plainL (l : List Hvy) : List Edge := l.map (·.e)
theorem plainL_take {l : List Hvy} {k : Nat} {x : Hvy} (hk : k < l.length) (hx : l[k] = x) : plainL (l.take (k + 1)) = plainL (l.take k) ++ [x.e] := by
  subst hx
  unfold plainL
  rw [List.take_succ_eq_append_getElem hk, List.map_append]; rfl
def rowsE (l : List Edge) : List Value := (l.map Edge.cells).flatten
theorem rowsE_snoc (xs : List Edge) (e : Edge) : rowsE (xs ++ [e]) = rowsE xs ++ e.cells := by unfold rowsE; simp
/-- a new row of edges -/
def NewEs (w : World) (l : List Edge) (e : Ending) (w' : World) : Prop := ∃ A c, e = .returned (.slice A l.length c) ∧ w'.ownsRow w.heap.size 33 4 (.slice A l.length c) l.length (rowsE l) ∧ Upd No w w'
def ofKey (key : Int) (l : List Hvy) : List Hvy := l.filter fun x => x.e.key == key
set_option maxRecDepth 100000 in
set_option maxHeartbeats 4000000 in
theorem dPlain (F : Nat → Prop) (w : World) (A : Option Addr) (c : Nat) (l : List Hvy) (h : Hvys F w A l) (hl : l.length ≤ 1000000) : Calls Try.prog 93 #[.slice A l.length c] w (NewEs w (plainL l)) := by
  go_enter Try.func93, Try.ntmps93
  go_wp2
  go_loopg [3, 8] l.length (fun gk s i wr => ∃ (k : Nat) (A5 : Option Addr) (c5 : Nat) (xs : List Edge), k + gk = l.length ∧ i = .int .i64 k ∧ s = .slice A5 xs.length c5 ∧ Hid (xs = plainL (l.take k)) ∧ Hid (wr.ownsRow w.heap.size 33 4 (.slice A5 xs.length c5) xs.length (rowsE xs)) ∧ Upd No w wr)
  case atStart => exact ⟨0, none, 0, [], by omega, rfl, rfl, Lib.hid rfl, Lib.hid (World.ownsRow_nil _ _ _ _), Upd.refl _ _⟩
  case round =>
    obtain ⟨k, A5, c5, xs, hgk, rfl, rfl, hs, hown, hu⟩ := hrel
    have hxl : xs.length ≤ 1000000 := by rw [hs.out]; unfold plainL; rw [List.length_map, List.length_take]; omega
    by_cases hlt : k < l.length
    · obtain ⟨ax, rfl, q0, q1, q2, q3, q4⟩ := (h.upd hu (fun _ _ => id)).at_ hlt
      obtain ⟨⟨⟨xf, xt, xk, xy⟩, xn⟩, hxx⟩ : ∃ x, l[k] = x := ⟨_, rfl⟩
      rw [hxx] at q0 q1 q2 q3 q4
      simp only at q0 q1 q2 q3 q4
      have i1 : (0 : Int) ≤ (k : Int) := Int.natCast_nonneg _
      have i2 : (k : Int) < (l.length : Int) := by omega
      obtain ⟨wx, hwx⟩ : ∃ wx, wr.alloc (.cells #[.int .i64 xf, .int .i64 xt, .int .i64 xk, .int .i64 xy, .int .i64 xn] 69) = wx := ⟨_, rfl⟩
      have ux : Upd No wr wx := by rw [← hwx]; exact (Upd.refl No wr).alloc _
      have bo : Blk wx wr.heap.size 69 [.int .i64 xf, .int .i64 xt, .int .i64 xk, .int .i64 xy, .int .i64 xn] := by rw [← hwx]; exact Blk.new wr _ _
      have d0 := bo.cell 0
      have d1 := bo.cell 1
      have d2 := bo.cell 2
      have d3 := bo.cell 3
      have d4 := bo.cell 4
      simp only [List.getElem?_cons_zero, List.getElem?_cons_succ] at d0 d1 d2 d3 d4
      have HUX := Lib.hid (hu.trans ux)
      have HO := Lib.hid (own_upd hown.out ux (fun _ _ => id))
      have hsz := (hu.trans ux).size
      have HS := Lib.hid (show xs ++ [⟨xf, xt, xk, xy⟩] = plainL (l.take (k + 1)) by rw [hs.out]; exact (plainL_take hlt hxx).symm)
      clear hxx bo ux hown
      go_wp2_with (at_builtin; refine app1s rfl rfl slt_edges (base := w.heap.size) (v := .slice A5 xs.length c5) (n := xs.length) (xs := rowsE xs) (cells := [.int .i64 xf, .int .i64 xt, .int .i64 xk, .int .i64 xy]) (by rfl) (by rfl) HO.out rfl rfl (by omega) (by omega) (by omega) ?_; intro g9 c9 w9 hown9 hu9 hg9 hlt9)
      go_roundg (gk - 1)
      case measure => omega
      case rel =>
        have hl1 : (xs ++ [(⟨xf, xt, xk, xy⟩ : Edge)]).length = xs.length + 1 := by simp
        exact ⟨k + 1, some ⟨g9, 0, none⟩, c9, xs ++ [⟨xf, xt, xk, xy⟩], by omega, by go_num, by rw [hl1], HS, Lib.hid (by rw [hl1, rowsE_snoc]; exact hown9), HUX.out.then_ hu9 (fun i e => Or.inr (HO.out.lt i e).1)⟩
    · obtain rfl : k = l.length := by omega
      go_wp2
      go_ret
      have h1 := hs.out
      rw [List.take_length] at h1
      subst h1
      exact ⟨A5, c5, rfl, hown.out, hu⟩
theorem edge_equalD (w : World) (n : Nat) (a b c d a' b' c' d' : Int) : (Op.equalIn (n + 1 + 1) 33 (.agg #[.int .i64 a, .int .i64 b, .int .i64 c, .int .i64 d]) (.agg #[.int .i64 a', .int .i64 b', .int .i64 c', .int .i64 d'])).run Try.prog w = .ok (decide ((⟨a, b, c, d⟩ : Edge) = ⟨a', b', c', d'⟩)) w := by
  rw [run_equalIn_struct w _ _ _ _ (by kernel_rfl) (by kernel_rfl)]
  have hI : ∀ (w : World) (d : Nat) (x y : Int), (Op.equalIn (d + 1) 3 (.int .i64 x) (.int .i64 y)).run Try.prog w = .ok (x == y) w := fun w d x y => run_equalIn_int w d _ _ _ x y Try.underlying3
  by_cases h1 : a = a' <;> by_cases h2 : b = b' <;> by_cases h3 : c = c' <;> by_cases h4 : d = d' <;>
    simp [Program.fieldsOf, Try.underlying33, Op.eqFields, part, hI, h1, h2, h3, h4, Result.andThen]
theorem hvy_equal (w : World) (x y : Hvy) : (Op.equalIn 10000 69 (.agg #[.int .i64 x.e.f, .int .i64 x.e.t, .int .i64 x.e.k, .int .i64 x.e.key, .int .i64 x.n]) (.agg #[.int .i64 y.e.f, .int .i64 y.e.t, .int .i64 y.e.k, .int .i64 y.e.key, .int .i64 y.n])).run Try.prog w = .ok (decide (x = y)) w := by
  obtain ⟨⟨a, b, c, d⟩, e⟩ := x
  obtain ⟨⟨a', b', c', d'⟩, e'⟩ := y
  show (Op.equalIn (9997 + 1 + 1 + 1) _ _ _).run _ w = _
  rw [run_equalIn_struct w _ _ _ _ (by kernel_rfl) (by kernel_rfl)]
  generalize 9997 = n
  have hI : ∀ (w : World) (d : Nat) (x y : Int), (Op.equalIn (d + 1) 3 (.int .i64 x) (.int .i64 y)).run Try.prog w = .ok (x == y) w := fun w d x y => run_equalIn_int w d _ _ _ x y Try.underlying3
  have hV := fun w => edge_equalD w n a b c d a' b' c' d'
  have hp : ∀ (w : World) (q r c d e : Value), (part 33 #[q, r, c, d, e] 0).run Try.prog w = .ok (.agg #[q, r, c, d]) w := fun w q r c d e => by
    obtain ⟨i, hi, _, hs, _⟩ := info_parts (P := Try.prog) (e := 33) (z := .agg #[.int .i64 0, .int .i64 0, .int .i64 0, .int .i64 0]) (size := 4) (bytes := 32) (by kernel_rfl)
    simp [part, isAgg, run_underlying Try.underlying33, sizeOf, typeInfo, hi, hs, Result.andThen]
  have hp4 : ∀ (w : World) (q r c d e : Value), (part 3 #[q, r, c, d, e] 4).run Try.prog w = .ok e w := fun w q r c d e => by simp [part, isAgg, run_underlying Try.underlying3]
  by_cases h1 : (⟨a, b, c, d⟩ : Edge) = ⟨a', b', c', d'⟩ <;> by_cases h2 : e = e' <;>
    simp [Program.fieldsOf, Try.underlying69, Op.eqFields, hp, hp4, hI, hV, h1, h2, Result.andThen]
theorem hvy_neq (w : World) (x y : Hvy) : (binOp .neq 69 (.agg #[.int .i64 x.e.f, .int .i64 x.e.t, .int .i64 x.e.k, .int .i64 x.e.key, .int .i64 x.n]) (.agg #[.int .i64 y.e.f, .int .i64 y.e.t, .int .i64 y.e.k, .int .i64 y.e.key, .int .i64 y.n])).run Try.prog w = .ok (.bool (x != y)) w := by
  have := hvy_equal w x y
  rw [run_neq_struct, this]
  simp only [Result.andThen]
  by_cases h : x = y <;> simp [h]
set_option maxRecDepth 100000 in
set_option maxHeartbeats 4000000 in
theorem rSame16 (w : World) (F G : Nat → Prop) (A B : Option Addr) (c d : Nat) (xs ys : List Hvy) (hx : Hvys F w A xs) (hy : Hvys G w B ys) (hl : xs.length ≤ 1048576) (hl2 : ys.length ≤ 1048576) {v : Bool} (hv : (xs == ys) = v) :
    Calls Try.prog 91 #[.slice A xs.length c, .slice B ys.length d] w fun e w' => e = .returned (.bool v) ∧ Upd No w w' := by
  have qG : ∀ (op : BinOp) (x y : Operand) (xs ys : Array Value) (w : World), (eqGuard op 69 x y (.agg xs) (.agg ys)).run Try.prog w = .ok () w := fun op x y xs ys w => run_eqGuard_agg w op _ x y xs ys (by kernel_rfl)
  subst hv
  by_cases hn : xs.length = ys.length
  · have hnb : ((xs.length : Int) != (ys.length : Int)) = false := by rw [bne_eq_false_iff_eq]; omega
    have HN := Lib.hid hn
    clear hn
    go_enter Try.func91, Try.ntmps91
    go_wp2
    go_loopg [5, 13] xs.length (fun gk j i wr => ∃ k : Nat, k + gk = xs.length ∧ i = .int .i64 k ∧ Hid (xs.take k = ys.take k) ∧ Upd No w wr)
    case atStart => exact ⟨0, by omega, rfl, Lib.hid rfl, Upd.refl _ _⟩
    case round =>
      obtain ⟨k, hgk, rfl, hs, hu⟩ := hrel
      by_cases hlt : k < xs.length
      · have hlt2 : k < ys.length := by have := HN.out; omega
        obtain ⟨ax, rfl, q0, q1, q2, q3, q4⟩ := (hx.upd hu (fun _ _ => id)).at_ hlt
        obtain ⟨ay, rfl, r0, r1, r2, r3, r4⟩ := (hy.upd hu (fun _ _ => id)).at_ hlt2
        obtain ⟨x, hxx⟩ : ∃ x, xs[k] = x := ⟨_, rfl⟩
        obtain ⟨y, hyy⟩ : ∃ y, ys[k] = y := ⟨_, rfl⟩
        rw [hxx] at q0 q1 q2 q3 q4
        rw [hyy] at r0 r1 r2 r3 r4
        have hq := fun W => hvy_neq W x y
        have i1 : (0 : Int) ≤ (k : Int) := Int.natCast_nonneg _
        have i2 : (k : Int) < (xs.length : Int) := by omega
        have i3 : (k : Int) < (ys.length : Int) := by omega
        have HX := Lib.hid hxx
        have HY := Lib.hid hyy
        clear hxx hyy
        by_cases he : x = y
        · have HN2 := Lib.hid (show xs.take (k + 1) = ys.take (k + 1) by rw [List.take_succ_eq_append_getElem hlt, List.take_succ_eq_append_getElem hlt2, hs.out, HX.out, HY.out, he])
          have heb : (x != y) = false := by simpa using he
          rw [heb] at hq
          clear he heb
          go_wp2
          go_quiet (fail)
          go_wp2
          go_roundg (gk - 1)
          case measure => omega
          case rel => exact ⟨k + 1, by omega, by go_num, HN2, hu.drewN _⟩
        · have HF := Lib.hid (show (xs == ys) = false from by
            rw [beq_eq_false_iff_ne]
            intro e
            subst e
            exact he (HX.out.symm.trans HY.out))
          have heb : (x != y) = true := by simpa using he
          rw [heb] at hq
          clear he heb
          go_wp2
          go_quiet (fail)
          go_wp2
          go_ret
          exact ⟨by rw [HF.out]; rfl, hu.drewN _⟩
      · obtain rfl : k = xs.length := by omega
        have HT := Lib.hid (show (xs == ys) = true from by
          rw [beq_iff_eq]
          have := hs.out
          rwa [List.take_length, HN.out, List.take_length] at this)
        go_wp2
        go_ret
        exact ⟨by rw [HT.out]; rfl, hu⟩
  · have HF := Lib.hid (show (xs == ys) = false from by
      rw [beq_eq_false_iff_ne]
      intro e
      exact hn (by rw [e]))
    have hnb : ((xs.length : Int) != (ys.length : Int)) = true := by rw [bne_iff_ne]; omega
    clear hn
    go_enter Try.func91, Try.ntmps91
    go_wp2
    go_ret
    exact ⟨by rw [HF.out]; rfl, Upd.refl _ _⟩
end Go.Proofs.Ytaicemjckagcaaa

/- Edges of a history, the document's: all keys; all edges. -/
namespace Go.Proofs.Ytaicemjckagcaaa
set_option linter.unusedVariables false
open Go.RowKit
def opK (l : List HOp) : List Int := l.map (·.key)
def txK (txs : List HTx) : List Int := txs.flatMap fun t => opK t.ops
/-- the keys of all operations, rising -/
def allK (txs : List HTx) : List Int := putAll [] (txK txs)
theorem txK_succ {txs : List HTx} {k : Nat} {x : HTx} (hk : k < txs.length) (hx : txs[k] = x) : txK (txs.take (k + 1)) = txK (txs.take k) ++ opK x.ops := by
  subst hx
  unfold txK
  rw [List.take_succ_eq_append_getElem hk, List.flatMap_append]
  simp
theorem opK_succ {l : List HOp} {k : Nat} {x : HOp} (hk : k < l.length) (hx : l[k] = x) : opK (l.take (k + 1)) = opK (l.take k) ++ [x.key] := by
  subst hx
  unfold opK
  rw [List.take_succ_eq_append_getElem hk, List.map_append]; rfl
/-! all edges -/
def hrB (h : Hist) (a kind key : Int) (bs : List HTx) : List Hvy := bs.flatMap fun b => if 0 < cntR h ⟨a, b.id, kind, key⟩ then [⟨⟨a, b.id, kind, key⟩, (cntR h ⟨a, b.id, kind, key⟩ : Int)⟩] else []
def hrK (h : Hist) (a kind : Int) (ks : List Int) : List Hvy := ks.flatMap fun key => hrB h a kind key h.txs
def hrN (h : Hist) (a : Int) : Nat → List Hvy
  | 0 => []
  | n + 1 => hrN h a n ++ hrK h a ((n : Int) + 1) (allK h.txs)
def hrA (h : Hist) (ts : List HTx) : List Hvy := ts.flatMap fun t => hrN h t.id 3
def edgesR (h : Hist) : List Hvy := if rightB h = true then hrA h h.txs else []
end Go.Proofs.Ytaicemjckagcaaa
