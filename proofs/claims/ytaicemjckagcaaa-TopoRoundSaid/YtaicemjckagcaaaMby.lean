/- Orders: topo.Order is walked. -/
import Derived.Test.YtaicemjckagcaaaMbx
namespace Go.Proofs.Ytaicemjckagcaaa
set_option linter.unusedVariables false
open Go.RowKit
set_option maxRecDepth 100000 in
set_option maxHeartbeats 8000000 in
theorem tOrder (F G : Nat → Prop) (w : World) (A B : Option Addr) (c d : Nat) (ids : List Int) (l : List Edge) (hi : Ints F w A ids) (hl : Walk G w B l) (n1 : ids.length ≤ 1000) (n2 : l.length ≤ 1000) :
    Calls Try.prog 12 #[.slice A ids.length c, .slice B l.length d] w (ToldT w (toldO (ordD ids l) 16)) := by
  have hmm := @run_makeMap Try.prog
  obtain ⟨wa, hwa⟩ : ∃ wa, w.alloc (.map #[] 0) = wa := ⟨_, rfl⟩
  have m0 : MapE wa w.heap.size (fun n : Int => Value.int .i64 n) [] := by rw [← hwa]; exact MapE.new w _
  have u0 : Upd No w wa := by rw [← hwa]; exact (Upd.refl No w).alloc _
  obtain ⟨ba, hba⟩ : ∃ ba, w.heap.size = ba := ⟨_, rfl⟩
  rw [hba] at m0
  have HBA := Lib.hid hba
  have HI := Lib.hid hi
  have HL := Lib.hid hl
  have HM0 := Lib.hid m0
  have HU0 := Lib.hid u0
  clear hi hl m0 u0
  go_enter Try.func12, Try.ntmps12
  go_wp2
  clear hba hwa
  go_loopg [22] ids.length (fun gk i wr => ∃ (k : Nat) (m : List (Int × Value)), k + gk = ids.length ∧ i = .int .i64 k ∧ Hid (MapE wr ba (fun n : Int => Value.int .i64 n) m) ∧ Hid (GMap m (ids.take k) (fun _ => 1)) ∧ Hid (m.map (·.1) = addK [] (ids.take k)) ∧ Upd No w wr)
  case atStart => exact ⟨0, [], by omega, rfl, HM0, Lib.hid (fun x => by simp [mget_nil]), Lib.hid rfl, HU0.out⟩
  case round =>
    obtain ⟨k, m, hgk, rfl, hm, hg, hk, hu⟩ := hrel
    by_cases hlt : k < ids.length
    · clear hmm
      obtain ⟨ad, hAd, _, _, hc⟩ := (HI.out.upd hu (fun _ _ => id)).at_ hlt
      obtain ⟨x, hx⟩ : ∃ x, ids[k] = x := ⟨_, rfl⟩
      rw [hx] at hc
      subst hAd
      have b1 : (0 : Int) ≤ (k : Int) := Int.natCast_nonneg _
      have b2 : (k : Int) < (ids.length : Int) := by omega
      obtain ⟨w5, hp5, hm5, hu5⟩ := run_putE kbyint Try.underlying93 hm.out x (.int .i64 1)
      have HM5 := Lib.hid hm5
      have HU5 := Lib.hid (hu.then_ hu5 (fun i e => .inr (by have := HBA.out; unfold One at e; omega)))
      have HT := Lib.hid (show ids.take (k + 1) = ids.take k ++ [x] by rw [← hx]; exact List.take_succ_eq_append_getElem hlt)
      clear hx hm5 hu5
      go_wp2
      go_roundg (gk - 1)
      case measure => omega
      case rel =>
        refine ⟨k + 1, _, by omega, by go_num, HM5, Lib.hid (fun y => ?_), Lib.hid ?_, HU5.out⟩
        · rw [mget_mput, HT.out, hg.out y]
          by_cases e : y = x <;> simp [e]
        · rw [HT.out]; exact addK_keys m x _ _ _ hk.out
    · obtain rfl : k = ids.length := by omega
      rw [List.take_length] at hg hk
      obtain ⟨wn, hwn⟩ : ∃ wn, wr.alloc (.map #[] 0) = wn := ⟨_, rfl⟩
      have hn0 := MapIs.new (α := Int) wr (fun n : Int => Value.int .i64 n)
      have un : Upd No wr wn := by rw [← hwn]; exact (Upd.refl No wr).alloc _
      obtain ⟨bn, hbn⟩ : ∃ bn, wr.heap.size = bn := ⟨_, rfl⟩
      have hsn : wn.heap.size = bn + 1 := by rw [← hwn, ← hbn]; simp
      rw [hwn, hbn] at hn0
      have HN := Lib.hid (MapSl.new (base := bn + 1) hn0)
      have HMN := Lib.hid (hm.out.upd un id)
      have HUN := Lib.hid (hu.trans un)
      have HB2 := Lib.hid (show ba < bn by have := hm.out.lt; omega)
      have HSN := Lib.hid hsn
      clear hn0 un hsn hm hu
      go_wp2
      clear hmm hbn hwn
      go_loopg [32] l.length (fun gk i wr => ∃ (k : Nat) (m mn : List (Int × Value)), k + gk = l.length ∧ i = .int .i64 k ∧ Hid (MapE wr ba (fun n : Int => Value.int .i64 n) m) ∧ Hid (GMap m ids (fun x => 1 + ((cntF (l.take k) ids x : Nat) : Int))) ∧ Hid (m.map (·.1) = addK [] ids) ∧ Hid (MapSl wr (bn + 1) bn mn (nextF (l.take k) ids)) ∧ Upd No w wr)
      case atStart => exact ⟨0, m, [], by omega, rfl, HMN, Lib.hid (fun x => by rw [hg.out x]; simp [cntF]), hk, HN, HUN.out⟩
      case round =>
        clear hg hk HN HMN HUN HSN
        obtain ⟨k, m, mn, hgk, rfl, hm, hg, hk, hn, hu⟩ := hrel
        by_cases hlt : k < l.length
        · obtain ⟨ad, hAd, q0, q1, q2, q3⟩ := (HL.out.upd hu (fun _ _ => id)).at_ hlt
          obtain ⟨x, hx⟩ : ∃ x, l[k] = x := ⟨_, rfl⟩
          rw [hx] at q0 q1 q2 q3
          subst hAd
          have b1 : (0 : Int) ≤ (k : Int) := Int.natCast_nonneg _
          have b2 : (k : Int) < (l.length : Int) := by omega
          have HCT := Lib.hid (fun y => cntF_take hlt hx ids y)
          have HNT := Lib.hid (fun y => nextF_take hlt hx ids y)
          obtain ⟨wx, hwx⟩ : ∃ wx, wr.alloc (.cells #[.int .i64 x.f, .int .i64 x.t, .int .i64 x.k, .int .i64 x.key] 33) = wx := ⟨_, rfl⟩
          have ux : Upd No wr wx := by rw [← hwx]; exact (Upd.refl No wr).alloc _
          have bo : Blk wx wr.heap.size 33 [.int .i64 x.f, .int .i64 x.t, .int .i64 x.k, .int .i64 x.key] := by rw [← hwx]; exact Blk.new wr _ _
          have hmx := hm.out.upd ux id
          have e1 := run_look kbyint Try.underlying93 zeroN' hmx.is x.f
          have e2 := run_look kbyint Try.underlying93 zeroN' hmx.is x.t
          rw [hg.out.get] at e1 e2
          have d0 : ∀ W, Upd No wx W → W.cell? ⟨wr.heap.size, 0, none⟩ = some (.int .i64 x.f) := fun W u => by have := (bo.upd u id).cell 0; simpa using this
          have d1 : ∀ W, Upd No wx W → W.cell? ⟨wr.heap.size, 1, none⟩ = some (.int .i64 x.t) := fun W u => by have := (bo.upd u id).cell 1; simpa using this
          have hxz : Upd No wx wx := Upd.refl _ _
          have HBO := Lib.hid bo
          have HMX := Lib.hid hmx
          have HNX := Lib.hid (hn.out.upd ux id (fun _ _ _ => id))
          have HNR := Lib.hid (And.intro hn.out.is.lt (hn.out.block_lt x.f))
          have HUX := Lib.hid (hu.trans ux)
          clear hx bo hmx ux hm hn hu
          have hend : ∀ (h : ¬ (x.f ∈ ids ∧ x.t ∈ ids)), Hid (GMap m ids (fun y => 1 + ((cntF (l.take (k + 1)) ids y : Nat) : Int))) ∧ Hid (MapSl wx (bn + 1) bn mn (nextF (l.take (k + 1)) ids)) := fun h => by
            refine ⟨Lib.hid fun y => ?_, Lib.hid (HNX.out.congr fun y => ?_)⟩
            · rw [hg.out y]
              by_cases hy : y ∈ ids
              · rw [if_pos hy, if_pos hy]
                show some (Value.int .i64 (1 + ((cntF (l.take k) ids y : Nat) : Int))) = some (.int .i64 (1 + ((cntF (l.take (k + 1)) ids y : Nat) : Int)))
                rw [HCT.out, if_neg (fun e : x.t = y ∧ x.f ∈ ids => h ⟨e.2, by rw [e.1]; exact hy⟩)]; rfl
              · rw [if_neg hy, if_neg hy]
            · rw [HNT.out, if_neg (fun e => h ⟨e.2.1, e.2.2⟩), List.append_nil]
          have HEND := Lib.hid hend
          clear hend
          by_cases hf : x.f ∈ ids
          · rw [if_pos hf] at e1
            obtain ⟨n1', hn1⟩ : ∃ n : Nat, cntF (l.take k) ids x.f = n := ⟨_, rfl⟩
            rw [hn1] at e1
            have p1 : (0 : Int) < 1 + (n1' : Int) := by omega
            clear hn1
            by_cases ht : x.t ∈ ids
            · rw [if_pos ht] at e2
              obtain ⟨n2', hn2⟩ : ∃ n : Nat, cntF (l.take k) ids x.t = n := ⟨_, rfl⟩
              rw [hn2] at e2
              have p2 : (0 : Int) < 1 + (n2' : Int) := by omega
              have p3 : (n2' : Int) ≤ 1000 := by have := cntF_le (l.take k) ids x.t; rw [List.length_take] at this; omega
              have HN2 := Lib.hid hn2
              have HF := Lib.hid hf
              have HT := Lib.hid ht
              clear hn2 hf ht
              obtain ⟨w5, hp5, hm5, hu5⟩ := run_putE kbyint Try.underlying93 HMX.out x.t (.int .i64 (1 + (n2' : Int) + 1))
              have HM5 := Lib.hid hm5
              have HMN5 := Lib.hid (HNX.out.upd hu5 (by have := HB2.out; unfold One; omega) (fun i h1 _ e => by have := HB2.out; unfold One at e; omega))
              obtain ⟨zb, hzb⟩ : ∃ zb, wr.heap.size = zb := ⟨_, rfl⟩
              rw [hzb] at HBO HNR d0 d1
              have HB5 := Lib.hid (HBO.out.upd hu5 (by have := HB2.out; have := HNR.out.1; unfold One; omega))
              obtain ⟨Sx, hSx⟩ : ∃ S : Nat → Prop, S = fun i => bn ≤ i ∧ i < zb := ⟨_, rfl⟩
              have d5 : ∀ W, Upd Sx w5 W → W.cell? ⟨zb, 0, none⟩ = some (.int .i64 x.f) := fun W u => by have := (HB5.out.upd u (by rw [hSx]; omega)).cell 0; simpa using this
              have d6 : ∀ W, Upd Sx w5 W → W.cell? ⟨zb, 1, none⟩ = some (.int .i64 x.t) := fun W u => by have := (HB5.out.upd u (by rw [hSx]; omega)).cell 1; simpa using this
              obtain ⟨Ak, ck, hrow, howk⟩ := HMN5.out.row x.f
              obtain ⟨fk, hfk⟩ : ∃ fk, nextF (l.take k) ids x.f = fk := ⟨_, rfl⟩
              have hfl : fk.length ≤ 1000 := by have := nextF_le (l.take k) ids x.f; rw [List.length_take, hfk] at this; omega
              rw [hfk] at hrow howk
              have e3 : ∀ W, Upd No w5 W → (Instr.lookup 94 (.map (some bn)) (.int .i64 x.f) false).run Try.prog W = .ok (.slice Ak fk.length ck) W := fun W u => by
                have := run_look kbyint Try.underlying94 zeroSl (HMN5.out.is.upd u id) x.f
                rw [hrow] at this
                exact this
              have hk5 : ∀ i, Own (.slice Ak fk.length ck) i → bn + 1 ≤ i ∧ i < zb := fun i hi => by
                have h1 := (howk.lt i hi).1
                have h3 := HNR.out.2 i
                obtain ⟨A', c', h4, h5⟩ := HNX.out.row x.f
                rw [hrow] at h4
                exact ⟨h1, (h3 (by rw [hrow]; exact hi)).2⟩
              have HK5 := Lib.hid hk5
              have HO5 := Lib.hid howk
              have HRW := Lib.hid hrow
              have HFK := Lib.hid hfk
              have HU5 := Lib.hid hu5
              have HSX := Lib.hid hSx
              have HSZ := Lib.hid (show bn + 1 ≤ w5.heap.size by have := HNX.out.is.lt; have := hu5.size; omega)
              have HZ5 := Lib.hid (show zb < w5.heap.size from HB5.out.lt)
              have hz5 : Upd No w5 w5.drew := (Upd.refl No w5).drew
              have hz6 : Upd No w5 (w5.alloc (.cells #[.int .i64 x.t] 3)).drew := ((Upd.refl No w5).alloc _).drew
              have hzz : Upd Sx w5 w5 := Upd.refl _ _
              have HSL := Lib.hid (HMN5.out.upd hz6 id (fun _ _ _ => id))
              have HK1 := Lib.hid (keys_same (v := .int .i64 (1 + (n2' : Int) + 1)) hk.out HT.out)
              have HG1 := Lib.hid (hg.out.put (v := 1 + (n2' : Int) + 1) HT.out)
              clear howk hrow hk5 hfk hu5 hm5 hSx hg hk
              go_wp2
              refine wp_region_noPanic ?_
              refine wp_region_held_drew (S := (fun W' => Upd Sx w5 W')) (by kernel_rfl) ?_ (fun hHeld => ?_)
              · (first | exact hzz.drew | exact hHeld | exact hHeld.alloc _ | exact hU6 | exact hU7)
              refine wpT 0 ⟨some 53, .move (.tmp 9), 94, "topo.go:43", #[], none⟩ ?_ (.inl ⟨by rfl, ?_⟩) ?_
              rotate_left
              · (intro W hSw; (try dsimp only at hSw); go_simp; try (with_reducible rfl))
              try simp only [Act.put]
              try simp only [List.setIfInBounds_toArray]
              try simp only [List.set_cons_succ]
              try simp only [List.set_cons_zero]
              refine wpT 1 ⟨some 54, .fieldAddr 33 (.tmp 11) 0, 0, "topo.go:43", #[], none⟩ ?_ (.inl ⟨by rfl, ?_⟩) ?_
              rotate_left
              · (intro W hSw; (try dsimp only at hSw); go_simp; try (with_reducible rfl))
              try simp only [Act.put]
              try simp only [List.setIfInBounds_toArray]
              try simp only [List.set_cons_succ]
              try simp only [List.set_cons_zero]
              refine wpT 2 ⟨some 55, .load 3 (.tmp 54), 3, "topo.go:43", #[⟨1, .data⟩], none⟩ ?_ (.inl ⟨by rfl, ?_⟩) ?_
              rotate_left
              · (intro W hSw; (try dsimp only at hSw); go_simp; try (with_reducible rfl))
              try simp only [Act.put]
              try simp only [List.setIfInBounds_toArray]
              try simp only [List.set_cons_succ]
              try simp only [List.set_cons_zero]
              refine wpT 3 ⟨some 56, .move (.tmp 9), 94, "topo.go:43", #[], none⟩ ?_ (.inl ⟨by rfl, ?_⟩) ?_
              rotate_left
              · (intro W hSw; (try dsimp only at hSw); go_simp; try (with_reducible rfl))
              try simp only [Act.put]
              try simp only [List.setIfInBounds_toArray]
              try simp only [List.set_cons_succ]
              try simp only [List.set_cons_zero]
              refine wpT 4 ⟨some 57, .fieldAddr 33 (.tmp 11) 0, 0, "topo.go:43", #[], none⟩ ?_ (.inl ⟨by rfl, ?_⟩) ?_
              rotate_left
              · (intro W hSw; (try dsimp only at hSw); go_simp; try (with_reducible rfl))
              try simp only [Act.put]
              try simp only [List.setIfInBounds_toArray]
              try simp only [List.set_cons_succ]
              try simp only [List.set_cons_zero]
              refine wpT 5 ⟨some 58, .load 3 (.tmp 57), 3, "topo.go:43", #[⟨4, .data⟩], none⟩ ?_ (.inl ⟨by rfl, ?_⟩) ?_
              rotate_left
              · (intro W hSw; (try dsimp only at hSw); go_simp; try (with_reducible rfl))
              try simp only [Act.put]
              try simp only [List.setIfInBounds_toArray]
              try simp only [List.set_cons_succ]
              try simp only [List.set_cons_zero]
              refine wpT 7 ⟨some 60, .fieldAddr 33 (.tmp 11) 1, 0, "topo.go:43", #[], none⟩ ?_ (.inl ⟨by rfl, ?_⟩) ?_
              rotate_left
              · (intro W hSw; (try dsimp only at hSw); go_simp; try (with_reducible rfl))
              try simp only [Act.put]
              try simp only [List.setIfInBounds_toArray]
              try simp only [List.set_cons_succ]
              try simp only [List.set_cons_zero]
              refine wpT 8 ⟨some 61, .load 3 (.tmp 60), 3, "topo.go:43", #[⟨7, .data⟩], none⟩ ?_ (.inl ⟨by rfl, ?_⟩) ?_
              rotate_left
              · (intro W hSw; (try dsimp only at hSw); go_simp; try (with_reducible rfl))
              try simp only [Act.put]
              try simp only [List.setIfInBounds_toArray]
              try simp only [List.set_cons_succ]
              try simp only [List.set_cons_zero]
              refine wpAnyH_ready (rs := [6, 9]) (by kernel_rfl) (by simp) ?_
              refine AllReadyH.cons (o := ⟨some 59, .lookup 94 (.tmp 56) (.tmp 58) false, 22, "topo.go:43", #[⟨3, .data⟩, ⟨5, .data⟩], none⟩) rfl (fun K hK => ?_) ?_
              · go_simp
                refine hK.out _ _ ?_ (fun hHeld => ?_)
                · (first | exact hzz.drew | exact hHeld | exact hHeld.alloc _ | exact hU6 | exact hU7)
                clear hK K
                try simp only [Act.put]
                try simp only [List.setIfInBounds_toArray]
                try simp only [List.set_cons_succ]
                try simp only [List.set_cons_zero]
                refine wpAnyH_ready (rs := [9]) (by kernel_rfl) (by simp) ?_
                refine AllReadyH.cons (o := ⟨some 62, .buildSlice 22 1 #[(0, .tmp 61)], 22, "topo.go:43", #[⟨8, .data⟩], none⟩) rfl (fun K hK => ?_) AllReadyH.nil
                go_simp
                refine hK.out _ _ ?_ (fun hHeld => ?_)
                · (first | exact hzz.drew | exact hHeld | exact hHeld.alloc _ | exact hU6 | exact hU7)
                clear hK K
                try simp only [Act.put]
                try simp only [List.setIfInBounds_toArray]
                try simp only [List.set_cons_succ]
                try simp only [List.set_cons_zero]
                refine wpAnyH_ready (rs := [10]) (by kernel_rfl) (by simp) ?_
                refine AllReadyH.cons (o := ⟨some 63, .call { callee := .builtin .append, args := #[.tmp 59, .tmp 62], argTypes := #[22, 22] }, 22, "topo.go:43", #[⟨6, .data⟩, ⟨9, .data⟩], none⟩) rfl (fun K hK => ?_) AllReadyH.nil
                (first
      | (refine step_app1 (by rfl) (by rfl) slt_int (v := .slice Ak fk.length ck) (cells := [.int .i64 x.t]) (by rfl) (by rfl) (by exact own_upd HO5.out hz6 (fun _ _ => id)) rfl (by exact news_new) (by rfl) (by omega) (by omega) (by have := HSZ.out; simp; omega) ?_; intro g6 c6 w6 hown6 hu6 hg6 hlt6; have hU6 : Upd Sx w5 w6 := hHeld.trans (hu6.mono (fun i _ e => by rw [HSX.out]; have := HK5.out i e; omega))))
                refine hK.out _ _ ?_ (fun hHeld => ?_)
                · (first | exact hzz.drew | exact hHeld | exact hHeld.alloc _ | exact hU6 | exact hU7)
                clear hK K
                try simp only [Act.put]
                try simp only [List.setIfInBounds_toArray]
                try simp only [List.set_cons_succ]
                try simp only [List.set_cons_zero]
                refine wpAnyH_ready (rs := [11]) (by kernel_rfl) (by simp) ?_
                refine AllReadyH.cons (o := ⟨none, .mapUpdate 94 (.tmp 53) (.tmp 55) (.tmp 63), 0, "topo.go:43", #[⟨0, .data⟩, ⟨2, .data⟩, ⟨10, .data⟩, ⟨10, .chain⟩, ⟨0, .phase⟩, ⟨1, .phase⟩, ⟨2, .phase⟩, ⟨3, .phase⟩, ⟨4, .phase⟩, ⟨5, .phase⟩, ⟨6, .phase⟩, ⟨7, .phase⟩, ⟨8, .phase⟩, ⟨9, .phase⟩, ⟨10, .phase⟩], none⟩) rfl (fun K hK => ?_) AllReadyH.nil
                (first
      | (refine step_mapput (by rfl) (by rfl) kbyint Try.underlying94 (a := x.f) (val := .slice (some ⟨g6, 0, none⟩) (fk.length + 1) c6) (by rfl) (by rfl) (by rfl) ((HSL.out.is).upd hu6 (fun e => by have := HK5.out _ e; omega)) ?_; intro w7 hm7 hu7; have hU7 : Upd Sx w5 w7 := hHeld.trans (hu7.mono (fun i _ e => by rw [HSX.out]; have := HNR.out.1; unfold One at e; omega))))
                refine hK.out _ _ ?_ (fun hHeld => ?_)
                · (first | exact hzz.drew | exact hHeld | exact hHeld.alloc _ | exact hU6 | exact hU7)
                clear hK K
                try simp only [Act.put]
                try simp only [List.setIfInBounds_toArray]
                try simp only [List.set_cons_succ]
                try simp only [List.set_cons_zero]
                refine wpAnyH_done (by kernel_rfl) (NoPanic.normal ?_) _
                have HU7 := Lib.hid hHeld
                clear hHeld hU6 hU7
                have hgn : ∀ i, Own (.slice (some ⟨g6, 0, none⟩) (fk.length + 1) c6) i → Own (.slice Ak fk.length ck) i ∨ (w5.alloc (.cells #[.int .i64 x.t] 3)).drew.heap.size ≤ i := fun i hi => by
                  rcases hg6 with h1 | ⟨q, h1, h2⟩
                  · exact Or.inl (show _ = some i by rw [← h1]; exact hi)
                  · unfold Own at hi; rw [h1] at hi; cases hi; exact Or.inr h2
                have HNF := Lib.hid (HSL.out.put (key := x.f) (x := x.t) (A := Ak) (c := ck) (by rw [HRW.out, HFK.out]) (by omega) (by rw [HFK.out]; simpa using hown6) (by rw [HFK.out]; exact hu6) (by rw [HFK.out]; exact hgn) (by rw [HFK.out]; exact hm7) hu7)
                clear hgn
                go_wp2
                go_roundg (gk - 1)
                case measure => omega
                case rel =>
                  have hft : x.f ∈ ids ∧ x.t ∈ ids := ⟨HF.out, HT.out⟩
                  refine ⟨k + 1, _, _, by omega, by go_num, Lib.hid (HM5.out.upd HU7.out (by rw [HSX.out]; have := HB2.out; omega)), Lib.hid (fun y => ?_), HK1, Lib.hid (HNF.out.congr fun y => ?_), ?_⟩
                  · rw [HG1.out y]
                    by_cases hy : y ∈ ids
                    · rw [if_pos hy, if_pos hy]
                      show some (Value.int .i64 (if y = x.t then 1 + (n2' : Int) + 1 else 1 + ((cntF (l.take k) ids y : Nat) : Int))) = some (.int .i64 (1 + ((cntF (l.take (k + 1)) ids y : Nat) : Int)))
                      rw [HCT.out]
                      by_cases hyt : y = x.t
                      · subst hyt; rw [if_pos rfl, if_pos ⟨rfl, hft.1⟩, HN2.out]; congr 2
                      · rw [if_neg hyt, if_neg (fun e => hyt e.1.symm)]; rfl
                    · rw [if_neg hy, if_neg hy]
                  · rw [HNT.out, HFK.out]
                    by_cases hyf : y = x.f
                    · subst hyf; rw [if_pos rfl, if_pos ⟨rfl, hft.1, hft.2⟩, HFK.out]
                    · rw [if_neg hyf, if_neg (fun e => hyf e.1.symm), List.append_nil]
                  · exact (HUX.out.then_ HU5.out (fun i e => .inr (by have := HBA.out; unfold One at e; omega))).then_ HU7.out (fun i e => .inr (by rw [HSX.out] at e; have := HBA.out; have := HB2.out; omega))
              refine AllReadyH.cons (o := ⟨some 62, .buildSlice 22 1 #[(0, .tmp 61)], 22, "topo.go:43", #[⟨8, .data⟩], none⟩) rfl (fun K hK => ?_) AllReadyH.nil
              go_simp
              refine hK.out _ _ ?_ (fun hHeld => ?_)
              · (first | exact hzz.drew | exact hHeld | exact hHeld.alloc _ | exact hU6 | exact hU7)
              clear hK K
              try simp only [Act.put]
              try simp only [List.setIfInBounds_toArray]
              try simp only [List.set_cons_succ]
              try simp only [List.set_cons_zero]
              refine wpAnyH_ready (rs := [6]) (by kernel_rfl) (by simp) ?_
              refine AllReadyH.cons (o := ⟨some 59, .lookup 94 (.tmp 56) (.tmp 58) false, 22, "topo.go:43", #[⟨3, .data⟩, ⟨5, .data⟩], none⟩) rfl (fun K hK => ?_) AllReadyH.nil
              go_simp
              refine hK.out _ _ ?_ (fun hHeld => ?_)
              · (first | exact hzz.drew | exact hHeld | exact hHeld.alloc _ | exact hU6 | exact hU7)
              clear hK K
              try simp only [Act.put]
              try simp only [List.setIfInBounds_toArray]
              try simp only [List.set_cons_succ]
              try simp only [List.set_cons_zero]
              refine wpAnyH_ready (rs := [10]) (by kernel_rfl) (by simp) ?_
              refine AllReadyH.cons (o := ⟨some 63, .call { callee := .builtin .append, args := #[.tmp 59, .tmp 62], argTypes := #[22, 22] }, 22, "topo.go:43", #[⟨6, .data⟩, ⟨9, .data⟩], none⟩) rfl (fun K hK => ?_) AllReadyH.nil
              (first
    | (refine step_app1 (by rfl) (by rfl) slt_int (v := .slice Ak fk.length ck) (cells := [.int .i64 x.t]) (by rfl) (by rfl) (by exact own_upd HO5.out hz6 (fun _ _ => id)) rfl (by exact news_new) (by rfl) (by omega) (by omega) (by have := HSZ.out; simp; omega) ?_; intro g6 c6 w6 hown6 hu6 hg6 hlt6; have hU6 : Upd Sx w5 w6 := hHeld.trans (hu6.mono (fun i _ e => by rw [HSX.out]; have := HK5.out i e; omega))))
              refine hK.out _ _ ?_ (fun hHeld => ?_)
              · (first | exact hzz.drew | exact hHeld | exact hHeld.alloc _ | exact hU6 | exact hU7)
              clear hK K
              try simp only [Act.put]
              try simp only [List.setIfInBounds_toArray]
              try simp only [List.set_cons_succ]
              try simp only [List.set_cons_zero]
              refine wpAnyH_ready (rs := [11]) (by kernel_rfl) (by simp) ?_
              refine AllReadyH.cons (o := ⟨none, .mapUpdate 94 (.tmp 53) (.tmp 55) (.tmp 63), 0, "topo.go:43", #[⟨0, .data⟩, ⟨2, .data⟩, ⟨10, .data⟩, ⟨10, .chain⟩, ⟨0, .phase⟩, ⟨1, .phase⟩, ⟨2, .phase⟩, ⟨3, .phase⟩, ⟨4, .phase⟩, ⟨5, .phase⟩, ⟨6, .phase⟩, ⟨7, .phase⟩, ⟨8, .phase⟩, ⟨9, .phase⟩, ⟨10, .phase⟩], none⟩) rfl (fun K hK => ?_) AllReadyH.nil
              (first
    | (refine step_mapput (by rfl) (by rfl) kbyint Try.underlying94 (a := x.f) (val := .slice (some ⟨g6, 0, none⟩) (fk.length + 1) c6) (by rfl) (by rfl) (by rfl) ((HSL.out.is).upd hu6 (fun e => by have := HK5.out _ e; omega)) ?_; intro w7 hm7 hu7; have hU7 : Upd Sx w5 w7 := hHeld.trans (hu7.mono (fun i _ e => by rw [HSX.out]; have := HNR.out.1; unfold One at e; omega))))
              refine hK.out _ _ ?_ (fun hHeld => ?_)
              · (first | exact hzz.drew | exact hHeld | exact hHeld.alloc _ | exact hU6 | exact hU7)
              clear hK K
              try simp only [Act.put]
              try simp only [List.setIfInBounds_toArray]
              try simp only [List.set_cons_succ]
              try simp only [List.set_cons_zero]
              refine wpAnyH_done (by kernel_rfl) (NoPanic.normal ?_) _
              have HU7 := Lib.hid hHeld
              clear hHeld hU6 hU7
              have hgn : ∀ i, Own (.slice (some ⟨g6, 0, none⟩) (fk.length + 1) c6) i → Own (.slice Ak fk.length ck) i ∨ (w5.alloc (.cells #[.int .i64 x.t] 3)).drew.heap.size ≤ i := fun i hi => by
                rcases hg6 with h1 | ⟨q, h1, h2⟩
                · exact Or.inl (show _ = some i by rw [← h1]; exact hi)
                · unfold Own at hi; rw [h1] at hi; cases hi; exact Or.inr h2
              have HNF := Lib.hid (HSL.out.put (key := x.f) (x := x.t) (A := Ak) (c := ck) (by rw [HRW.out, HFK.out]) (by omega) (by rw [HFK.out]; simpa using hown6) (by rw [HFK.out]; exact hu6) (by rw [HFK.out]; exact hgn) (by rw [HFK.out]; exact hm7) hu7)
              clear hgn
              go_wp2
              go_roundg (gk - 1)
              case measure => omega
              case rel =>
                have hft : x.f ∈ ids ∧ x.t ∈ ids := ⟨HF.out, HT.out⟩
                refine ⟨k + 1, _, _, by omega, by go_num, Lib.hid (HM5.out.upd HU7.out (by rw [HSX.out]; have := HB2.out; omega)), Lib.hid (fun y => ?_), HK1, Lib.hid (HNF.out.congr fun y => ?_), ?_⟩
                · rw [HG1.out y]
                  by_cases hy : y ∈ ids
                  · rw [if_pos hy, if_pos hy]
                    show some (Value.int .i64 (if y = x.t then 1 + (n2' : Int) + 1 else 1 + ((cntF (l.take k) ids y : Nat) : Int))) = some (.int .i64 (1 + ((cntF (l.take (k + 1)) ids y : Nat) : Int)))
                    rw [HCT.out]
                    by_cases hyt : y = x.t
                    · subst hyt; rw [if_pos rfl, if_pos ⟨rfl, hft.1⟩, HN2.out]; congr 2
                    · rw [if_neg hyt, if_neg (fun e => hyt e.1.symm)]; rfl
                  · rw [if_neg hy, if_neg hy]
                · rw [HNT.out, HFK.out]
                  by_cases hyf : y = x.f
                  · subst hyf; rw [if_pos rfl, if_pos ⟨rfl, hft.1, hft.2⟩, HFK.out]
                  · rw [if_neg hyf, if_neg (fun e => hyf e.1.symm), List.append_nil]
                · exact (HUX.out.then_ HU5.out (fun i e => .inr (by have := HBA.out; unfold One at e; omega))).then_ HU7.out (fun i e => .inr (by rw [HSX.out] at e; have := HBA.out; have := HB2.out; omega))
            · rw [if_neg ht] at e2
              have HE := HEND.out (fun h => ht h.2)
              have hm5 := HMX
              clear hf ht
              go_wp2
              go_roundg (gk - 1)
              case measure => omega
              case rel => exact ⟨k + 1, m, mn, by omega, by go_num, hm5, HE.1, hk, HE.2, HUX.out⟩
          · rw [if_neg hf] at e1
            have HE := HEND.out (fun h => hf h.1)
            clear hf e2
            go_wp2
            go_roundg (gk - 1)
            case measure => omega
            case rel => exact ⟨k + 1, m, mn, by omega, by go_num, HMX, HE.1, hk, HE.2, HUX.out⟩
        · obtain rfl : k = l.length := by omega
          have hgm : GMap m ids (fun x => 1 + ((cntF l ids x : Nat) : Int)) := by have := hg.out; rwa [List.take_length] at this
          have hnn : MapSl wr (bn + 1) bn mn (nextF l ids) := by have := hn.out; rwa [List.take_length] at this
          obtain ⟨hb, hhb⟩ : ∃ hb, wr.heap.size = hb := ⟨_, rfl⟩
          obtain ⟨wh, hwh⟩ : ∃ wh, wr.alloc (.cells #[.slice none 0 0] 95) = wh := ⟨_, rfl⟩
          have uh : Upd No wr wh := by rw [← hwh]; exact (Upd.refl No wr).alloc _
          have bh : Blk wh hb 95 [.slice none 0 0] := by rw [← hwh, ← hhb]; exact Blk.new wr _ _
          have hsh : wh.heap.size = hb + 1 := by rw [← hwh, ← hhb]; simp
          obtain ⟨wi, hrun, hit, hui, hsi⟩ := iter_range Try.underlying93 (hm.out.upd uh id)
          rw [hsh] at hrun hit hsi
          have hbn := hnn.is.lt
          rw [hhb] at hbn
          have hnx := ((hnn.next (z := hb) (by omega)).upd (uh.trans hui) (fun _ _ _ => id) hbn)
          have HNX := Lib.hid hnx
          have HME := Lib.hid ((hm.out.upd uh id).upd hui id)
          have HIT := Lib.hid hit
          have HUI := Lib.hid (hu.trans (uh.trans hui))
          have HGM := Lib.hid hgm
          have HK := Lib.hid hk.out
          have HH0 : HeapM wi (hb + 2) hb none [] 0 := ⟨bh.upd hui id, World.ownsRow_nil _ _ _ _, by simp [Own, Value.ownBlock]⟩
          have HH := Lib.hid HH0
          have HSI := Lib.hid hsi
          have HBH := Lib.hid hbn
          have HND := Lib.hid (show (m.map (·.1)).Nodup by rw [hk.out]; exact addK_nodup ids [] (by simp))
          clear hgm hnn uh bh hsh hit hui hsi hbn hnx HH0 hm hg hn hk hu
          have HINIT := Lib.hid (hinit (base := hb + 2) (hb := hb))
          unfold hif at HINIT
          go_wp2
          go_loopg [] m.length (fun gk wr => ∃ (left : List (Int × Value)) (xs : List Int) (A5 : Option Addr) (c5 : Nat), left.length = gk ∧ Hid (Iter wr (hb + 1) ba (fun n : Int => Value.int .i64 n) m left) ∧ Hid (∀ p ∈ left, p ∈ m) ∧ Hid ((xs ++ (left.filter fun p => oneG l ids p.1).map (·.1)).Perm ((m.filter fun p => oneG l ids p.1).map (·.1))) ∧ Hid (HeapM wr (hb + 2) hb A5 xs c5) ∧ Upd (fun i => i = hb ∨ i = hb + 1) wi wr)
          case atStart => exact ⟨m, [], none, 0, rfl, HIT, Lib.hid (fun _ h => h), Lib.hid (by simp), HH, Upd.refl _ _⟩
          case round =>
            obtain ⟨left, xs, A5, c5, hgk, hit, hsub, hpm, hh, hu⟩ := hrel
            have hsz := hu.size
            rw [HSI.out] at hsz
            rcases iter_next (P := Try.prog) hit.out with ⟨rfl, hnx⟩ | ⟨l1, p, l2, w5, rfl, hnx, hit5, hu5, hs5, hent⟩
            · have HXS := Lib.hid (one_perm HK.out (by simpa using hpm.out))
              have hxl : xs.length ≤ 1000 := by
                have h1 := HXS.out.length_eq
                have h2 := List.length_filter_le (fun x => 1 + ((cntF l ids x : Nat) : Int) == 1) (setK ids)
                have h3 := setK_len ids
                omega
              have HI0 := Lib.hid (HINIT.out _ A5 xs c5 (by omega) hh.out)
              have HUR := Lib.hid hu
              clear hgk hit hsub hpm hu
              go_wp2_with fail
              refine (HI0.out).mono ?_
              rintro e w1 ⟨rfl, ys, hyp, hyf, hym, hu1⟩
              have HW : Hid (TpW w w1 (hb + 2) hb ba bn mn l ids (setK ids) [] ys [] (fun x => 1 + ((cntF l ids x : Nat) : Int)) m A5 c5 none 0) := by
                have hge : ∀ i, Own (.slice A5 xs.length c5) i → hb + 2 ≤ i := fun i hi => (hh.out.2.1.lt i hi).1
                have e1 := HBA.out; have e2 := HB2.out; have e3 := HBH.out
                refine Lib.hid ⟨(TpI.start (setK_lt ids) (mem_setK ids) (fun x _ => rfl) HXS.out).perm hyp, hyf, hym, World.ownsRow_nil _ _ _ _, by simp [Own, Value.ownBlock], ?_, HGM.out, HK.out, ?_, ?_, rfl, by simp, ?_, by omega, by omega, by omega, by omega⟩
                · exact (HME.out.upd HUR.out (by omega)).upd hu1 (fun e => by have := hge _ e; omega)
                · exact (HNX.out.upd HUR.out (fun i _ _ => by omega) e3).upd hu1 (fun i _ _ e => by have := hge _ e; omega) e3
                · exact (HUI.out.then_ HUR.out (fun i e => Or.inr (by omega))).then_ hu1 (fun i e => Or.inr (by have := hge _ e; omega))
                · have := hu1.size; omega
              clear hyp hyf hym hu1 hxl hh hsz HNX HME HIT HUI HGM HK HH HSI HND HXS HI0 HUR hnx hrun
              have HINIT := Lib.hid (hpop (base := hb + 2) (hb := hb))
              have HPUSH := Lib.hid (hpush (base := hb + 2) (hb := hb))
              unfold hif at HINIT HPUSH
              go_wp2
              go_loopg [15] (setK ids).length (fun gk so wr => ∃ (L ys out : List Int) (g : Int → Int) (mA : List (Int × Value)) (A : Option Addr) (c : Nat) (Ao : Option Addr) (co : Nat), so = .slice Ao out.length co ∧ L.length = gk ∧ Hid (TpW w wr (hb + 2) hb ba bn mn l ids L [] ys out g mA A c Ao co))
              case atStart => exact ⟨setK ids, ys, [], _, m, A5, c5, none, 0, rfl, rfl, HW⟩
              case round =>
                clear HW
                obtain ⟨L, ys, out, g, mA, A, c, Ao, co, rfl, hgk, hw⟩ := hrel
                have hc := hw.out.H.cell
                have hyl : ys.length ≤ 1000 := by
                  have h1 := hw.out.I.heap.length_eq
                  have h2 := List.length_filter_le (fun x => cntF l L x + ([] : List Int).count x == 0) L
                  have h3 := hw.out.Ln
                  have h4 := setK_len ids
                  omega
                have hol : out.length ≤ 1000 := by have h3 := hw.out.Ln; have h4 := setK_len ids; omega
                by_cases hz : ys = []
                · subst hz
                  have HL := Lib.hid (rdlen wr A 0 c)
                  have hc : wr.cell? ⟨hb, 0, none⟩ = some (.slice A 0 c) := hc
                  have hml := fun ty => run_mlen Try.underlying93 hw.out.M.is ty
                  obtain ⟨q, hq⟩ : ∃ q, mA.length = q := ⟨_, rfl⟩
                  have hqs : q = (setK ids).length := by
                    have h1 := congrArg List.length hw.out.K
                    rw [List.length_map, hq] at h1
                    rw [h1]
                    exact ((List.perm_ext_iff_of_nodup (addK_nodup ids [] (by simp)) (rise_nodup (setK_lt ids))).2 fun x => by rw [mem_addK, mem_setK]; simp).length_eq
                  have hln := hw.out.Ln
                  rw [hq] at hml
                  clear hgk
                  by_cases hLe : L = []
                  · subst hLe
                    obtain rfl : q = out.length := by simp at hln; omega
                    have HS := Lib.hid (show ordD ids l = some out from hw.out.S.symm)
                    have hnn : ¬ ((out.length : Int) < (out.length : Int)) := Int.lt_irrefl _
                    clear hqs hln
                    go_wp2_with fail
                    refine (HL.out).mono ?_
                    rintro e w2 ⟨rfl, rfl⟩
                    go_wp2
                    go_ret2
                    refine ⟨Ao, co, ?_, ?_, hw.out.U⟩
                    · rw [HS.out]; rfl
                    · rw [HS.out]
                      exact own_base hw.out.O (by have := hw.out.o1; have := hw.out.o2; have := hw.out.o3; omega)
                  · have HS := Lib.hid (show ordD ids l = none by rw [← hw.out.S]; exact ordA_none hw.out.I.stuck hLe)
                    have hLp := List.length_pos_iff.2 hLe
                    have hlt : (out.length : Int) < (q : Int) := by omega
                    clear hqs hln hLe hLp
                    go_wp2_with fail
                    refine (HL.out).mono ?_
                    rintro e w2 ⟨rfl, rfl⟩
                    go_wp2
                    go_ret2
                    refine ⟨none, 0, ?_, ?_, hw.out.U⟩
                    · rw [HS.out]; rfl
                    · rw [HS.out]; exact World.ownsRow_nil _ _ _ _
                · obtain ⟨n, hn⟩ : ∃ n, ys.length = n + 1 := ⟨ys.length - 1, by have := List.length_pos_iff.2 hz; omega⟩
                  obtain ⟨g0, cur, rfl, hgb, hB, hnc, hcl, hct, hcm⟩ := own_blk hw.out.H.2.1 (by omega)
                  obtain ⟨m0, hm0⟩ : ∃ m0, ys.getD 0 0 = m0 := ⟨_, rfl⟩
                  have c0 : wr.cell? ⟨g0, 0, none⟩ = some (.int .i64 m0) := by
                    rw [hB.cell]
                    have h1 : (cur.take (ys.length * 1))[0]? = some (.int .i64 m0) := by
                      rw [hct, List.getElem?_map, ← hm0]
                      cases ys with
                      | nil => exact absurd rfl hz
                      | cons a ys => rfl
                    rw [List.getElem?_take] at h1
                    split at h1
                    · exact h1
                    · cases h1
                  have HP := Lib.hid (HINIT.out wr (some ⟨g0, 0, none⟩) ys c n hn (by omega) m0 hm0 hw.out.H hw.out.hp)
                  have HMY := Lib.hid (show m0 ∈ ys by
                    rw [← hm0]
                    cases ys with
                    | nil => exact absurd rfl hz
                    | cons a ys => simp)
                  have HLE := Lib.hid (show ∀ y ∈ ys, m0 ≤ y from fun y hy => by
                    obtain ⟨k, hk, rfl⟩ := List.getElem_of_mem hy
                    have h1 := hw.out.hp.least k hk
                    rw [hm0] at h1
                    simpa [List.getD_eq_getElem?_getD, hk] using h1)
                  have HL := Lib.hid (rdlen wr (some ⟨g0, 0, none⟩) ys.length c)
                  obtain ⟨fk, hfk⟩ : ∃ fk, nextF l ids m0 = fk := ⟨_, rfl⟩
                  have HFK := Lib.hid hfk
                  have hfl : fk.length ≤ 1000 := by have := nextF_le l ids m0; rw [hfk] at this; omega
                  have hp1 : (0 : Int) < (n : Int) + 1 := by omega
                  rw [hn] at hc HL
                  have HN := Lib.hid hn
                  have HB0 := Lib.hid hw.out.B
                  clear hm0 hgb hB hnc hcl hct hcm hz hn hfk
                  go_wp2_with fail
                  refine (HL.out).mono ?_
                  rintro e w2 ⟨rfl, rfl⟩
                  go_wp2_with fail
                  refine (HP.out).mono ?_
                  rintro e w1 ⟨rfl, ys1, hyp, hyf, hym, hu1⟩
                  have HO1 := Lib.hid (own_upd hw.out.O hu1 (fun i hi e => by
                    rcases e with e | e
                    · have := (hw.out.O.lt i hi).1; omega
                    · exact hw.out.ap i hi e))
                  have HT := Lib.hid (fun w2 Ao' co' => hw.out.took (w2 := w2) (Ao' := Ao') (co' := co') HMY.out HLE.out hyp hyf hym hu1)
                  have hs1 := hu1.size
                  have hb0 := HB0.out
                  clear hyp hyf hym hu1
                  go_wp2_with (at_builtin; refine app1s rfl rfl slt_int (base := hb + 2) (v := .slice Ao out.length co) (n := out.length) (xs := out.map (Value.int .i64)) (cells := [.int .i64 m0]) rfl rfl HO1.out rfl rfl (by omega) (by omega) (by omega) ?_; intro g9 c9 w9 hown9 hu9 hg9 hlt9; have HW9 := Lib.hid (HT.out w9 _ c9 hu9 hown9 (grew_of hg9)); have hnx9 := HW9.out.N; obtain ⟨Ak, ck, hrow, hik⟩ := hnx9.row m0; have e3 := run_look kbyint Try.underlying94 zeroSl hnx9.is m0; rw [hrow] at e3; rw [HFK.out] at e3 hrow; have HROW := Lib.hid hrow; clear hown9 hu9 hg9 hnx9 hrow hik)
                  generalize gk = GK at *
                  go_loopg [96] fk.length (fun gj i wj => ∃ (j : Nat) (ys : List Int) (g : Int → Int) (mA : List (Int × Value)) (A : Option Addr) (c : Nat), j + gj = fk.length ∧ i = .int .i64 j ∧ Hid (TpW w wj (hb + 2) hb ba bn mn l ids (L.erase m0) (fk.drop j) ys (out ++ [m0]) g mA A c (some ⟨g9, 0, none⟩) c9))
                  case atStart => exact ⟨0, ys1, g, mA, _, c, by omega, rfl, by have := HW9.out; rw [HFK.out] at this; exact Lib.hid this⟩
                  case round =>
                    obtain ⟨j, ys2, g2, mA2, A2, c2, hgj, rfl, hw2⟩ := hrel
                    by_cases hltj : j < fk.length
                    · obtain ⟨A', c', h1, hik2⟩ := hw2.out.N.row m0
                      rw [HFK.out] at h1 hik2
                      rw [HROW.out] at h1
                      obtain ⟨rfl, rfl⟩ : Ak = A' ∧ ck = c' := by cases h1; exact ⟨rfl, rfl⟩
                      obtain ⟨ad, hAd, _, _, cx⟩ := hik2.at_ hltj
                      subst hAd
                      obtain ⟨x, hx⟩ : ∃ x, fk[j] = x := ⟨_, rfl⟩
                      rw [hx] at cx
                      have hdr : fk.drop j = x :: fk.drop (j + 1) := by rw [← hx]; exact List.drop_eq_getElem_cons hltj
                      have hw3 := hw2.out
                      rw [hdr] at hw3
                      have hxi := hw3.I.nxs x (List.mem_cons_self ..)
                      have hgx := hw3.I.cnt x hxi
                      have q1 := cntF_le l (L.erase m0) x
                      have q2 : (x :: fk.drop (j + 1)).count x ≤ fk.length := by rw [← hdr]; exact Nat.le_trans List.count_le_length (by simp)
                      have q3 : 1 ≤ (x :: fk.drop (j + 1)).count x := by rw [List.count_cons_self]; omega
                      obtain ⟨z, hz1⟩ : ∃ z, g2 x = z + 1 := ⟨g2 x - 1, by omega⟩
                      have p1 : 1 ≤ z := by omega
                      have p2 : z ≤ 2000 := by omega
                      have e1 := run_look kbyint Try.underlying93 zeroN' hw3.M.is x
                      rw [hw3.G.get, if_pos hxi, hz1] at e1
                      obtain ⟨w5, hp5, hm5, hu5⟩ := run_putE kbyint Try.underlying93 hw3.M x (.int .i64 z)
                      have e2 := run_look kbyint Try.underlying93 zeroN' hm5.is x
                      rw [mget_same, Option.getD_some] at e2
                      have b1 : (0 : Int) ≤ (j : Int) := Int.natCast_nonneg _
                      have b2 : (j : Int) < (fk.length : Int) := by omega
                      have hzz : g2 x - 1 = z := by omega
                      rw [← hzz] at hm5
                      have HM5 := Lib.hid hm5
                      have HU5 := Lib.hid hu5
                      have HW3 := Lib.hid hw3
                      have HZZ := Lib.hid hzz
                      have hyl2 : ys2.length ≤ 1000 := by
                        have h1 := hw3.I.heap.length_eq
                        have h2 := List.length_filter_le (fun y => cntF l (L.erase m0) y + (x :: fk.drop (j + 1)).count y == 0) (L.erase m0)
                        have h3 := hw3.Ln
                        have h4 := setK_len ids
                        omega
                      clear hm5 hu5 hw3 hzz hx hdr hgx q1 q2 q3 hz1 hxi h1 hik2 hw2
                      by_cases hz2 : z = 1
                      · subst hz2
                        have h3 := HW3.out
                        have HPU := Lib.hid (HPUSH.out w5 A2 ys2 c2 x (by omega) (Nat.le_trans h3.B HU5.out.size) ⟨h3.H.1.upd HU5.out (by unfold One; have := h3.o2; have := h3.o3; omega), own_upd h3.H.2.1 HU5.out (fun i hi e => by have := (h3.H.2.1.lt i hi).1; have := h3.o2; have := h3.o3; unfold One at e; omega), h3.H.2.2⟩ h3.hp)
                        clear h3
                        go_wp2_with fail
                        refine (HPU.out).mono ?_
                        rintro e w6 ⟨rfl, A6, c6, ys6, p6, f6, H6, g6, u6⟩
                        have HN6 := Lib.hid (HW3.out.more HZZ.out HM5.out HU5.out p6 f6 H6 g6 u6)
                        clear p6 f6 H6 g6 u6
                        go_wp2
                        go_roundg (gk - 1)
                        case measure => omega
                        case rel => exact ⟨j + 1, ys6, _, _, A6, c6, by omega, by go_num, HN6⟩
                      · have HN6 := Lib.hid (HW3.out.less (by rw [HZZ.out]; exact hz2) HM5.out HU5.out)
                        go_wp2
                        go_roundg (gk - 1)
                        case measure => omega
                        case rel => exact ⟨j + 1, ys2, _, _, A2, c2, by omega, by go_num, HN6⟩
                    · obtain rfl : j = fk.length := by omega
                      have hw3 := hw2.out
                      rw [List.drop_length] at hw3
                      have HW3 := Lib.hid hw3
                      have HLL := Lib.hid (show (L.erase m0).length = GK - 1 by have h1 := hw3.Ln; have h2 := hw.out.Ln; rw [List.length_append, List.length_singleton] at h1; omega)
                      have HGK := Lib.hid (show 0 < GK by have h1 := hw3.Ln; have h2 := hw.out.Ln; rw [List.length_append, List.length_singleton] at h1; omega)
                      clear hw3 hw2
                      go_wp2
                      go_roundg (GK - 1)
                      case measure => have := HGK.out; omega
                      case rel => exact ⟨L.erase m0, ys2, out ++ [m0], g2, mA2, A2, c2, some ⟨g9, 0, none⟩, c9, by simp, HLL.out, HW3⟩
            · have hent5 := hent w5 (Upd.refl _ _)
              obtain ⟨x, v⟩ := p
              have hxm : (x, v) ∈ m := hsub.out _ (by simp)
              have hv : v = .int .i64 (1 + ((cntF l ids x : Nat) : Int)) := by
                have h1 := mget_mem HND.out hxm
                rw [HGM.out x] at h1
                simp only at h1
                split at h1
                · exact (Option.some.inj h1).symm
                · cases h1
              obtain ⟨y, hy⟩ : ∃ y : Int, 1 + ((cntF l ids x : Nat) : Int) = y := ⟨_, rfl⟩
              have hoy : oneG l ids x = (y == 1) := by unfold oneG; rw [hy]
              rw [hy] at hv
              subst hv
              simp only at hnx hent5
              have HP := Lib.hid (filter_out hpm.out)
              have HY := Lib.hid hoy
              have HSUB := Lib.hid (show ∀ p ∈ l1 ++ l2, p ∈ m from fun p hp => hsub.out p (by rcases List.mem_append.1 hp with h | h; exact List.mem_append_left _ h; exact List.mem_append_right _ (List.mem_cons_of_mem _ h)))
              have hglen : (l1 ++ l2).length = gk - 1 := by simp at hgk ⊢; omega
              have hgpos : 0 < gk := by simp at hgk; omega
              have hsz5 := hu5.size
              have hh5 : HeapM w5 (hb + 2) hb A5 xs c5 := ⟨hh.out.1.upd hu5 (by unfold One; omega), own_upd hh.out.2.1 hu5 (fun i hi e => by have := (hh.out.2.1.lt i hi).1; unfold One at e; omega), hh.out.2.2⟩
              have HU5 := Lib.hid (hu.then_ hu5 (fun i e => Or.inl (Or.inr e)))
              have HIT5 := Lib.hid hit5
              have HGK := Lib.hid hgk
              clear hpm hoy hy hsub hit5 hu hxm hent hit hgk hu5 hh hs5
              by_cases hy1 : y = 1
              · subst hy1
                have hc := hh5.cell
                have f0 := hh5.1.free 0
                have HH5 := Lib.hid hh5
                have hxl : xs.length ≤ 1000 := by
                  have h1 := HP.out.length_eq
                  have h2 := List.length_filter_le (fun p => oneG l ids p.1) m
                  have h3 : m.length = (addK [] ids).length := by rw [← HK.out, List.length_map]
                  have h4 : (addK [] ids).length = (setK ids).length := ((List.perm_ext_iff_of_nodup (addK_nodup ids [] (by simp)) (rise_nodup (setK_lt ids))).2 fun x => by rw [mem_addK, mem_setK]; simp).length_eq
                  have h5 := setK_len ids
                  simp only [List.length_append, List.length_map, HY.out] at h1
                  simp at h1
                  omega
                clear hh5
                go_wp2_with (at_builtin; refine app1s rfl rfl slt_ready (base := hb + 2) (v := .slice A5 xs.length c5) (n := xs.length) (xs := xs.map (Value.int .i64)) (cells := [.int .i64 x]) (by rfl) (by rfl) HH5.out.2.1 rfl rfl (by omega) (by omega) (by omega) ?_; intro g9 c9 w9 hown9 hu9 hg9 hlt9; have hb9 := HH5.out.1.upd hu9 HH5.out.2.2; have hc9 := hb9.cell 0; have f9 := hb9.free 0; simp only [List.getElem?_cons_zero] at hc9; have HO9 := Lib.hid hown9; have HU9 := Lib.hid hu9; have HG9 := Lib.hid hg9; clear hown9 hu9 hg9 hb9)
                go_roundg (gk - 1)
                case measure => omega
                case rel =>
                  obtain ⟨h1, h2⟩ := HeapM.app HH5.out (by omega) HO9.out HU9.out (grew_of HG9.out)
                  refine ⟨l1 ++ l2, xs ++ [x], _, c9, hglen, ?_, HSUB, Lib.hid (by have := HP.out; simp only [HY.out] at this; simpa using this), Lib.hid h1, ?_⟩
                  · exact Lib.hid (HIT5.out.upd h2 (fun e => by rcases e with e | e; omega; have := (HH5.out.2.1.lt _ e).1; omega) (fun e => by have := HB2.out; have := HBH.out; rcases e with e | e; omega; have := (HH5.out.2.1.lt _ e).1; omega))
                  · exact HU5.out.then_ h2 (fun i e => by rcases e with e | e; exact Or.inl (Or.inl e); exact Or.inr (by have := (HH5.out.2.1.lt _ e).1; have := HSI.out; omega))
              · have HH5 := Lib.hid hh5
                clear hh5
                go_wp2
                go_roundg (gk - 1)
                case measure => omega
                case rel => exact ⟨l1 ++ l2, xs, A5, c5, hglen, HIT5, HSUB, Lib.hid (by have := HP.out; simp only [HY.out] at this; simpa [hy1] using this), HH5, HU5.out⟩
end Go.Proofs.Ytaicemjckagcaaa
