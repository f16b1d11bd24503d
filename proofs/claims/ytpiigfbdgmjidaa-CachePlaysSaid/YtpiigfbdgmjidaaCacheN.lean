/- Caches: the law of the last ones, walked. -/
import Derived.Test.YtpiigfbdgmjidaaProg
import Derived.Test.YtpiigfbdgmjidaaCacheM
import Derived.Test.YtpiigfbdgmjidaaCacheD
import Derived.IntWalk
namespace Go.Proofs.Ytpiigfbdgmjidaa
set_option linter.unusedVariables false
open Go.RowKit

set_option maxRecDepth 100000 in
set_option maxHeartbeats 4000000 in
theorem last34 (w : World) (room : Int) (A : Option Addr) (n c : Nat) (ps : List EntP) (hE : Ents (fun _ => True) w A ps) (hn : n = ps.length) (hc0 : n ≤ c) (hn2 : n ≤ 9223372036854775807)
    (lives : Hid (∀ W, Calls Try.prog 23 #[] W fun e w' => e = .returned (.bool true) ∧ Upd No W w')) :
    Calls Try.prog 7 #[.int .i64 room, .slice A n c] w fun e w' => e = .returned (.bool true) ∧ Upd No w w' := by
  subst hn
  have hE0 : Ents (fun i => i < w.heap.size) w A ps := hE.lt'.weak fun i _ h => h.1
  clear hE
  go_enter Try.func7, Try.ntmps7
  go_wp2_with fail
  refine (lives.out _).mono ?_
  rintro e w1 ⟨rfl, hu1⟩
  go_wp2_with fail
  refine (isnew _ _).mono ?_
  rintro e w2 ⟨g, F0, rfl, hc2, hF2, hu2⟩
  have hF0 : ∀ i, F0 i → w.heap.size ≤ i := fun i hi => Nat.le_trans hu1.size (hF2 i hi)
  have hu12 := hu1.trans hu2
  clear hu1 hu2 hF2
  by_cases h1 : room < 0
  · go_wp2
    go_ret
    exact ⟨rfl, hu12⟩
  by_cases h2 : 100 < room
  · go_wp2
    go_ret
    exact ⟨rfl, hu12⟩
  by_cases h3 : 100 < (ps.length : Int)
  · go_wp2
    go_ret
    exact ⟨rfl, hu12⟩
  obtain ⟨N, rfl⟩ := Int.eq_ofNat_of_zero_le (show 0 ≤ room by omega)
  have hcN : CacheIs w2 F0 g N [] := by
    have := hc2
    rw [show roomOf (N : Int) = (N : Int) by unfold roomOf; omega] at this
    exact this
  have hN100 : (N : Int) ≤ 100 := by omega
  clear hc2
  go_wp2
  go_loopg [37] ps.length (fun gk i wr => ∃ (k : Nat) (Fc : Nat → Prop), k + gk = ps.length ∧ i = .int .i64 k ∧ CacheIs wr Fc g N (puts N ((ps.map (·.e)).take k)) ∧ (∀ i, Fc i → w.heap.size ≤ i) ∧ Upd No w wr)
  case atStart => exact ⟨0, F0, by omega, rfl, by simpa [puts] using hcN, hF0, hu12⟩
  case round =>
    obtain ⟨k, Fc, hgk, rfl, hc, hFw, hu⟩ := hrel
    clear hcN hu12 hF0
    by_cases hlt : k < ps.length
    · have hER := hE0.upd hu (fun _ _ => id)
      obtain ⟨ad, rfl, _, hadl, hcell⟩ := hER.recs.at_ (k := k) (by simpa using hlt)
      obtain ⟨x, hxk⟩ : ∃ x, ps[k] = x := ⟨_, rfl⟩
      have hxw : Walk (fun i => i < w.heap.size) wr x.A x.e.w.walk ∧ short x.e.w.walk.length := by rw [← hxk]; exact hER.walks _ (List.getElem_mem _)
      have e0 := hcell 0 (.int .i64 x.e.l) (by simp [hxk, EntP.cells])
      have e1 := hcell 1 (.int .i64 x.e.p) (by simp [hxk, EntP.cells])
      have e2 := hcell 2 (.int .i64 x.e.w.phen) (by simp [hxk, EntP.cells])
      have e3 := hcell 3 (.slice x.A x.e.w.walk.length x.c) (by simp [hxk, EntP.cells])
      have e4 := hcell 4 (.int .i64 x.e.w.r0) (by simp [hxk, EntP.cells])
      have e5 := hcell 5 (.int .i64 x.e.w.r1) (by simp [hxk, EntP.cells])
      have e6 := hcell 6 (.int .i64 x.e.w.r2) (by simp [hxk, EntP.cells])
      have e7 := hcell 7 (.int .i64 x.e.w.r3) (by simp [hxk, EntP.cells])
      have e8 := hcell 8 (.int .i64 x.e.w.r4) (by simp [hxk, EntP.cells])
      have e9 := hcell 9 (.bool x.e.has) (by simp [hxk, EntP.cells])
      simp only [if_true, if_neg (show ¬ (1 = 0) by omega), if_neg (show ¬ (2 = 0) by omega), if_neg (show ¬ (3 = 0) by omega), if_neg (show ¬ (4 = 0) by omega), if_neg (show ¬ (5 = 0) by omega), if_neg (show ¬ (6 = 0) by omega), if_neg (show ¬ (7 = 0) by omega), if_neg (show ¬ (8 = 0) by omega), if_neg (show ¬ (9 = 0) by omega)] at e0 e1 e2 e3 e4 e5 e6 e7 e8 e9
      clear hcell
      have uA := (Upd.refl No wr).alloc (.cells x.cells.toArray 49)
      have bx := Blk.new wr 49 x.cells
      have hcA := hc.upd uA (fun _ _ => id)
      have hxA := Recs.upd hxw.1 uA (fun _ _ => id)
      have huA := hu.trans uA
      have hstep := puts_snoc N ((ps.map (·.e)).take k) x.e
      rw [show (ps.map (·.e)).take k ++ [x.e] = (ps.map (·.e)).take (k + 1) by
        rw [List.take_succ_eq_append_getElem (by simpa using hlt), List.getElem_map, hxk]] at hstep
      have Hs := Lib.hid hstep
      have hpl := puts_len N ((ps.map (·.e)).take k)
      have x0 := bx.cell 0
      have x1 := bx.cell 1
      have x2 := bx.cell 2
      have x3 := bx.cell 3
      have x4 := bx.cell 4
      have x5 := bx.cell 5
      have x6 := bx.cell 6
      have x7 := bx.cell 7
      have x8 := bx.cell 8
      have x9 := bx.cell 9
      simp only [EntP.cells, List.getElem?_cons_zero, List.getElem?_cons_succ] at x0 x1 x2 x3 x4 x5 x6 x7 x8 x9
      clear hstep hxk hE0 hER bx uA hc
      go_wp2_with fail
      refine (isput _ Fc g N _ hcA (fun i => i < w.heap.size) x.A x.c x.e hxA hxw.2 (by omega) (by omega) (fun i hi e => by have := hFw i e; omega)).mono ?_
      rintro e w3 ⟨rfl, F3, hc3, hF3, hu3⟩
      have hsz := huA.size
      go_wp2
      go_roundg (gk - 1)
      case measure => omega
      case rel =>
        refine ⟨k + 1, F3, by omega, by go_num, by rw [Hs.out]; exact hc3, fun i hi => ?_, huA.then_ hu3 (fun i e => .inr (hFw i e))⟩
        rcases hF3 i hi with h | h
        · exact hFw i h
        · omega
    · obtain rfl : k = ps.length := by omega
      have hcP : CacheIs wr Fc g N (puts N (ps.map (·.e))) := by
        have := hc
        rwa [List.take_of_length_le (by simp)] at this
      clear hc
      have hpe := puts_eq N (ps.map (·.e))
      obtain ⟨R, hR⟩ : ∃ R, R = (ps.map (·.e)).reverse := ⟨_, rfl⟩
      rw [← hR] at hpe
      have hRk : ∀ k (h0 : k < ps.length) (h : k < R.length), R[k] = (ps[ps.length - 1 - k]'(by omega)).e := fun k h0 h => by simp [hR]
      have hRl : R.length = ps.length := by rw [hR, List.length_reverse, List.length_map]
      have hRt : ∀ k, k ≤ ps.length → ∀ y : Int × Int, y ∈ (R.take k).map Ent.key ↔ y ∈ (ps.drop (ps.length - k)).map (·.e.key) := fun k hk y => by
        rw [hR, List.take_reverse, List.length_map, List.map_reverse, List.mem_reverse, ← List.map_drop, List.map_map]
        rfl
      have HRk := Lib.hid hRk
      have HRt := Lib.hid hRt
      have HRl := Lib.hid hRl
      have HP := Lib.hid (show (puts N (ps.map (·.e))).Perm ((firsts R).take N) by rw [hpe]; exact List.reverse_perm _)
      clear hpe hR hRk hRt hRl
      go_wp2
      go_loopg [8, 54] ps.length (fun gk nn i wq => ∃ (k : Nat) (Fc : Nat → Prop) (es : List Ent), k + gk = ps.length ∧ i = .int .i64 k ∧ nn = .int .i64 ((firsts (R.take k)).length : Nat) ∧ CacheIs wq Fc g N es ∧ Hid (es.Perm ((firsts R).take N)) ∧ (∀ i, Fc i → w.heap.size ≤ i) ∧ Upd No w wq)
      case atStart => exact ⟨0, Fc, _, by omega, rfl, rfl, hcP, HP, hFw, hu⟩
      case round =>
        obtain ⟨k, Fc, es, hgk, rfl, rfl, hc, hP, hFw, hu⟩ := hrel
        clear hcP
        by_cases hlt : k < ps.length
        · have hER := hE0.upd hu (fun _ _ => id)
          have hj : ps.length - 1 - k < ps.length := by omega
          obtain ⟨ad, hAd, _, hadl, hcell⟩ := hER.recs.at_ (k := ps.length - 1 - k) (by simpa using hj)
          subst hAd
          obtain ⟨x, hxk⟩ : ∃ x, ps[ps.length - 1 - k] = x := ⟨_, rfl⟩
          have hxw : Walk (fun i => i < w.heap.size) wr x.A x.e.w.walk ∧ short x.e.w.walk.length := by rw [← hxk]; exact hER.walks _ (List.getElem_mem _)
          have HX := Lib.hid (show ∀ h : k < R.length, R[k] = x.e from fun h => by rw [HRk.out k hlt h, hxk])
          have e0 := hcell 0 (.int .i64 x.e.l) (by simp [hxk, EntP.cells])
          have e1 := hcell 1 (.int .i64 x.e.p) (by simp [hxk, EntP.cells])
          have e2 := hcell 2 (.int .i64 x.e.w.phen) (by simp [hxk, EntP.cells])
          have e3 := hcell 3 (.slice x.A x.e.w.walk.length x.c) (by simp [hxk, EntP.cells])
          have e4 := hcell 4 (.int .i64 x.e.w.r0) (by simp [hxk, EntP.cells])
          have e5 := hcell 5 (.int .i64 x.e.w.r1) (by simp [hxk, EntP.cells])
          have e6 := hcell 6 (.int .i64 x.e.w.r2) (by simp [hxk, EntP.cells])
          have e7 := hcell 7 (.int .i64 x.e.w.r3) (by simp [hxk, EntP.cells])
          have e8 := hcell 8 (.int .i64 x.e.w.r4) (by simp [hxk, EntP.cells])
          have e9 := hcell 9 (.bool x.e.has) (by simp [hxk, EntP.cells])
          simp only [if_true, if_neg (show ¬ (1 = 0) by omega), if_neg (show ¬ (2 = 0) by omega), if_neg (show ¬ (3 = 0) by omega), if_neg (show ¬ (4 = 0) by omega), if_neg (show ¬ (5 = 0) by omega), if_neg (show ¬ (6 = 0) by omega), if_neg (show ¬ (7 = 0) by omega), if_neg (show ¬ (8 = 0) by omega), if_neg (show ¬ (9 = 0) by omega)] at e0 e1 e2 e3 e4 e5 e6 e7 e8 e9
          clear hcell
          clear hxk hER
          have uA := (Upd.refl No wr).alloc (.cells x.cells.toArray 49)
          have bx := Blk.new wr 49 x.cells
          have hcA := hc.upd uA (fun _ _ => id)
          have hxA := Recs.upd hxw.1 uA (fun _ _ => id)
          have huA := hu.trans uA
          have hFlt := hc.lt
          obtain ⟨qs, hqs⟩ : ∃ qs, qs = ps.drop (ps.length - k) := ⟨_, rfl⟩
          have hql : qs.length = k := by rw [hqs, List.length_drop]; omega
          have hkI : (k : Int) < (ps.length : Int) := by omega
          have hkI0 : (0 : Int) ≤ (k : Int) := Int.natCast_nonneg _
          have hcut : ∀ W, (Instr.slice 40 (.slice (some ad) ps.length c) (some (.int .i64 ((ps.length : Int) - (k : Int)))) none none).run Try.prog W = .ok (.slice (cutA (some ad) c (ps.length - k) 10) qs.length (c - (ps.length - k))) W := fun W => by
            have := run_cut_l W slt_ent (some ad) ps.length c (ps.length - k) (by omega)
            rw [show ((ps.length - k : Nat) : Int) = (ps.length : Int) - (k : Int) by omega, show ps.length - (ps.length - k) = qs.length by omega] at this
            exact this
          have hwr : IntKind.i64.wrap ((ps.length : Int) - (k : Int)) = (ps.length : Int) - (k : Int) := IntWalk.i64_in _ (by omega)
          have hsub0 : (0 : Int) ≤ (ps.length : Int) - (k : Int) := by omega
          have HQ : Hid (∀ W, Upd No w W → Ents (fun i => i < w.heap.size) W (cutA (some ad) c (ps.length - k) 10) qs) := Lib.hid fun W hu => by
            rw [hqs]
            exact (hE0.cut hc0).upd hu (fun _ _ => id)
          have Hql := Lib.hid hql
          have hmem : (x.e.key ∈ (R.take k).map Ent.key) ↔ x.e.key ∈ qs.map (·.e.key) := by rw [hqs]; exact HRt.out k (by omega) _
          have hkR : k < R.length := by rw [HRl.out]; exact hlt
          have hql2 : qs.length ≤ 1000000 := by omega
          clear hqs hql hc uA
          have x0 := bx.cell 0
          have x1 := bx.cell 1
          have x2 := bx.cell 2
          have x3 := bx.cell 3
          have x4 := bx.cell 4
          have x5 := bx.cell 5
          have x6 := bx.cell 6
          have x7 := bx.cell 7
          have x8 := bx.cell 8
          have x9 := bx.cell 9
          simp only [EntP.cells, List.getElem?_cons_zero, List.getElem?_cons_succ] at x0 x1 x2 x3 x4 x5 x6 x7 x8 x9
          have bx' := bx
          simp only [EntP.cells] at hcA hxA huA bx
          by_cases hold : x.e.key ∈ (R.take k).map Ent.key
          · have hfo : ∃ m : Nat, findI (qs.map (·.e.key)) x.e.key = (m : Int) := ⟨_, if_pos (hmem.1 hold)⟩
            obtain ⟨m, hf⟩ := hfo
            have HN := Lib.hid (firsts_old hkR (by rw [HX.out hkR]; exact hold))
            have hm0 : (0 : Int) ≤ (m : Int) := Int.natCast_nonneg _
            clear hold hmem
            go_wp2
            go_region_held3 (fun w' => w'.cell? ⟨wr.heap.size, 0, none⟩ = some (.int .i64 x.e.l) ∧ w'.cell? ⟨wr.heap.size, 1, none⟩ = some (.int .i64 x.e.p))
              (first | exact ⟨x0, x1⟩ | (go_split_ands; refine ⟨?_, ?_⟩ <;> first | with_reducible assumption | (with_reducible exact hu4.keepNo (by with_reducible assumption)) | go_keep))
              ((go_at_call 27; refine (rfind _ (fun i => i < w.heap.size) _ _ qs x.e.l x.e.p (HQ.out _ (by with_reducible (repeat (first | exact huA | apply Upd.alloc | apply Upd.drew | apply Upd.drewN)))) hql2).mono ?_; rintro e w4 ⟨he, hu4⟩; replace he : e = .returned (.int .i64 (findI (qs.map (·.e.key)) x.e.key)) := he; rw [hf] at he; subst he))
            go_wp2
            go_roundg (gk - 1)
            case measure => omega
            case rel => exact ⟨k + 1, Fc, es, by omega, by go_num, by rw [HN.out], hcA.upd hu4.of_drew (fun _ _ => id), hP, hFw, huA.trans hu4.of_drew⟩
          · have hf := findI_no (fun h => hold (hmem.2 h))
            have hnew := firsts_new hkR (by rw [HX.out hkR]; exact hold)
            rw [HX.out hkR] at hnew
            obtain ⟨hn1, hn2⟩ := hnew
            have HN := Lib.hid hn2
            clear hold hmem hn2
            go_wp2
            go_region_held3 (fun w' => w'.cell? ⟨wr.heap.size, 0, none⟩ = some (.int .i64 x.e.l) ∧ w'.cell? ⟨wr.heap.size, 1, none⟩ = some (.int .i64 x.e.p))
              (first | exact ⟨x0, x1⟩ | (go_split_ands; refine ⟨?_, ?_⟩ <;> first | with_reducible assumption | (with_reducible exact hu4.keepNo (by with_reducible assumption)) | go_keep))
              ((go_at_call 27; refine (rfind _ (fun i => i < w.heap.size) _ _ qs x.e.l x.e.p (HQ.out _ (by with_reducible (repeat (first | exact huA | apply Upd.alloc | apply Upd.drew | apply Upd.drewN)))) hql2).mono ?_; rintro e w4 ⟨he, hu4⟩; replace he : e = .returned (.int .i64 (findI (qs.map (·.e.key)) x.e.key)) := he; rw [hf] at he; subst he))
            have bx4 := bx.upd hu4.of_drew id
            have hc4 := hcA.upd hu4.of_drew (fun _ _ => id)
            have hx4 := Recs.upd hxA hu4.of_drew (fun _ _ => id)
            have hU4 := huA.trans hu4.of_drew
            clear x0 x1 x2 x3 x4 x5 x6 x7 x8 x9 bx bx' hcA hxA huA hu4 hf
            obtain ⟨nn, hnn⟩ : ∃ nn, nn = (firsts (R.take k)).length := ⟨_, rfl⟩
            have hnk : nn ≤ k := by rw [hnn]; exact Nat.le_trans (firsts_len _) (by rw [List.length_take]; omega)
            have hnkI : (nn : Int) ≤ 100 := by omega
            rw [← hnn] at hn1 HN
            simp only [← hnn]
            clear hnn
            have bx := bx4
            have x0 := bx.cell 0
            have x1 := bx.cell 1
            have x2 := bx.cell 2
            have x3 := bx.cell 3
            have x4 := bx.cell 4
            have x5 := bx.cell 5
            have x6 := bx.cell 6
            have x7 := bx.cell 7
            have x8 := bx.cell 8
            have x9 := bx.cell 9
            simp only [EntP.cells, List.getElem?_cons_zero, List.getElem?_cons_succ] at x0 x1 x2 x3 x4 x5 x6 x7 x8 x9
            have hEnd := firsts_nodup R
            by_cases hN : nn < N
            · have hxE := hP.out.mem_iff.2 (take_mem hn1 hN)
              obtain ⟨as_, bs, hsp⟩ := List.append_of_mem hxE
              have hc5 := hc4
              rw [hsp] at hc5
              have hP2 : Hid ((as_ ++ bs ++ [x.e]).Perm ((firsts R).take N)) := by
                have := hP.out
                rw [hsp] at this
                exact Lib.hid (((List.perm_append_singleton x.e (as_ ++ bs)).trans List.perm_middle.symm).trans this)
              have hNI : (nn : Int) < (N : Int) := by omega
              clear hxE hsp hc4 hN hn1 hEnd
              go_wp2_with fail
              refine (isget _ Fc g N as_ bs x.e hc5).mono ?_
              rintro e w5 ⟨A5, c5, he, hw5, hs5, hc6, hu5⟩
              replace he : e = .returned (.tuple #[.agg #[.int .i64 x.e.w.phen, .slice A5 x.e.w.walk.length c5, .int .i64 x.e.w.r0, .int .i64 x.e.w.r1, .int .i64 x.e.w.r2, .int .i64 x.e.w.r3, .int .i64 x.e.w.r4], .bool x.e.has, .bool true]) := he
              subst he
              have u9 := (Upd.refl No w5).alloc (.cells [.int .i64 x.e.w.phen, .slice A5 x.e.w.walk.length c5, .int .i64 x.e.w.r0, .int .i64 x.e.w.r1, .int .i64 x.e.w.r2, .int .i64 x.e.w.r3, .int .i64 x.e.w.r4].toArray 47)
              have b9 := Blk.new w5 47 [.int .i64 x.e.w.phen, .slice A5 x.e.w.walk.length c5, .int .i64 x.e.w.r0, .int .i64 x.e.w.r1, .int .i64 x.e.w.r2, .int .i64 x.e.w.r3, .int .i64 x.e.w.r4]
              have hw9 : Walk (fun _ => True) _ A5 x.e.w.walk := Recs.weak (Recs.upd hw5 u9 (fun _ _ => id)) (fun _ _ _ => trivial)
              have hx9 : Walk (fun _ => True) _ x.A x.e.w.walk := Recs.weak (Recs.upd (Recs.upd hx4 hu5 (fun i hi e => by have := hFw i e; omega)) u9 (fun _ _ => id)) (fun _ _ _ => trivial)
              have bx5 := (bx.upd hu5 (fun e => by have := hFlt _ e; omega)).upd u9 id
              have hc9 := hc6.upd u9 (fun _ _ => id)
              have hU9 := (hU4.then_ hu5 (fun i e => .inr (hFw i e))).trans u9
              clear x0 x1 x2 x3 x4 x5 x6 x7 x8 x9 bx bx4 hc5 hw5 hc6 hu5 hx4 hU4 u9
              have bx := bx5
              clear bx5
              have x0 := bx.cell 0
              have x1 := bx.cell 1
              have x2 := bx.cell 2
              have x3 := bx.cell 3
              have x4 := bx.cell 4
              have x5 := bx.cell 5
              have x6 := bx.cell 6
              have x7 := bx.cell 7
              have x8 := bx.cell 8
              have x9 := bx.cell 9
              simp only [EntP.cells, List.getElem?_cons_zero, List.getElem?_cons_succ] at x0 x1 x2 x3 x4 x5 x6 x7 x8 x9
              have q0 := b9.cell 0
              have q1 := b9.cell 1
              have q2 := b9.cell 2
              have q3 := b9.cell 3
              have q4 := b9.cell 4
              have q5 := b9.cell 5
              have q6 := b9.cell 6
              simp only [List.getElem?_cons_zero, List.getElem?_cons_succ] at q0 q1 q2 q3 q4 q5 q6
              have hbb : (x.e.has != x.e.has) = false := by simp
              go_wp2_with fail
              refine (wsame _ (fun _ => True) (fun _ => True) A5 x.A c5 x.c x.e.w x.e.w hw9 hx9 hs5 hs5).mono ?_
              rintro e w6 ⟨he, hu6⟩
              rw [beq_self_eq_true] at he
              subst he
              go_wp2
              go_roundg (gk - 1)
              case measure => omega
              case rel => exact ⟨k + 1, Fc, as_ ++ bs ++ [x.e], by omega, by go_num, by rw [HN.out]; go_num, hc9.upd hu6 (fun _ _ => id), hP2, hFw, hU9.trans hu6⟩
            · have hno : x.e.key ∉ es.map Ent.key := fun h => take_not hEnd hn1 (by omega) ((hP.out.map _).mem_iff.1 h)
              have hNd : decide ((nn : Int) < (N : Int)) = false := decide_eq_false (by omega)
              have hNd2 : decide (nn < N) = false := decide_eq_false (by omega)
              clear hN hn1 hEnd
              go_wp2_with fail
              refine (isget_no _ Fc g N es hc4 x.e.l x.e.p hno).mono ?_
              rintro e w5 ⟨rfl, hu5⟩
              have hc9 := (hc4.upd hu5 (fun _ _ => id)).upd ((Upd.refl No w5).alloc (.cells W0.toArray 47)) (fun _ _ => id)
              have hU9 := (hU4.trans hu5).alloc (.cells W0.toArray 47)
              clear x0 x1 x2 x3 x4 x5 x6 x7 x8 x9 bx bx4 hc4 hx4 hU4 hno hu5
              go_wp2
              go_roundg (gk - 1)
              case measure => omega
              case rel => exact ⟨k + 1, Fc, es, by omega, by go_num, by rw [HN.out]; go_num, hc9, hP, hFw, hU9⟩
        · obtain rfl : k = ps.length := by omega
          have hel := hP.out.length_eq
          rw [List.length_take] at hel
          have hR2 : R.take ps.length = R := List.take_of_length_le (by rw [HRl.out]; exact Nat.le_refl _)
          rw [hR2]
          clear hR2
          generalize (firsts R).length = nn at *
          by_cases hle : nn ≤ N
          · have hEq : es.length = nn := by omega
            have HE := Lib.hid hEq
            clear hEq hel
            go_wp2_with fail
            refine (islen _ Fc g N es hc).mono ?_
            rintro e w7 ⟨he, rfl⟩
            rw [HE.out] at he
            subst he
            go_wp2
            all_goals
              go_ret
              refine ⟨?_, hu⟩
              first | rfl | (congr 2; simp; omega)
          · have hEq : es.length = N := by omega
            have HE := Lib.hid hEq
            clear hEq hel
            go_wp2_with fail
            refine (islen _ Fc g N es hc).mono ?_
            rintro e w7 ⟨he, rfl⟩
            rw [HE.out] at he
            subst he
            go_wp2
            all_goals
              go_ret
              refine ⟨?_, hu⟩
              first | rfl | (congr 2; simp; omega)
end Go.Proofs.Ytpiigfbdgmjidaa
