/- Caches: the law that they tell what the document says, walked. -/
import Derived.Test.YtpiigfbdgmjidaaProg
import Derived.Test.YtpiigfbdgmjidaaCacheH
import Derived.Test.YtpiigfbdgmjidaaCacheD
import Derived.Test.YtpiigfbdgmjidaaCacheJ
namespace Go.Proofs.Ytpiigfbdgmjidaa
set_option linter.unusedVariables false
open Go.RowKit

/-- a deed as it lies -/
structure CDeed where
  kind : Int
  p : EntP
def CDeed.cells (d : CDeed) : List Value :=
  [.int .i64 d.kind, .int .i64 d.p.e.l, .int .i64 d.p.e.p, .int .i64 d.p.e.w.phen, .slice d.p.A d.p.e.w.walk.length d.p.c, .int .i64 d.p.e.w.r0, .int .i64 d.p.e.w.r1, .int .i64 d.p.e.w.r2, .int .i64 d.p.e.w.r3, .int .i64 d.p.e.w.r4, .bool d.p.e.has]
theorem putE_len {N : Int} {es : List Ent} {x : Ent} (h0 : 0 ≤ N) (hl : (es.length : Int) ≤ N) : ((putE N es x).length : Int) ≤ N ∧ (putE N es x).length ≤ es.length + 1 := by
  have hf := List.length_filter_le (fun y : Ent => decide (y.key ≠ x.key)) es
  unfold putE
  split
  · simp; omega
  · split
    · rw [List.length_append, List.length_drop]
      simp only [List.length_cons, List.length_nil]
      omega
    · rw [List.length_append]
      simp only [List.length_cons, List.length_nil]
      omega
theorem filter_both (es : List Ent) (a : Int) : (es.filter fun x => x.l = a).length + (es.filter fun x => x.l ≠ a).length = es.length := by
  induction es with
  | nil => rfl
  | cons x es ih =>
    by_cases h : x.l = a
    · simp [List.filter_cons, h] at ih ⊢; omega
    · simp [List.filter_cons, h] at ih ⊢; omega
theorem roomOf_le (n : Int) : 0 ≤ roomOf n ∧ roomOf n ≤ 65536 := by unfold roomOf; omega

set_option maxRecDepth 100000 in
set_option maxHeartbeats 4000000 in
theorem plays34 (w : World) (room : Int) (A : Option Addr) (n c : Nat) (ds : List CDeed) (hd : Recs (fun _ => True) w A 11 (ds.map CDeed.cells)) (hw : ∀ d ∈ ds, Walk (fun _ => True) w d.p.A d.p.e.w.walk ∧ short d.p.e.w.walk.length) (hn : n = ds.length) (hn2 : n ≤ 9223372036854775807)
    (lives : Hid (∀ W, Calls Try.prog 23 #[] W fun e w' => e = .returned (.bool true) ∧ Upd No W w')) :
    Calls Try.prog 6 #[.int .i64 room, .slice A n c] w fun e w' => e = .returned (.bool true) ∧ Upd No w w' := by
  have hd' := hd.lt
  subst hn
  obtain ⟨hN0, hN1⟩ := roomOf_le room
  go_enter Try.func6, Try.ntmps6
  go_wp2_with fail
  refine (isnew _ _).mono ?_
  rintro e w1 ⟨g, F0, rfl, hc1, hF1, hu1⟩
  by_cases hlen : 60 < (ds.length : Int)
  · go_wp2_with fail
    refine (lives.out _).mono ?_
    rintro e w3 ⟨rfl, hu3⟩
    go_wp2
    go_ret
    exact ⟨rfl, hu1.trans hu3⟩
  · obtain ⟨N, hN⟩ : ∃ N, N = roomOf room := ⟨_, rfl⟩
    rw [← hN] at hN0 hN1 hc1
    have HN := Lib.hid hN
    clear hN
    go_wp2
    go_loopg [6, 33] ds.length (fun gk q i wr => ∃ (k : Nat) (Fc : Nat → Prop) (A' : Option Addr) (c' : Nat) (ps : List EntP), k + gk = ds.length ∧ i = .int .i64 k ∧ q = .slice A' ps.length c' ∧ CacheIs wr Fc g N (ps.map (·.e)) ∧ Ents (fun i => ¬ Fc i) wr A' ps ∧
      (∀ i, Fc i → w.heap.size ≤ i) ∧ ps.length ≤ k ∧ (ps.length : Int) ≤ N ∧ ps.length ≤ c' ∧ Upd No w wr)
    case atStart => exact ⟨0, F0, none, 0, [], by omega, rfl, rfl, hc1, Ents.nil_, hF1, by simp, by simpa using hN0, by simp, hu1⟩
    case round =>
      obtain ⟨k, Fc, A', c', ps, hgk, rfl, rfl, hc, hE, hFw, hlk, hlN, hlc, hu⟩ := hrel
      clear hc1
      by_cases hlt : k < ds.length
      · obtain ⟨ad, rfl, _, hadl, hcell⟩ := (hd'.upd hu (fun _ _ => id)).at_ (k := k) (by simpa using hlt)
        obtain ⟨d, hdk⟩ : ∃ d, ds[k] = d := ⟨_, rfl⟩
        obtain ⟨hx0, hxs⟩ := hw _ (List.getElem_mem hlt)
        rw [hdk] at hx0 hxs
        have e0 := hcell 0 (.int .i64 d.kind) (by simp [hdk, CDeed.cells])
        have e1 := hcell 1 (.int .i64 d.p.e.l) (by simp [hdk, CDeed.cells])
        have e2 := hcell 2 (.int .i64 d.p.e.p) (by simp [hdk, CDeed.cells])
        have e3 := hcell 3 (.int .i64 d.p.e.w.phen) (by simp [hdk, CDeed.cells])
        have e4 := hcell 4 (.slice d.p.A d.p.e.w.walk.length d.p.c) (by simp [hdk, CDeed.cells])
        have e5 := hcell 5 (.int .i64 d.p.e.w.r0) (by simp [hdk, CDeed.cells])
        have e6 := hcell 6 (.int .i64 d.p.e.w.r1) (by simp [hdk, CDeed.cells])
        have e7 := hcell 7 (.int .i64 d.p.e.w.r2) (by simp [hdk, CDeed.cells])
        have e8 := hcell 8 (.int .i64 d.p.e.w.r3) (by simp [hdk, CDeed.cells])
        have e9 := hcell 9 (.int .i64 d.p.e.w.r4) (by simp [hdk, CDeed.cells])
        have e10 := hcell 10 (.bool d.p.e.has) (by simp [hdk, CDeed.cells])
        simp only [if_true, if_neg (show ¬ (1 = 0) by omega), if_neg (show ¬ (2 = 0) by omega), if_neg (show ¬ (3 = 0) by omega), if_neg (show ¬ (4 = 0) by omega), if_neg (show ¬ (5 = 0) by omega), if_neg (show ¬ (6 = 0) by omega), if_neg (show ¬ (7 = 0) by omega), if_neg (show ¬ (8 = 0) by omega), if_neg (show ¬ (9 = 0) by omega), if_neg (show ¬ (10 = 0) by omega)] at e0 e1 e2 e3 e4 e5 e6 e7 e8 e9 e10
        clear hcell
        have bD := Blk.new wr 51 d.cells
        have uA := (Upd.refl No wr).alloc (.cells d.cells.toArray 51)
        have hFlt := hc.lt
        have hsz := hu.size
        have hcA := hc.upd uA (fun _ _ => id)
        have hEA := hE.upd uA (fun _ _ => id)
        have huA := hu.trans uA
        have hxA : Walk (fun i => i < w.heap.size) (wr.alloc (.cells d.cells.toArray 51)) d.p.A d.p.e.w.walk := Recs.upd hx0.lt huA (fun _ _ => id)
        clear hdk hd' hd hx0 hc hE uA
        have d0 := bD.cell 0
        have d1 := bD.cell 1
        have d2 := bD.cell 2
        have d3 := bD.cell 3
        have d4 := bD.cell 4
        have d5 := bD.cell 5
        have d6 := bD.cell 6
        have d7 := bD.cell 7
        have d8 := bD.cell 8
        have d9 := bD.cell 9
        have d10 := bD.cell 10
        simp only [CDeed.cells, List.getElem?_cons_zero, List.getElem?_cons_succ] at d0 d1 d2 d3 d4 d5 d6 d7 d8 d9 d10
        simp only [CDeed.cells] at hcA hEA huA hxA bD
        by_cases hwl : (20 : Int) < (d.p.e.w.walk.length : Int)
        · go_wp2_with fail
          refine (lives.out _).mono ?_
          rintro e w3 ⟨rfl, hu3⟩
          go_wp2
          go_ret
          exact ⟨rfl, huA.trans hu3⟩
        · by_cases hk0 : d.kind = 0
          · have hb0 : (d.kind == 0) = true := by rw [beq_iff_eq]; exact hk0
            clear hk0
            as_aux_lemma =>
              go_wp2_with fail
              refine (isput _ Fc g N _ hcA (fun i => i < w.heap.size) d.p.A d.p.c d.p.e hxA hxs hN0 (by rw [List.length_map]; exact hlN) (fun i hi e => by have := hFw i e; omega)).mono ?_
              rintro e w3 ⟨rfl, F3, hc3, hF3, hu3⟩
              have bD3 := bD.upd hu3 (fun e => by have := hFlt _ e; omega)
              clear d0 d1 d2 d3 d4 d5 d6 d7 d8 d9 d10
              replace bD := bD3
              clear bD3
              have d0 := bD.cell 0
              have d1 := bD.cell 1
              have d2 := bD.cell 2
              have d3 := bD.cell 3
              have d4 := bD.cell 4
              have d5 := bD.cell 5
              have d6 := bD.cell 6
              have d7 := bD.cell 7
              have d8 := bD.cell 8
              have d9 := bD.cell 9
              have d10 := bD.cell 10
              simp only [CDeed.cells, List.getElem?_cons_zero, List.getElem?_cons_succ] at d0 d1 d2 d3 d4 d5 d6 d7 d8 d9 d10
              have hFT : ∀ i, F3 i → w.heap.size ≤ i := fun i hi => by
                rcases hF3 i hi with h | h
                · exact hFw i h
                · simp only [World.size_alloc] at h; omega
              have hE3 : Ents (fun i => ¬ F3 i) w3 A' ps := ((hEA.lt').upd hu3 (fun i hi e => hi.2 e)).weak (fun i _ hi e => by
                rcases hF3 i e with h | h
                · exact hi.2 h
                · have := hi.1; omega)
              have hx3 : Walk (fun i => ¬ F3 i) w3 d.p.A d.p.e.w.walk := Recs.weak (Recs.upd hxA hu3 (fun i hi e => by have := hFw i e; omega)) (fun i _ hi e => by have := hFT i e; omega)
              have hkn : (ps.map (·.e.key)).Nodup := by
                have := hcA.keys
                rwa [List.map_map] at this
              go_wp2_with fail
              refine (rput w3 (fun i => ¬ F3 i) A' c' ps d.p room hE3 ⟨hx3, hxs⟩ (by omega) hlc hkn (by rw [← HN.out]; exact hlN)).mono ?_
              rintro e w4 ⟨A4, c4, qs, rfl, hqs, ho4, hw4, hu4⟩
              replace hqs : qs.map (·.e) = putE (roomOf room) (ps.map (·.e)) d.p.e := hqs
              rw [← HN.out] at hqs
              have hlp := putE_len (x := d.p.e) hN0 (show (((ps.map (·.e)).length : Nat) : Int) ≤ N by rw [List.length_map]; exact hlN)
              rw [← hqs, List.length_map, List.length_map] at hlp
              have hcT : CacheIs w4 F3 g N (qs.map (·.e)) := by rw [hqs]; exact hc3.upd hu4 (fun _ _ => id)
              have hET : Ents (fun i => ¬ F3 i) w4 A4 qs := ents_new ho4 hw4 (fun i h1 h2 e => by have := hc3.lt i e; omega) (fun i _ h => h)
              have hcapT := own_cap ho4
              have huT : Upd No w w4 := (huA.then_ hu3 (fun i e => .inr (hFw i e))).trans hu4
              have hlkT : qs.length ≤ k + 1 := by omega
              have hlNT : (qs.length : Int) ≤ N := hlp.1
              clear hcA hEA huA hxA hc3 hF3 hu3 hE3 hx3 hkn hqs hlp ho4 hw4 hu4 d0 d1 d2 d3 d4 d5 d6 d7 d8 d9 d10 bD
              by_cases hpos : 0 < qs.length
              · obtain ⟨x, rest, hq⟩ : ∃ x rest, qs = x :: rest := by
                  cases hh : qs with
                  | nil => rw [hh] at hpos; simp at hpos
                  | cons a b => exact ⟨a, b, rfl⟩
                have hposI : (0 : Int) < (qs.length : Int) := by omega
                have hposI0 : (0 : Int) ≤ (qs.length : Int) := by omega
                have hx0 : qs[0] = x := by simp [hq]
                obtain ⟨aq, hAq, _, haql, hcq⟩ := hET.recs.at_ (k := 0) (by rw [List.length_map]; exact hpos)
                have f0 := hcq 0 (.int .i64 x.e.l) (by simp [hx0, EntP.cells])
                have f1 := hcq 1 (.int .i64 x.e.p) (by simp [hx0, EntP.cells])
                simp only [if_true, if_neg (show ¬ (1 = 0) by omega), Nat.zero_mul, Addr.add] at f0 f1
                have hcx : CacheIs w4 F3 g N (x.e :: rest.map (·.e)) := by
                  have := hcT
                  rw [hq] at this
                  exact this
                have Hq := Lib.hid hq
                clear hcq hq hx0
                subst hAq
                go_wp2_with fail
                refine (isoldest _ F3 g N x.e (rest.map (·.e)) hcx).mono ?_
                rintro e w7 ⟨rfl, hu7⟩
                have g0 := hu7.keepNo f0
                have g1 := hu7.keepNo f1
                go_wp2_with fail
                refine (islen _ F3 g N (qs.map (·.e)) (hcT.upd hu7 (fun _ _ => id))).mono ?_
                rintro e w8 ⟨he, rfl⟩
                rw [List.length_map] at he
                subst he
                go_wp2
                go_roundg (gk - 1)
                case measure => omega
                case rel => exact ⟨k + 1, F3, some aq, c4, qs, by omega, by go_num, rfl, hcT.upd hu7 (fun _ _ => id), hET.upd hu7 (fun _ _ => id), hFT, hlkT, hlNT, hcapT, huT.trans hu7⟩
              · have hq : qs = [] := List.eq_nil_of_length_eq_zero (by omega)
                have hnl : decide ((0 : Int) < (qs.length : Int)) = false := decide_eq_false (by omega)
                have hcx : CacheIs w4 F3 g N [] := by
                  have := hcT
                  rw [hq] at this
                  exact this
                have Hq := Lib.hid hq
                clear hq
                go_wp2_with fail
                refine (isoldest_none _ F3 g N hcx).mono ?_
                rintro e w7 ⟨rfl, rfl⟩
                go_wp2_with fail
                refine (islen _ F3 g N (qs.map (·.e)) hcT).mono ?_
                rintro e w8 ⟨he, rfl⟩
                rw [List.length_map] at he
                subst he
                go_wp2
                go_roundg (gk - 1)
                case measure => omega
                case rel => exact ⟨k + 1, F3, A4, c4, qs, by omega, by go_num, rfl, hcT, hET, hFT, hlkT, hlNT, hcapT, huT⟩
          · by_cases hk1 : d.kind = 1
            · have hb0 : (d.kind == 0) = false := by rw [beq_eq_false_iff_ne]; exact hk0
              have hb1 : (d.kind == 1) = true := by rw [beq_iff_eq]; exact hk1
              clear hk0 hk1
              as_aux_lemma =>
                go_wp2_with fail
                refine (isput _ Fc g N _ hcA (fun i => i < w.heap.size) d.p.A d.p.c d.p.e hxA hxs hN0 (by rw [List.length_map]; exact hlN) (fun i hi e => by have := hFw i e; omega)).mono ?_
                rintro e w3 ⟨rfl, F3, hc3, hF3, hu3⟩
                have bD3 := bD.upd hu3 (fun e => by have := hFlt _ e; omega)
                clear d0 d1 d2 d3 d4 d5 d6 d7 d8 d9 d10
                replace bD := bD3
                clear bD3
                have d0 := bD.cell 0
                have d1 := bD.cell 1
                have d2 := bD.cell 2
                have d3 := bD.cell 3
                have d4 := bD.cell 4
                have d5 := bD.cell 5
                have d6 := bD.cell 6
                have d7 := bD.cell 7
                have d8 := bD.cell 8
                have d9 := bD.cell 9
                have d10 := bD.cell 10
                simp only [CDeed.cells, List.getElem?_cons_zero, List.getElem?_cons_succ] at d0 d1 d2 d3 d4 d5 d6 d7 d8 d9 d10
                have hFT : ∀ i, F3 i → w.heap.size ≤ i := fun i hi => by
                  rcases hF3 i hi with h | h
                  · exact hFw i h
                  · simp only [World.size_alloc] at h; omega
                have hE3 : Ents (fun i => ¬ F3 i) w3 A' ps := ((hEA.lt').upd hu3 (fun i hi e => hi.2 e)).weak (fun i _ hi e => by
                  rcases hF3 i e with h | h
                  · exact hi.2 h
                  · have := hi.1; omega)
                have hx3 : Walk (fun i => ¬ F3 i) w3 d.p.A d.p.e.w.walk := Recs.weak (Recs.upd hxA hu3 (fun i hi e => by have := hFw i e; omega)) (fun i _ hi e => by have := hFT i e; omega)
                have hkn : (ps.map (·.e.key)).Nodup := by
                  have := hcA.keys
                  rwa [List.map_map] at this
                go_wp2_with fail
                refine (rput w3 (fun i => ¬ F3 i) A' c' ps d.p room hE3 ⟨hx3, hxs⟩ (by omega) hlc hkn (by rw [← HN.out]; exact hlN)).mono ?_
                rintro e w4 ⟨A4, c4, qs, rfl, hqs, ho4, hw4, hu4⟩
                replace hqs : qs.map (·.e) = putE (roomOf room) (ps.map (·.e)) d.p.e := hqs
                rw [← HN.out] at hqs
                have hlp := putE_len (x := d.p.e) hN0 (show (((ps.map (·.e)).length : Nat) : Int) ≤ N by rw [List.length_map]; exact hlN)
                rw [← hqs, List.length_map, List.length_map] at hlp
                have hcT : CacheIs w4 F3 g N (qs.map (·.e)) := by rw [hqs]; exact hc3.upd hu4 (fun _ _ => id)
                have hET : Ents (fun i => ¬ F3 i) w4 A4 qs := ents_new ho4 hw4 (fun i h1 h2 e => by have := hc3.lt i e; omega) (fun i _ h => h)
                have hcapT := own_cap ho4
                have huT : Upd No w w4 := (huA.then_ hu3 (fun i e => .inr (hFw i e))).trans hu4
                have hlkT : qs.length ≤ k + 1 := by omega
                have hlNT : (qs.length : Int) ≤ N := hlp.1
                clear hcA hEA huA hxA hc3 hF3 hu3 hE3 hx3 hkn hqs hlp ho4 hw4 hu4 d0 d1 d2 d3 d4 d5 d6 d7 d8 d9 d10 bD
                by_cases hpos : 0 < qs.length
                · obtain ⟨x, rest, hq⟩ : ∃ x rest, qs = x :: rest := by
                    cases hh : qs with
                    | nil => rw [hh] at hpos; simp at hpos
                    | cons a b => exact ⟨a, b, rfl⟩
                  have hposI : (0 : Int) < (qs.length : Int) := by omega
                  have hposI0 : (0 : Int) ≤ (qs.length : Int) := by omega
                  have hx0 : qs[0] = x := by simp [hq]
                  obtain ⟨aq, hAq, _, haql, hcq⟩ := hET.recs.at_ (k := 0) (by rw [List.length_map]; exact hpos)
                  have f0 := hcq 0 (.int .i64 x.e.l) (by simp [hx0, EntP.cells])
                  have f1 := hcq 1 (.int .i64 x.e.p) (by simp [hx0, EntP.cells])
                  simp only [if_true, if_neg (show ¬ (1 = 0) by omega), Nat.zero_mul, Addr.add] at f0 f1
                  have hcx : CacheIs w4 F3 g N (x.e :: rest.map (·.e)) := by
                    have := hcT
                    rw [hq] at this
                    exact this
                  have Hq := Lib.hid hq
                  clear hcq hq hx0
                  subst hAq
                  go_wp2_with fail
                  refine (isoldest _ F3 g N x.e (rest.map (·.e)) hcx).mono ?_
                  rintro e w7 ⟨rfl, hu7⟩
                  have g0 := hu7.keepNo f0
                  have g1 := hu7.keepNo f1
                  go_wp2_with fail
                  refine (islen _ F3 g N (qs.map (·.e)) (hcT.upd hu7 (fun _ _ => id))).mono ?_
                  rintro e w8 ⟨he, rfl⟩
                  rw [List.length_map] at he
                  subst he
                  go_wp2
                  go_roundg (gk - 1)
                  case measure => omega
                  case rel => exact ⟨k + 1, F3, some aq, c4, qs, by omega, by go_num, rfl, hcT.upd hu7 (fun _ _ => id), hET.upd hu7 (fun _ _ => id), hFT, hlkT, hlNT, hcapT, huT.trans hu7⟩
                · have hq : qs = [] := List.eq_nil_of_length_eq_zero (by omega)
                  have hnl : decide ((0 : Int) < (qs.length : Int)) = false := decide_eq_false (by omega)
                  have hcx : CacheIs w4 F3 g N [] := by
                    have := hcT
                    rw [hq] at this
                    exact this
                  have Hq := Lib.hid hq
                  clear hq
                  go_wp2_with fail
                  refine (isoldest_none _ F3 g N hcx).mono ?_
                  rintro e w7 ⟨rfl, rfl⟩
                  go_wp2_with fail
                  refine (islen _ F3 g N (qs.map (·.e)) hcT).mono ?_
                  rintro e w8 ⟨he, rfl⟩
                  rw [List.length_map] at he
                  subst he
                  go_wp2
                  go_roundg (gk - 1)
                  case measure => omega
                  case rel => exact ⟨k + 1, F3, A4, c4, qs, by omega, by go_num, rfl, hcT, hET, hFT, hlkT, hlNT, hcapT, huT⟩
            · by_cases hk2 : d.kind = 2
              · have hb0 : (d.kind == 0) = false := by rw [beq_eq_false_iff_ne]; exact hk0
                have hb1 : (d.kind == 1) = false := by rw [beq_eq_false_iff_ne]; exact hk1
                have hb2 : (d.kind == 2) = true := by rw [beq_iff_eq]; exact hk2
                clear hk0 hk1 hk2
                as_aux_lemma =>
                  by_cases hin : d.p.e.key ∈ (ps.map (·.e)).map Ent.key
                  · rw [List.map_map] at hin
                    obtain ⟨x, hp, hk⟩ := List.mem_map.1 hin
                    obtain ⟨as_, bs, hsp⟩ := List.append_of_mem hp
                    have hk : x.e.key = d.p.e.key := hk
                    have hkl : x.e.l = d.p.e.l := congrArg Prod.fst hk
                    have hkp : x.e.p = d.p.e.p := congrArg Prod.snd hk
                    have hkn : (ps.map (·.e.key)).Nodup := by
                      have := hcA.keys
                      rwa [List.map_map] at this
                    have hka : d.p.e.key ∉ as_.map (·.e.key) := by
                      have h2 := hkn
                      rw [hsp, List.map_append, List.map_cons, List.nodup_append] at h2
                      intro hm
                      exact h2.2.2 _ hm _ (List.mem_cons_self ..) hk.symm
                    have hf : findI (ps.map (·.e.key)) d.p.e.key = (as_.length : Int) := by
                      rw [hsp, List.map_append, List.map_cons, hk, findI_split hka, List.length_map]
                    have hpi : ∀ h : as_.length < ps.length, ps[as_.length] = x := fun h => by simp [hsp]
                    have hi : as_.length < ps.length := by rw [hsp, List.length_append, List.length_cons]; omega
                    have hcA' := hcA
                    rw [hsp, List.map_append, List.map_cons] at hcA'
                    have hEd : Hid ((ps.take as_.length ++ ps.drop (as_.length + 1) ++ [x]).map (·.e) = as_.map (·.e) ++ bs.map (·.e) ++ [x.e]) := by
                      refine Lib.hid ?_
                      rw [hsp]
                      simp
                    have hG := isget _ Fc g N (as_.map (·.e)) (bs.map (·.e)) x.e hcA'
                    rw [hkl, hkp] at hG
                    have HG := Lib.hid hG
                    have hpw := hEA.walks x hp
                    generalize as_.length = i at *
                    have hpi := hpi hi
                    have hi0 : (0 : Int) ≤ (i : Int) := Int.natCast_nonneg _
                    have hiI : (i : Int) < (ps.length : Int) := by omega
                    have Hpi := Lib.hid hpi
                    clear hin hsp hkn hka hG hcA hcA' hkl hkp hk
                    go_wp2_with fail
                    refine HG.out.mono ?_
                    rintro e w3 ⟨A5, c5, he, hw5, hs5, hc5, hu5⟩
                    replace he : e = .returned (.tuple #[.agg #[.int .i64 x.e.w.phen, .slice A5 x.e.w.walk.length c5, .int .i64 x.e.w.r0, .int .i64 x.e.w.r1, .int .i64 x.e.w.r2, .int .i64 x.e.w.r3, .int .i64 x.e.w.r4], .bool x.e.has, .bool true]) := he
                    subst he
                    have u9 := (Upd.refl No w3).alloc (.cells [.int .i64 x.e.w.phen, .slice A5 x.e.w.walk.length c5, .int .i64 x.e.w.r0, .int .i64 x.e.w.r1, .int .i64 x.e.w.r2, .int .i64 x.e.w.r3, .int .i64 x.e.w.r4].toArray 47)
                    have b9 := Blk.new w3 47 [.int .i64 x.e.w.phen, .slice A5 x.e.w.walk.length c5, .int .i64 x.e.w.r0, .int .i64 x.e.w.r1, .int .i64 x.e.w.r2, .int .i64 x.e.w.r3, .int .i64 x.e.w.r4]
                    have hw9 := Recs.upd hw5 u9 (fun _ _ => id)
                    have hE9 := (hEA.upd hu5 (fun i hi e => hi e)).upd u9 (fun _ _ => id)
                    have hp9 := Recs.upd (Recs.upd hpw.1 hu5 (fun i hi e => hi e)) u9 (fun _ _ => id)
                    have bD3 := (bD.upd hu5 (fun e => by have := hFlt _ e; omega)).upd u9 id
                    have hc9 := hc5.upd u9 (fun _ _ => id)
                    have hu9 := (huA.then_ hu5 (fun i e => .inr (hFw i e))).trans u9
                    clear d0 d1 d2 d3 d4 d5 d6 d7 d8 d9 d10 hw5 hc5 hu5 hEA huA hxA u9
                    replace bD := bD3
                    clear bD3
                    have d0 := bD.cell 0
                    have d1 := bD.cell 1
                    have d2 := bD.cell 2
                    have d3 := bD.cell 3
                    have d4 := bD.cell 4
                    have d5 := bD.cell 5
                    have d6 := bD.cell 6
                    have d7 := bD.cell 7
                    have d8 := bD.cell 8
                    have d9 := bD.cell 9
                    have d10 := bD.cell 10
                    simp only [CDeed.cells, List.getElem?_cons_zero, List.getElem?_cons_succ] at d0 d1 d2 d3 d4 d5 d6 d7 d8 d9 d10
                    go_wp2_with fail
                    refine (rfind _ _ A' c' ps d.p.e.l d.p.e.p hE9 (by omega)).mono ?_
                    rintro e w4 ⟨he, hu4⟩
                    replace he : e = .returned (.int .i64 (findI (ps.map (·.e.key)) d.p.e.key)) := he
                    rw [hf] at he
                    subst he
                    have b10 := b9.upd hu4 id
                    have hw10 : Walk (fun _ => True) w4 A5 x.e.w.walk := Recs.weak (Recs.upd hw9 hu4 (fun _ _ => id)) (fun _ _ _ => trivial)
                    have hE10 := hE9.upd hu4 (fun _ _ => id)
                    have hp10 : Walk (fun _ => True) w4 x.A x.e.w.walk := Recs.weak (Recs.upd hp9 hu4 (fun _ _ => id)) (fun _ _ _ => trivial)
                    have hc10 := hc9.upd hu4 (fun _ _ => id)
                    have hu10 := hu9.trans hu4
                    clear b9 hw9 hE9 hp9 hc9 hu9 hu4 bD d0 d1 d2 d3 d4 d5 d6 d7 d8 d9 d10
                    obtain ⟨aq, hAq, _, haql, hcell⟩ := hE10.recs.at_ (k := i) (by simpa using hi)
                    have hxk := hpi
                    have e0 := hcell 0 (.int .i64 x.e.l) (by simp [hxk, EntP.cells])
                    have e1 := hcell 1 (.int .i64 x.e.p) (by simp [hxk, EntP.cells])
                    have e2 := hcell 2 (.int .i64 x.e.w.phen) (by simp [hxk, EntP.cells])
                    have e3 := hcell 3 (.slice x.A x.e.w.walk.length x.c) (by simp [hxk, EntP.cells])
                    have e4 := hcell 4 (.int .i64 x.e.w.r0) (by simp [hxk, EntP.cells])
                    have e5 := hcell 5 (.int .i64 x.e.w.r1) (by simp [hxk, EntP.cells])
                    have e6 := hcell 6 (.int .i64 x.e.w.r2) (by simp [hxk, EntP.cells])
                    have e7 := hcell 7 (.int .i64 x.e.w.r3) (by simp [hxk, EntP.cells])
                    have e8 := hcell 8 (.int .i64 x.e.w.r4) (by simp [hxk, EntP.cells])
                    have e9 := hcell 9 (.bool x.e.has) (by simp [hxk, EntP.cells])
                    simp only [if_true, if_neg (show ¬ (1 = 0) by omega), if_neg (show ¬ (2 = 0) by omega), if_neg (show ¬ (3 = 0) by omega), if_neg (show ¬ (4 = 0) by omega), if_neg (show ¬ (5 = 0) by omega), if_neg (show ¬ (6 = 0) by omega), if_neg (show ¬ (7 = 0) by omega), if_neg (show ¬ (8 = 0) by omega), if_neg (show ¬ (9 = 0) by omega)] at e0 e1 e2 e3 e4 e5 e6 e7 e8 e9
                    clear hcell
                    subst hAq
                    have q0 := b10.cell 0
                    have q1 := b10.cell 1
                    have q2 := b10.cell 2
                    have q3 := b10.cell 3
                    have q4 := b10.cell 4
                    have q5 := b10.cell 5
                    have q6 := b10.cell 6
                    simp only [List.getElem?_cons_zero, List.getElem?_cons_succ] at q0 q1 q2 q3 q4 q5 q6
                    have hbb : (x.e.has != x.e.has) = false := by simp
                    clear hxk hf hpi hp hpw HG hxs
                    go_wp2
                    go_region_held3 (fun w' => w'.cell? ⟨w3.heap.size, 0, none⟩ = some (.int .i64 x.e.w.phen) ∧ w'.cell? ⟨w3.heap.size, 1, none⟩ = some (.slice A5 x.e.w.walk.length c5) ∧ w'.cell? ⟨w3.heap.size, 2, none⟩ = some (.int .i64 x.e.w.r0) ∧ w'.cell? ⟨w3.heap.size, 3, none⟩ = some (.int .i64 x.e.w.r1) ∧ w'.cell? ⟨w3.heap.size, 4, none⟩ = some (.int .i64 x.e.w.r2) ∧ w'.cell? ⟨w3.heap.size, 5, none⟩ = some (.int .i64 x.e.w.r3) ∧ w'.cell? ⟨w3.heap.size, 6, none⟩ = some (.int .i64 x.e.w.r4) ∧
                        w'.cell? ⟨(aq.add (i * 10)).block, (aq.add (i * 10)).off + 2, none⟩ = some (.int .i64 x.e.w.phen) ∧ w'.cell? ⟨(aq.add (i * 10)).block, (aq.add (i * 10)).off + 3, none⟩ = some (.slice x.A x.e.w.walk.length x.c) ∧ w'.cell? ⟨(aq.add (i * 10)).block, (aq.add (i * 10)).off + 4, none⟩ = some (.int .i64 x.e.w.r0) ∧
                        w'.cell? ⟨(aq.add (i * 10)).block, (aq.add (i * 10)).off + 5, none⟩ = some (.int .i64 x.e.w.r1) ∧ w'.cell? ⟨(aq.add (i * 10)).block, (aq.add (i * 10)).off + 6, none⟩ = some (.int .i64 x.e.w.r2) ∧ w'.cell? ⟨(aq.add (i * 10)).block, (aq.add (i * 10)).off + 7, none⟩ = some (.int .i64 x.e.w.r3) ∧ w'.cell? ⟨(aq.add (i * 10)).block, (aq.add (i * 10)).off + 8, none⟩ = some (.int .i64 x.e.w.r4) ∧
                        w'.cell? ⟨(aq.add (i * 10)).block, (aq.add (i * 10)).off + 9, none⟩ = some (.bool x.e.has))
                      (first | exact ⟨q0, q1, q2, q3, q4, q5, q6, e2, e3, e4, e5, e6, e7, e8, e9⟩ | (go_split_ands; refine ⟨?_, ?_, ?_, ?_, ?_, ?_, ?_, ?_, ?_, ?_, ?_, ?_, ?_, ?_, ?_⟩ <;> first | with_reducible assumption | (with_reducible exact hu5.keepNo (by with_reducible assumption)) | go_keep))
                      ((go_at_call 28; refine (wsame _ (fun _ => True) (fun _ => True) A5 x.A c5 x.c x.e.w x.e.w (by exact hw10) (by exact hp10) hs5 hs5).mono ?_; rintro e w5 ⟨he, hu5⟩; rw [beq_self_eq_true] at he; subst he))
                    have hu5' := hu5.of_drew
                    have hE11 := hE10.upd hu5' (fun _ _ => id)
                    have hc11 := hc10.upd hu5' (fun _ _ => id)
                    clear q0 q1 q2 q3 q4 q5 q6 e0 e1 e2 e3 e4 e5 e6 e7 e8 e9 hE10 hc10 hw10 hp10 hbb b10
                    go_wp2_with fail
                    refine (ruse w5 (fun i => ¬ Fc i) (some aq) c' ps i hE11 (by omega) hlc hi).mono ?_
                    rintro e w6 ⟨A6, c6, qs, rfl, hqs, ho6, hw6, hu6⟩
                    replace hqs : qs = ps.take i ++ ps.drop (i + 1) ++ [ps[i]] := hqs
                    rw [Hpi.out] at hqs
                    have hlq : qs.length = ps.length := by
                      rw [hqs, List.length_append, List.length_append, List.length_take, List.length_drop, List.length_singleton]; omega
                    have hcT : CacheIs w6 Fc g N (qs.map (·.e)) := by rw [hqs, hEd.out]; exact hc11.upd hu6 (fun _ _ => id)
                    have hET : Ents (fun i => ¬ Fc i) w6 A6 qs := ents_new ho6 hw6 (fun i h1 h2 e => by have := hc11.lt i e; omega) (fun i _ h => h)
                    have hcapT := own_cap ho6
                    have huT := (hu10.trans hu5').trans hu6
                    have hlkT : qs.length ≤ k + 1 := by omega
                    have hlNT : (qs.length : Int) ≤ N := by omega
                    have hFT := hFw
                    clear hqs hlq ho6 hw6 hu6 hu5' hu5 hE11 hc11 hu10 hEd Hpi
                    by_cases hpos : 0 < qs.length
                    · obtain ⟨x, rest, hq⟩ : ∃ x rest, qs = x :: rest := by
                        cases hh : qs with
                        | nil => rw [hh] at hpos; simp at hpos
                        | cons a b => exact ⟨a, b, rfl⟩
                      have hposI : (0 : Int) < (qs.length : Int) := by omega
                      have hposI0 : (0 : Int) ≤ (qs.length : Int) := by omega
                      have hx0 : qs[0] = x := by simp [hq]
                      obtain ⟨aq, hAq, _, haql, hcq⟩ := hET.recs.at_ (k := 0) (by rw [List.length_map]; exact hpos)
                      have f0 := hcq 0 (.int .i64 x.e.l) (by simp [hx0, EntP.cells])
                      have f1 := hcq 1 (.int .i64 x.e.p) (by simp [hx0, EntP.cells])
                      simp only [if_true, if_neg (show ¬ (1 = 0) by omega), Nat.zero_mul, Addr.add] at f0 f1
                      have hcx : CacheIs w6 Fc g N (x.e :: rest.map (·.e)) := by
                        have := hcT
                        rw [hq] at this
                        exact this
                      have Hq := Lib.hid hq
                      clear hcq hq hx0
                      subst hAq
                      go_wp2_with fail
                      refine (isoldest _ Fc g N x.e (rest.map (·.e)) hcx).mono ?_
                      rintro e w7 ⟨rfl, hu7⟩
                      have g0 := hu7.keepNo f0
                      have g1 := hu7.keepNo f1
                      go_wp2_with fail
                      refine (islen _ Fc g N (qs.map (·.e)) (hcT.upd hu7 (fun _ _ => id))).mono ?_
                      rintro e w8 ⟨he, rfl⟩
                      rw [List.length_map] at he
                      subst he
                      go_wp2
                      go_roundg (gk - 1)
                      case measure => omega
                      case rel => exact ⟨k + 1, Fc, some aq, c6, qs, by omega, by go_num, rfl, hcT.upd hu7 (fun _ _ => id), hET.upd hu7 (fun _ _ => id), hFT, hlkT, hlNT, hcapT, huT.trans hu7⟩
                    · have hq : qs = [] := List.eq_nil_of_length_eq_zero (by omega)
                      have hnl : decide ((0 : Int) < (qs.length : Int)) = false := decide_eq_false (by omega)
                      have hcx : CacheIs w6 Fc g N [] := by
                        have := hcT
                        rw [hq] at this
                        exact this
                      have Hq := Lib.hid hq
                      clear hq
                      go_wp2_with fail
                      refine (isoldest_none _ Fc g N hcx).mono ?_
                      rintro e w7 ⟨rfl, rfl⟩
                      go_wp2_with fail
                      refine (islen _ Fc g N (qs.map (·.e)) hcT).mono ?_
                      rintro e w8 ⟨he, rfl⟩
                      rw [List.length_map] at he
                      subst he
                      go_wp2
                      go_roundg (gk - 1)
                      case measure => omega
                      case rel => exact ⟨k + 1, Fc, A6, c6, qs, by omega, by go_num, rfl, hcT, hET, hFT, hlkT, hlNT, hcapT, huT⟩
                  · have hf := findI_no (ks := ps.map (·.e.key)) (k := d.p.e.key) (by rw [List.map_map] at hin; exact hin)
                    have HG := Lib.hid (isget_no _ Fc g N _ hcA d.p.e.l d.p.e.p hin)
                    clear hin
                    go_wp2_with fail
                    refine HG.out.mono ?_
                    rintro e w3 ⟨rfl, hu3⟩
                    have u9 := (Upd.refl No w3).alloc (.cells W0.toArray 47)
                    have b9 := Blk.new w3 47 W0
                    have hu9 := hu3.trans u9
                    have hE9 := hEA.upd hu9 (fun _ _ => id)
                    have hc9 := hcA.upd hu9 (fun _ _ => id)
                    have bD3 := bD.upd hu9 id
                    have huT9 := huA.trans hu9
                    clear d0 d1 d2 d3 d4 d5 d6 d7 d8 d9 d10 hEA huA hxA u9 hu3 hcA HG hu9
                    replace bD := bD3
                    clear bD3
                    have d0 := bD.cell 0
                    have d1 := bD.cell 1
                    have d2 := bD.cell 2
                    have d3 := bD.cell 3
                    have d4 := bD.cell 4
                    have d5 := bD.cell 5
                    have d6 := bD.cell 6
                    have d7 := bD.cell 7
                    have d8 := bD.cell 8
                    have d9 := bD.cell 9
                    have d10 := bD.cell 10
                    simp only [CDeed.cells, List.getElem?_cons_zero, List.getElem?_cons_succ] at d0 d1 d2 d3 d4 d5 d6 d7 d8 d9 d10
                    go_wp2_with fail
                    refine (rfind _ _ A' c' ps d.p.e.l d.p.e.p hE9 (by omega)).mono ?_
                    rintro e w4 ⟨he, hu4⟩
                    replace he : e = .returned (.int .i64 (findI (ps.map (·.e.key)) d.p.e.key)) := he
                    rw [hf] at he
                    subst he
                    have b10 := b9.upd hu4 id
                    have q0 := b10.cell 0
                    have q1 := b10.cell 1
                    have q2 := b10.cell 2
                    have q3 := b10.cell 3
                    have q4 := b10.cell 4
                    have q5 := b10.cell 5
                    have q6 := b10.cell 6
                    simp only [List.getElem?_cons_zero, List.getElem?_cons_succ] at q0 q1 q2 q3 q4 q5 q6
                    clear d0 d1 d2 d3 d4 d5 d6 d7 d8 d9 d10 bD
                    go_wp2_with fail
                    refine (wsame _ (fun _ => True) (fun _ => True) none none 0 0 ⟨0, [], 0, 0, 0, 0, 0⟩ ⟨0, [], 0, 0, 0, 0, 0⟩ (fun h => absurd rfl h) (fun h => absurd rfl h) (by decide) (by decide)).mono ?_
                    rintro e w5 ⟨he, hu5⟩
                    rw [beq_self_eq_true] at he
                    subst he
                    have hcT := (hc9.upd hu4 (fun _ _ => id)).upd hu5 (fun _ _ => id)
                    have hET := (hE9.upd hu4 (fun _ _ => id)).upd hu5 (fun _ _ => id)
                    have hcapT := hlc
                    have huT := (huT9.trans hu4).trans hu5
                    have hlkT : ps.length ≤ k + 1 := by omega
                    have hlNT := hlN
                    have hFT := hFw
                    clear hc9 hE9 b9 b10 huT9 hu4 hu5 hf q0 q1 q2 q3 q4 q5 q6
                    by_cases hpos : 0 < ps.length
                    · obtain ⟨x, rest, hq⟩ : ∃ x rest, ps = x :: rest := by
                        cases hh : ps with
                        | nil => rw [hh] at hpos; simp at hpos
                        | cons a b => exact ⟨a, b, rfl⟩
                      have hposI : (0 : Int) < (ps.length : Int) := by omega
                      have hposI0 : (0 : Int) ≤ (ps.length : Int) := by omega
                      have hx0 : ps[0] = x := by simp [hq]
                      obtain ⟨aq, hAq, _, haql, hcq⟩ := hET.recs.at_ (k := 0) (by rw [List.length_map]; exact hpos)
                      have f0 := hcq 0 (.int .i64 x.e.l) (by simp [hx0, EntP.cells])
                      have f1 := hcq 1 (.int .i64 x.e.p) (by simp [hx0, EntP.cells])
                      simp only [if_true, if_neg (show ¬ (1 = 0) by omega), Nat.zero_mul, Addr.add] at f0 f1
                      have hcx : CacheIs w5 Fc g N (x.e :: rest.map (·.e)) := by
                        have := hcT
                        rw [hq] at this
                        exact this
                      have Hq := Lib.hid hq
                      clear hcq hq hx0
                      subst hAq
                      go_wp2_with fail
                      refine (isoldest _ Fc g N x.e (rest.map (·.e)) hcx).mono ?_
                      rintro e w7 ⟨rfl, hu7⟩
                      have g0 := hu7.keepNo f0
                      have g1 := hu7.keepNo f1
                      go_wp2_with fail
                      refine (islen _ Fc g N (ps.map (·.e)) (hcT.upd hu7 (fun _ _ => id))).mono ?_
                      rintro e w8 ⟨he, rfl⟩
                      rw [List.length_map] at he
                      subst he
                      go_wp2
                      go_roundg (gk - 1)
                      case measure => omega
                      case rel => exact ⟨k + 1, Fc, some aq, c', ps, by omega, by go_num, rfl, hcT.upd hu7 (fun _ _ => id), hET.upd hu7 (fun _ _ => id), hFT, hlkT, hlNT, hcapT, huT.trans hu7⟩
                    · have hq : ps = [] := List.eq_nil_of_length_eq_zero (by omega)
                      have hnl : decide ((0 : Int) < (ps.length : Int)) = false := decide_eq_false (by omega)
                      have hcx : CacheIs w5 Fc g N [] := by
                        have := hcT
                        rw [hq] at this
                        exact this
                      have Hq := Lib.hid hq
                      clear hq
                      go_wp2_with fail
                      refine (isoldest_none _ Fc g N hcx).mono ?_
                      rintro e w7 ⟨rfl, rfl⟩
                      go_wp2_with fail
                      refine (islen _ Fc g N (ps.map (·.e)) hcT).mono ?_
                      rintro e w8 ⟨he, rfl⟩
                      rw [List.length_map] at he
                      subst he
                      go_wp2
                      go_roundg (gk - 1)
                      case measure => omega
                      case rel => exact ⟨k + 1, Fc, A', c', ps, by omega, by go_num, rfl, hcT, hET, hFT, hlkT, hlNT, hcapT, huT⟩
              · by_cases hk3 : d.kind = 3
                · have hb0 : (d.kind == 0) = false := by rw [beq_eq_false_iff_ne]; exact hk0
                  have hb1 : (d.kind == 1) = false := by rw [beq_eq_false_iff_ne]; exact hk1
                  have hb2 : (d.kind == 2) = false := by rw [beq_eq_false_iff_ne]; exact hk2
                  have hb3 : (d.kind == 3) = true := by rw [beq_iff_eq]; exact hk3
                  clear hk0 hk1 hk2 hk3
                  as_aux_lemma =>
                    by_cases hin : d.p.e.key ∈ (ps.map (·.e)).map Ent.key
                    · rw [List.map_map] at hin
                      obtain ⟨x, hp, hk⟩ := List.mem_map.1 hin
                      obtain ⟨as_, bs, hsp⟩ := List.append_of_mem hp
                      have hk : x.e.key = d.p.e.key := hk
                      have hkl : x.e.l = d.p.e.l := congrArg Prod.fst hk
                      have hkp : x.e.p = d.p.e.p := congrArg Prod.snd hk
                      have hkn : (ps.map (·.e.key)).Nodup := by
                        have := hcA.keys
                        rwa [List.map_map] at this
                      have hka : d.p.e.key ∉ as_.map (·.e.key) := by
                        have h2 := hkn
                        rw [hsp, List.map_append, List.map_cons, List.nodup_append] at h2
                        intro hm
                        exact h2.2.2 _ hm _ (List.mem_cons_self ..) hk.symm
                      have hf : findI (ps.map (·.e.key)) d.p.e.key = (as_.length : Int) := by
                        rw [hsp, List.map_append, List.map_cons, hk, findI_split hka, List.length_map]
                      have hpi : ∀ h : as_.length < ps.length, ps[as_.length] = x := fun h => by simp [hsp]
                      have hi : as_.length < ps.length := by rw [hsp, List.length_append, List.length_cons]; omega
                      have hcA' := hcA
                      rw [hsp, List.map_append, List.map_cons] at hcA'
                      have hEd : Hid ((ps.take as_.length ++ ps.drop (as_.length + 1) ++ [x]).map (·.e) = as_.map (·.e) ++ bs.map (·.e) ++ [x.e]) := by
                        refine Lib.hid ?_
                        rw [hsp]
                        simp
                      have hG := isget _ Fc g N (as_.map (·.e)) (bs.map (·.e)) x.e hcA'
                      rw [hkl, hkp] at hG
                      have HG := Lib.hid hG
                      have hpw := hEA.walks x hp
                      generalize as_.length = i at *
                      have hpi := hpi hi
                      have hi0 : (0 : Int) ≤ (i : Int) := Int.natCast_nonneg _
                      have hiI : (i : Int) < (ps.length : Int) := by omega
                      have Hpi := Lib.hid hpi
                      clear hin hsp hkn hka hG hcA hcA' hkl hkp hk
                      go_wp2_with fail
                      refine HG.out.mono ?_
                      rintro e w3 ⟨A5, c5, he, hw5, hs5, hc5, hu5⟩
                      replace he : e = .returned (.tuple #[.agg #[.int .i64 x.e.w.phen, .slice A5 x.e.w.walk.length c5, .int .i64 x.e.w.r0, .int .i64 x.e.w.r1, .int .i64 x.e.w.r2, .int .i64 x.e.w.r3, .int .i64 x.e.w.r4], .bool x.e.has, .bool true]) := he
                      subst he
                      have u9 := (Upd.refl No w3).alloc (.cells [.int .i64 x.e.w.phen, .slice A5 x.e.w.walk.length c5, .int .i64 x.e.w.r0, .int .i64 x.e.w.r1, .int .i64 x.e.w.r2, .int .i64 x.e.w.r3, .int .i64 x.e.w.r4].toArray 47)
                      have b9 := Blk.new w3 47 [.int .i64 x.e.w.phen, .slice A5 x.e.w.walk.length c5, .int .i64 x.e.w.r0, .int .i64 x.e.w.r1, .int .i64 x.e.w.r2, .int .i64 x.e.w.r3, .int .i64 x.e.w.r4]
                      have hw9 := Recs.upd hw5 u9 (fun _ _ => id)
                      have hE9 := (hEA.upd hu5 (fun i hi e => hi e)).upd u9 (fun _ _ => id)
                      have hp9 := Recs.upd (Recs.upd hpw.1 hu5 (fun i hi e => hi e)) u9 (fun _ _ => id)
                      have bD3 := (bD.upd hu5 (fun e => by have := hFlt _ e; omega)).upd u9 id
                      have hc9 := hc5.upd u9 (fun _ _ => id)
                      have hu9 := (huA.then_ hu5 (fun i e => .inr (hFw i e))).trans u9
                      clear d0 d1 d2 d3 d4 d5 d6 d7 d8 d9 d10 hw5 hc5 hu5 hEA huA hxA u9
                      replace bD := bD3
                      clear bD3
                      have d0 := bD.cell 0
                      have d1 := bD.cell 1
                      have d2 := bD.cell 2
                      have d3 := bD.cell 3
                      have d4 := bD.cell 4
                      have d5 := bD.cell 5
                      have d6 := bD.cell 6
                      have d7 := bD.cell 7
                      have d8 := bD.cell 8
                      have d9 := bD.cell 9
                      have d10 := bD.cell 10
                      simp only [CDeed.cells, List.getElem?_cons_zero, List.getElem?_cons_succ] at d0 d1 d2 d3 d4 d5 d6 d7 d8 d9 d10
                      go_wp2_with fail
                      refine (rfind _ _ A' c' ps d.p.e.l d.p.e.p hE9 (by omega)).mono ?_
                      rintro e w4 ⟨he, hu4⟩
                      replace he : e = .returned (.int .i64 (findI (ps.map (·.e.key)) d.p.e.key)) := he
                      rw [hf] at he
                      subst he
                      have b10 := b9.upd hu4 id
                      have hw10 : Walk (fun _ => True) w4 A5 x.e.w.walk := Recs.weak (Recs.upd hw9 hu4 (fun _ _ => id)) (fun _ _ _ => trivial)
                      have hE10 := hE9.upd hu4 (fun _ _ => id)
                      have hp10 : Walk (fun _ => True) w4 x.A x.e.w.walk := Recs.weak (Recs.upd hp9 hu4 (fun _ _ => id)) (fun _ _ _ => trivial)
                      have hc10 := hc9.upd hu4 (fun _ _ => id)
                      have hu10 := hu9.trans hu4
                      clear b9 hw9 hE9 hp9 hc9 hu9 hu4 bD d0 d1 d2 d3 d4 d5 d6 d7 d8 d9 d10
                      obtain ⟨aq, hAq, _, haql, hcell⟩ := hE10.recs.at_ (k := i) (by simpa using hi)
                      have hxk := hpi
                      have e0 := hcell 0 (.int .i64 x.e.l) (by simp [hxk, EntP.cells])
                      have e1 := hcell 1 (.int .i64 x.e.p) (by simp [hxk, EntP.cells])
                      have e2 := hcell 2 (.int .i64 x.e.w.phen) (by simp [hxk, EntP.cells])
                      have e3 := hcell 3 (.slice x.A x.e.w.walk.length x.c) (by simp [hxk, EntP.cells])
                      have e4 := hcell 4 (.int .i64 x.e.w.r0) (by simp [hxk, EntP.cells])
                      have e5 := hcell 5 (.int .i64 x.e.w.r1) (by simp [hxk, EntP.cells])
                      have e6 := hcell 6 (.int .i64 x.e.w.r2) (by simp [hxk, EntP.cells])
                      have e7 := hcell 7 (.int .i64 x.e.w.r3) (by simp [hxk, EntP.cells])
                      have e8 := hcell 8 (.int .i64 x.e.w.r4) (by simp [hxk, EntP.cells])
                      have e9 := hcell 9 (.bool x.e.has) (by simp [hxk, EntP.cells])
                      simp only [if_true, if_neg (show ¬ (1 = 0) by omega), if_neg (show ¬ (2 = 0) by omega), if_neg (show ¬ (3 = 0) by omega), if_neg (show ¬ (4 = 0) by omega), if_neg (show ¬ (5 = 0) by omega), if_neg (show ¬ (6 = 0) by omega), if_neg (show ¬ (7 = 0) by omega), if_neg (show ¬ (8 = 0) by omega), if_neg (show ¬ (9 = 0) by omega)] at e0 e1 e2 e3 e4 e5 e6 e7 e8 e9
                      clear hcell
                      subst hAq
                      have q0 := b10.cell 0
                      have q1 := b10.cell 1
                      have q2 := b10.cell 2
                      have q3 := b10.cell 3
                      have q4 := b10.cell 4
                      have q5 := b10.cell 5
                      have q6 := b10.cell 6
                      simp only [List.getElem?_cons_zero, List.getElem?_cons_succ] at q0 q1 q2 q3 q4 q5 q6
                      have hbb : (x.e.has != x.e.has) = false := by simp
                      clear hxk hf hpi hp hpw HG hxs
                      go_wp2
                      go_region_held3 (fun w' => w'.cell? ⟨w3.heap.size, 0, none⟩ = some (.int .i64 x.e.w.phen) ∧ w'.cell? ⟨w3.heap.size, 1, none⟩ = some (.slice A5 x.e.w.walk.length c5) ∧ w'.cell? ⟨w3.heap.size, 2, none⟩ = some (.int .i64 x.e.w.r0) ∧ w'.cell? ⟨w3.heap.size, 3, none⟩ = some (.int .i64 x.e.w.r1) ∧ w'.cell? ⟨w3.heap.size, 4, none⟩ = some (.int .i64 x.e.w.r2) ∧ w'.cell? ⟨w3.heap.size, 5, none⟩ = some (.int .i64 x.e.w.r3) ∧ w'.cell? ⟨w3.heap.size, 6, none⟩ = some (.int .i64 x.e.w.r4) ∧
                          w'.cell? ⟨(aq.add (i * 10)).block, (aq.add (i * 10)).off + 2, none⟩ = some (.int .i64 x.e.w.phen) ∧ w'.cell? ⟨(aq.add (i * 10)).block, (aq.add (i * 10)).off + 3, none⟩ = some (.slice x.A x.e.w.walk.length x.c) ∧ w'.cell? ⟨(aq.add (i * 10)).block, (aq.add (i * 10)).off + 4, none⟩ = some (.int .i64 x.e.w.r0) ∧
                          w'.cell? ⟨(aq.add (i * 10)).block, (aq.add (i * 10)).off + 5, none⟩ = some (.int .i64 x.e.w.r1) ∧ w'.cell? ⟨(aq.add (i * 10)).block, (aq.add (i * 10)).off + 6, none⟩ = some (.int .i64 x.e.w.r2) ∧ w'.cell? ⟨(aq.add (i * 10)).block, (aq.add (i * 10)).off + 7, none⟩ = some (.int .i64 x.e.w.r3) ∧ w'.cell? ⟨(aq.add (i * 10)).block, (aq.add (i * 10)).off + 8, none⟩ = some (.int .i64 x.e.w.r4) ∧
                          w'.cell? ⟨(aq.add (i * 10)).block, (aq.add (i * 10)).off + 9, none⟩ = some (.bool x.e.has))
                        (first | exact ⟨q0, q1, q2, q3, q4, q5, q6, e2, e3, e4, e5, e6, e7, e8, e9⟩ | (go_split_ands; refine ⟨?_, ?_, ?_, ?_, ?_, ?_, ?_, ?_, ?_, ?_, ?_, ?_, ?_, ?_, ?_⟩ <;> first | with_reducible assumption | (with_reducible exact hu5.keepNo (by with_reducible assumption)) | go_keep))
                        ((go_at_call 28; refine (wsame _ (fun _ => True) (fun _ => True) A5 x.A c5 x.c x.e.w x.e.w (by exact hw10) (by exact hp10) hs5 hs5).mono ?_; rintro e w5 ⟨he, hu5⟩; rw [beq_self_eq_true] at he; subst he))
                      have hu5' := hu5.of_drew
                      have hE11 := hE10.upd hu5' (fun _ _ => id)
                      have hc11 := hc10.upd hu5' (fun _ _ => id)
                      clear q0 q1 q2 q3 q4 q5 q6 e0 e1 e2 e3 e4 e5 e6 e7 e8 e9 hE10 hc10 hw10 hp10 hbb b10
                      go_wp2_with fail
                      refine (ruse w5 (fun i => ¬ Fc i) (some aq) c' ps i hE11 (by omega) hlc hi).mono ?_
                      rintro e w6 ⟨A6, c6, qs, rfl, hqs, ho6, hw6, hu6⟩
                      replace hqs : qs = ps.take i ++ ps.drop (i + 1) ++ [ps[i]] := hqs
                      rw [Hpi.out] at hqs
                      have hlq : qs.length = ps.length := by
                        rw [hqs, List.length_append, List.length_append, List.length_take, List.length_drop, List.length_singleton]; omega
                      have hcT : CacheIs w6 Fc g N (qs.map (·.e)) := by rw [hqs, hEd.out]; exact hc11.upd hu6 (fun _ _ => id)
                      have hET : Ents (fun i => ¬ Fc i) w6 A6 qs := ents_new ho6 hw6 (fun i h1 h2 e => by have := hc11.lt i e; omega) (fun i _ h => h)
                      have hcapT := own_cap ho6
                      have huT := (hu10.trans hu5').trans hu6
                      have hlkT : qs.length ≤ k + 1 := by omega
                      have hlNT : (qs.length : Int) ≤ N := by omega
                      have hFT := hFw
                      clear hqs hlq ho6 hw6 hu6 hu5' hu5 hE11 hc11 hu10 hEd Hpi
                      by_cases hpos : 0 < qs.length
                      · obtain ⟨x, rest, hq⟩ : ∃ x rest, qs = x :: rest := by
                          cases hh : qs with
                          | nil => rw [hh] at hpos; simp at hpos
                          | cons a b => exact ⟨a, b, rfl⟩
                        have hposI : (0 : Int) < (qs.length : Int) := by omega
                        have hposI0 : (0 : Int) ≤ (qs.length : Int) := by omega
                        have hx0 : qs[0] = x := by simp [hq]
                        obtain ⟨aq, hAq, _, haql, hcq⟩ := hET.recs.at_ (k := 0) (by rw [List.length_map]; exact hpos)
                        have f0 := hcq 0 (.int .i64 x.e.l) (by simp [hx0, EntP.cells])
                        have f1 := hcq 1 (.int .i64 x.e.p) (by simp [hx0, EntP.cells])
                        simp only [if_true, if_neg (show ¬ (1 = 0) by omega), Nat.zero_mul, Addr.add] at f0 f1
                        have hcx : CacheIs w6 Fc g N (x.e :: rest.map (·.e)) := by
                          have := hcT
                          rw [hq] at this
                          exact this
                        have Hq := Lib.hid hq
                        clear hcq hq hx0
                        subst hAq
                        go_wp2_with fail
                        refine (isoldest _ Fc g N x.e (rest.map (·.e)) hcx).mono ?_
                        rintro e w7 ⟨rfl, hu7⟩
                        have g0 := hu7.keepNo f0
                        have g1 := hu7.keepNo f1
                        go_wp2_with fail
                        refine (islen _ Fc g N (qs.map (·.e)) (hcT.upd hu7 (fun _ _ => id))).mono ?_
                        rintro e w8 ⟨he, rfl⟩
                        rw [List.length_map] at he
                        subst he
                        go_wp2
                        go_roundg (gk - 1)
                        case measure => omega
                        case rel => exact ⟨k + 1, Fc, some aq, c6, qs, by omega, by go_num, rfl, hcT.upd hu7 (fun _ _ => id), hET.upd hu7 (fun _ _ => id), hFT, hlkT, hlNT, hcapT, huT.trans hu7⟩
                      · have hq : qs = [] := List.eq_nil_of_length_eq_zero (by omega)
                        have hnl : decide ((0 : Int) < (qs.length : Int)) = false := decide_eq_false (by omega)
                        have hcx : CacheIs w6 Fc g N [] := by
                          have := hcT
                          rw [hq] at this
                          exact this
                        have Hq := Lib.hid hq
                        clear hq
                        go_wp2_with fail
                        refine (isoldest_none _ Fc g N hcx).mono ?_
                        rintro e w7 ⟨rfl, rfl⟩
                        go_wp2_with fail
                        refine (islen _ Fc g N (qs.map (·.e)) hcT).mono ?_
                        rintro e w8 ⟨he, rfl⟩
                        rw [List.length_map] at he
                        subst he
                        go_wp2
                        go_roundg (gk - 1)
                        case measure => omega
                        case rel => exact ⟨k + 1, Fc, A6, c6, qs, by omega, by go_num, rfl, hcT, hET, hFT, hlkT, hlNT, hcapT, huT⟩
                    · have hf := findI_no (ks := ps.map (·.e.key)) (k := d.p.e.key) (by rw [List.map_map] at hin; exact hin)
                      have HG := Lib.hid (isget_no _ Fc g N _ hcA d.p.e.l d.p.e.p hin)
                      clear hin
                      go_wp2_with fail
                      refine HG.out.mono ?_
                      rintro e w3 ⟨rfl, hu3⟩
                      have u9 := (Upd.refl No w3).alloc (.cells W0.toArray 47)
                      have b9 := Blk.new w3 47 W0
                      have hu9 := hu3.trans u9
                      have hE9 := hEA.upd hu9 (fun _ _ => id)
                      have hc9 := hcA.upd hu9 (fun _ _ => id)
                      have bD3 := bD.upd hu9 id
                      have huT9 := huA.trans hu9
                      clear d0 d1 d2 d3 d4 d5 d6 d7 d8 d9 d10 hEA huA hxA u9 hu3 hcA HG hu9
                      replace bD := bD3
                      clear bD3
                      have d0 := bD.cell 0
                      have d1 := bD.cell 1
                      have d2 := bD.cell 2
                      have d3 := bD.cell 3
                      have d4 := bD.cell 4
                      have d5 := bD.cell 5
                      have d6 := bD.cell 6
                      have d7 := bD.cell 7
                      have d8 := bD.cell 8
                      have d9 := bD.cell 9
                      have d10 := bD.cell 10
                      simp only [CDeed.cells, List.getElem?_cons_zero, List.getElem?_cons_succ] at d0 d1 d2 d3 d4 d5 d6 d7 d8 d9 d10
                      go_wp2_with fail
                      refine (rfind _ _ A' c' ps d.p.e.l d.p.e.p hE9 (by omega)).mono ?_
                      rintro e w4 ⟨he, hu4⟩
                      replace he : e = .returned (.int .i64 (findI (ps.map (·.e.key)) d.p.e.key)) := he
                      rw [hf] at he
                      subst he
                      have b10 := b9.upd hu4 id
                      have q0 := b10.cell 0
                      have q1 := b10.cell 1
                      have q2 := b10.cell 2
                      have q3 := b10.cell 3
                      have q4 := b10.cell 4
                      have q5 := b10.cell 5
                      have q6 := b10.cell 6
                      simp only [List.getElem?_cons_zero, List.getElem?_cons_succ] at q0 q1 q2 q3 q4 q5 q6
                      clear d0 d1 d2 d3 d4 d5 d6 d7 d8 d9 d10 bD
                      go_wp2_with fail
                      refine (wsame _ (fun _ => True) (fun _ => True) none none 0 0 ⟨0, [], 0, 0, 0, 0, 0⟩ ⟨0, [], 0, 0, 0, 0, 0⟩ (fun h => absurd rfl h) (fun h => absurd rfl h) (by decide) (by decide)).mono ?_
                      rintro e w5 ⟨he, hu5⟩
                      rw [beq_self_eq_true] at he
                      subst he
                      have hcT := (hc9.upd hu4 (fun _ _ => id)).upd hu5 (fun _ _ => id)
                      have hET := (hE9.upd hu4 (fun _ _ => id)).upd hu5 (fun _ _ => id)
                      have hcapT := hlc
                      have huT := (huT9.trans hu4).trans hu5
                      have hlkT : ps.length ≤ k + 1 := by omega
                      have hlNT := hlN
                      have hFT := hFw
                      clear hc9 hE9 b9 b10 huT9 hu4 hu5 hf q0 q1 q2 q3 q4 q5 q6
                      by_cases hpos : 0 < ps.length
                      · obtain ⟨x, rest, hq⟩ : ∃ x rest, ps = x :: rest := by
                          cases hh : ps with
                          | nil => rw [hh] at hpos; simp at hpos
                          | cons a b => exact ⟨a, b, rfl⟩
                        have hposI : (0 : Int) < (ps.length : Int) := by omega
                        have hposI0 : (0 : Int) ≤ (ps.length : Int) := by omega
                        have hx0 : ps[0] = x := by simp [hq]
                        obtain ⟨aq, hAq, _, haql, hcq⟩ := hET.recs.at_ (k := 0) (by rw [List.length_map]; exact hpos)
                        have f0 := hcq 0 (.int .i64 x.e.l) (by simp [hx0, EntP.cells])
                        have f1 := hcq 1 (.int .i64 x.e.p) (by simp [hx0, EntP.cells])
                        simp only [if_true, if_neg (show ¬ (1 = 0) by omega), Nat.zero_mul, Addr.add] at f0 f1
                        have hcx : CacheIs w5 Fc g N (x.e :: rest.map (·.e)) := by
                          have := hcT
                          rw [hq] at this
                          exact this
                        have Hq := Lib.hid hq
                        clear hcq hq hx0
                        subst hAq
                        go_wp2_with fail
                        refine (isoldest _ Fc g N x.e (rest.map (·.e)) hcx).mono ?_
                        rintro e w7 ⟨rfl, hu7⟩
                        have g0 := hu7.keepNo f0
                        have g1 := hu7.keepNo f1
                        go_wp2_with fail
                        refine (islen _ Fc g N (ps.map (·.e)) (hcT.upd hu7 (fun _ _ => id))).mono ?_
                        rintro e w8 ⟨he, rfl⟩
                        rw [List.length_map] at he
                        subst he
                        go_wp2
                        go_roundg (gk - 1)
                        case measure => omega
                        case rel => exact ⟨k + 1, Fc, some aq, c', ps, by omega, by go_num, rfl, hcT.upd hu7 (fun _ _ => id), hET.upd hu7 (fun _ _ => id), hFT, hlkT, hlNT, hcapT, huT.trans hu7⟩
                      · have hq : ps = [] := List.eq_nil_of_length_eq_zero (by omega)
                        have hnl : decide ((0 : Int) < (ps.length : Int)) = false := decide_eq_false (by omega)
                        have hcx : CacheIs w5 Fc g N [] := by
                          have := hcT
                          rw [hq] at this
                          exact this
                        have Hq := Lib.hid hq
                        clear hq
                        go_wp2_with fail
                        refine (isoldest_none _ Fc g N hcx).mono ?_
                        rintro e w7 ⟨rfl, rfl⟩
                        go_wp2_with fail
                        refine (islen _ Fc g N (ps.map (·.e)) hcT).mono ?_
                        rintro e w8 ⟨he, rfl⟩
                        rw [List.length_map] at he
                        subst he
                        go_wp2
                        go_roundg (gk - 1)
                        case measure => omega
                        case rel => exact ⟨k + 1, Fc, A', c', ps, by omega, by go_num, rfl, hcT, hET, hFT, hlkT, hlNT, hcapT, huT⟩
                · by_cases hk4 : d.kind = 4
                  · have hb0 : (d.kind == 0) = false := by rw [beq_eq_false_iff_ne]; exact hk0
                    have hb1 : (d.kind == 1) = false := by rw [beq_eq_false_iff_ne]; exact hk1
                    have hb2 : (d.kind == 2) = false := by rw [beq_eq_false_iff_ne]; exact hk2
                    have hb3 : (d.kind == 3) = false := by rw [beq_eq_false_iff_ne]; exact hk3
                    have hb4 : (d.kind == 4) = true := by rw [beq_iff_eq]; exact hk4
                    clear hk0 hk1 hk2 hk3 hk4
                    as_aux_lemma =>
                      go_wp2_with fail
                      refine (rforget _ (fun i => ¬ Fc i) A' c' ps d.p.e.l hEA (by omega)).mono ?_
                      rintro e w3 ⟨A6, c6, qs, rfl, hqs, ho6, hw6, hu3⟩
                      replace hqs : qs = ps.filter fun p => p.e.l ≠ d.p.e.l := hqs
                      have bD3 := bD.upd hu3 id
                      clear d0 d1 d2 d3 d4 d5 d6 d7 d8 d9 d10
                      replace bD := bD3
                      clear bD3
                      have d0 := bD.cell 0
                      have d1 := bD.cell 1
                      have d2 := bD.cell 2
                      have d3 := bD.cell 3
                      have d4 := bD.cell 4
                      have d5 := bD.cell 5
                      have d6 := bD.cell 6
                      have d7 := bD.cell 7
                      have d8 := bD.cell 8
                      have d9 := bD.cell 9
                      have d10 := bD.cell 10
                      simp only [CDeed.cells, List.getElem?_cons_zero, List.getElem?_cons_succ] at d0 d1 d2 d3 d4 d5 d6 d7 d8 d9 d10
                      have hmf : (ps.map (·.e)).filter (fun x => x.l ≠ d.p.e.l) = qs.map (·.e) := by rw [hqs, List.filter_map]; rfl
                      have hlq : qs.length ≤ ps.length := by rw [hqs]; exact List.length_filter_le _ _
                      have hval : ((((ps.map (·.e)).filter fun x => x.l = d.p.e.l).length : Nat) : Int) = (ps.length : Int) - (qs.length : Int) := by
                        have h1 := filter_both (ps.map (·.e)) d.p.e.l
                        rw [hmf, List.length_map, List.length_map] at h1
                        omega
                      have Hval := Lib.hid hval
                      have Hmf := Lib.hid hmf
                      clear hmf hval hqs
                      go_wp2_with fail
                      refine (isforget _ Fc g N _ (hcA.upd hu3 (fun _ _ => id)) d.p.e.l (by rw [List.length_map]; omega)).mono ?_
                      rintro e w4 ⟨he, hc4, hu4⟩
                      rw [Hval.out] at he
                      subst he
                      have hge : ∀ i, Fc i → i < w3.heap.size := (hcA.upd hu3 (fun _ _ => id)).lt
                      have hcT : CacheIs w4 Fc g N (qs.map (·.e)) := by rw [← Hmf.out]; exact hc4
                      have hET : Ents (fun i => ¬ Fc i) w4 A6 qs := ((ents_new (G := fun i => ¬ Fc i) ho6 hw6 (fun i h1 h2 e => by
                        have := hFlt i e
                        simp only [World.size_alloc] at h1
                        omega) (fun i _ h => h))).upd hu4 (fun i hi e => hi e)
                      have hcapT := own_cap ho6
                      have huT := (huA.trans hu3).then_ hu4 (fun i e => .inr (hFw i e))
                      have hlkT : qs.length ≤ k + 1 := by omega
                      have hlNT : (qs.length : Int) ≤ N := by omega
                      have hFT := hFw
                      clear d0 d1 d2 d3 d4 d5 d6 d7 d8 d9 d10 bD hcA hEA huA hxA hu3 hc4 hu4 ho6 hw6 Hval Hmf
                      by_cases hpos : 0 < qs.length
                      · obtain ⟨x, rest, hq⟩ : ∃ x rest, qs = x :: rest := by
                          cases hh : qs with
                          | nil => rw [hh] at hpos; simp at hpos
                          | cons a b => exact ⟨a, b, rfl⟩
                        have hposI : (0 : Int) < (qs.length : Int) := by omega
                        have hposI0 : (0 : Int) ≤ (qs.length : Int) := by omega
                        have hx0 : qs[0] = x := by simp [hq]
                        obtain ⟨aq, hAq, _, haql, hcq⟩ := hET.recs.at_ (k := 0) (by rw [List.length_map]; exact hpos)
                        have f0 := hcq 0 (.int .i64 x.e.l) (by simp [hx0, EntP.cells])
                        have f1 := hcq 1 (.int .i64 x.e.p) (by simp [hx0, EntP.cells])
                        simp only [if_true, if_neg (show ¬ (1 = 0) by omega), Nat.zero_mul, Addr.add] at f0 f1
                        have hcx : CacheIs w4 Fc g N (x.e :: rest.map (·.e)) := by
                          have := hcT
                          rw [hq] at this
                          exact this
                        have Hq := Lib.hid hq
                        clear hcq hq hx0
                        subst hAq
                        go_wp2_with fail
                        refine (isoldest _ Fc g N x.e (rest.map (·.e)) hcx).mono ?_
                        rintro e w7 ⟨rfl, hu7⟩
                        have g0 := hu7.keepNo f0
                        have g1 := hu7.keepNo f1
                        go_wp2_with fail
                        refine (islen _ Fc g N (qs.map (·.e)) (hcT.upd hu7 (fun _ _ => id))).mono ?_
                        rintro e w8 ⟨he, rfl⟩
                        rw [List.length_map] at he
                        subst he
                        go_wp2
                        go_roundg (gk - 1)
                        case measure => omega
                        case rel => exact ⟨k + 1, Fc, some aq, c6, qs, by omega, by go_num, rfl, hcT.upd hu7 (fun _ _ => id), hET.upd hu7 (fun _ _ => id), hFT, hlkT, hlNT, hcapT, huT.trans hu7⟩
                      · have hq : qs = [] := List.eq_nil_of_length_eq_zero (by omega)
                        have hnl : decide ((0 : Int) < (qs.length : Int)) = false := decide_eq_false (by omega)
                        have hcx : CacheIs w4 Fc g N [] := by
                          have := hcT
                          rw [hq] at this
                          exact this
                        have Hq := Lib.hid hq
                        clear hq
                        go_wp2_with fail
                        refine (isoldest_none _ Fc g N hcx).mono ?_
                        rintro e w7 ⟨rfl, rfl⟩
                        go_wp2_with fail
                        refine (islen _ Fc g N (qs.map (·.e)) hcT).mono ?_
                        rintro e w8 ⟨he, rfl⟩
                        rw [List.length_map] at he
                        subst he
                        go_wp2
                        go_roundg (gk - 1)
                        case measure => omega
                        case rel => exact ⟨k + 1, Fc, A6, c6, qs, by omega, by go_num, rfl, hcT, hET, hFT, hlkT, hlNT, hcapT, huT⟩
                  · have hb0 : (d.kind == 0) = false := by rw [beq_eq_false_iff_ne]; exact hk0
                    have hb1 : (d.kind == 1) = false := by rw [beq_eq_false_iff_ne]; exact hk1
                    have hb2 : (d.kind == 2) = false := by rw [beq_eq_false_iff_ne]; exact hk2
                    have hb3 : (d.kind == 3) = false := by rw [beq_eq_false_iff_ne]; exact hk3
                    have hb4 : (d.kind == 4) = false := by rw [beq_eq_false_iff_ne]; exact hk4
                    clear hk0 hk1 hk2 hk3 hk4
                    as_aux_lemma =>
                      have hcT := hcA
                      have hET := hEA
                      have hcapT := hlc
                      have huT := huA
                      have hlkT : ps.length ≤ k + 1 := by omega
                      have hlNT := hlN
                      have hFT := hFw
                      clear hcA hEA huA hxA
                      by_cases hpos : 0 < ps.length
                      · obtain ⟨x, rest, hq⟩ : ∃ x rest, ps = x :: rest := by
                          cases hh : ps with
                          | nil => rw [hh] at hpos; simp at hpos
                          | cons a b => exact ⟨a, b, rfl⟩
                        have hposI : (0 : Int) < (ps.length : Int) := by omega
                        have hposI0 : (0 : Int) ≤ (ps.length : Int) := by omega
                        have hx0 : ps[0] = x := by simp [hq]
                        obtain ⟨aq, hAq, _, haql, hcq⟩ := hET.recs.at_ (k := 0) (by rw [List.length_map]; exact hpos)
                        have f0 := hcq 0 (.int .i64 x.e.l) (by simp [hx0, EntP.cells])
                        have f1 := hcq 1 (.int .i64 x.e.p) (by simp [hx0, EntP.cells])
                        simp only [if_true, if_neg (show ¬ (1 = 0) by omega), Nat.zero_mul, Addr.add] at f0 f1
                        have hcx : CacheIs (wr.alloc (.cells #[.int .i64 d.kind, .int .i64 d.p.e.l, .int .i64 d.p.e.p, .int .i64 d.p.e.w.phen, .slice d.p.A d.p.e.w.walk.length d.p.c, .int .i64 d.p.e.w.r0, .int .i64 d.p.e.w.r1, .int .i64 d.p.e.w.r2, .int .i64 d.p.e.w.r3, .int .i64 d.p.e.w.r4, .bool d.p.e.has] 51)) Fc g N (x.e :: rest.map (·.e)) := by
                          have := hcT
                          rw [hq] at this
                          exact this
                        have Hq := Lib.hid hq
                        clear hcq hq hx0
                        subst hAq
                        go_wp2_with fail
                        refine (isoldest _ Fc g N x.e (rest.map (·.e)) hcx).mono ?_
                        rintro e w7 ⟨rfl, hu7⟩
                        have g0 := hu7.keepNo f0
                        have g1 := hu7.keepNo f1
                        go_wp2_with fail
                        refine (islen _ Fc g N (ps.map (·.e)) (hcT.upd hu7 (fun _ _ => id))).mono ?_
                        rintro e w8 ⟨he, rfl⟩
                        rw [List.length_map] at he
                        subst he
                        go_wp2
                        go_roundg (gk - 1)
                        case measure => omega
                        case rel => exact ⟨k + 1, Fc, some aq, c', ps, by omega, by go_num, rfl, hcT.upd hu7 (fun _ _ => id), hET.upd hu7 (fun _ _ => id), hFT, hlkT, hlNT, hcapT, huT.trans hu7⟩
                      · have hq : ps = [] := List.eq_nil_of_length_eq_zero (by omega)
                        have hnl : decide ((0 : Int) < (ps.length : Int)) = false := decide_eq_false (by omega)
                        have hcx : CacheIs (wr.alloc (.cells #[.int .i64 d.kind, .int .i64 d.p.e.l, .int .i64 d.p.e.p, .int .i64 d.p.e.w.phen, .slice d.p.A d.p.e.w.walk.length d.p.c, .int .i64 d.p.e.w.r0, .int .i64 d.p.e.w.r1, .int .i64 d.p.e.w.r2, .int .i64 d.p.e.w.r3, .int .i64 d.p.e.w.r4, .bool d.p.e.has] 51)) Fc g N [] := by
                          have := hcT
                          rw [hq] at this
                          exact this
                        have Hq := Lib.hid hq
                        clear hq
                        go_wp2_with fail
                        refine (isoldest_none _ Fc g N hcx).mono ?_
                        rintro e w7 ⟨rfl, rfl⟩
                        go_wp2_with fail
                        refine (islen _ Fc g N (ps.map (·.e)) hcT).mono ?_
                        rintro e w8 ⟨he, rfl⟩
                        rw [List.length_map] at he
                        subst he
                        go_wp2
                        go_roundg (gk - 1)
                        case measure => omega
                        case rel => exact ⟨k + 1, Fc, A', c', ps, by omega, by go_num, rfl, hcT, hET, hFT, hlkT, hlNT, hcapT, huT⟩
      · obtain rfl : k = ds.length := by omega
        go_wp2_with fail
        refine (lives.out _).mono ?_
        rintro e w3 ⟨rfl, hu3⟩
        go_wp2
        go_ret
        exact ⟨rfl, hu.trans hu3⟩
end Go.Proofs.Ytpiigfbdgmjidaa
