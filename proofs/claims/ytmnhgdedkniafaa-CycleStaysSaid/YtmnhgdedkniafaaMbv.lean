/- Closed walks: with an edge more, and without one that is not in the walk. -/
import Derived.Test.YtmnhgdedkniafaaMbu
namespace Go.Proofs.Ytmnhgdedkniafaa
set_option linter.unusedVariables false
open Go.RowKit
theorem mem_kept {l : List Edge} {mask : Int} {e : Edge} : e ∈ keptE l mask ↔ e ∈ l ∧ bitR mask e.k = true := by unfold keptE; rw [List.mem_filter]
theorem stay_more {l l' : List Edge} {mask must : Int} (hll : l.length ≤ 100000) (hl : l'.length ≤ 100000) (hs : ∀ e ∈ l, e ∈ l') (h0 : docS l mask must ≠ []) : docS l' mask must ≠ [] ∧ (docS l' mask must).length ≤ (docS l mask must).length := by
  have hsub : ∀ a ∈ (keptE l mask).map Edge.arc, a ∈ (keptE l' mask).map Edge.arc := fun a ha => by
    obtain ⟨e, he, rfl⟩ := List.mem_map.1 ha
    exact mem_arcs.2 (mem_kept.2 ⟨hs e (mem_kept.1 he).1, (mem_kept.1 he).2⟩)
  rcases docS_or l' mask must hl with ⟨e, h⟩ | ⟨v', h'⟩
  · exfalso
    exact h0 (docS_none (h.mem hsub))
  · refine ⟨fun e => h'.ne (by rw [e]; rfl), ?_⟩
    rcases docS_or l mask must hll with ⟨e, _⟩ | ⟨v, h⟩
    · exact absurd e h0
    · have := h.more hsub h'
      rwa [List.length_map, List.length_map] at this
theorem stay_less {l l' : List Edge} {mask must : Int} (hl : l.length ≤ 100000) (hs : ∀ e ∈ l', e ∈ l) (hd : ∀ e ∈ docS l mask must, e ∈ l → e ∈ l') (h0 : docS l mask must ≠ []) : docS l' mask must = docS l mask must := by
  rcases docS_or l mask must hl with ⟨e, h⟩ | ⟨v, h⟩
  · exact absurd e h0
  · have h2 : Short ((keptE l' mask).map Edge.arc) must (needR must) v ((docS l mask must).map Edge.arc) := h.less (fun a ha => by
      obtain ⟨e, he, rfl⟩ := List.mem_map.1 ha
      exact mem_arcs.2 (mem_kept.2 ⟨hs e (mem_kept.1 he).1, (mem_kept.1 he).2⟩)) (fun a ha => by
      obtain ⟨e, he, rfl⟩ := List.mem_map.1 ha
      have h3 := mem_kept.1 (mem_arcs.1 (okW_mem h.w _ ha))
      exact mem_arcs.2 (mem_kept.2 ⟨hd e he h3.1, h3.2⟩))
    exact map_arc_inj (docS_short h2)
theorem drop_one {l : List Edge} {i : Nat} (hi : i < l.length) {e : Edge} : e ∈ l ↔ e = l[i] ∨ e ∈ l.take i ++ l.drop (i + 1) := by
  have h := List.take_append_drop i l
  rw [List.drop_eq_getElem_cons hi] at h
  conv => lhs; rw [← h]
  simp only [List.mem_append, List.mem_cons]
  constructor
  · rintro (h | h | h)
    · exact .inr (.inl h)
    · exact .inl h
    · exact .inr (.inr h)
  · rintro (h | h | h)
    · exact .inr (.inl h)
    · exact .inl h
    · exact .inr (.inr h)
theorem stay_drop {l : List Edge} {mask must : Int} (hl : l.length ≤ 100000) {i : Nat} (hi : i < l.length) (hn : l[i] ∉ docS l mask must) (h0 : docS l mask must ≠ []) : docS (l.take i ++ l.drop (i + 1)) mask must = docS l mask must :=
  stay_less hl (fun e he => (drop_one hi).2 (.inr he)) (fun e he hm => ((drop_one hi).1 hm).elim (fun h => absurd (h ▸ he) hn) id) h0
theorem src_newE {W : World} {cs : List Value} {e : TypeId} {n m s : Nat} (hn : n = W.heap.size) (hm : cs.length = m * s) : Src (W.alloc (.cells cs.toArray e)) (some ⟨n, 0, none⟩) m s cs := by
  subst hn
  exact ⟨hm, fun _ => ⟨_, rfl, fun j v hj => news_new j v hj⟩⟩
theorem src_blk {W : World} {g : Nat} {t : TypeId} {cs : List Value} {m s : Nat} (hb : Blk W g t cs) (hm : cs.length = m * s) : Src W (some ⟨g, 0, none⟩) m s cs :=
  ⟨hm, fun _ => ⟨_, rfl, fun j v hj => by rw [blk_lit_add, Nat.zero_add, hb.cell]; exact hj⟩⟩
theorem walk_own {w : World} {base : Nat} {A : Option Addr} {c : Nat} {l : List Edge} (ho : w.ownsRow base 96 4 (.slice A l.length c) l.length (edgesF l)) : Walk (Own (.slice A l.length c)) w A l :=
  Recs.of_own (rows := l.map Edge.cells) edges_len (by omega) ho
theorem walkTake {F : Nat → Prop} {w : World} {A : Option Addr} {l : List Edge} (h : Walk F w A l) {i : Nat} (hi : i ≤ l.length) : Src w A i 4 (edgesF (l.take i)) := by
  have h2 : Walk F w A (l.take i) := by
    unfold Walk
    rw [List.map_take]
    exact Recs.take h
  have h3 := src_walk h2
  rwa [List.length_take, Nat.min_eq_left hi] at h3
theorem walkDrop {F : Nat → Prop} {w : World} {A : Option Addr} {l : List Edge} (h : Walk F w A l) {i c : Nat} (hc : l.length ≤ c) : Src w (cutA A c i 4) (l.length - i) 4 (edgesF (l.drop i)) := by
  have h2 : Walk F w (cutA A c i 4) (l.drop i) := by
    unfold Walk
    rw [List.map_drop]
    exact Recs.cut h (by simpa using hc)
  have h3 := src_walk h2
  rwa [List.length_drop] at h3
theorem own_isC {a n c i : Nat} (e : Own (.slice (some ⟨a, 0, none⟩) n c) i) : a = i := by simpa [Own, Value.ownBlock] using e
theorem st_big {w : World} {A : Option Addr} {c n : Nat} {mask must less : Int} {more : Edge} (hl : 60 < n)
    (L : Hid (∀ w, Calls Try.prog 68 #[] w fun e w' => e = .returned (.bool true) ∧ Upd No w w')) :
    Calls Try.prog 13 #[.slice A n c, .int .i64 mask, .int .i64 must, .agg more.cells.toArray, .int .i64 less] w fun e w' => e = .returned (.bool true) ∧ Upd No w w' := by
  have hb : decide (60 < (n : Int)) = true := decide_eq_true (by omega)
  unfold Edge.cells
  go_enter Try.func13, Try.ntmps13
  go_wp2_with fail
  refine (L.out _).mono ?_
  rintro e w1 ⟨rfl, hu1⟩
  go_wp2
  go_ret
  exact ⟨rfl, ((Upd.refl No w).alloc _).trans hu1⟩
theorem st_no {F : Nat → Prop} {w : World} {A : Option Addr} {c : Nat} {l : List Edge} {mask must less : Int} {more : Edge} (hW : Walk F w A l) (hl : l.length ≤ 60) (hd : docS l mask must = [])
    (L : Hid (∀ w, Calls Try.prog 68 #[] w fun e w' => e = .returned (.bool true) ∧ Upd No w w')) :
    Calls Try.prog 13 #[.slice A l.length c, .int .i64 mask, .int .i64 must, .agg more.cells.toArray, .int .i64 less] w fun e w' => e = .returned (.bool true) ∧ Upd No w w' := by
  have hb : decide (60 < (l.length : Int)) = false := decide_eq_false (by omega)
  have HS := Lib.hid (fun (W : World) (u : Upd No w W) => shNo (c := c) (hW.upd u (fun _ _ => id)) (by omega) rfl hd)
  unfold Edge.cells
  clear hW hd
  go_enter Try.func13, Try.ntmps13
  go_wp2_with fail
  refine (L.out _).mono ?_
  rintro e w1 ⟨rfl, hu1⟩
  have hu01 := ((Upd.refl No w).alloc (.cells #[.int .i64 more.f, .int .i64 more.t, .int .i64 more.k, .int .i64 more.key] 96)).trans hu1
  go_wp2_with fail
  refine (HS.out w1 hu01).mono ?_
  rintro e w2 ⟨X, cx, rfl, hu2⟩
  go_wp2
  go_ret
  exact ⟨rfl, hu01.trans hu2⟩
set_option maxRecDepth 100000 in
set_option maxHeartbeats 8000000 in
theorem st_yes {F : Nat → Prop} {w : World} {A : Option Addr} {c : Nat} {l d : List Edge} {mask must less : Int} {more : Edge} (hW : Walk F w A l) (hlc : l.length ≤ c) (hl : l.length ≤ 60) (hd : docS l mask must = d) (h0 : 0 < d.length) (hdl : d.length ≤ l.length)
    (L : Hid (∀ w, Calls Try.prog 68 #[] w fun e w' => e = .returned (.bool true) ∧ Upd No w w')) :
    Calls Try.prog 13 #[.slice A l.length c, .int .i64 mask, .int .i64 must, .agg more.cells.toArray, .int .i64 less] w fun e w' => e = .returned (.bool true) ∧ Upd No w w' := by
  have hb : decide (60 < (l.length : Int)) = false := decide_eq_false (by omega)
  have hdn : docS l mask must ≠ [] := fun e => by rw [hd] at e; rw [e] at h0; simp at h0
  obtain ⟨d', hd'⟩ : ∃ d', docS (l ++ [more]) mask must = d' := ⟨_, rfl⟩
  have hmore := stay_more (l := l) (l' := l ++ [more]) (mask := mask) (must := must) (by omega) (by simp; omega) (fun e he => List.mem_append_left _ he) hdn
  rw [hd', hd] at hmore
  have h0' : 0 < d'.length := List.length_pos_iff.2 hmore.1
  have hle : ¬ (d.length : Int) < (d'.length : Int) := by omega
  obtain ⟨wb, hwb⟩ : ∃ wb, w.alloc (.cells #[.int .i64 more.f, .int .i64 more.t, .int .i64 more.k, .int .i64 more.key] 96) = wb := ⟨_, rfl⟩
  have u0 : Upd No w wb := by rw [← hwb]; exact (Upd.refl No w).alloc _
  have bM : Blk wb w.heap.size 96 [.int .i64 more.f, .int .i64 more.t, .int .i64 more.k, .int .i64 more.key] := by rw [← hwb]; exact Blk.new w _ _
  have HWL := Lib.hid (fun (W : World) (u : Upd No wb W) => hW.upd (u0.trans u) (fun _ _ => id))
  have HS := Lib.hid (fun (W : World) (u : Upd No wb W) => shYes (c := c) (HWL.out W u) (by omega) rfl hd rfl h0)
  have HY := Lib.hid (fun (W : World) (base : Nat) (A : Option Addr) (c : Nat) (ho : W.ownsRow base 96 4 (.slice A (l.length + 1) c) (l.length + 1) (edgesF l ++ [.int .i64 more.f, .int .i64 more.t, .int .i64 more.k, .int .i64 more.key])) =>
    shYes (n := l.length + 1) (c := c) (mask := mask) (must := must) (walk_own (l := l ++ [more]) (w := W) (base := base) (A := A) (c := c) (by
      have e : (l ++ [more]).length = l.length + 1 := by simp
      rw [e, edgesF_app]
      exact ho)) (by simp; omega) (by simp) hd' rfl h0')
  have HI := Lib.hid (fun (W : World) (X : Option Addr) (cx : Nat) (G : Nat → Prop) (h : Walk G W X d) (e : Edge) => cinEdges G W X cx d e h (by omega))
  have HZ := Lib.hid (fun (i : Nat) (hi : i < l.length) (hn : l[i] ∉ d) (W : World) (base : Nat) (A : Option Addr) (c : Nat) (ho : W.ownsRow base 96 4 (.slice A (i + (l.length - (i + 1))) c) (i + (l.length - (i + 1))) (edgesF (l.take i) ++ edgesF (l.drop (i + 1)))) =>
    shYes (n := i + (l.length - (i + 1))) (c := c) (mask := mask) (must := must) (l := l.take i ++ l.drop (i + 1)) (d := d) (m := d.length) (walk_own (l := l.take i ++ l.drop (i + 1)) (w := W) (base := base) (A := A) (c := c) (by
      have e : (l.take i ++ l.drop (i + 1)).length = i + (l.length - (i + 1)) := by simp; omega
      rw [e, edgesF_app]
      exact ho)) (by simp; omega) (by simp; omega) ((stay_drop (mask := mask) (must := must) (by omega) hi (by rw [hd]; exact hn) hdn).trans hd) rfl h0)
  have m0 : ∀ W, Upd No wb W → W.cell? ⟨w.heap.size, 0, none⟩ = some (.int .i64 more.f) := fun W u => by have := (bM.upd u id).cell 0; simpa using this
  have m1 : ∀ W, Upd No wb W → W.cell? ⟨w.heap.size, 1, none⟩ = some (.int .i64 more.t) := fun W u => by have := (bM.upd u id).cell 1; simpa using this
  have m2 : ∀ W, Upd No wb W → W.cell? ⟨w.heap.size, 2, none⟩ = some (.int .i64 more.k) := fun W u => by have := (bM.upd u id).cell 2; simpa using this
  have m3 : ∀ W, Upd No wb W → W.cell? ⟨w.heap.size, 3, none⟩ = some (.int .i64 more.key) := fun W u => by have := (bM.upd u id).cell 3; simpa using this
  have U0 := Lib.hid u0
  have hlI : l.length ≤ 60 := hl
  unfold Edge.cells
  clear hW hd hdn hmore u0 bM hd'
  go_enter Try.func13, Try.ntmps13
  go_wp2_with fail
  refine (L.out wb).mono ?_
  rintro e w1 ⟨rfl, hu1⟩
  go_wp2_with fail
  refine (HS.out w1 hu1).mono ?_
  rintro e w2 ⟨X, cx, rfl, hx, hu2'⟩
  have HU2 := Lib.hid (hu1.trans hu2')
  have HX := Lib.hid hx
  have M0 : ∀ W, Upd No w2 W → W.cell? ⟨w.heap.size, 0, none⟩ = some (.int .i64 more.f) := fun W u => m0 W (HU2.out.trans u)
  have M1 : ∀ W, Upd No w2 W → W.cell? ⟨w.heap.size, 1, none⟩ = some (.int .i64 more.t) := fun W u => m1 W (HU2.out.trans u)
  have M2 : ∀ W, Upd No w2 W → W.cell? ⟨w.heap.size, 2, none⟩ = some (.int .i64 more.k) := fun W u => m2 W (HU2.out.trans u)
  have M3 : ∀ W, Upd No w2 W → W.cell? ⟨w.heap.size, 3, none⟩ = some (.int .i64 more.key) := fun W u => m3 W (HU2.out.trans u)
  have HL2 := Lib.hid (fun (W : World) (u : Upd No w2 W) => HWL.out W (HU2.out.trans u))
  clear hwb hx hu1 hu2' m0 m1 m2 m3 HS
  go_wp2
  go_upto_region 8 with fail
  go_cut [13, 14] (fun s13 s14 wc => ∃ Y cy, s13 = .slice Y d'.length cy ∧ s14 = .int .i64 0 ∧ Upd No w2 wc)
  case first =>
    refine wp_region_noPanic ?_
    refine wp_region_held_drew (S := (fun W' => Upd No w2 W')) (by kernel_rfl) ?_ (fun hHeld => ?_)
    · (first | (with_reducible (repeat (first | exact Upd.refl _ _ | apply Upd.drew | apply Upd.alloc)); done) | with_reducible exact uw4 | with_reducible exact uw5 | with_reducible exact hHeld.trans hu6 | exact hHeld.alloc _)
    refine wpT 1 ⟨some 35, .move (.tmp 0), 26, "law.go:84", #[], none⟩ ?_ (.inl ⟨by rfl, ?_⟩) ?_
    rotate_left
    · (intro W hSw; (try dsimp only at hSw); go_simp; try (with_reducible rfl))
    try simp only [Act.put]
    try simp only [List.setIfInBounds_toArray]
    try simp only [List.set_cons_succ]
    try simp only [List.set_cons_zero]
    refine wpT 3 ⟨some 37, .load 96 (.tmp 8), 96, "law.go:84", #[], none⟩ ?_ (.inl ⟨by rfl, ?_⟩) ?_
    rotate_left
    · (intro W hSw; (try dsimp only at hSw); go_simp; try (with_reducible rfl))
    try simp only [Act.put]
    try simp only [List.setIfInBounds_toArray]
    try simp only [List.set_cons_succ]
    try simp only [List.set_cons_zero]
    refine wpT 6 ⟨some 40, .move (.tmp 1), 3, "law.go:84", #[], none⟩ ?_ (.inl ⟨by rfl, ?_⟩) ?_
    rotate_left
    · (intro W hSw; (try dsimp only at hSw); go_simp; try (with_reducible rfl))
    try simp only [Act.put]
    try simp only [List.setIfInBounds_toArray]
    try simp only [List.set_cons_succ]
    try simp only [List.set_cons_zero]
    refine wpT 7 ⟨some 41, .move (.tmp 2), 3, "law.go:84", #[], none⟩ ?_ (.inl ⟨by rfl, ?_⟩) ?_
    rotate_left
    · (intro W hSw; (try dsimp only at hSw); go_simp; try (with_reducible rfl))
    try simp only [Act.put]
    try simp only [List.setIfInBounds_toArray]
    try simp only [List.set_cons_succ]
    try simp only [List.set_cons_zero]
    refine wpAnyH_ready (rs := [0, 4]) (by kernel_rfl) (by simp) ?_
    refine AllReadyH.cons (o := ⟨some 34, .buildSlice 26 0 #[], 26, "law.go:84", #[], none⟩) rfl (fun K hK => ?_) ?_
    · go_simp
      refine hK.out _ _ ?_ (fun hHeld => ?_)
      · (first | (with_reducible (repeat (first | exact Upd.refl _ _ | apply Upd.drew | apply Upd.alloc)); done) | with_reducible exact uw4 | with_reducible exact uw5 | with_reducible exact hHeld.trans hu6 | exact hHeld.alloc _)
      clear hK K
      try simp only [Act.put]
      try simp only [List.setIfInBounds_toArray]
      try simp only [List.set_cons_succ]
      try simp only [List.set_cons_zero]
      refine wpAnyH_ready (rs := [2, 4]) (by kernel_rfl) (by simp) ?_
      refine AllReadyH.cons (o := ⟨some 36, .call { callee := .builtin .append, args := #[.tmp 34, .tmp 35], argTypes := #[26, 26] }, 26, "law.go:84", #[⟨0, .data⟩, ⟨1, .data⟩], none⟩) rfl (fun K hK => ?_) ?_
      · (first
        | (refine step_appN (by rfl) (by rfl) slt_edges (base := w2.heap.size) (v := .slice (some ⟨w2.heap.size, 0, none⟩) 0 0) (n := 0) (m := l.length) (xs := []) (by rfl) (by rfl) ?_ (src_walk (HL2.out _ hHeld)) edges_one (by omega) (by omega) (by simp) ?_; exact own_empE rfl (by simp); intro v4 w4 hown4 hu4 hg4; simp only [Nat.zero_add, List.nil_append] at hown4; obtain ⟨A4, c4, rfl⟩ := own_slice hown4; have uw4 : Upd No w2 w4 := hHeld.then_ hu4 (fun j e => .inr (own_ge e)))
        | (refine step_appN (by rfl) (by rfl) slt_edges (base := w2.heap.size) (v := .slice (some ⟨w2.heap.size, 0, none⟩) 0 0) (n := 0) (m := l.length) (xs := []) (by rfl) (by rfl) ?_ (src_walk (HL2.out _ hHeld)) edges_one (by omega) (by omega) (by simp; omega) ?_; exact own_upd (own_empE (W := w2) rfl (Nat.le_refl _)) (((Upd.refl No _).alloc _).drew) (fun _ _ => id); intro v4 w4 hown4 hu4 hg4; simp only [Nat.zero_add, List.nil_append] at hown4; obtain ⟨A4, c4, rfl⟩ := own_slice hown4; have uw4 : Upd No w2 w4 := hHeld.then_ hu4 (fun j e => .inr (own_ge e)); have HBM : Blk w4 (w2.heap.size + 1) 96 [.int .i64 more.f, .int .i64 more.t, .int .i64 more.k, .int .i64 more.key] := (Blk.drew (show Blk ((w2.alloc (.cells #[] 96)).alloc (.cells #[.int .i64 more.f, .int .i64 more.t, .int .i64 more.k, .int .i64 more.key] 96)) (w2.heap.size + 1) 96 [.int .i64 more.f, .int .i64 more.t, .int .i64 more.k, .int .i64 more.key] by simpa using Blk.new (w2.alloc (.cells #[] 96)) 96 [.int .i64 more.f, .int .i64 more.t, .int .i64 more.k, .int .i64 more.key])).upd hu4 (fun e => by have := own_isC e; omega))
        | (refine step_appN (by rfl) (by rfl) slt_edges (base := w2.heap.size) (v := .slice (some ⟨w2.heap.size + 1, 0, none⟩) 0 0) (n := 0) (m := l.length) (xs := []) (by rfl) (by rfl) ?_ (src_walk (HL2.out _ hHeld)) edges_one (by omega) (by omega) (by simp; omega) ?_; exact own_upd (own_empE (W := w2.alloc (.cells #[.int .i64 more.f, .int .i64 more.t, .int .i64 more.k, .int .i64 more.key] 96)) (by simp) (by simp)) ((Upd.refl No _).drew) (fun _ _ => id); intro v4 w4 hown4 hu4 hg4; simp only [Nat.zero_add, List.nil_append] at hown4; obtain ⟨A4, c4, rfl⟩ := own_slice hown4; have uw4 : Upd No w2 w4 := hHeld.then_ hu4 (fun j e => .inr (Nat.le_trans (by omega) (own_ge e))); have HBM : Blk w4 w2.heap.size 96 [.int .i64 more.f, .int .i64 more.t, .int .i64 more.k, .int .i64 more.key] := (Blk.drew ((Blk.new w2 96 [.int .i64 more.f, .int .i64 more.t, .int .i64 more.k, .int .i64 more.key]).alloc (.cells #[] 96))).upd hu4 (fun e => by have := own_isC e; omega))
        | (refine step_appN (by rfl) (by rfl) slt_edges (base := w2.heap.size) (v := .slice A4 l.length c4) (n := l.length) (m := 1) (xs := edgesF l) (news := [.int .i64 more.f, .int .i64 more.t, .int .i64 more.k, .int .i64 more.key]) (by rfl) (by rfl) (own_upd hown4 ((Upd.refl No _).alloc _) (fun _ _ => id)) ?_ (by simp [Value.oneCell']) (by omega) (by omega) ?_ ?_; exact src_newE (by simp) rfl; exact hHeld.size; intro v5 w5 hown5 hu5 hg5; obtain ⟨A5, c5, rfl⟩ := own_slice hown5; have uw5 : Upd No w2 w5 := hHeld.then_ hu5 (fun j e => .inr (hown4.lt j e).1))
        | (refine step_appN (by rfl) (by rfl) slt_edges (base := w2.heap.size) (v := .slice A4 l.length c4) (n := l.length) (m := 1) (xs := edgesF l) (news := [.int .i64 more.f, .int .i64 more.t, .int .i64 more.k, .int .i64 more.key]) (by rfl) (by rfl) hown4 (src_blk HBM rfl) (by simp [Value.oneCell']) (by omega) (by omega) ?_ ?_; exact hHeld.size; intro v5 w5 hown5 hu5 hg5; obtain ⟨A5, c5, rfl⟩ := own_slice hown5; have uw5 : Upd No w2 w5 := hHeld.then_ hu5 (fun j e => .inr (hown4.lt j e).1)))
        refine hK.out _ _ ?_ (fun hHeld => ?_)
        · (first | (with_reducible (repeat (first | exact Upd.refl _ _ | apply Upd.drew | apply Upd.alloc)); done) | with_reducible exact uw4 | with_reducible exact uw5 | with_reducible exact hHeld.trans hu6 | exact hHeld.alloc _)
        clear hK K
        try simp only [Act.put]
        try simp only [List.setIfInBounds_toArray]
        try simp only [List.set_cons_succ]
        try simp only [List.set_cons_zero]
        refine wpAnyH_ready (rs := [4]) (by kernel_rfl) (by simp) ?_
        refine AllReadyH.cons (o := ⟨some 38, .buildSlice 26 1 #[(0, .tmp 37)], 26, "law.go:84", #[⟨3, .data⟩], none⟩) rfl (fun K hK => ?_) AllReadyH.nil
        go_simp
        refine hK.out _ _ ?_ (fun hHeld => ?_)
        · (first | (with_reducible (repeat (first | exact Upd.refl _ _ | apply Upd.drew | apply Upd.alloc)); done) | with_reducible exact uw4 | with_reducible exact uw5 | with_reducible exact hHeld.trans hu6 | exact hHeld.alloc _)
        clear hK K
        try simp only [Act.put]
        try simp only [List.setIfInBounds_toArray]
        try simp only [List.set_cons_succ]
        try simp only [List.set_cons_zero]
        refine wpAnyH_ready (rs := [5]) (by kernel_rfl) (by simp) ?_
        refine AllReadyH.cons (o := ⟨some 39, .call { callee := .builtin .append, args := #[.tmp 36, .tmp 38], argTypes := #[26, 26] }, 26, "law.go:84", #[⟨2, .data⟩, ⟨4, .data⟩, ⟨2, .chain⟩], none⟩) rfl (fun K hK => ?_) AllReadyH.nil
        (first
        | (refine step_appN (by rfl) (by rfl) slt_edges (base := w2.heap.size) (v := .slice (some ⟨w2.heap.size, 0, none⟩) 0 0) (n := 0) (m := l.length) (xs := []) (by rfl) (by rfl) ?_ (src_walk (HL2.out _ hHeld)) edges_one (by omega) (by omega) (by simp) ?_; exact own_empE rfl (by simp); intro v4 w4 hown4 hu4 hg4; simp only [Nat.zero_add, List.nil_append] at hown4; obtain ⟨A4, c4, rfl⟩ := own_slice hown4; have uw4 : Upd No w2 w4 := hHeld.then_ hu4 (fun j e => .inr (own_ge e)))
        | (refine step_appN (by rfl) (by rfl) slt_edges (base := w2.heap.size) (v := .slice (some ⟨w2.heap.size, 0, none⟩) 0 0) (n := 0) (m := l.length) (xs := []) (by rfl) (by rfl) ?_ (src_walk (HL2.out _ hHeld)) edges_one (by omega) (by omega) (by simp; omega) ?_; exact own_upd (own_empE (W := w2) rfl (Nat.le_refl _)) (((Upd.refl No _).alloc _).drew) (fun _ _ => id); intro v4 w4 hown4 hu4 hg4; simp only [Nat.zero_add, List.nil_append] at hown4; obtain ⟨A4, c4, rfl⟩ := own_slice hown4; have uw4 : Upd No w2 w4 := hHeld.then_ hu4 (fun j e => .inr (own_ge e)); have HBM : Blk w4 (w2.heap.size + 1) 96 [.int .i64 more.f, .int .i64 more.t, .int .i64 more.k, .int .i64 more.key] := (Blk.drew (show Blk ((w2.alloc (.cells #[] 96)).alloc (.cells #[.int .i64 more.f, .int .i64 more.t, .int .i64 more.k, .int .i64 more.key] 96)) (w2.heap.size + 1) 96 [.int .i64 more.f, .int .i64 more.t, .int .i64 more.k, .int .i64 more.key] by simpa using Blk.new (w2.alloc (.cells #[] 96)) 96 [.int .i64 more.f, .int .i64 more.t, .int .i64 more.k, .int .i64 more.key])).upd hu4 (fun e => by have := own_isC e; omega))
        | (refine step_appN (by rfl) (by rfl) slt_edges (base := w2.heap.size) (v := .slice (some ⟨w2.heap.size + 1, 0, none⟩) 0 0) (n := 0) (m := l.length) (xs := []) (by rfl) (by rfl) ?_ (src_walk (HL2.out _ hHeld)) edges_one (by omega) (by omega) (by simp; omega) ?_; exact own_upd (own_empE (W := w2.alloc (.cells #[.int .i64 more.f, .int .i64 more.t, .int .i64 more.k, .int .i64 more.key] 96)) (by simp) (by simp)) ((Upd.refl No _).drew) (fun _ _ => id); intro v4 w4 hown4 hu4 hg4; simp only [Nat.zero_add, List.nil_append] at hown4; obtain ⟨A4, c4, rfl⟩ := own_slice hown4; have uw4 : Upd No w2 w4 := hHeld.then_ hu4 (fun j e => .inr (Nat.le_trans (by omega) (own_ge e))); have HBM : Blk w4 w2.heap.size 96 [.int .i64 more.f, .int .i64 more.t, .int .i64 more.k, .int .i64 more.key] := (Blk.drew ((Blk.new w2 96 [.int .i64 more.f, .int .i64 more.t, .int .i64 more.k, .int .i64 more.key]).alloc (.cells #[] 96))).upd hu4 (fun e => by have := own_isC e; omega))
        | (refine step_appN (by rfl) (by rfl) slt_edges (base := w2.heap.size) (v := .slice A4 l.length c4) (n := l.length) (m := 1) (xs := edgesF l) (news := [.int .i64 more.f, .int .i64 more.t, .int .i64 more.k, .int .i64 more.key]) (by rfl) (by rfl) (own_upd hown4 ((Upd.refl No _).alloc _) (fun _ _ => id)) ?_ (by simp [Value.oneCell']) (by omega) (by omega) ?_ ?_; exact src_newE (by simp) rfl; exact hHeld.size; intro v5 w5 hown5 hu5 hg5; obtain ⟨A5, c5, rfl⟩ := own_slice hown5; have uw5 : Upd No w2 w5 := hHeld.then_ hu5 (fun j e => .inr (hown4.lt j e).1))
        | (refine step_appN (by rfl) (by rfl) slt_edges (base := w2.heap.size) (v := .slice A4 l.length c4) (n := l.length) (m := 1) (xs := edgesF l) (news := [.int .i64 more.f, .int .i64 more.t, .int .i64 more.k, .int .i64 more.key]) (by rfl) (by rfl) hown4 (src_blk HBM rfl) (by simp [Value.oneCell']) (by omega) (by omega) ?_ ?_; exact hHeld.size; intro v5 w5 hown5 hu5 hg5; obtain ⟨A5, c5, rfl⟩ := own_slice hown5; have uw5 : Upd No w2 w5 := hHeld.then_ hu5 (fun j e => .inr (hown4.lt j e).1)))
        refine hK.out _ _ ?_ (fun hHeld => ?_)
        · (first | (with_reducible (repeat (first | exact Upd.refl _ _ | apply Upd.drew | apply Upd.alloc)); done) | with_reducible exact uw4 | with_reducible exact uw5 | with_reducible exact hHeld.trans hu6 | exact hHeld.alloc _)
        clear hK K
        try simp only [Act.put]
        try simp only [List.setIfInBounds_toArray]
        try simp only [List.set_cons_succ]
        try simp only [List.set_cons_zero]
        refine wpAnyH_ready (rs := [8]) (by kernel_rfl) (by simp) ?_
        refine AllReadyH.cons (o := ⟨some 42, .call { callee := .value (.func 69), args := #[.tmp 39, .tmp 40, .tmp 41], argTypes := #[26, 3, 3] }, 91, "law.go:84", #[⟨5, .data⟩, ⟨6, .data⟩, ⟨7, .data⟩, ⟨5, .chain⟩], none⟩) rfl (fun K hK => ?_) AllReadyH.nil
        go_simp
        (first
        | (go_at_call 69; refine (HY.out w5 w2.heap.size A5 c5 hown5).mono ?_; rintro e w6 ⟨Y, cy, rfl, hy, hu6⟩))
        try (go_wp2_with fail)
        refine hK.out _ _ ?_ (fun hHeld => ?_)
        · (first | (with_reducible (repeat (first | exact Upd.refl _ _ | apply Upd.drew | apply Upd.alloc)); done) | with_reducible exact uw4 | with_reducible exact uw5 | with_reducible exact hHeld.trans hu6 | exact hHeld.alloc _)
        clear hK K
        try simp only [Act.put]
        try simp only [List.setIfInBounds_toArray]
        try simp only [List.set_cons_succ]
        try simp only [List.set_cons_zero]
        refine wpT 9 ⟨some 33, .move (.tmp 42), 91, "law.go:84", #[⟨8, .data⟩], none⟩ ?_ (.inl ⟨by rfl, ?_⟩) ?_
        rotate_left
        · (intro W hSw; (try dsimp only at hSw); go_simp; try (with_reducible rfl))
        try simp only [Act.put]
        try simp only [List.setIfInBounds_toArray]
        try simp only [List.set_cons_succ]
        try simp only [List.set_cons_zero]
        refine wpT 10 ⟨some 43, .extract (.tmp 33) 0, 26, "law.go:84", #[⟨9, .data⟩], none⟩ ?_ (.inl ⟨by rfl, ?_⟩) ?_
        rotate_left
        · (intro W hSw; (try dsimp only at hSw); go_simp; try (with_reducible rfl))
        try simp only [Act.put]
        try simp only [List.setIfInBounds_toArray]
        try simp only [List.set_cons_succ]
        try simp only [List.set_cons_zero]
        refine wpT 11 ⟨some 44, .extract (.tmp 33) 1, 22, "law.go:84", #[⟨9, .data⟩, { on := 12, ground := Go.Ground.gcOnly Go.Departure.lateStores }], none⟩ ?_ (.inl ⟨by rfl, ?_⟩) ?_
        rotate_left
        · (intro W hSw; (try dsimp only at hSw); go_simp; try (with_reducible rfl))
        try simp only [Act.put]
        try simp only [List.setIfInBounds_toArray]
        try simp only [List.set_cons_succ]
        try simp only [List.set_cons_zero]
        refine wpT 12 ⟨some 13, .assign (.tmp 43), 26, "law.go:84", #[⟨10, .data⟩, ⟨8, .chain⟩, ⟨0, .phase⟩, ⟨1, .phase⟩, ⟨2, .phase⟩, ⟨3, .phase⟩, ⟨4, .phase⟩, ⟨5, .phase⟩, ⟨6, .phase⟩, ⟨7, .phase⟩, ⟨8, .phase⟩, ⟨9, .phase⟩, ⟨10, .phase⟩, { on := 11, ground := Go.Ground.textOnly Go.Departure.lateStores }], none⟩ ?_ (.inl ⟨by rfl, ?_⟩) ?_
        rotate_left
        · (intro W hSw; (try dsimp only at hSw); go_simp; try (with_reducible rfl))
        try simp only [Act.put]
        try simp only [List.setIfInBounds_toArray]
        try simp only [List.set_cons_succ]
        try simp only [List.set_cons_zero]
        refine wpT 13 ⟨some 14, .assign (.tmp 44), 22, "law.go:84", #[⟨11, .data⟩, ⟨12, .chain⟩, ⟨0, .phase⟩, ⟨1, .phase⟩, ⟨2, .phase⟩, ⟨3, .phase⟩, ⟨4, .phase⟩, ⟨5, .phase⟩, ⟨6, .phase⟩, ⟨7, .phase⟩, ⟨8, .phase⟩, ⟨9, .phase⟩, ⟨10, .phase⟩, ⟨11, .phase⟩, ⟨12, .phase⟩], none⟩ ?_ (.inl ⟨by rfl, ?_⟩) ?_
        rotate_left
        · (intro W hSw; (try dsimp only at hSw); go_simp; try (with_reducible rfl))
        try simp only [Act.put]
        try simp only [List.setIfInBounds_toArray]
        try simp only [List.set_cons_succ]
        try simp only [List.set_cons_zero]
        refine wpAnyH_done (by kernel_rfl) (NoPanic.normal ?_) _
        go_wp2_with fail
        go_meet
        exact ⟨Y, cy, rfl, rfl, hHeld⟩
      refine AllReadyH.cons (o := ⟨some 38, .buildSlice 26 1 #[(0, .tmp 37)], 26, "law.go:84", #[⟨3, .data⟩], none⟩) rfl (fun K hK => ?_) AllReadyH.nil
      go_simp
      refine hK.out _ _ ?_ (fun hHeld => ?_)
      · (first | (with_reducible (repeat (first | exact Upd.refl _ _ | apply Upd.drew | apply Upd.alloc)); done) | with_reducible exact uw4 | with_reducible exact uw5 | with_reducible exact hHeld.trans hu6 | exact hHeld.alloc _)
      clear hK K
      try simp only [Act.put]
      try simp only [List.setIfInBounds_toArray]
      try simp only [List.set_cons_succ]
      try simp only [List.set_cons_zero]
      refine wpAnyH_ready (rs := [2]) (by kernel_rfl) (by simp) ?_
      refine AllReadyH.cons (o := ⟨some 36, .call { callee := .builtin .append, args := #[.tmp 34, .tmp 35], argTypes := #[26, 26] }, 26, "law.go:84", #[⟨0, .data⟩, ⟨1, .data⟩], none⟩) rfl (fun K hK => ?_) AllReadyH.nil
      (first
      | (refine step_appN (by rfl) (by rfl) slt_edges (base := w2.heap.size) (v := .slice (some ⟨w2.heap.size, 0, none⟩) 0 0) (n := 0) (m := l.length) (xs := []) (by rfl) (by rfl) ?_ (src_walk (HL2.out _ hHeld)) edges_one (by omega) (by omega) (by simp) ?_; exact own_empE rfl (by simp); intro v4 w4 hown4 hu4 hg4; simp only [Nat.zero_add, List.nil_append] at hown4; obtain ⟨A4, c4, rfl⟩ := own_slice hown4; have uw4 : Upd No w2 w4 := hHeld.then_ hu4 (fun j e => .inr (own_ge e)))
      | (refine step_appN (by rfl) (by rfl) slt_edges (base := w2.heap.size) (v := .slice (some ⟨w2.heap.size, 0, none⟩) 0 0) (n := 0) (m := l.length) (xs := []) (by rfl) (by rfl) ?_ (src_walk (HL2.out _ hHeld)) edges_one (by omega) (by omega) (by simp; omega) ?_; exact own_upd (own_empE (W := w2) rfl (Nat.le_refl _)) (((Upd.refl No _).alloc _).drew) (fun _ _ => id); intro v4 w4 hown4 hu4 hg4; simp only [Nat.zero_add, List.nil_append] at hown4; obtain ⟨A4, c4, rfl⟩ := own_slice hown4; have uw4 : Upd No w2 w4 := hHeld.then_ hu4 (fun j e => .inr (own_ge e)); have HBM : Blk w4 (w2.heap.size + 1) 96 [.int .i64 more.f, .int .i64 more.t, .int .i64 more.k, .int .i64 more.key] := (Blk.drew (show Blk ((w2.alloc (.cells #[] 96)).alloc (.cells #[.int .i64 more.f, .int .i64 more.t, .int .i64 more.k, .int .i64 more.key] 96)) (w2.heap.size + 1) 96 [.int .i64 more.f, .int .i64 more.t, .int .i64 more.k, .int .i64 more.key] by simpa using Blk.new (w2.alloc (.cells #[] 96)) 96 [.int .i64 more.f, .int .i64 more.t, .int .i64 more.k, .int .i64 more.key])).upd hu4 (fun e => by have := own_isC e; omega))
      | (refine step_appN (by rfl) (by rfl) slt_edges (base := w2.heap.size) (v := .slice (some ⟨w2.heap.size + 1, 0, none⟩) 0 0) (n := 0) (m := l.length) (xs := []) (by rfl) (by rfl) ?_ (src_walk (HL2.out _ hHeld)) edges_one (by omega) (by omega) (by simp; omega) ?_; exact own_upd (own_empE (W := w2.alloc (.cells #[.int .i64 more.f, .int .i64 more.t, .int .i64 more.k, .int .i64 more.key] 96)) (by simp) (by simp)) ((Upd.refl No _).drew) (fun _ _ => id); intro v4 w4 hown4 hu4 hg4; simp only [Nat.zero_add, List.nil_append] at hown4; obtain ⟨A4, c4, rfl⟩ := own_slice hown4; have uw4 : Upd No w2 w4 := hHeld.then_ hu4 (fun j e => .inr (Nat.le_trans (by omega) (own_ge e))); have HBM : Blk w4 w2.heap.size 96 [.int .i64 more.f, .int .i64 more.t, .int .i64 more.k, .int .i64 more.key] := (Blk.drew ((Blk.new w2 96 [.int .i64 more.f, .int .i64 more.t, .int .i64 more.k, .int .i64 more.key]).alloc (.cells #[] 96))).upd hu4 (fun e => by have := own_isC e; omega))
      | (refine step_appN (by rfl) (by rfl) slt_edges (base := w2.heap.size) (v := .slice A4 l.length c4) (n := l.length) (m := 1) (xs := edgesF l) (news := [.int .i64 more.f, .int .i64 more.t, .int .i64 more.k, .int .i64 more.key]) (by rfl) (by rfl) (own_upd hown4 ((Upd.refl No _).alloc _) (fun _ _ => id)) ?_ (by simp [Value.oneCell']) (by omega) (by omega) ?_ ?_; exact src_newE (by simp) rfl; exact hHeld.size; intro v5 w5 hown5 hu5 hg5; obtain ⟨A5, c5, rfl⟩ := own_slice hown5; have uw5 : Upd No w2 w5 := hHeld.then_ hu5 (fun j e => .inr (hown4.lt j e).1))
      | (refine step_appN (by rfl) (by rfl) slt_edges (base := w2.heap.size) (v := .slice A4 l.length c4) (n := l.length) (m := 1) (xs := edgesF l) (news := [.int .i64 more.f, .int .i64 more.t, .int .i64 more.k, .int .i64 more.key]) (by rfl) (by rfl) hown4 (src_blk HBM rfl) (by simp [Value.oneCell']) (by omega) (by omega) ?_ ?_; exact hHeld.size; intro v5 w5 hown5 hu5 hg5; obtain ⟨A5, c5, rfl⟩ := own_slice hown5; have uw5 : Upd No w2 w5 := hHeld.then_ hu5 (fun j e => .inr (hown4.lt j e).1)))
      refine hK.out _ _ ?_ (fun hHeld => ?_)
      · (first | (with_reducible (repeat (first | exact Upd.refl _ _ | apply Upd.drew | apply Upd.alloc)); done) | with_reducible exact uw4 | with_reducible exact uw5 | with_reducible exact hHeld.trans hu6 | exact hHeld.alloc _)
      clear hK K
      try simp only [Act.put]
      try simp only [List.setIfInBounds_toArray]
      try simp only [List.set_cons_succ]
      try simp only [List.set_cons_zero]
      refine wpAnyH_ready (rs := [5]) (by kernel_rfl) (by simp) ?_
      refine AllReadyH.cons (o := ⟨some 39, .call { callee := .builtin .append, args := #[.tmp 36, .tmp 38], argTypes := #[26, 26] }, 26, "law.go:84", #[⟨2, .data⟩, ⟨4, .data⟩, ⟨2, .chain⟩], none⟩) rfl (fun K hK => ?_) AllReadyH.nil
      (first
      | (refine step_appN (by rfl) (by rfl) slt_edges (base := w2.heap.size) (v := .slice (some ⟨w2.heap.size, 0, none⟩) 0 0) (n := 0) (m := l.length) (xs := []) (by rfl) (by rfl) ?_ (src_walk (HL2.out _ hHeld)) edges_one (by omega) (by omega) (by simp) ?_; exact own_empE rfl (by simp); intro v4 w4 hown4 hu4 hg4; simp only [Nat.zero_add, List.nil_append] at hown4; obtain ⟨A4, c4, rfl⟩ := own_slice hown4; have uw4 : Upd No w2 w4 := hHeld.then_ hu4 (fun j e => .inr (own_ge e)))
      | (refine step_appN (by rfl) (by rfl) slt_edges (base := w2.heap.size) (v := .slice (some ⟨w2.heap.size, 0, none⟩) 0 0) (n := 0) (m := l.length) (xs := []) (by rfl) (by rfl) ?_ (src_walk (HL2.out _ hHeld)) edges_one (by omega) (by omega) (by simp; omega) ?_; exact own_upd (own_empE (W := w2) rfl (Nat.le_refl _)) (((Upd.refl No _).alloc _).drew) (fun _ _ => id); intro v4 w4 hown4 hu4 hg4; simp only [Nat.zero_add, List.nil_append] at hown4; obtain ⟨A4, c4, rfl⟩ := own_slice hown4; have uw4 : Upd No w2 w4 := hHeld.then_ hu4 (fun j e => .inr (own_ge e)); have HBM : Blk w4 (w2.heap.size + 1) 96 [.int .i64 more.f, .int .i64 more.t, .int .i64 more.k, .int .i64 more.key] := (Blk.drew (show Blk ((w2.alloc (.cells #[] 96)).alloc (.cells #[.int .i64 more.f, .int .i64 more.t, .int .i64 more.k, .int .i64 more.key] 96)) (w2.heap.size + 1) 96 [.int .i64 more.f, .int .i64 more.t, .int .i64 more.k, .int .i64 more.key] by simpa using Blk.new (w2.alloc (.cells #[] 96)) 96 [.int .i64 more.f, .int .i64 more.t, .int .i64 more.k, .int .i64 more.key])).upd hu4 (fun e => by have := own_isC e; omega))
      | (refine step_appN (by rfl) (by rfl) slt_edges (base := w2.heap.size) (v := .slice (some ⟨w2.heap.size + 1, 0, none⟩) 0 0) (n := 0) (m := l.length) (xs := []) (by rfl) (by rfl) ?_ (src_walk (HL2.out _ hHeld)) edges_one (by omega) (by omega) (by simp; omega) ?_; exact own_upd (own_empE (W := w2.alloc (.cells #[.int .i64 more.f, .int .i64 more.t, .int .i64 more.k, .int .i64 more.key] 96)) (by simp) (by simp)) ((Upd.refl No _).drew) (fun _ _ => id); intro v4 w4 hown4 hu4 hg4; simp only [Nat.zero_add, List.nil_append] at hown4; obtain ⟨A4, c4, rfl⟩ := own_slice hown4; have uw4 : Upd No w2 w4 := hHeld.then_ hu4 (fun j e => .inr (Nat.le_trans (by omega) (own_ge e))); have HBM : Blk w4 w2.heap.size 96 [.int .i64 more.f, .int .i64 more.t, .int .i64 more.k, .int .i64 more.key] := (Blk.drew ((Blk.new w2 96 [.int .i64 more.f, .int .i64 more.t, .int .i64 more.k, .int .i64 more.key]).alloc (.cells #[] 96))).upd hu4 (fun e => by have := own_isC e; omega))
      | (refine step_appN (by rfl) (by rfl) slt_edges (base := w2.heap.size) (v := .slice A4 l.length c4) (n := l.length) (m := 1) (xs := edgesF l) (news := [.int .i64 more.f, .int .i64 more.t, .int .i64 more.k, .int .i64 more.key]) (by rfl) (by rfl) (own_upd hown4 ((Upd.refl No _).alloc _) (fun _ _ => id)) ?_ (by simp [Value.oneCell']) (by omega) (by omega) ?_ ?_; exact src_newE (by simp) rfl; exact hHeld.size; intro v5 w5 hown5 hu5 hg5; obtain ⟨A5, c5, rfl⟩ := own_slice hown5; have uw5 : Upd No w2 w5 := hHeld.then_ hu5 (fun j e => .inr (hown4.lt j e).1))
      | (refine step_appN (by rfl) (by rfl) slt_edges (base := w2.heap.size) (v := .slice A4 l.length c4) (n := l.length) (m := 1) (xs := edgesF l) (news := [.int .i64 more.f, .int .i64 more.t, .int .i64 more.k, .int .i64 more.key]) (by rfl) (by rfl) hown4 (src_blk HBM rfl) (by simp [Value.oneCell']) (by omega) (by omega) ?_ ?_; exact hHeld.size; intro v5 w5 hown5 hu5 hg5; obtain ⟨A5, c5, rfl⟩ := own_slice hown5; have uw5 : Upd No w2 w5 := hHeld.then_ hu5 (fun j e => .inr (hown4.lt j e).1)))
      refine hK.out _ _ ?_ (fun hHeld => ?_)
      · (first | (with_reducible (repeat (first | exact Upd.refl _ _ | apply Upd.drew | apply Upd.alloc)); done) | with_reducible exact uw4 | with_reducible exact uw5 | with_reducible exact hHeld.trans hu6 | exact hHeld.alloc _)
      clear hK K
      try simp only [Act.put]
      try simp only [List.setIfInBounds_toArray]
      try simp only [List.set_cons_succ]
      try simp only [List.set_cons_zero]
      refine wpAnyH_ready (rs := [8]) (by kernel_rfl) (by simp) ?_
      refine AllReadyH.cons (o := ⟨some 42, .call { callee := .value (.func 69), args := #[.tmp 39, .tmp 40, .tmp 41], argTypes := #[26, 3, 3] }, 91, "law.go:84", #[⟨5, .data⟩, ⟨6, .data⟩, ⟨7, .data⟩, ⟨5, .chain⟩], none⟩) rfl (fun K hK => ?_) AllReadyH.nil
      go_simp
      (first
      | (go_at_call 69; refine (HY.out w5 w2.heap.size A5 c5 hown5).mono ?_; rintro e w6 ⟨Y, cy, rfl, hy, hu6⟩))
      try (go_wp2_with fail)
      refine hK.out _ _ ?_ (fun hHeld => ?_)
      · (first | (with_reducible (repeat (first | exact Upd.refl _ _ | apply Upd.drew | apply Upd.alloc)); done) | with_reducible exact uw4 | with_reducible exact uw5 | with_reducible exact hHeld.trans hu6 | exact hHeld.alloc _)
      clear hK K
      try simp only [Act.put]
      try simp only [List.setIfInBounds_toArray]
      try simp only [List.set_cons_succ]
      try simp only [List.set_cons_zero]
      refine wpT 9 ⟨some 33, .move (.tmp 42), 91, "law.go:84", #[⟨8, .data⟩], none⟩ ?_ (.inl ⟨by rfl, ?_⟩) ?_
      rotate_left
      · (intro W hSw; (try dsimp only at hSw); go_simp; try (with_reducible rfl))
      try simp only [Act.put]
      try simp only [List.setIfInBounds_toArray]
      try simp only [List.set_cons_succ]
      try simp only [List.set_cons_zero]
      refine wpT 10 ⟨some 43, .extract (.tmp 33) 0, 26, "law.go:84", #[⟨9, .data⟩], none⟩ ?_ (.inl ⟨by rfl, ?_⟩) ?_
      rotate_left
      · (intro W hSw; (try dsimp only at hSw); go_simp; try (with_reducible rfl))
      try simp only [Act.put]
      try simp only [List.setIfInBounds_toArray]
      try simp only [List.set_cons_succ]
      try simp only [List.set_cons_zero]
      refine wpT 11 ⟨some 44, .extract (.tmp 33) 1, 22, "law.go:84", #[⟨9, .data⟩, { on := 12, ground := Go.Ground.gcOnly Go.Departure.lateStores }], none⟩ ?_ (.inl ⟨by rfl, ?_⟩) ?_
      rotate_left
      · (intro W hSw; (try dsimp only at hSw); go_simp; try (with_reducible rfl))
      try simp only [Act.put]
      try simp only [List.setIfInBounds_toArray]
      try simp only [List.set_cons_succ]
      try simp only [List.set_cons_zero]
      refine wpT 12 ⟨some 13, .assign (.tmp 43), 26, "law.go:84", #[⟨10, .data⟩, ⟨8, .chain⟩, ⟨0, .phase⟩, ⟨1, .phase⟩, ⟨2, .phase⟩, ⟨3, .phase⟩, ⟨4, .phase⟩, ⟨5, .phase⟩, ⟨6, .phase⟩, ⟨7, .phase⟩, ⟨8, .phase⟩, ⟨9, .phase⟩, ⟨10, .phase⟩, { on := 11, ground := Go.Ground.textOnly Go.Departure.lateStores }], none⟩ ?_ (.inl ⟨by rfl, ?_⟩) ?_
      rotate_left
      · (intro W hSw; (try dsimp only at hSw); go_simp; try (with_reducible rfl))
      try simp only [Act.put]
      try simp only [List.setIfInBounds_toArray]
      try simp only [List.set_cons_succ]
      try simp only [List.set_cons_zero]
      refine wpT 13 ⟨some 14, .assign (.tmp 44), 22, "law.go:84", #[⟨11, .data⟩, ⟨12, .chain⟩, ⟨0, .phase⟩, ⟨1, .phase⟩, ⟨2, .phase⟩, ⟨3, .phase⟩, ⟨4, .phase⟩, ⟨5, .phase⟩, ⟨6, .phase⟩, ⟨7, .phase⟩, ⟨8, .phase⟩, ⟨9, .phase⟩, ⟨10, .phase⟩, ⟨11, .phase⟩, ⟨12, .phase⟩], none⟩ ?_ (.inl ⟨by rfl, ?_⟩) ?_
      rotate_left
      · (intro W hSw; (try dsimp only at hSw); go_simp; try (with_reducible rfl))
      try simp only [Act.put]
      try simp only [List.setIfInBounds_toArray]
      try simp only [List.set_cons_succ]
      try simp only [List.set_cons_zero]
      refine wpAnyH_done (by kernel_rfl) (NoPanic.normal ?_) _
      go_wp2_with fail
      go_meet
      exact ⟨Y, cy, rfl, rfl, hHeld⟩
    refine AllReadyH.cons (o := ⟨some 38, .buildSlice 26 1 #[(0, .tmp 37)], 26, "law.go:84", #[⟨3, .data⟩], none⟩) rfl (fun K hK => ?_) AllReadyH.nil
    go_simp
    refine hK.out _ _ ?_ (fun hHeld => ?_)
    · (first | (with_reducible (repeat (first | exact Upd.refl _ _ | apply Upd.drew | apply Upd.alloc)); done) | with_reducible exact uw4 | with_reducible exact uw5 | with_reducible exact hHeld.trans hu6 | exact hHeld.alloc _)
    clear hK K
    try simp only [Act.put]
    try simp only [List.setIfInBounds_toArray]
    try simp only [List.set_cons_succ]
    try simp only [List.set_cons_zero]
    refine wpAnyH_ready (rs := [0]) (by kernel_rfl) (by simp) ?_
    refine AllReadyH.cons (o := ⟨some 34, .buildSlice 26 0 #[], 26, "law.go:84", #[], none⟩) rfl (fun K hK => ?_) AllReadyH.nil
    go_simp
    refine hK.out _ _ ?_ (fun hHeld => ?_)
    · (first | (with_reducible (repeat (first | exact Upd.refl _ _ | apply Upd.drew | apply Upd.alloc)); done) | with_reducible exact uw4 | with_reducible exact uw5 | with_reducible exact hHeld.trans hu6 | exact hHeld.alloc _)
    clear hK K
    try simp only [Act.put]
    try simp only [List.setIfInBounds_toArray]
    try simp only [List.set_cons_succ]
    try simp only [List.set_cons_zero]
    refine wpAnyH_ready (rs := [2]) (by kernel_rfl) (by simp) ?_
    refine AllReadyH.cons (o := ⟨some 36, .call { callee := .builtin .append, args := #[.tmp 34, .tmp 35], argTypes := #[26, 26] }, 26, "law.go:84", #[⟨0, .data⟩, ⟨1, .data⟩], none⟩) rfl (fun K hK => ?_) AllReadyH.nil
    (first
    | (refine step_appN (by rfl) (by rfl) slt_edges (base := w2.heap.size) (v := .slice (some ⟨w2.heap.size, 0, none⟩) 0 0) (n := 0) (m := l.length) (xs := []) (by rfl) (by rfl) ?_ (src_walk (HL2.out _ hHeld)) edges_one (by omega) (by omega) (by simp) ?_; exact own_empE rfl (by simp); intro v4 w4 hown4 hu4 hg4; simp only [Nat.zero_add, List.nil_append] at hown4; obtain ⟨A4, c4, rfl⟩ := own_slice hown4; have uw4 : Upd No w2 w4 := hHeld.then_ hu4 (fun j e => .inr (own_ge e)))
    | (refine step_appN (by rfl) (by rfl) slt_edges (base := w2.heap.size) (v := .slice (some ⟨w2.heap.size, 0, none⟩) 0 0) (n := 0) (m := l.length) (xs := []) (by rfl) (by rfl) ?_ (src_walk (HL2.out _ hHeld)) edges_one (by omega) (by omega) (by simp; omega) ?_; exact own_upd (own_empE (W := w2) rfl (Nat.le_refl _)) (((Upd.refl No _).alloc _).drew) (fun _ _ => id); intro v4 w4 hown4 hu4 hg4; simp only [Nat.zero_add, List.nil_append] at hown4; obtain ⟨A4, c4, rfl⟩ := own_slice hown4; have uw4 : Upd No w2 w4 := hHeld.then_ hu4 (fun j e => .inr (own_ge e)); have HBM : Blk w4 (w2.heap.size + 1) 96 [.int .i64 more.f, .int .i64 more.t, .int .i64 more.k, .int .i64 more.key] := (Blk.drew (show Blk ((w2.alloc (.cells #[] 96)).alloc (.cells #[.int .i64 more.f, .int .i64 more.t, .int .i64 more.k, .int .i64 more.key] 96)) (w2.heap.size + 1) 96 [.int .i64 more.f, .int .i64 more.t, .int .i64 more.k, .int .i64 more.key] by simpa using Blk.new (w2.alloc (.cells #[] 96)) 96 [.int .i64 more.f, .int .i64 more.t, .int .i64 more.k, .int .i64 more.key])).upd hu4 (fun e => by have := own_isC e; omega))
    | (refine step_appN (by rfl) (by rfl) slt_edges (base := w2.heap.size) (v := .slice (some ⟨w2.heap.size + 1, 0, none⟩) 0 0) (n := 0) (m := l.length) (xs := []) (by rfl) (by rfl) ?_ (src_walk (HL2.out _ hHeld)) edges_one (by omega) (by omega) (by simp; omega) ?_; exact own_upd (own_empE (W := w2.alloc (.cells #[.int .i64 more.f, .int .i64 more.t, .int .i64 more.k, .int .i64 more.key] 96)) (by simp) (by simp)) ((Upd.refl No _).drew) (fun _ _ => id); intro v4 w4 hown4 hu4 hg4; simp only [Nat.zero_add, List.nil_append] at hown4; obtain ⟨A4, c4, rfl⟩ := own_slice hown4; have uw4 : Upd No w2 w4 := hHeld.then_ hu4 (fun j e => .inr (Nat.le_trans (by omega) (own_ge e))); have HBM : Blk w4 w2.heap.size 96 [.int .i64 more.f, .int .i64 more.t, .int .i64 more.k, .int .i64 more.key] := (Blk.drew ((Blk.new w2 96 [.int .i64 more.f, .int .i64 more.t, .int .i64 more.k, .int .i64 more.key]).alloc (.cells #[] 96))).upd hu4 (fun e => by have := own_isC e; omega))
    | (refine step_appN (by rfl) (by rfl) slt_edges (base := w2.heap.size) (v := .slice A4 l.length c4) (n := l.length) (m := 1) (xs := edgesF l) (news := [.int .i64 more.f, .int .i64 more.t, .int .i64 more.k, .int .i64 more.key]) (by rfl) (by rfl) (own_upd hown4 ((Upd.refl No _).alloc _) (fun _ _ => id)) ?_ (by simp [Value.oneCell']) (by omega) (by omega) ?_ ?_; exact src_newE (by simp) rfl; exact hHeld.size; intro v5 w5 hown5 hu5 hg5; obtain ⟨A5, c5, rfl⟩ := own_slice hown5; have uw5 : Upd No w2 w5 := hHeld.then_ hu5 (fun j e => .inr (hown4.lt j e).1))
    | (refine step_appN (by rfl) (by rfl) slt_edges (base := w2.heap.size) (v := .slice A4 l.length c4) (n := l.length) (m := 1) (xs := edgesF l) (news := [.int .i64 more.f, .int .i64 more.t, .int .i64 more.k, .int .i64 more.key]) (by rfl) (by rfl) hown4 (src_blk HBM rfl) (by simp [Value.oneCell']) (by omega) (by omega) ?_ ?_; exact hHeld.size; intro v5 w5 hown5 hu5 hg5; obtain ⟨A5, c5, rfl⟩ := own_slice hown5; have uw5 : Upd No w2 w5 := hHeld.then_ hu5 (fun j e => .inr (hown4.lt j e).1)))
    refine hK.out _ _ ?_ (fun hHeld => ?_)
    · (first | (with_reducible (repeat (first | exact Upd.refl _ _ | apply Upd.drew | apply Upd.alloc)); done) | with_reducible exact uw4 | with_reducible exact uw5 | with_reducible exact hHeld.trans hu6 | exact hHeld.alloc _)
    clear hK K
    try simp only [Act.put]
    try simp only [List.setIfInBounds_toArray]
    try simp only [List.set_cons_succ]
    try simp only [List.set_cons_zero]
    refine wpAnyH_ready (rs := [5]) (by kernel_rfl) (by simp) ?_
    refine AllReadyH.cons (o := ⟨some 39, .call { callee := .builtin .append, args := #[.tmp 36, .tmp 38], argTypes := #[26, 26] }, 26, "law.go:84", #[⟨2, .data⟩, ⟨4, .data⟩, ⟨2, .chain⟩], none⟩) rfl (fun K hK => ?_) AllReadyH.nil
    (first
    | (refine step_appN (by rfl) (by rfl) slt_edges (base := w2.heap.size) (v := .slice (some ⟨w2.heap.size, 0, none⟩) 0 0) (n := 0) (m := l.length) (xs := []) (by rfl) (by rfl) ?_ (src_walk (HL2.out _ hHeld)) edges_one (by omega) (by omega) (by simp) ?_; exact own_empE rfl (by simp); intro v4 w4 hown4 hu4 hg4; simp only [Nat.zero_add, List.nil_append] at hown4; obtain ⟨A4, c4, rfl⟩ := own_slice hown4; have uw4 : Upd No w2 w4 := hHeld.then_ hu4 (fun j e => .inr (own_ge e)))
    | (refine step_appN (by rfl) (by rfl) slt_edges (base := w2.heap.size) (v := .slice (some ⟨w2.heap.size, 0, none⟩) 0 0) (n := 0) (m := l.length) (xs := []) (by rfl) (by rfl) ?_ (src_walk (HL2.out _ hHeld)) edges_one (by omega) (by omega) (by simp; omega) ?_; exact own_upd (own_empE (W := w2) rfl (Nat.le_refl _)) (((Upd.refl No _).alloc _).drew) (fun _ _ => id); intro v4 w4 hown4 hu4 hg4; simp only [Nat.zero_add, List.nil_append] at hown4; obtain ⟨A4, c4, rfl⟩ := own_slice hown4; have uw4 : Upd No w2 w4 := hHeld.then_ hu4 (fun j e => .inr (own_ge e)); have HBM : Blk w4 (w2.heap.size + 1) 96 [.int .i64 more.f, .int .i64 more.t, .int .i64 more.k, .int .i64 more.key] := (Blk.drew (show Blk ((w2.alloc (.cells #[] 96)).alloc (.cells #[.int .i64 more.f, .int .i64 more.t, .int .i64 more.k, .int .i64 more.key] 96)) (w2.heap.size + 1) 96 [.int .i64 more.f, .int .i64 more.t, .int .i64 more.k, .int .i64 more.key] by simpa using Blk.new (w2.alloc (.cells #[] 96)) 96 [.int .i64 more.f, .int .i64 more.t, .int .i64 more.k, .int .i64 more.key])).upd hu4 (fun e => by have := own_isC e; omega))
    | (refine step_appN (by rfl) (by rfl) slt_edges (base := w2.heap.size) (v := .slice (some ⟨w2.heap.size + 1, 0, none⟩) 0 0) (n := 0) (m := l.length) (xs := []) (by rfl) (by rfl) ?_ (src_walk (HL2.out _ hHeld)) edges_one (by omega) (by omega) (by simp; omega) ?_; exact own_upd (own_empE (W := w2.alloc (.cells #[.int .i64 more.f, .int .i64 more.t, .int .i64 more.k, .int .i64 more.key] 96)) (by simp) (by simp)) ((Upd.refl No _).drew) (fun _ _ => id); intro v4 w4 hown4 hu4 hg4; simp only [Nat.zero_add, List.nil_append] at hown4; obtain ⟨A4, c4, rfl⟩ := own_slice hown4; have uw4 : Upd No w2 w4 := hHeld.then_ hu4 (fun j e => .inr (Nat.le_trans (by omega) (own_ge e))); have HBM : Blk w4 w2.heap.size 96 [.int .i64 more.f, .int .i64 more.t, .int .i64 more.k, .int .i64 more.key] := (Blk.drew ((Blk.new w2 96 [.int .i64 more.f, .int .i64 more.t, .int .i64 more.k, .int .i64 more.key]).alloc (.cells #[] 96))).upd hu4 (fun e => by have := own_isC e; omega))
    | (refine step_appN (by rfl) (by rfl) slt_edges (base := w2.heap.size) (v := .slice A4 l.length c4) (n := l.length) (m := 1) (xs := edgesF l) (news := [.int .i64 more.f, .int .i64 more.t, .int .i64 more.k, .int .i64 more.key]) (by rfl) (by rfl) (own_upd hown4 ((Upd.refl No _).alloc _) (fun _ _ => id)) ?_ (by simp [Value.oneCell']) (by omega) (by omega) ?_ ?_; exact src_newE (by simp) rfl; exact hHeld.size; intro v5 w5 hown5 hu5 hg5; obtain ⟨A5, c5, rfl⟩ := own_slice hown5; have uw5 : Upd No w2 w5 := hHeld.then_ hu5 (fun j e => .inr (hown4.lt j e).1))
    | (refine step_appN (by rfl) (by rfl) slt_edges (base := w2.heap.size) (v := .slice A4 l.length c4) (n := l.length) (m := 1) (xs := edgesF l) (news := [.int .i64 more.f, .int .i64 more.t, .int .i64 more.k, .int .i64 more.key]) (by rfl) (by rfl) hown4 (src_blk HBM rfl) (by simp [Value.oneCell']) (by omega) (by omega) ?_ ?_; exact hHeld.size; intro v5 w5 hown5 hu5 hg5; obtain ⟨A5, c5, rfl⟩ := own_slice hown5; have uw5 : Upd No w2 w5 := hHeld.then_ hu5 (fun j e => .inr (hown4.lt j e).1)))
    refine hK.out _ _ ?_ (fun hHeld => ?_)
    · (first | (with_reducible (repeat (first | exact Upd.refl _ _ | apply Upd.drew | apply Upd.alloc)); done) | with_reducible exact uw4 | with_reducible exact uw5 | with_reducible exact hHeld.trans hu6 | exact hHeld.alloc _)
    clear hK K
    try simp only [Act.put]
    try simp only [List.setIfInBounds_toArray]
    try simp only [List.set_cons_succ]
    try simp only [List.set_cons_zero]
    refine wpAnyH_ready (rs := [8]) (by kernel_rfl) (by simp) ?_
    refine AllReadyH.cons (o := ⟨some 42, .call { callee := .value (.func 69), args := #[.tmp 39, .tmp 40, .tmp 41], argTypes := #[26, 3, 3] }, 91, "law.go:84", #[⟨5, .data⟩, ⟨6, .data⟩, ⟨7, .data⟩, ⟨5, .chain⟩], none⟩) rfl (fun K hK => ?_) AllReadyH.nil
    go_simp
    (first
    | (go_at_call 69; refine (HY.out w5 w2.heap.size A5 c5 hown5).mono ?_; rintro e w6 ⟨Y, cy, rfl, hy, hu6⟩))
    try (go_wp2_with fail)
    refine hK.out _ _ ?_ (fun hHeld => ?_)
    · (first | (with_reducible (repeat (first | exact Upd.refl _ _ | apply Upd.drew | apply Upd.alloc)); done) | with_reducible exact uw4 | with_reducible exact uw5 | with_reducible exact hHeld.trans hu6 | exact hHeld.alloc _)
    clear hK K
    try simp only [Act.put]
    try simp only [List.setIfInBounds_toArray]
    try simp only [List.set_cons_succ]
    try simp only [List.set_cons_zero]
    refine wpT 9 ⟨some 33, .move (.tmp 42), 91, "law.go:84", #[⟨8, .data⟩], none⟩ ?_ (.inl ⟨by rfl, ?_⟩) ?_
    rotate_left
    · (intro W hSw; (try dsimp only at hSw); go_simp; try (with_reducible rfl))
    try simp only [Act.put]
    try simp only [List.setIfInBounds_toArray]
    try simp only [List.set_cons_succ]
    try simp only [List.set_cons_zero]
    refine wpT 10 ⟨some 43, .extract (.tmp 33) 0, 26, "law.go:84", #[⟨9, .data⟩], none⟩ ?_ (.inl ⟨by rfl, ?_⟩) ?_
    rotate_left
    · (intro W hSw; (try dsimp only at hSw); go_simp; try (with_reducible rfl))
    try simp only [Act.put]
    try simp only [List.setIfInBounds_toArray]
    try simp only [List.set_cons_succ]
    try simp only [List.set_cons_zero]
    refine wpT 11 ⟨some 44, .extract (.tmp 33) 1, 22, "law.go:84", #[⟨9, .data⟩, { on := 12, ground := Go.Ground.gcOnly Go.Departure.lateStores }], none⟩ ?_ (.inl ⟨by rfl, ?_⟩) ?_
    rotate_left
    · (intro W hSw; (try dsimp only at hSw); go_simp; try (with_reducible rfl))
    try simp only [Act.put]
    try simp only [List.setIfInBounds_toArray]
    try simp only [List.set_cons_succ]
    try simp only [List.set_cons_zero]
    refine wpT 12 ⟨some 13, .assign (.tmp 43), 26, "law.go:84", #[⟨10, .data⟩, ⟨8, .chain⟩, ⟨0, .phase⟩, ⟨1, .phase⟩, ⟨2, .phase⟩, ⟨3, .phase⟩, ⟨4, .phase⟩, ⟨5, .phase⟩, ⟨6, .phase⟩, ⟨7, .phase⟩, ⟨8, .phase⟩, ⟨9, .phase⟩, ⟨10, .phase⟩, { on := 11, ground := Go.Ground.textOnly Go.Departure.lateStores }], none⟩ ?_ (.inl ⟨by rfl, ?_⟩) ?_
    rotate_left
    · (intro W hSw; (try dsimp only at hSw); go_simp; try (with_reducible rfl))
    try simp only [Act.put]
    try simp only [List.setIfInBounds_toArray]
    try simp only [List.set_cons_succ]
    try simp only [List.set_cons_zero]
    refine wpT 13 ⟨some 14, .assign (.tmp 44), 22, "law.go:84", #[⟨11, .data⟩, ⟨12, .chain⟩, ⟨0, .phase⟩, ⟨1, .phase⟩, ⟨2, .phase⟩, ⟨3, .phase⟩, ⟨4, .phase⟩, ⟨5, .phase⟩, ⟨6, .phase⟩, ⟨7, .phase⟩, ⟨8, .phase⟩, ⟨9, .phase⟩, ⟨10, .phase⟩, ⟨11, .phase⟩, ⟨12, .phase⟩], none⟩ ?_ (.inl ⟨by rfl, ?_⟩) ?_
    rotate_left
    · (intro W hSw; (try dsimp only at hSw); go_simp; try (with_reducible rfl))
    try simp only [Act.put]
    try simp only [List.setIfInBounds_toArray]
    try simp only [List.set_cons_succ]
    try simp only [List.set_cons_zero]
    refine wpAnyH_done (by kernel_rfl) (NoPanic.normal ?_) _
    go_wp2_with fail
    go_meet
    exact ⟨Y, cy, rfl, rfl, hHeld⟩
  case rest =>
    obtain ⟨Y, cy, rfl, rfl, hu3⟩ := hcut
    have e1 : decide ((d.length : Int) < (d'.length : Int)) = false := decide_eq_false (by omega)
    have e2 : decide (d.length < d'.length) = false := decide_eq_false (by omega)
    have HXC := Lib.hid (Walk.upd HX.out hu3 (fun _ _ => id))
    have HU3 := Lib.hid hu3
    by_cases ha : less < 0
    · have a1 : decide (less < 0) = true := decide_eq_true ha
      clear ha
      go_wp2
      go_ret
      exact ⟨rfl, U0.out.trans (HU2.out.trans HU3.out)⟩
    · have a1 : decide (less < 0) = false := decide_eq_false ha
      obtain ⟨i, rfl⟩ : ∃ i : Nat, less = (i : Int) := ⟨less.toNat, by omega⟩
      by_cases hb2 : l.length ≤ i
      · have a2 : decide ((l.length : Int) ≤ (i : Int)) = true := decide_eq_true (by omega)
        have a3 : decide (l.length ≤ i) = true := decide_eq_true hb2
        clear ha
        go_wp2
        go_ret
        exact ⟨rfl, U0.out.trans (HU2.out.trans HU3.out)⟩
      · have hi : i < l.length := by omega
        have a2 : decide ((l.length : Int) ≤ (i : Int)) = false := decide_eq_false (by omega)
        have a3 : decide (l.length ≤ i) = false := decide_eq_false hb2
        obtain ⟨ad, rfl, q0, q1, q2, q3⟩ := (HL2.out wc hu3).at_ hi
        obtain ⟨x, hxx⟩ : ∃ x, l[i] = x := ⟨_, rfl⟩
        rw [hxx] at q0 q1 q2 q3
        have HIN := Lib.hid (HI.out wc X cx _ HXC.out x)
        have i1 : (0 : Int) ≤ (i : Int) := Int.natCast_nonneg _
        have i2 : (i : Int) < (l.length : Int) := by omega
        have k1 : ∀ W, (Instr.slice 26 (.slice (some ad) l.length c) none (some (.int .i64 (i : Int))) none).run Try.prog W = .ok (.slice (some ad) i c) W := fun W => cut_h0 W slt_edges ad l.length c i (by omega)
        have k2 : ∀ W, (Instr.slice 26 (.slice (some ad) l.length c) (some (.int .i64 ((i : Int) + 1))) none none).run Try.prog W = .ok (.slice (cutA (some ad) c (i + 1) 4) (l.length - (i + 1)) (c - (i + 1))) W := fun W => run_cut_l (P := Try.prog) (W := W) slt_edges (some ad) l.length c (i + 1) (by omega)
        have i3 : IntKind.i64.wrap ((i : Int) + 1) = (i : Int) + 1 := IntWalk.i64_in _ (by omega)
        have i4 : (0 : Int) ≤ (i : Int) + 1 := by omega
        by_cases hm : x ∈ d
        · rw [decide_eq_true hm] at HIN
          unfold Edge.cells at HIN
          clear ha hb2 hm hxx k1 k2
          go_wp2_with fail
          refine (HIN.out).mono ?_
          rintro e w7 ⟨rfl, hu7⟩
          go_wp2
          go_ret
          exact ⟨rfl, U0.out.trans (HU2.out.trans (HU3.out.trans hu7))⟩
        · rw [decide_eq_false hm] at HIN
          have HNM := Lib.hid (show l[i] ∉ d by rw [hxx]; exact hm)
          unfold Edge.cells at HIN
          clear ha hb2 hm hxx
          go_wp2_with fail
          refine (HIN.out).mono ?_
          rintro e w7 ⟨rfl, hu7⟩
          have HX7 := Lib.hid (Walk.upd HXC.out hu7 (fun _ _ => id))
          have HU7 := Lib.hid (HU3.out.trans hu7)
          have HL7 := Lib.hid (fun (W : World) (u : Upd No w7 W) => HL2.out W (HU7.out.trans u))
          have hszl := hlc
          clear hu7 HIN q0 q1 q2 q3 hu3
          go_wp2
          refine wp_region_noPanic ?_
          refine wp_region_held_drew (S := (fun W' => Upd No w7 W')) (by kernel_rfl) ?_ (fun hHeld => ?_)
          · (first | (with_reducible (repeat (first | exact Upd.refl _ _ | apply Upd.drew | apply Upd.alloc)); done) | with_reducible exact uw4 | with_reducible exact uw5 | with_reducible exact hHeld.trans hu6 | exact hHeld.alloc _)
          refine wpT 1 ⟨some 72, .move (.tmp 0), 26, "law.go:91", #[], none⟩ ?_ (.inl ⟨by rfl, ?_⟩) ?_
          rotate_left
          · (intro W hSw; (try dsimp only at hSw); go_simp; try (with_reducible rfl))
          try simp only [Act.put]
          try simp only [List.setIfInBounds_toArray]
          try simp only [List.set_cons_succ]
          try simp only [List.set_cons_zero]
          refine wpT 2 ⟨some 73, .move (.tmp 4), 3, "law.go:91", #[], none⟩ ?_ (.inl ⟨by rfl, ?_⟩) ?_
          rotate_left
          · (intro W hSw; (try dsimp only at hSw); go_simp; try (with_reducible rfl))
          try simp only [Act.put]
          try simp only [List.setIfInBounds_toArray]
          try simp only [List.set_cons_succ]
          try simp only [List.set_cons_zero]
          refine wpT 3 ⟨some 74, .slice 26 (.tmp 72) none (some (.tmp 73)) none, 26, "law.go:91", #[⟨1, .data⟩, ⟨2, .data⟩], none⟩ ?_ (.inl ⟨by rfl, ?_⟩) ?_
          rotate_left
          · (intro W hSw; (try dsimp only at hSw); go_simp; try (with_reducible rfl))
          try simp only [Act.put]
          try simp only [List.setIfInBounds_toArray]
          try simp only [List.set_cons_succ]
          try simp only [List.set_cons_zero]
          refine wpT 5 ⟨some 76, .move (.tmp 0), 26, "law.go:91", #[], none⟩ ?_ (.inl ⟨by rfl, ?_⟩) ?_
          rotate_left
          · (intro W hSw; (try dsimp only at hSw); go_simp; try (with_reducible rfl))
          try simp only [Act.put]
          try simp only [List.setIfInBounds_toArray]
          try simp only [List.set_cons_succ]
          try simp only [List.set_cons_zero]
          refine wpT 6 ⟨some 77, .move (.tmp 4), 3, "law.go:91", #[], none⟩ ?_ (.inl ⟨by rfl, ?_⟩) ?_
          rotate_left
          · (intro W hSw; (try dsimp only at hSw); go_simp; try (with_reducible rfl))
          try simp only [Act.put]
          try simp only [List.setIfInBounds_toArray]
          try simp only [List.set_cons_succ]
          try simp only [List.set_cons_zero]
          refine wpT 7 ⟨some 78, .binOp .add 3 (.tmp 77) (.const (.int .i64 1)) 3, 3, "law.go:91", #[⟨6, .data⟩], none⟩ ?_ (.inl ⟨by rfl, ?_⟩) ?_
          rotate_left
          · (intro W hSw; (try dsimp only at hSw); go_simp; try (with_reducible rfl))
          try simp only [Act.put]
          try simp only [List.setIfInBounds_toArray]
          try simp only [List.set_cons_succ]
          try simp only [List.set_cons_zero]
          refine wpT 8 ⟨some 79, .slice 26 (.tmp 76) (some (.tmp 78)) none none, 26, "law.go:91", #[⟨5, .data⟩, ⟨7, .data⟩], none⟩ ?_ (.inl ⟨by rfl, ?_⟩) ?_
          rotate_left
          · (intro W hSw; (try dsimp only at hSw); go_simp; try (with_reducible rfl))
          try simp only [Act.put]
          try simp only [List.setIfInBounds_toArray]
          try simp only [List.set_cons_succ]
          try simp only [List.set_cons_zero]
          refine wpT 10 ⟨some 81, .move (.tmp 1), 3, "law.go:91", #[], none⟩ ?_ (.inl ⟨by rfl, ?_⟩) ?_
          rotate_left
          · (intro W hSw; (try dsimp only at hSw); go_simp; try (with_reducible rfl))
          try simp only [Act.put]
          try simp only [List.setIfInBounds_toArray]
          try simp only [List.set_cons_succ]
          try simp only [List.set_cons_zero]
          refine wpT 11 ⟨some 82, .move (.tmp 2), 3, "law.go:91", #[], none⟩ ?_ (.inl ⟨by rfl, ?_⟩) ?_
          rotate_left
          · (intro W hSw; (try dsimp only at hSw); go_simp; try (with_reducible rfl))
          try simp only [Act.put]
          try simp only [List.setIfInBounds_toArray]
          try simp only [List.set_cons_succ]
          try simp only [List.set_cons_zero]
          refine wpAnyH_ready (rs := [0]) (by kernel_rfl) (by simp) ?_
          refine AllReadyH.cons (o := ⟨some 71, .buildSlice 26 0 #[], 26, "law.go:91", #[], none⟩) rfl (fun K hK => ?_) AllReadyH.nil
          go_simp
          refine hK.out _ _ ?_ (fun hHeld => ?_)
          · (first | (with_reducible (repeat (first | exact Upd.refl _ _ | apply Upd.drew | apply Upd.alloc)); done) | with_reducible exact uw4 | with_reducible exact uw5 | with_reducible exact hHeld.trans hu6 | exact hHeld.alloc _)
          clear hK K
          try simp only [Act.put]
          try simp only [List.setIfInBounds_toArray]
          try simp only [List.set_cons_succ]
          try simp only [List.set_cons_zero]
          refine wpAnyH_ready (rs := [4]) (by kernel_rfl) (by simp) ?_
          refine AllReadyH.cons (o := ⟨some 75, .call { callee := .builtin .append, args := #[.tmp 71, .tmp 74], argTypes := #[26, 26] }, 26, "law.go:91", #[⟨0, .data⟩, ⟨3, .data⟩], none⟩) rfl (fun K hK => ?_) AllReadyH.nil
          (first
    | (refine step_appN (by rfl) (by rfl) slt_edges (base := w7.heap.size) (v := .slice (some ⟨w7.heap.size, 0, none⟩) 0 0) (n := 0) (m := i) (xs := []) (by rfl) (by rfl) ?_ (walkTake (HL7.out _ hHeld) (Nat.le_of_lt hi)) edges_one (by omega) (by omega) (by simp) ?_; exact own_upd (own_empE (W := w7) rfl (Nat.le_refl _)) ((Upd.refl No _).drew) (fun _ _ => id); intro v4 w4 hown4 hu4 hg4; simp only [Nat.zero_add, List.nil_append] at hown4; obtain ⟨A4, c4, rfl⟩ := own_slice hown4; have uw4 : Upd No w7 w4 := hHeld.then_ hu4 (fun j e => .inr (own_ge e)))
    | (refine step_appN (by rfl) (by rfl) slt_edges (base := w7.heap.size) (v := .slice A4 i c4) (n := i) (m := l.length - (i + 1)) (xs := edgesF (l.take i)) (by rfl) (by rfl) hown4 (walkDrop (HL7.out _ hHeld) hszl) edges_one (by omega) (by omega) ?_ ?_; exact hHeld.size; intro v5 w5 hown5 hu5 hg5; obtain ⟨A5, c5, rfl⟩ := own_slice hown5; have uw5 : Upd No w7 w5 := hHeld.then_ hu5 (fun j e => .inr (hown4.lt j e).1)))
          refine hK.out _ _ ?_ (fun hHeld => ?_)
          · (first | (with_reducible (repeat (first | exact Upd.refl _ _ | apply Upd.drew | apply Upd.alloc)); done) | with_reducible exact uw4 | with_reducible exact uw5 | with_reducible exact hHeld.trans hu6 | exact hHeld.alloc _)
          clear hK K
          try simp only [Act.put]
          try simp only [List.setIfInBounds_toArray]
          try simp only [List.set_cons_succ]
          try simp only [List.set_cons_zero]
          refine wpAnyH_ready (rs := [9]) (by kernel_rfl) (by simp) ?_
          refine AllReadyH.cons (o := ⟨some 80, .call { callee := .builtin .append, args := #[.tmp 75, .tmp 79], argTypes := #[26, 26] }, 26, "law.go:91", #[⟨4, .data⟩, ⟨8, .data⟩, ⟨4, .chain⟩], none⟩) rfl (fun K hK => ?_) AllReadyH.nil
          (first
    | (refine step_appN (by rfl) (by rfl) slt_edges (base := w7.heap.size) (v := .slice (some ⟨w7.heap.size, 0, none⟩) 0 0) (n := 0) (m := i) (xs := []) (by rfl) (by rfl) ?_ (walkTake (HL7.out _ hHeld) (Nat.le_of_lt hi)) edges_one (by omega) (by omega) (by simp) ?_; exact own_upd (own_empE (W := w7) rfl (Nat.le_refl _)) ((Upd.refl No _).drew) (fun _ _ => id); intro v4 w4 hown4 hu4 hg4; simp only [Nat.zero_add, List.nil_append] at hown4; obtain ⟨A4, c4, rfl⟩ := own_slice hown4; have uw4 : Upd No w7 w4 := hHeld.then_ hu4 (fun j e => .inr (own_ge e)))
    | (refine step_appN (by rfl) (by rfl) slt_edges (base := w7.heap.size) (v := .slice A4 i c4) (n := i) (m := l.length - (i + 1)) (xs := edgesF (l.take i)) (by rfl) (by rfl) hown4 (walkDrop (HL7.out _ hHeld) hszl) edges_one (by omega) (by omega) ?_ ?_; exact hHeld.size; intro v5 w5 hown5 hu5 hg5; obtain ⟨A5, c5, rfl⟩ := own_slice hown5; have uw5 : Upd No w7 w5 := hHeld.then_ hu5 (fun j e => .inr (hown4.lt j e).1)))
          refine hK.out _ _ ?_ (fun hHeld => ?_)
          · (first | (with_reducible (repeat (first | exact Upd.refl _ _ | apply Upd.drew | apply Upd.alloc)); done) | with_reducible exact uw4 | with_reducible exact uw5 | with_reducible exact hHeld.trans hu6 | exact hHeld.alloc _)
          clear hK K
          try simp only [Act.put]
          try simp only [List.setIfInBounds_toArray]
          try simp only [List.set_cons_succ]
          try simp only [List.set_cons_zero]
          refine wpAnyH_ready (rs := [12]) (by kernel_rfl) (by simp) ?_
          refine AllReadyH.cons (o := ⟨some 83, .call { callee := .value (.func 69), args := #[.tmp 80, .tmp 81, .tmp 82], argTypes := #[26, 3, 3] }, 91, "law.go:91", #[⟨9, .data⟩, ⟨10, .data⟩, ⟨11, .data⟩, ⟨9, .chain⟩], none⟩) rfl (fun K hK => ?_) AllReadyH.nil
          go_simp
          (first
    | (go_at_call 69; refine (HZ.out i hi HNM.out w5 w7.heap.size A5 c5 hown5).mono ?_; rintro e w6 ⟨Z, cz, rfl, hz, hu6⟩))
          try (go_wp2_with fail)
          refine hK.out _ _ ?_ (fun hHeld => ?_)
          · (first | (with_reducible (repeat (first | exact Upd.refl _ _ | apply Upd.drew | apply Upd.alloc)); done) | with_reducible exact uw4 | with_reducible exact uw5 | with_reducible exact hHeld.trans hu6 | exact hHeld.alloc _)
          clear hK K
          try simp only [Act.put]
          try simp only [List.setIfInBounds_toArray]
          try simp only [List.set_cons_succ]
          try simp only [List.set_cons_zero]
          refine wpT 13 ⟨some 70, .move (.tmp 83), 91, "law.go:91", #[⟨12, .data⟩], none⟩ ?_ (.inl ⟨by rfl, ?_⟩) ?_
          rotate_left
          · (intro W hSw; (try dsimp only at hSw); go_simp; try (with_reducible rfl))
          try simp only [Act.put]
          try simp only [List.setIfInBounds_toArray]
          try simp only [List.set_cons_succ]
          try simp only [List.set_cons_zero]
          refine wpT 14 ⟨some 84, .extract (.tmp 70) 0, 26, "law.go:91", #[⟨13, .data⟩], none⟩ ?_ (.inl ⟨by rfl, ?_⟩) ?_
          rotate_left
          · (intro W hSw; (try dsimp only at hSw); go_simp; try (with_reducible rfl))
          try simp only [Act.put]
          try simp only [List.setIfInBounds_toArray]
          try simp only [List.set_cons_succ]
          try simp only [List.set_cons_zero]
          refine wpT 15 ⟨some 85, .extract (.tmp 70) 1, 22, "law.go:91", #[⟨13, .data⟩, { on := 16, ground := Go.Ground.gcOnly Go.Departure.lateStores }], none⟩ ?_ (.inl ⟨by rfl, ?_⟩) ?_
          rotate_left
          · (intro W hSw; (try dsimp only at hSw); go_simp; try (with_reducible rfl))
          try simp only [Act.put]
          try simp only [List.setIfInBounds_toArray]
          try simp only [List.set_cons_succ]
          try simp only [List.set_cons_zero]
          refine wpT 16 ⟨some 15, .assign (.tmp 84), 26, "law.go:91", #[⟨14, .data⟩, ⟨12, .chain⟩, ⟨0, .phase⟩, ⟨1, .phase⟩, ⟨2, .phase⟩, ⟨3, .phase⟩, ⟨4, .phase⟩, ⟨5, .phase⟩, ⟨6, .phase⟩, ⟨7, .phase⟩, ⟨8, .phase⟩, ⟨9, .phase⟩, ⟨10, .phase⟩, ⟨11, .phase⟩, ⟨12, .phase⟩, ⟨13, .phase⟩, ⟨14, .phase⟩, { on := 15, ground := Go.Ground.textOnly Go.Departure.lateStores }], none⟩ ?_ (.inl ⟨by rfl, ?_⟩) ?_
          rotate_left
          · (intro W hSw; (try dsimp only at hSw); go_simp; try (with_reducible rfl))
          try simp only [Act.put]
          try simp only [List.setIfInBounds_toArray]
          try simp only [List.set_cons_succ]
          try simp only [List.set_cons_zero]
          refine wpT 17 ⟨some 16, .assign (.tmp 85), 22, "law.go:91", #[⟨15, .data⟩, ⟨16, .chain⟩, ⟨0, .phase⟩, ⟨1, .phase⟩, ⟨2, .phase⟩, ⟨3, .phase⟩, ⟨4, .phase⟩, ⟨5, .phase⟩, ⟨6, .phase⟩, ⟨7, .phase⟩, ⟨8, .phase⟩, ⟨9, .phase⟩, ⟨10, .phase⟩, ⟨11, .phase⟩, ⟨12, .phase⟩, ⟨13, .phase⟩, ⟨14, .phase⟩, ⟨15, .phase⟩, ⟨16, .phase⟩], none⟩ ?_ (.inl ⟨by rfl, ?_⟩) ?_
          rotate_left
          · (intro W hSw; (try dsimp only at hSw); go_simp; try (with_reducible rfl))
          try simp only [Act.put]
          try simp only [List.setIfInBounds_toArray]
          try simp only [List.set_cons_succ]
          try simp only [List.set_cons_zero]
          refine wpAnyH_done (by kernel_rfl) (NoPanic.normal ?_) _
          have HS9 := Lib.hid (sameedges w6 _ _ Z X cz cx d d hz (Walk.upd HX7.out hHeld (fun _ _ => id)) (by omega) (by omega))
          rw [show (d == d) = true from beq_self_eq_true d] at HS9
          have HU9 := Lib.hid (U0.out.trans (HU2.out.trans (HU7.out.trans hHeld)))
          clear hHeld hz hu6 hown5 hown4 uw4 uw5 k1 k2
          go_wp2_with fail
          refine (HS9.out).mono ?_
          rintro e w9 ⟨rfl, hu9⟩
          go_wp2
          go_ret
          exact ⟨rfl, HU9.out.trans hu9⟩
theorem stays27 (F : Nat → Prop) (w : World) (A : Option Addr) (c : Nat) (l : List Edge) (mask must less : Int) (more : Edge) (hW : Walk F w A l) (hlc : l.length ≤ c)
    (L : Hid (∀ w, Calls Try.prog 68 #[] w fun e w' => e = .returned (.bool true) ∧ Upd No w w')) :
    Calls Try.prog 13 #[.slice A l.length c, .int .i64 mask, .int .i64 must, .agg more.cells.toArray, .int .i64 less] w fun e w' => e = .returned (.bool true) ∧ Upd No w w' := by
  by_cases hb : 60 < l.length
  · exact st_big hb L
  · rcases doc_simple (l := l) (mask := mask) (must := must) (by omega) with h | h
    · by_cases h0 : 0 < (docS l mask must).length
      · exact st_yes hW hlc (by omega) rfl h0 (simple_len h) L
      · exact st_no hW (by omega) (List.eq_nil_of_length_eq_zero (by omega)) L
    · exact st_no hW (by omega) h L
end Go.Proofs.Ytmnhgdedkniafaa
