/- Looking at a history: the law's asking for some answers. -/
import Derived.Test.YtgakhpdclhlmpaaGreatMai
namespace Go.Proofs.YtgakhpdclhlmpaaGreat
set_option linter.unusedVariables false
open Go.RowKit
theorem edges_blk {w : World} {g : Nat} {t : TypeId} {l : List Edge} (h : Blk w g t (l.map Edge.cells).flatten) : ∃ G, Walk G w (some ⟨g, 0, none⟩) l := ⟨_, recs_blk edges_len h⟩
theorem edges_own {w : World} {base c : Nat} {A : Option Addr} {l : List Edge} {n : Nat} (hn : l.length = n) (h : w.ownsRow base 27 4 (.slice A n c) n (l.map Edge.cells).flatten) : ∃ G, Walk G w A l := by
  subst hn
  exact ⟨_, Recs.of_own (n := l.length) (c := c) edges_len (by omega) h⟩
theorem WalkE.upd {w w' : World} {A : Option Addr} {l : List Edge} (h : ∃ G, Walk G w A l) (k : Upd No w w') : ∃ G, Walk G w' A l := by
  obtain ⟨G, h⟩ := h
  exact ⟨G, Recs.upd h k (fun _ _ => id)⟩
theorem walk_e1 {w : World} {g : Nat} {t : TypeId} (h : Blk w g t (e1.cells ++ e2.cells)) : ∃ G, Walk G w (some ⟨g, 0, none⟩) [e1] := by
  obtain ⟨G, hw⟩ := edges_blk (l := [e1, e2]) h
  exact ⟨G, Recs.take (i := 1) hw⟩
theorem Hist.lies.lt {F : Nat → Prop} {w : World} {h : Hist} (H : h.lies F w) : h.lies (fun i => i < w.heap.size) w :=
  ⟨Recs.lt H.txs, Recs.lt H.ords, fun t ht => ⟨Recs.lt (H.tx t ht).1, (H.tx t ht).2⟩, fun o ho => ⟨Ints.lt (H.ord o ho).1, (H.ord o ho).2⟩, H.c, H.d, H.few, H.fewo⟩
theorem walkE_nil {w : World} {A : Option Addr} : ∃ G, Walk G w A [] := ⟨fun _ => False, fun h => absurd rfl h⟩
theorem lies_txs {F : Nat → Prop} {w : World} {h : Hist} (H : h.lies F w) : Hist.lies F w ⟨h.txs, [], h.A, h.c, none, 0⟩ :=
  ⟨H.txs, fun e => absurd rfl e, H.tx, fun o ho => by simp at ho, H.c, Nat.le_refl _, H.few, by simp⟩
set_option maxRecDepth 100000 in
set_option maxHeartbeats 8000000 in
theorem lives32 (w : World) : Calls Tryz.prog 5 #[] w fun e w' => e = .returned (.bool true) ∧ Upd No w w' := by
  go_enter Tryz.func5, Tryz.ntmps5
  go_wp2_with fail
  refine (sskew _).mono ?_
  rintro e w1 ⟨rfl, hs, hu1⟩
  have bH := Blk.new w1 25 [.slice (some ⟨w.heap.size + 1 + 1 + 1, 0, none⟩) 2 2, .slice (some ⟨w.heap.size + 1 + 1 + 1 + 1 + 1 + 1, 0, none⟩) 2 2]
  have bL := Blk.new (w1.alloc (.cells #[.slice (some ⟨w.heap.size + 1 + 1 + 1, 0, none⟩) 2 2, .slice (some ⟨w.heap.size + 1 + 1 + 1 + 1 + 1 + 1, 0, none⟩) 2 2] 25)) 27 [.int .i64 1, .int .i64 2, .int .i64 3, .int .i64 1, .int .i64 2, .int .i64 1, .int .i64 3, .int .i64 2]
  have bW := Blk.new ((w1.alloc (.cells #[.slice (some ⟨w.heap.size + 1 + 1 + 1, 0, none⟩) 2 2, .slice (some ⟨w.heap.size + 1 + 1 + 1 + 1 + 1 + 1, 0, none⟩) 2 2] 25)).alloc (.cells #[.int .i64 1, .int .i64 2, .int .i64 3, .int .i64 1, .int .i64 2, .int .i64 1, .int .i64 3, .int .i64 2] 27)) 34 [.int .i64 5, .slice (some ⟨w1.heap.size + 1, 0, none⟩) 2 2, .int .i64 0, .int .i64 0, .int .i64 0, .int .i64 0, .int .i64 0]
  simp only [World.size_alloc] at bL bW
  have bH4 := Lib.hid (((bH.alloc (.cells #[.int .i64 1, .int .i64 2, .int .i64 3, .int .i64 1, .int .i64 2, .int .i64 1, .int .i64 3, .int .i64 2] 27)).alloc (.cells #[.int .i64 5, .slice (some ⟨w1.heap.size + 1, 0, none⟩) 2 2, .int .i64 0, .int .i64 0, .int .i64 0, .int .i64 0, .int .i64 0] 34)).alloc (.cells #[] 27))
  have bL4 := Lib.hid ((bL.alloc (.cells #[.int .i64 5, .slice (some ⟨w1.heap.size + 1, 0, none⟩) 2 2, .int .i64 0, .int .i64 0, .int .i64 0, .int .i64 0, .int .i64 0] 34)).alloc (.cells #[] 27))
  have bW4 := Lib.hid (bW.alloc (.cells #[] 27))
  have U4 := Lib.hid ((((hu1.alloc (.cells #[.slice (some ⟨w.heap.size + 1 + 1 + 1, 0, none⟩) 2 2, .slice (some ⟨w.heap.size + 1 + 1 + 1 + 1 + 1 + 1, 0, none⟩) 2 2] 25)).alloc (.cells #[.int .i64 1, .int .i64 2, .int .i64 3, .int .i64 1, .int .i64 2, .int .i64 1, .int .i64 3, .int .i64 2] 27)).alloc (.cells #[.int .i64 5, .slice (some ⟨w1.heap.size + 1, 0, none⟩) 2 2, .int .i64 0, .int .i64 0, .int .i64 0, .int .i64 0, .int .i64 0] 34)).alloc (.cells #[] 27))
  have V4 := Lib.hid (((((Upd.refl No w1).alloc (.cells #[.slice (some ⟨w.heap.size + 1 + 1 + 1, 0, none⟩) 2 2, .slice (some ⟨w.heap.size + 1 + 1 + 1 + 1 + 1 + 1, 0, none⟩) 2 2] 25)).alloc (.cells #[.int .i64 1, .int .i64 2, .int .i64 3, .int .i64 1, .int .i64 2, .int .i64 1, .int .i64 3, .int .i64 2] 27)).alloc (.cells #[.int .i64 5, .slice (some ⟨w1.heap.size + 1, 0, none⟩) 2 2, .int .i64 0, .int .i64 0, .int .i64 0, .int .i64 0, .int .i64 0] 34)).alloc (.cells #[] 27))
  have hown0 : World.ownsRow ((((w1.alloc (.cells #[.slice (some ⟨w.heap.size + 1 + 1 + 1, 0, none⟩) 2 2, .slice (some ⟨w.heap.size + 1 + 1 + 1 + 1 + 1 + 1, 0, none⟩) 2 2] 25)).alloc (.cells #[.int .i64 1, .int .i64 2, .int .i64 3, .int .i64 1, .int .i64 2, .int .i64 1, .int .i64 3, .int .i64 2] 27)).alloc (.cells #[.int .i64 5, .slice (some ⟨w1.heap.size + 1, 0, none⟩) 2 2, .int .i64 0, .int .i64 0, .int .i64 0, .int .i64 0, .int .i64 0] 34)).alloc (.cells #[] 27)) (w1.heap.size + 1 + 1 + 1) 27 4 (.slice (some ⟨w1.heap.size + 1 + 1 + 1, 0, none⟩) 0 0) 0 [] := own_emp (by simp only [World.size_alloc]) (by simp only [World.size_alloc]; exact Nat.le_refl _)
  have hw4 := edges_blk (l := [e1, e2]) bL4.out
  have HO := Lib.hid hown0
  have Hs := Lib.hid hs
  have HW4 := Lib.hid hw4
  have hz4 : (((((w1.alloc (.cells #[.slice (some ⟨w.heap.size + 1 + 1 + 1, 0, none⟩) 2 2, .slice (some ⟨w.heap.size + 1 + 1 + 1 + 1 + 1 + 1, 0, none⟩) 2 2] 25)).alloc (.cells #[.int .i64 1, .int .i64 2, .int .i64 3, .int .i64 1, .int .i64 2, .int .i64 1, .int .i64 3, .int .i64 2] 27)).alloc (.cells #[.int .i64 5, .slice (some ⟨w1.heap.size + 1, 0, none⟩) 2 2, .int .i64 0, .int .i64 0, .int .i64 0, .int .i64 0, .int .i64 0] 34)).alloc (.cells #[] 27))).heap.size = w1.heap.size + 1 + 1 + 1 + 1 := by simp only [World.size_alloc]
  have HZ := Lib.hid hz4
  clear bH bL bW hown0 hs hw4 hz4
  have tok1 : True := trivial
  have tok2 : True := trivial
  go_wp2_with (first
    | (at_builtin; have _t := tok1; refine appN rfl rfl slt_edges (n := 0) (m := 2) (xs := []) (news := ([e1, e2].map Edge.cells).flatten) rfl rfl HO.out ?_ edges_one (by omega) (by omega) ?_ ?_; (obtain ⟨G, hG⟩ := HW4.out; exact Walk.src hG rfl); (rw [HZ.out]; omega); clear tok1 _t; intro v5 w5 hown5 hu5 hg5; simp only [Nat.zero_add, List.nil_append] at hown5; obtain ⟨A5, c5, rfl⟩ := own_slice hown5)
    | (at_builtin; have _t := tok2; refine appN rfl rfl slt_edges (base := w1.heap.size + 1 + 1 + 1) (n := 2) (m := 2) (xs := ([e1, e2].map Edge.cells).flatten) (news := ([e1, e2].map Edge.cells).flatten) rfl rfl hown5 ?_ edges_one (by omega) (by omega) ?_ ?_; (obtain ⟨G, hG⟩ := HW4.out; exact Walk.src (Recs.upd (recs_blk (edges_len (l := [e1, e2])) bL4.out) hu5 (fun i hi e => by have := own_ge e; omega)) rfl); (have := hu5.size; rw [HZ.out] at this; omega); clear tok2 _t; intro v6 w6 hown6 hu6 hg6; obtain ⟨A6, c6, rfl⟩ := own_slice hown6))
  have uS : Upd (fun i => w1.heap.size + 1 + 1 + 1 ≤ i) _ w6 := (hu5.mono (fun i _ e => own_ge e)).trans_ hu6 (fun i _ e => (hown5.lt i e).1)
  have uC : Upd No w6 ((((((w6.alloc (.cells #[.int .i64 5, .slice A6 4 c6, .int .i64 0, .int .i64 0, .int .i64 0, .int .i64 0, .int .i64 0] 34)).alloc (.cells #[.int .i64 2, .int .i64 0, .int .i64 1, .int .i64 5, .int .i64 1] 31)).alloc (.cells #[.bool false, .int .i64 5, .int .i64 0, .int .i64 0] 53)).alloc (.cells #[.bool true, .int .i64 5, .int .i64 1, .int .i64 1] 53)).alloc (.cells #[.int .i64 1, .bool false, .slice (some ⟨w6.heap.size + 1 + 1, 0, none⟩) 1 1, .int .i64 2, .bool true, .slice (some ⟨w6.heap.size + 1 + 1 + 1, 0, none⟩) 1 1] 47)).alloc (.cells #[.slice (some ⟨w6.heap.size + 1 + 1 + 1 + 1, 0, none⟩) 2 2, .slice none 0 0] 25)) := ((((((Upd.refl No w6).alloc _).alloc _).alloc _).alloc _).alloc _).alloc _
  have b1 : Blk ((((((w6.alloc (.cells #[.int .i64 5, .slice A6 4 c6, .int .i64 0, .int .i64 0, .int .i64 0, .int .i64 0, .int .i64 0] 34)).alloc (.cells #[.int .i64 2, .int .i64 0, .int .i64 1, .int .i64 5, .int .i64 1] 31)).alloc (.cells #[.bool false, .int .i64 5, .int .i64 0, .int .i64 0] 53)).alloc (.cells #[.bool true, .int .i64 5, .int .i64 1, .int .i64 1] 53)).alloc (.cells #[.int .i64 1, .bool false, .slice (some ⟨w6.heap.size + 1 + 1, 0, none⟩) 1 1, .int .i64 2, .bool true, .slice (some ⟨w6.heap.size + 1 + 1 + 1, 0, none⟩) 1 1] 47)).alloc (.cells #[.slice (some ⟨w6.heap.size + 1 + 1 + 1 + 1, 0, none⟩) 2 2, .slice none 0 0] 25)) (w6.heap.size) 34 [.int .i64 5, .slice A6 4 c6, .int .i64 0, .int .i64 0, .int .i64 0, .int .i64 0, .int .i64 0] := ((((((Blk.new_at (by simp only [World.size_alloc])).alloc _).alloc _).alloc _).alloc _).alloc _)
  have b2 : Blk ((((((w6.alloc (.cells #[.int .i64 5, .slice A6 4 c6, .int .i64 0, .int .i64 0, .int .i64 0, .int .i64 0, .int .i64 0] 34)).alloc (.cells #[.int .i64 2, .int .i64 0, .int .i64 1, .int .i64 5, .int .i64 1] 31)).alloc (.cells #[.bool false, .int .i64 5, .int .i64 0, .int .i64 0] 53)).alloc (.cells #[.bool true, .int .i64 5, .int .i64 1, .int .i64 1] 53)).alloc (.cells #[.int .i64 1, .bool false, .slice (some ⟨w6.heap.size + 1 + 1, 0, none⟩) 1 1, .int .i64 2, .bool true, .slice (some ⟨w6.heap.size + 1 + 1 + 1, 0, none⟩) 1 1] 47)).alloc (.cells #[.slice (some ⟨w6.heap.size + 1 + 1 + 1 + 1, 0, none⟩) 2 2, .slice none 0 0] 25)) (w6.heap.size + 1) 31 [.int .i64 2, .int .i64 0, .int .i64 1, .int .i64 5, .int .i64 1] := (((((Blk.new_at (by simp only [World.size_alloc])).alloc _).alloc _).alloc _).alloc _)
  have b3 : Blk ((((((w6.alloc (.cells #[.int .i64 5, .slice A6 4 c6, .int .i64 0, .int .i64 0, .int .i64 0, .int .i64 0, .int .i64 0] 34)).alloc (.cells #[.int .i64 2, .int .i64 0, .int .i64 1, .int .i64 5, .int .i64 1] 31)).alloc (.cells #[.bool false, .int .i64 5, .int .i64 0, .int .i64 0] 53)).alloc (.cells #[.bool true, .int .i64 5, .int .i64 1, .int .i64 1] 53)).alloc (.cells #[.int .i64 1, .bool false, .slice (some ⟨w6.heap.size + 1 + 1, 0, none⟩) 1 1, .int .i64 2, .bool true, .slice (some ⟨w6.heap.size + 1 + 1 + 1, 0, none⟩) 1 1] 47)).alloc (.cells #[.slice (some ⟨w6.heap.size + 1 + 1 + 1 + 1, 0, none⟩) 2 2, .slice none 0 0] 25)) (w6.heap.size + 1 + 1) 53 [.bool false, .int .i64 5, .int .i64 0, .int .i64 0] := ((((Blk.new_at (by simp only [World.size_alloc])).alloc _).alloc _).alloc _)
  have b4 : Blk ((((((w6.alloc (.cells #[.int .i64 5, .slice A6 4 c6, .int .i64 0, .int .i64 0, .int .i64 0, .int .i64 0, .int .i64 0] 34)).alloc (.cells #[.int .i64 2, .int .i64 0, .int .i64 1, .int .i64 5, .int .i64 1] 31)).alloc (.cells #[.bool false, .int .i64 5, .int .i64 0, .int .i64 0] 53)).alloc (.cells #[.bool true, .int .i64 5, .int .i64 1, .int .i64 1] 53)).alloc (.cells #[.int .i64 1, .bool false, .slice (some ⟨w6.heap.size + 1 + 1, 0, none⟩) 1 1, .int .i64 2, .bool true, .slice (some ⟨w6.heap.size + 1 + 1 + 1, 0, none⟩) 1 1] 47)).alloc (.cells #[.slice (some ⟨w6.heap.size + 1 + 1 + 1 + 1, 0, none⟩) 2 2, .slice none 0 0] 25)) (w6.heap.size + 1 + 1 + 1) 53 [.bool true, .int .i64 5, .int .i64 1, .int .i64 1] := (((Blk.new_at (by simp only [World.size_alloc])).alloc _).alloc _)
  have b5 : Blk ((((((w6.alloc (.cells #[.int .i64 5, .slice A6 4 c6, .int .i64 0, .int .i64 0, .int .i64 0, .int .i64 0, .int .i64 0] 34)).alloc (.cells #[.int .i64 2, .int .i64 0, .int .i64 1, .int .i64 5, .int .i64 1] 31)).alloc (.cells #[.bool false, .int .i64 5, .int .i64 0, .int .i64 0] 53)).alloc (.cells #[.bool true, .int .i64 5, .int .i64 1, .int .i64 1] 53)).alloc (.cells #[.int .i64 1, .bool false, .slice (some ⟨w6.heap.size + 1 + 1, 0, none⟩) 1 1, .int .i64 2, .bool true, .slice (some ⟨w6.heap.size + 1 + 1 + 1, 0, none⟩) 1 1] 47)).alloc (.cells #[.slice (some ⟨w6.heap.size + 1 + 1 + 1 + 1, 0, none⟩) 2 2, .slice none 0 0] 25)) (w6.heap.size + 1 + 1 + 1 + 1) 47 [.int .i64 1, .bool false, .slice (some ⟨w6.heap.size + 1 + 1, 0, none⟩) 1 1, .int .i64 2, .bool true, .slice (some ⟨w6.heap.size + 1 + 1 + 1, 0, none⟩) 1 1] := ((Blk.new_at (by simp only [World.size_alloc])).alloc _)
  have b6 : Blk ((((((w6.alloc (.cells #[.int .i64 5, .slice A6 4 c6, .int .i64 0, .int .i64 0, .int .i64 0, .int .i64 0, .int .i64 0] 34)).alloc (.cells #[.int .i64 2, .int .i64 0, .int .i64 1, .int .i64 5, .int .i64 1] 31)).alloc (.cells #[.bool false, .int .i64 5, .int .i64 0, .int .i64 0] 53)).alloc (.cells #[.bool true, .int .i64 5, .int .i64 1, .int .i64 1] 53)).alloc (.cells #[.int .i64 1, .bool false, .slice (some ⟨w6.heap.size + 1 + 1, 0, none⟩) 1 1, .int .i64 2, .bool true, .slice (some ⟨w6.heap.size + 1 + 1 + 1, 0, none⟩) 1 1] 47)).alloc (.cells #[.slice (some ⟨w6.heap.size + 1 + 1 + 1 + 1, 0, none⟩) 2 2, .slice none 0 0] 25)) (w6.heap.size + 1 + 1 + 1 + 1 + 1) 25 [.slice (some ⟨w6.heap.size + 1 + 1 + 1 + 1, 0, none⟩) 2 2, .slice none 0 0] := (Blk.new_at (by simp only [World.size_alloc]))
  have hgz : w.heap.size ≤ w1.heap.size := hu1.size
  have BH := Lib.hid ((bH4.out.upd uS (fun e => by omega)).upd uC id)
  have BW := Lib.hid ((bW4.out.upd uS (fun e => by omega)).upd uC id)
  have bL6 := (bL4.out.upd uS (fun e => by omega)).upd uC id
  have WL := Lib.hid (edges_blk (l := [e1, e2]) bL6)
  have WO := Lib.hid (walk_e1 bL6)
  have BL := Lib.hid bL6
  have WT := Lib.hid (WalkE.upd (edges_own (l := [e1, e2, e1, e2]) rfl hown6) uC)
  have HS := Lib.hid ((((Hist.lies.lt Hs.out).upd V4.out (fun _ _ => id)).upd uS (fun i hi e => by omega)).upd uC (fun _ _ => id))
  have HB := Lib.hid (bad_lies (n := w6.heap.size + 1 + 1) b3 b4 b5)
  have B1 := Lib.hid b1
  have B2 := Lib.hid b2
  have B6 := Lib.hid b6
  have HU := Lib.hid ((U4.out.then_ uS fun i e => .inr (by omega)).trans uC)
  clear b1 b2 b3 b4 b5 b6 bL6 hown5 hown6 hu5 hu6 hg5 hg6 uS uC
  generalize ((((((w6.alloc (.cells #[.int .i64 5, .slice A6 4 c6, .int .i64 0, .int .i64 0, .int .i64 0, .int .i64 0, .int .i64 0] 34)).alloc (.cells #[.int .i64 2, .int .i64 0, .int .i64 1, .int .i64 5, .int .i64 1] 31)).alloc (.cells #[.bool false, .int .i64 5, .int .i64 0, .int .i64 0] 53)).alloc (.cells #[.bool true, .int .i64 5, .int .i64 1, .int .i64 1] 53)).alloc (.cells #[.int .i64 1, .bool false, .slice (some ⟨w6.heap.size + 1 + 1, 0, none⟩) 1 1, .int .i64 2, .bool true, .slice (some ⟨w6.heap.size + 1 + 1 + 1, 0, none⟩) 1 1] 47)).alloc (.cells #[.slice (some ⟨w6.heap.size + 1 + 1 + 1 + 1, 0, none⟩) 2 2, .slice none 0 0] 25)) = W0 at *
  generalize w6.heap.size = z at *
  simp only [List.append]
  have ALL := Lib.hid (show ∀ W, Upd No W0 W → Upd No W0 W ∧ W.cell? ⟨w1.heap.size, 0, none⟩ = some (.slice (some ⟨w.heap.size + 1 + 1 + 1, 0, none⟩) 2 2) ∧ W.cell? ⟨w1.heap.size, 1, none⟩ = some (.slice (some ⟨w.heap.size + 1 + 1 + 1 + 1 + 1 + 1, 0, none⟩) 2 2) ∧ W.cell? ⟨w1.heap.size + 1 + 1, 0, none⟩ = some (.int .i64 5) ∧ W.cell? ⟨w1.heap.size + 1 + 1, 1, none⟩ = some (.slice (some ⟨w1.heap.size + 1, 0, none⟩) 2 2) ∧ W.cell? ⟨w1.heap.size + 1 + 1, 2, none⟩ = some (.int .i64 0) ∧ W.cell? ⟨w1.heap.size + 1 + 1, 3, none⟩ = some (.int .i64 0) ∧ W.cell? ⟨w1.heap.size + 1 + 1, 4, none⟩ = some (.int .i64 0) ∧ W.cell? ⟨w1.heap.size + 1 + 1, 5, none⟩ = some (.int .i64 0) ∧ W.cell? ⟨w1.heap.size + 1 + 1, 6, none⟩ = some (.int .i64 0) ∧ W.cell? ⟨z, 0, none⟩ = some (.int .i64 5) ∧ W.cell? ⟨z, 1, none⟩ = some (.slice A6 4 c6) ∧ W.cell? ⟨z, 2, none⟩ = some (.int .i64 0) ∧ W.cell? ⟨z, 3, none⟩ = some (.int .i64 0) ∧ W.cell? ⟨z, 4, none⟩ = some (.int .i64 0) ∧ W.cell? ⟨z, 5, none⟩ = some (.int .i64 0) ∧ W.cell? ⟨z, 6, none⟩ = some (.int .i64 0) ∧ W.cell? ⟨z + 1, 0, none⟩ = some (.int .i64 2) ∧ W.cell? ⟨z + 1, 1, none⟩ = some (.int .i64 0) ∧ W.cell? ⟨z + 1, 2, none⟩ = some (.int .i64 1) ∧ W.cell? ⟨z + 1, 3, none⟩ = some (.int .i64 5) ∧ W.cell? ⟨z + 1, 4, none⟩ = some (.int .i64 1) ∧ W.cell? ⟨z + 1 + 1 + 1 + 1 + 1, 0, none⟩ = some (.slice (some ⟨z + 1 + 1 + 1 + 1, 0, none⟩) 2 2) ∧ W.cell? ⟨z + 1 + 1 + 1 + 1 + 1, 1, none⟩ = some (.slice none 0 0) ∧ W.cell? ⟨w1.heap.size + 1, 0, none⟩ = some (.int .i64 1) ∧ W.cell? ⟨w1.heap.size + 1, 1, none⟩ = some (.int .i64 2) ∧ W.cell? ⟨w1.heap.size + 1, 2, none⟩ = some (.int .i64 3) ∧ W.cell? ⟨w1.heap.size + 1, 3, none⟩ = some (.int .i64 1) from fun W hu => ⟨hu, (BH.out.upd hu id).cell 0, (BH.out.upd hu id).cell 1, (BW.out.upd hu id).cell 0, (BW.out.upd hu id).cell 1, (BW.out.upd hu id).cell 2, (BW.out.upd hu id).cell 3, (BW.out.upd hu id).cell 4, (BW.out.upd hu id).cell 5, (BW.out.upd hu id).cell 6, (B1.out.upd hu id).cell 0, (B1.out.upd hu id).cell 1, (B1.out.upd hu id).cell 2, (B1.out.upd hu id).cell 3, (B1.out.upd hu id).cell 4, (B1.out.upd hu id).cell 5, (B1.out.upd hu id).cell 6, (B2.out.upd hu id).cell 0, (B2.out.upd hu id).cell 1, (B2.out.upd hu id).cell 2, (B2.out.upd hu id).cell 3, (B2.out.upd hu id).cell 4, (B6.out.upd hu id).cell 0, (B6.out.upd hu id).cell 1, (BL.out.upd hu id).cell 0, (BL.out.upd hu id).cell 1, (BL.out.upd hu id).cell 2, (BL.out.upd hu id).cell 3⟩)
  have hHeld := ALL.out _ ((Upd.refl No W0).drew)
  refine wp_region_noPanic ?_
  refine peel_start (by kernel_rfl) ?_
  refine peelQ 4 (by kernel_rfl) (by kernel_rfl) 92 rfl (fun _ _ _ _ _ h => h) (fun QQ hq hdone => ?_)
  simp only [partOps_lit, partL, shiftO_mk, shiftA, shiftG]
  refine wpAny_of_held (S := (fun W => Upd No W0 W ∧ W.cell? ⟨w1.heap.size, 0, none⟩ = some (.slice (some ⟨w.heap.size + 1 + 1 + 1, 0, none⟩) 2 2) ∧ W.cell? ⟨w1.heap.size, 1, none⟩ = some (.slice (some ⟨w.heap.size + 1 + 1 + 1 + 1 + 1 + 1, 0, none⟩) 2 2) ∧ W.cell? ⟨w1.heap.size + 1 + 1, 0, none⟩ = some (.int .i64 5) ∧ W.cell? ⟨w1.heap.size + 1 + 1, 1, none⟩ = some (.slice (some ⟨w1.heap.size + 1, 0, none⟩) 2 2) ∧ W.cell? ⟨w1.heap.size + 1 + 1, 2, none⟩ = some (.int .i64 0) ∧ W.cell? ⟨w1.heap.size + 1 + 1, 3, none⟩ = some (.int .i64 0) ∧ W.cell? ⟨w1.heap.size + 1 + 1, 4, none⟩ = some (.int .i64 0) ∧ W.cell? ⟨w1.heap.size + 1 + 1, 5, none⟩ = some (.int .i64 0) ∧ W.cell? ⟨w1.heap.size + 1 + 1, 6, none⟩ = some (.int .i64 0) ∧ W.cell? ⟨z, 0, none⟩ = some (.int .i64 5) ∧ W.cell? ⟨z, 1, none⟩ = some (.slice A6 4 c6) ∧ W.cell? ⟨z, 2, none⟩ = some (.int .i64 0) ∧ W.cell? ⟨z, 3, none⟩ = some (.int .i64 0) ∧ W.cell? ⟨z, 4, none⟩ = some (.int .i64 0) ∧ W.cell? ⟨z, 5, none⟩ = some (.int .i64 0) ∧ W.cell? ⟨z, 6, none⟩ = some (.int .i64 0) ∧ W.cell? ⟨z + 1, 0, none⟩ = some (.int .i64 2) ∧ W.cell? ⟨z + 1, 1, none⟩ = some (.int .i64 0) ∧ W.cell? ⟨z + 1, 2, none⟩ = some (.int .i64 1) ∧ W.cell? ⟨z + 1, 3, none⟩ = some (.int .i64 5) ∧ W.cell? ⟨z + 1, 4, none⟩ = some (.int .i64 1) ∧ W.cell? ⟨z + 1 + 1 + 1 + 1 + 1, 0, none⟩ = some (.slice (some ⟨z + 1 + 1 + 1 + 1, 0, none⟩) 2 2) ∧ W.cell? ⟨z + 1 + 1 + 1 + 1 + 1, 1, none⟩ = some (.slice none 0 0) ∧ W.cell? ⟨w1.heap.size + 1, 0, none⟩ = some (.int .i64 1) ∧ W.cell? ⟨w1.heap.size + 1, 1, none⟩ = some (.int .i64 2) ∧ W.cell? ⟨w1.heap.size + 1, 2, none⟩ = some (.int .i64 3) ∧ W.cell? ⟨w1.heap.size + 1, 3, none⟩ = some (.int .i64 1))) _ _ _ _ ?_
  refine wpAnyH_take (i := 0) (v := ?_) rfl (by kernel_rfl) (by kernel_rfl) (by kernel_rfl) (fun c a w h => hq c a _ _ w h) (Or.inl ⟨by rfl, ?_⟩) (by assumption) ?_
  rotate_left
  · (intro W hSw; (try dsimp only at hSw); go_simp; try (with_reducible rfl))
  try simp only [Act.put]
  try simp only [List.setIfInBounds_toArray]
  try simp only [List.set_cons_succ]
  try simp only [List.set_cons_zero]
  refine wpAnyH_take (i := 1) (v := ?_) rfl (by kernel_rfl) (by kernel_rfl) (by kernel_rfl) (fun c a w h => hq c a _ _ w h) (Or.inl ⟨by rfl, ?_⟩) (by assumption) ?_
  rotate_left
  · (intro W hSw; (try dsimp only at hSw); go_simp; try (with_reducible rfl))
  try simp only [Act.put]
  try simp only [List.setIfInBounds_toArray]
  try simp only [List.set_cons_succ]
  try simp only [List.set_cons_zero]
  refine wpAnyH_ready (rs := [2]) (by kernel_rfl) (by simp) ?_
  refine AllReadyH.cons rfl (fun K hK => ?_) AllReadyH.nil
  go_simp
  (first
      | (go_at_call 11; refine (caccV (HS.out.upd hHeld.1 (fun _ _ => id)) (WalkE.upd WL.out hHeld.1) (by decide) rfl rfl rfl (a1 _)).mono ?_; rintro e w2 ⟨rfl, hu2⟩))
  try (go_wp2_with fail)
  refine hK.out _ _ ?_ (fun hHeld => ?_)
  · exact ALL.out _ (hHeld.1.trans hu2)
  clear hK K
  try simp only [Act.put]
  try simp only [List.setIfInBounds_toArray]
  try simp only [List.set_cons_succ]
  try simp only [List.set_cons_zero]
  refine wpAnyH_take (i := 3) (v := ?_) rfl (by kernel_rfl) (by kernel_rfl) (by kernel_rfl) (fun c a w h => hq c a _ _ w h) (Or.inl ⟨by rfl, ?_⟩) (by assumption) ?_
  rotate_left
  · (intro W hSw; (try dsimp only at hSw); go_simp; try (with_reducible rfl))
  try simp only [Act.put]
  try simp only [List.setIfInBounds_toArray]
  try simp only [List.set_cons_succ]
  try simp only [List.set_cons_zero]
  refine wpAnyH_done (by kernel_rfl) (hdone.out _ _ ?_) _
  clear hdone hq QQ
  refine peelQ 5 (by kernel_rfl) (by kernel_rfl) 87 rfl (fun _ _ _ _ _ h => h) (fun QQ hq hdone => ?_)
  simp only [partOps_lit, partL, shiftO_mk, shiftA, shiftG]
  refine wpAny_of_held (S := (fun W => Upd No W0 W ∧ W.cell? ⟨w1.heap.size, 0, none⟩ = some (.slice (some ⟨w.heap.size + 1 + 1 + 1, 0, none⟩) 2 2) ∧ W.cell? ⟨w1.heap.size, 1, none⟩ = some (.slice (some ⟨w.heap.size + 1 + 1 + 1 + 1 + 1 + 1, 0, none⟩) 2 2) ∧ W.cell? ⟨w1.heap.size + 1 + 1, 0, none⟩ = some (.int .i64 5) ∧ W.cell? ⟨w1.heap.size + 1 + 1, 1, none⟩ = some (.slice (some ⟨w1.heap.size + 1, 0, none⟩) 2 2) ∧ W.cell? ⟨w1.heap.size + 1 + 1, 2, none⟩ = some (.int .i64 0) ∧ W.cell? ⟨w1.heap.size + 1 + 1, 3, none⟩ = some (.int .i64 0) ∧ W.cell? ⟨w1.heap.size + 1 + 1, 4, none⟩ = some (.int .i64 0) ∧ W.cell? ⟨w1.heap.size + 1 + 1, 5, none⟩ = some (.int .i64 0) ∧ W.cell? ⟨w1.heap.size + 1 + 1, 6, none⟩ = some (.int .i64 0) ∧ W.cell? ⟨z, 0, none⟩ = some (.int .i64 5) ∧ W.cell? ⟨z, 1, none⟩ = some (.slice A6 4 c6) ∧ W.cell? ⟨z, 2, none⟩ = some (.int .i64 0) ∧ W.cell? ⟨z, 3, none⟩ = some (.int .i64 0) ∧ W.cell? ⟨z, 4, none⟩ = some (.int .i64 0) ∧ W.cell? ⟨z, 5, none⟩ = some (.int .i64 0) ∧ W.cell? ⟨z, 6, none⟩ = some (.int .i64 0) ∧ W.cell? ⟨z + 1, 0, none⟩ = some (.int .i64 2) ∧ W.cell? ⟨z + 1, 1, none⟩ = some (.int .i64 0) ∧ W.cell? ⟨z + 1, 2, none⟩ = some (.int .i64 1) ∧ W.cell? ⟨z + 1, 3, none⟩ = some (.int .i64 5) ∧ W.cell? ⟨z + 1, 4, none⟩ = some (.int .i64 1) ∧ W.cell? ⟨z + 1 + 1 + 1 + 1 + 1, 0, none⟩ = some (.slice (some ⟨z + 1 + 1 + 1 + 1, 0, none⟩) 2 2) ∧ W.cell? ⟨z + 1 + 1 + 1 + 1 + 1, 1, none⟩ = some (.slice none 0 0) ∧ W.cell? ⟨w1.heap.size + 1, 0, none⟩ = some (.int .i64 1) ∧ W.cell? ⟨w1.heap.size + 1, 1, none⟩ = some (.int .i64 2) ∧ W.cell? ⟨w1.heap.size + 1, 2, none⟩ = some (.int .i64 3) ∧ W.cell? ⟨w1.heap.size + 1, 3, none⟩ = some (.int .i64 1))) _ _ _ _ ?_
  refine wpAnyH_take (i := 0) (v := ?_) rfl (by kernel_rfl) (by kernel_rfl) (by kernel_rfl) (fun c a w h => hq c a _ _ w h) (Or.inl ⟨by rfl, ?_⟩) (by assumption) ?_
  rotate_left
  · (intro W hSw; (try dsimp only at hSw); go_simp; try (with_reducible rfl))
  try simp only [Act.put]
  try simp only [List.setIfInBounds_toArray]
  try simp only [List.set_cons_succ]
  try simp only [List.set_cons_zero]
  refine wpAnyH_take (i := 1) (v := ?_) rfl (by kernel_rfl) (by kernel_rfl) (by kernel_rfl) (fun c a w h => hq c a _ _ w h) (Or.inl ⟨by rfl, ?_⟩) (by assumption) ?_
  rotate_left
  · (intro W hSw; (try dsimp only at hSw); go_simp; try (with_reducible rfl))
  try simp only [Act.put]
  try simp only [List.setIfInBounds_toArray]
  try simp only [List.set_cons_succ]
  try simp only [List.set_cons_zero]
  refine wpAnyH_ready (rs := [2]) (by kernel_rfl) (by simp) ?_
  refine AllReadyH.cons rfl (fun K hK => ?_) AllReadyH.nil
  go_simp
  (first
      | (go_at_call 11; refine (caccV (HS.out.upd hHeld.1 (fun _ _ => id)) (WalkE.upd WT.out hHeld.1) (by decide) rfl rfl rfl (a2 _)).mono ?_; rintro e w2 ⟨rfl, hu2⟩))
  try (go_wp2_with fail)
  refine hK.out _ _ ?_ (fun hHeld => ?_)
  · exact ALL.out _ (hHeld.1.trans hu2)
  clear hK K
  try simp only [Act.put]
  try simp only [List.setIfInBounds_toArray]
  try simp only [List.set_cons_succ]
  try simp only [List.set_cons_zero]
  refine wpAnyH_take (i := 3) (v := ?_) rfl (by kernel_rfl) (by kernel_rfl) (by kernel_rfl) (fun c a w h => hq c a _ _ w h) (Or.inl ⟨by rfl, ?_⟩) (by assumption) ?_
  rotate_left
  · (intro W hSw; (try dsimp only at hSw); go_simp; try (with_reducible rfl))
  try simp only [Act.put]
  try simp only [List.setIfInBounds_toArray]
  try simp only [List.set_cons_succ]
  try simp only [List.set_cons_zero]
  refine wpAnyH_take (i := 4) (v := ?_) rfl (by kernel_rfl) (by kernel_rfl) (by kernel_rfl) (fun c a w h => hq c a _ _ w h) (Or.inl ⟨by rfl, ?_⟩) (by assumption) ?_
  rotate_left
  · (intro W hSw; (try dsimp only at hSw); go_simp; try (with_reducible rfl))
  try simp only [Act.put]
  try simp only [List.setIfInBounds_toArray]
  try simp only [List.set_cons_succ]
  try simp only [List.set_cons_zero]
  refine wpAnyH_done (by kernel_rfl) (hdone.out _ _ ?_) _
  clear hdone hq QQ
  refine peelQ 7 (by kernel_rfl) (by kernel_rfl) 80 rfl (fun _ _ _ _ _ h => h) (fun QQ hq hdone => ?_)
  simp only [partOps_lit, partL, shiftO_mk, shiftA, shiftG]
  refine wpAny_of_held (S := (fun W => Upd No W0 W ∧ W.cell? ⟨w1.heap.size, 0, none⟩ = some (.slice (some ⟨w.heap.size + 1 + 1 + 1, 0, none⟩) 2 2) ∧ W.cell? ⟨w1.heap.size, 1, none⟩ = some (.slice (some ⟨w.heap.size + 1 + 1 + 1 + 1 + 1 + 1, 0, none⟩) 2 2) ∧ W.cell? ⟨w1.heap.size + 1 + 1, 0, none⟩ = some (.int .i64 5) ∧ W.cell? ⟨w1.heap.size + 1 + 1, 1, none⟩ = some (.slice (some ⟨w1.heap.size + 1, 0, none⟩) 2 2) ∧ W.cell? ⟨w1.heap.size + 1 + 1, 2, none⟩ = some (.int .i64 0) ∧ W.cell? ⟨w1.heap.size + 1 + 1, 3, none⟩ = some (.int .i64 0) ∧ W.cell? ⟨w1.heap.size + 1 + 1, 4, none⟩ = some (.int .i64 0) ∧ W.cell? ⟨w1.heap.size + 1 + 1, 5, none⟩ = some (.int .i64 0) ∧ W.cell? ⟨w1.heap.size + 1 + 1, 6, none⟩ = some (.int .i64 0) ∧ W.cell? ⟨z, 0, none⟩ = some (.int .i64 5) ∧ W.cell? ⟨z, 1, none⟩ = some (.slice A6 4 c6) ∧ W.cell? ⟨z, 2, none⟩ = some (.int .i64 0) ∧ W.cell? ⟨z, 3, none⟩ = some (.int .i64 0) ∧ W.cell? ⟨z, 4, none⟩ = some (.int .i64 0) ∧ W.cell? ⟨z, 5, none⟩ = some (.int .i64 0) ∧ W.cell? ⟨z, 6, none⟩ = some (.int .i64 0) ∧ W.cell? ⟨z + 1, 0, none⟩ = some (.int .i64 2) ∧ W.cell? ⟨z + 1, 1, none⟩ = some (.int .i64 0) ∧ W.cell? ⟨z + 1, 2, none⟩ = some (.int .i64 1) ∧ W.cell? ⟨z + 1, 3, none⟩ = some (.int .i64 5) ∧ W.cell? ⟨z + 1, 4, none⟩ = some (.int .i64 1) ∧ W.cell? ⟨z + 1 + 1 + 1 + 1 + 1, 0, none⟩ = some (.slice (some ⟨z + 1 + 1 + 1 + 1, 0, none⟩) 2 2) ∧ W.cell? ⟨z + 1 + 1 + 1 + 1 + 1, 1, none⟩ = some (.slice none 0 0) ∧ W.cell? ⟨w1.heap.size + 1, 0, none⟩ = some (.int .i64 1) ∧ W.cell? ⟨w1.heap.size + 1, 1, none⟩ = some (.int .i64 2) ∧ W.cell? ⟨w1.heap.size + 1, 2, none⟩ = some (.int .i64 3) ∧ W.cell? ⟨w1.heap.size + 1, 3, none⟩ = some (.int .i64 1))) _ _ _ _ ?_
  refine wpAnyH_take (i := 0) (v := ?_) rfl (by kernel_rfl) (by kernel_rfl) (by kernel_rfl) (fun c a w h => hq c a _ _ w h) (Or.inl ⟨by rfl, ?_⟩) (by assumption) ?_
  rotate_left
  · (intro W hSw; (try dsimp only at hSw); go_simp; try (with_reducible rfl))
  try simp only [Act.put]
  try simp only [List.setIfInBounds_toArray]
  try simp only [List.set_cons_succ]
  try simp only [List.set_cons_zero]
  refine wpAnyH_take (i := 1) (v := ?_) rfl (by kernel_rfl) (by kernel_rfl) (by kernel_rfl) (fun c a w h => hq c a _ _ w h) (Or.inl ⟨by rfl, ?_⟩) (by assumption) ?_
  rotate_left
  · (intro W hSw; (try dsimp only at hSw); go_simp; try (with_reducible rfl))
  try simp only [Act.put]
  try simp only [List.setIfInBounds_toArray]
  try simp only [List.set_cons_succ]
  try simp only [List.set_cons_zero]
  refine wpAnyH_take (i := 2) (v := ?_) rfl (by kernel_rfl) (by kernel_rfl) (by kernel_rfl) (fun c a w h => hq c a _ _ w h) (Or.inl ⟨by rfl, ?_⟩) (by assumption) ?_
  rotate_left
  · (intro W hSw; (try dsimp only at hSw); go_simp; try (with_reducible rfl))
  try simp only [Act.put]
  try simp only [List.setIfInBounds_toArray]
  try simp only [List.set_cons_succ]
  try simp only [List.set_cons_zero]
  refine wpAnyH_ready (rs := [3]) (by kernel_rfl) (by simp) ?_
  refine AllReadyH.cons rfl (fun K hK => ?_) AllReadyH.nil
  go_simp
  (first
      | (go_at_call 11; refine (caccV (HS.out.upd hHeld.1 (fun _ _ => id)) (WalkE.upd WL.out hHeld.1) (by decide) rfl rfl rfl (a3 _)).mono ?_; rintro e w2 ⟨rfl, hu2⟩))
  try (go_wp2_with fail)
  refine hK.out _ _ ?_ (fun hHeld => ?_)
  · exact ALL.out _ (hHeld.1.trans hu2)
  clear hK K
  try simp only [Act.put]
  try simp only [List.setIfInBounds_toArray]
  try simp only [List.set_cons_succ]
  try simp only [List.set_cons_zero]
  refine wpAnyH_take (i := 4) (v := ?_) rfl (by kernel_rfl) (by kernel_rfl) (by kernel_rfl) (fun c a w h => hq c a _ _ w h) (Or.inl ⟨by rfl, ?_⟩) (by assumption) ?_
  rotate_left
  · (intro W hSw; (try dsimp only at hSw); go_simp; try (with_reducible rfl))
  try simp only [Act.put]
  try simp only [List.setIfInBounds_toArray]
  try simp only [List.set_cons_succ]
  try simp only [List.set_cons_zero]
  refine wpAnyH_take (i := 5) (v := ?_) rfl (by kernel_rfl) (by kernel_rfl) (by kernel_rfl) (fun c a w h => hq c a _ _ w h) (Or.inl ⟨by rfl, ?_⟩) (by assumption) ?_
  rotate_left
  · (intro W hSw; (try dsimp only at hSw); go_simp; try (with_reducible rfl))
  try simp only [Act.put]
  try simp only [List.setIfInBounds_toArray]
  try simp only [List.set_cons_succ]
  try simp only [List.set_cons_zero]
  refine wpAnyH_take (i := 6) (v := ?_) rfl (by kernel_rfl) (by kernel_rfl) (by kernel_rfl) (fun c a w h => hq c a _ _ w h) (Or.inl ⟨by rfl, ?_⟩) (by assumption) ?_
  rotate_left
  · (intro W hSw; (try dsimp only at hSw); go_simp; try (with_reducible rfl))
  try simp only [Act.put]
  try simp only [List.setIfInBounds_toArray]
  try simp only [List.set_cons_succ]
  try simp only [List.set_cons_zero]
  refine wpAnyH_done (by kernel_rfl) (hdone.out _ _ ?_) _
  clear hdone hq QQ
  refine peelQ 8 (by kernel_rfl) (by kernel_rfl) 72 rfl (fun _ _ _ _ _ h => h) (fun QQ hq hdone => ?_)
  simp only [partOps_lit, partL, shiftO_mk, shiftA, shiftG]
  refine wpAny_of_held (S := (fun W => Upd No W0 W ∧ W.cell? ⟨w1.heap.size, 0, none⟩ = some (.slice (some ⟨w.heap.size + 1 + 1 + 1, 0, none⟩) 2 2) ∧ W.cell? ⟨w1.heap.size, 1, none⟩ = some (.slice (some ⟨w.heap.size + 1 + 1 + 1 + 1 + 1 + 1, 0, none⟩) 2 2) ∧ W.cell? ⟨w1.heap.size + 1 + 1, 0, none⟩ = some (.int .i64 5) ∧ W.cell? ⟨w1.heap.size + 1 + 1, 1, none⟩ = some (.slice (some ⟨w1.heap.size + 1, 0, none⟩) 2 2) ∧ W.cell? ⟨w1.heap.size + 1 + 1, 2, none⟩ = some (.int .i64 0) ∧ W.cell? ⟨w1.heap.size + 1 + 1, 3, none⟩ = some (.int .i64 0) ∧ W.cell? ⟨w1.heap.size + 1 + 1, 4, none⟩ = some (.int .i64 0) ∧ W.cell? ⟨w1.heap.size + 1 + 1, 5, none⟩ = some (.int .i64 0) ∧ W.cell? ⟨w1.heap.size + 1 + 1, 6, none⟩ = some (.int .i64 0) ∧ W.cell? ⟨z, 0, none⟩ = some (.int .i64 5) ∧ W.cell? ⟨z, 1, none⟩ = some (.slice A6 4 c6) ∧ W.cell? ⟨z, 2, none⟩ = some (.int .i64 0) ∧ W.cell? ⟨z, 3, none⟩ = some (.int .i64 0) ∧ W.cell? ⟨z, 4, none⟩ = some (.int .i64 0) ∧ W.cell? ⟨z, 5, none⟩ = some (.int .i64 0) ∧ W.cell? ⟨z, 6, none⟩ = some (.int .i64 0) ∧ W.cell? ⟨z + 1, 0, none⟩ = some (.int .i64 2) ∧ W.cell? ⟨z + 1, 1, none⟩ = some (.int .i64 0) ∧ W.cell? ⟨z + 1, 2, none⟩ = some (.int .i64 1) ∧ W.cell? ⟨z + 1, 3, none⟩ = some (.int .i64 5) ∧ W.cell? ⟨z + 1, 4, none⟩ = some (.int .i64 1) ∧ W.cell? ⟨z + 1 + 1 + 1 + 1 + 1, 0, none⟩ = some (.slice (some ⟨z + 1 + 1 + 1 + 1, 0, none⟩) 2 2) ∧ W.cell? ⟨z + 1 + 1 + 1 + 1 + 1, 1, none⟩ = some (.slice none 0 0) ∧ W.cell? ⟨w1.heap.size + 1, 0, none⟩ = some (.int .i64 1) ∧ W.cell? ⟨w1.heap.size + 1, 1, none⟩ = some (.int .i64 2) ∧ W.cell? ⟨w1.heap.size + 1, 2, none⟩ = some (.int .i64 3) ∧ W.cell? ⟨w1.heap.size + 1, 3, none⟩ = some (.int .i64 1))) _ _ _ _ ?_
  refine wpAnyH_take (i := 0) (v := ?_) rfl (by kernel_rfl) (by kernel_rfl) (by kernel_rfl) (fun c a w h => hq c a _ _ w h) (Or.inl ⟨by rfl, ?_⟩) (by assumption) ?_
  rotate_left
  · (intro W hSw; (try dsimp only at hSw); go_simp; try (with_reducible rfl))
  try simp only [Act.put]
  try simp only [List.setIfInBounds_toArray]
  try simp only [List.set_cons_succ]
  try simp only [List.set_cons_zero]
  refine wpAnyH_take (i := 1) (v := ?_) rfl (by kernel_rfl) (by kernel_rfl) (by kernel_rfl) (fun c a w h => hq c a _ _ w h) (Or.inl ⟨by rfl, ?_⟩) (by assumption) ?_
  rotate_left
  · (intro W hSw; (try dsimp only at hSw); go_simp; try (with_reducible rfl))
  try simp only [Act.put]
  try simp only [List.setIfInBounds_toArray]
  try simp only [List.set_cons_succ]
  try simp only [List.set_cons_zero]
  refine wpAnyH_take (i := 2) (v := ?_) rfl (by kernel_rfl) (by kernel_rfl) (by kernel_rfl) (fun c a w h => hq c a _ _ w h) (Or.inl ⟨by rfl, ?_⟩) (by assumption) ?_
  rotate_left
  · (intro W hSw; (try dsimp only at hSw); go_simp; try (with_reducible rfl))
  try simp only [Act.put]
  try simp only [List.setIfInBounds_toArray]
  try simp only [List.set_cons_succ]
  try simp only [List.set_cons_zero]
  refine wpAnyH_take (i := 3) (v := ?_) rfl (by kernel_rfl) (by kernel_rfl) (by kernel_rfl) (fun c a w h => hq c a _ _ w h) (Or.inl ⟨by rfl, ?_⟩) (by assumption) ?_
  rotate_left
  · (intro W hSw; (try dsimp only at hSw); go_simp; try (with_reducible rfl))
  try simp only [Act.put]
  try simp only [List.setIfInBounds_toArray]
  try simp only [List.set_cons_succ]
  try simp only [List.set_cons_zero]
  refine wpAnyH_ready (rs := [4]) (by kernel_rfl) (by simp) ?_
  refine AllReadyH.cons rfl (fun K hK => ?_) AllReadyH.nil
  go_simp
  (first
      | (go_at_call 11; refine (caccV (HS.out.upd hHeld.1 (fun _ _ => id)) (WalkE.upd WO.out hHeld.1) (by decide) rfl rfl rfl (a4 _)).mono ?_; rintro e w2 ⟨rfl, hu2⟩))
  try (go_wp2_with fail)
  refine hK.out _ _ ?_ (fun hHeld => ?_)
  · exact ALL.out _ (hHeld.1.trans hu2)
  clear hK K
  try simp only [Act.put]
  try simp only [List.setIfInBounds_toArray]
  try simp only [List.set_cons_succ]
  try simp only [List.set_cons_zero]
  refine wpAnyH_take (i := 5) (v := ?_) rfl (by kernel_rfl) (by kernel_rfl) (by kernel_rfl) (fun c a w h => hq c a _ _ w h) (Or.inl ⟨by rfl, ?_⟩) (by assumption) ?_
  rotate_left
  · (intro W hSw; (try dsimp only at hSw); go_simp; try (with_reducible rfl))
  try simp only [Act.put]
  try simp only [List.setIfInBounds_toArray]
  try simp only [List.set_cons_succ]
  try simp only [List.set_cons_zero]
  refine wpAnyH_take (i := 6) (v := ?_) rfl (by kernel_rfl) (by kernel_rfl) (by kernel_rfl) (fun c a w h => hq c a _ _ w h) (Or.inl ⟨by rfl, ?_⟩) (by assumption) ?_
  rotate_left
  · (intro W hSw; (try dsimp only at hSw); go_simp; try (with_reducible rfl))
  try simp only [Act.put]
  try simp only [List.setIfInBounds_toArray]
  try simp only [List.set_cons_succ]
  try simp only [List.set_cons_zero]
  refine wpAnyH_take (i := 7) (v := ?_) rfl (by kernel_rfl) (by kernel_rfl) (by kernel_rfl) (fun c a w h => hq c a _ _ w h) (Or.inl ⟨by rfl, ?_⟩) (by assumption) ?_
  rotate_left
  · (intro W hSw; (try dsimp only at hSw); go_simp; try (with_reducible rfl))
  try simp only [Act.put]
  try simp only [List.setIfInBounds_toArray]
  try simp only [List.set_cons_succ]
  try simp only [List.set_cons_zero]
  refine wpAnyH_done (by kernel_rfl) (hdone.out _ _ ?_) _
  clear hdone hq QQ
  refine peelQ 8 (by kernel_rfl) (by kernel_rfl) 64 rfl (fun _ _ _ _ _ h => h) (fun QQ hq hdone => ?_)
  simp only [partOps_lit, partL, shiftO_mk, shiftA, shiftG]
  refine wpAny_of_held (S := (fun W => Upd No W0 W ∧ W.cell? ⟨w1.heap.size, 0, none⟩ = some (.slice (some ⟨w.heap.size + 1 + 1 + 1, 0, none⟩) 2 2) ∧ W.cell? ⟨w1.heap.size, 1, none⟩ = some (.slice (some ⟨w.heap.size + 1 + 1 + 1 + 1 + 1 + 1, 0, none⟩) 2 2) ∧ W.cell? ⟨w1.heap.size + 1 + 1, 0, none⟩ = some (.int .i64 5) ∧ W.cell? ⟨w1.heap.size + 1 + 1, 1, none⟩ = some (.slice (some ⟨w1.heap.size + 1, 0, none⟩) 2 2) ∧ W.cell? ⟨w1.heap.size + 1 + 1, 2, none⟩ = some (.int .i64 0) ∧ W.cell? ⟨w1.heap.size + 1 + 1, 3, none⟩ = some (.int .i64 0) ∧ W.cell? ⟨w1.heap.size + 1 + 1, 4, none⟩ = some (.int .i64 0) ∧ W.cell? ⟨w1.heap.size + 1 + 1, 5, none⟩ = some (.int .i64 0) ∧ W.cell? ⟨w1.heap.size + 1 + 1, 6, none⟩ = some (.int .i64 0) ∧ W.cell? ⟨z, 0, none⟩ = some (.int .i64 5) ∧ W.cell? ⟨z, 1, none⟩ = some (.slice A6 4 c6) ∧ W.cell? ⟨z, 2, none⟩ = some (.int .i64 0) ∧ W.cell? ⟨z, 3, none⟩ = some (.int .i64 0) ∧ W.cell? ⟨z, 4, none⟩ = some (.int .i64 0) ∧ W.cell? ⟨z, 5, none⟩ = some (.int .i64 0) ∧ W.cell? ⟨z, 6, none⟩ = some (.int .i64 0) ∧ W.cell? ⟨z + 1, 0, none⟩ = some (.int .i64 2) ∧ W.cell? ⟨z + 1, 1, none⟩ = some (.int .i64 0) ∧ W.cell? ⟨z + 1, 2, none⟩ = some (.int .i64 1) ∧ W.cell? ⟨z + 1, 3, none⟩ = some (.int .i64 5) ∧ W.cell? ⟨z + 1, 4, none⟩ = some (.int .i64 1) ∧ W.cell? ⟨z + 1 + 1 + 1 + 1 + 1, 0, none⟩ = some (.slice (some ⟨z + 1 + 1 + 1 + 1, 0, none⟩) 2 2) ∧ W.cell? ⟨z + 1 + 1 + 1 + 1 + 1, 1, none⟩ = some (.slice none 0 0) ∧ W.cell? ⟨w1.heap.size + 1, 0, none⟩ = some (.int .i64 1) ∧ W.cell? ⟨w1.heap.size + 1, 1, none⟩ = some (.int .i64 2) ∧ W.cell? ⟨w1.heap.size + 1, 2, none⟩ = some (.int .i64 3) ∧ W.cell? ⟨w1.heap.size + 1, 3, none⟩ = some (.int .i64 1))) _ _ _ _ ?_
  refine wpAnyH_take (i := 0) (v := ?_) rfl (by kernel_rfl) (by kernel_rfl) (by kernel_rfl) (fun c a w h => hq c a _ _ w h) (Or.inl ⟨by rfl, ?_⟩) (by assumption) ?_
  rotate_left
  · (intro W hSw; (try dsimp only at hSw); go_simp; try (with_reducible rfl))
  try simp only [Act.put]
  try simp only [List.setIfInBounds_toArray]
  try simp only [List.set_cons_succ]
  try simp only [List.set_cons_zero]
  refine wpAnyH_take (i := 1) (v := ?_) rfl (by kernel_rfl) (by kernel_rfl) (by kernel_rfl) (fun c a w h => hq c a _ _ w h) (Or.inl ⟨by rfl, ?_⟩) (by assumption) ?_
  rotate_left
  · (intro W hSw; (try dsimp only at hSw); go_simp; try (with_reducible rfl))
  try simp only [Act.put]
  try simp only [List.setIfInBounds_toArray]
  try simp only [List.set_cons_succ]
  try simp only [List.set_cons_zero]
  refine wpAnyH_take (i := 2) (v := ?_) rfl (by kernel_rfl) (by kernel_rfl) (by kernel_rfl) (fun c a w h => hq c a _ _ w h) (Or.inl ⟨by rfl, ?_⟩) (by assumption) ?_
  rotate_left
  · (intro W hSw; (try dsimp only at hSw); go_simp; try (with_reducible rfl))
  try simp only [Act.put]
  try simp only [List.setIfInBounds_toArray]
  try simp only [List.set_cons_succ]
  try simp only [List.set_cons_zero]
  refine wpAnyH_take (i := 3) (v := ?_) rfl (by kernel_rfl) (by kernel_rfl) (by kernel_rfl) (fun c a w h => hq c a _ _ w h) (Or.inl ⟨by rfl, ?_⟩) (by assumption) ?_
  rotate_left
  · (intro W hSw; (try dsimp only at hSw); go_simp; try (with_reducible rfl))
  try simp only [Act.put]
  try simp only [List.setIfInBounds_toArray]
  try simp only [List.set_cons_succ]
  try simp only [List.set_cons_zero]
  refine wpAnyH_ready (rs := [4]) (by kernel_rfl) (by simp) ?_
  refine AllReadyH.cons rfl (fun K hK => ?_) AllReadyH.nil
  go_simp
  (first
      | (go_at_call 11; refine (caccV (HS.out.upd hHeld.1 (fun _ _ => id)) (WalkE.upd WL.out hHeld.1) (by decide) rfl rfl rfl (a5 _)).mono ?_; rintro e w2 ⟨rfl, hu2⟩))
  try (go_wp2_with fail)
  refine hK.out _ _ ?_ (fun hHeld => ?_)
  · exact ALL.out _ (hHeld.1.trans hu2)
  clear hK K
  try simp only [Act.put]
  try simp only [List.setIfInBounds_toArray]
  try simp only [List.set_cons_succ]
  try simp only [List.set_cons_zero]
  refine wpAnyH_take (i := 5) (v := ?_) rfl (by kernel_rfl) (by kernel_rfl) (by kernel_rfl) (fun c a w h => hq c a _ _ w h) (Or.inl ⟨by rfl, ?_⟩) (by assumption) ?_
  rotate_left
  · (intro W hSw; (try dsimp only at hSw); go_simp; try (with_reducible rfl))
  try simp only [Act.put]
  try simp only [List.setIfInBounds_toArray]
  try simp only [List.set_cons_succ]
  try simp only [List.set_cons_zero]
  refine wpAnyH_take (i := 6) (v := ?_) rfl (by kernel_rfl) (by kernel_rfl) (by kernel_rfl) (fun c a w h => hq c a _ _ w h) (Or.inl ⟨by rfl, ?_⟩) (by assumption) ?_
  rotate_left
  · (intro W hSw; (try dsimp only at hSw); go_simp; try (with_reducible rfl))
  try simp only [Act.put]
  try simp only [List.setIfInBounds_toArray]
  try simp only [List.set_cons_succ]
  try simp only [List.set_cons_zero]
  refine wpAnyH_take (i := 7) (v := ?_) rfl (by kernel_rfl) (by kernel_rfl) (by kernel_rfl) (fun c a w h => hq c a _ _ w h) (Or.inl ⟨by rfl, ?_⟩) (by assumption) ?_
  rotate_left
  · (intro W hSw; (try dsimp only at hSw); go_simp; try (with_reducible rfl))
  try simp only [Act.put]
  try simp only [List.setIfInBounds_toArray]
  try simp only [List.set_cons_succ]
  try simp only [List.set_cons_zero]
  refine wpAnyH_done (by kernel_rfl) (hdone.out _ _ ?_) _
  clear hdone hq QQ
  refine peelQ 8 (by kernel_rfl) (by kernel_rfl) 56 rfl (fun _ _ _ _ _ h => h) (fun QQ hq hdone => ?_)
  simp only [partOps_lit, partL, shiftO_mk, shiftA, shiftG]
  refine wpAny_of_held (S := (fun W => Upd No W0 W ∧ W.cell? ⟨w1.heap.size, 0, none⟩ = some (.slice (some ⟨w.heap.size + 1 + 1 + 1, 0, none⟩) 2 2) ∧ W.cell? ⟨w1.heap.size, 1, none⟩ = some (.slice (some ⟨w.heap.size + 1 + 1 + 1 + 1 + 1 + 1, 0, none⟩) 2 2) ∧ W.cell? ⟨w1.heap.size + 1 + 1, 0, none⟩ = some (.int .i64 5) ∧ W.cell? ⟨w1.heap.size + 1 + 1, 1, none⟩ = some (.slice (some ⟨w1.heap.size + 1, 0, none⟩) 2 2) ∧ W.cell? ⟨w1.heap.size + 1 + 1, 2, none⟩ = some (.int .i64 0) ∧ W.cell? ⟨w1.heap.size + 1 + 1, 3, none⟩ = some (.int .i64 0) ∧ W.cell? ⟨w1.heap.size + 1 + 1, 4, none⟩ = some (.int .i64 0) ∧ W.cell? ⟨w1.heap.size + 1 + 1, 5, none⟩ = some (.int .i64 0) ∧ W.cell? ⟨w1.heap.size + 1 + 1, 6, none⟩ = some (.int .i64 0) ∧ W.cell? ⟨z, 0, none⟩ = some (.int .i64 5) ∧ W.cell? ⟨z, 1, none⟩ = some (.slice A6 4 c6) ∧ W.cell? ⟨z, 2, none⟩ = some (.int .i64 0) ∧ W.cell? ⟨z, 3, none⟩ = some (.int .i64 0) ∧ W.cell? ⟨z, 4, none⟩ = some (.int .i64 0) ∧ W.cell? ⟨z, 5, none⟩ = some (.int .i64 0) ∧ W.cell? ⟨z, 6, none⟩ = some (.int .i64 0) ∧ W.cell? ⟨z + 1, 0, none⟩ = some (.int .i64 2) ∧ W.cell? ⟨z + 1, 1, none⟩ = some (.int .i64 0) ∧ W.cell? ⟨z + 1, 2, none⟩ = some (.int .i64 1) ∧ W.cell? ⟨z + 1, 3, none⟩ = some (.int .i64 5) ∧ W.cell? ⟨z + 1, 4, none⟩ = some (.int .i64 1) ∧ W.cell? ⟨z + 1 + 1 + 1 + 1 + 1, 0, none⟩ = some (.slice (some ⟨z + 1 + 1 + 1 + 1, 0, none⟩) 2 2) ∧ W.cell? ⟨z + 1 + 1 + 1 + 1 + 1, 1, none⟩ = some (.slice none 0 0) ∧ W.cell? ⟨w1.heap.size + 1, 0, none⟩ = some (.int .i64 1) ∧ W.cell? ⟨w1.heap.size + 1, 1, none⟩ = some (.int .i64 2) ∧ W.cell? ⟨w1.heap.size + 1, 2, none⟩ = some (.int .i64 3) ∧ W.cell? ⟨w1.heap.size + 1, 3, none⟩ = some (.int .i64 1))) _ _ _ _ ?_
  refine wpAnyH_take (i := 0) (v := ?_) rfl (by kernel_rfl) (by kernel_rfl) (by kernel_rfl) (fun c a w h => hq c a _ _ w h) (Or.inl ⟨by rfl, ?_⟩) (by assumption) ?_
  rotate_left
  · (intro W hSw; (try dsimp only at hSw); go_simp; try (with_reducible rfl))
  try simp only [Act.put]
  try simp only [List.setIfInBounds_toArray]
  try simp only [List.set_cons_succ]
  try simp only [List.set_cons_zero]
  refine wpAnyH_take (i := 1) (v := ?_) rfl (by kernel_rfl) (by kernel_rfl) (by kernel_rfl) (fun c a w h => hq c a _ _ w h) (Or.inl ⟨by rfl, ?_⟩) (by assumption) ?_
  rotate_left
  · (intro W hSw; (try dsimp only at hSw); go_simp; try (with_reducible rfl))
  try simp only [Act.put]
  try simp only [List.setIfInBounds_toArray]
  try simp only [List.set_cons_succ]
  try simp only [List.set_cons_zero]
  refine wpAnyH_take (i := 2) (v := ?_) rfl (by kernel_rfl) (by kernel_rfl) (by kernel_rfl) (fun c a w h => hq c a _ _ w h) (Or.inl ⟨by rfl, ?_⟩) (by assumption) ?_
  rotate_left
  · (intro W hSw; (try dsimp only at hSw); go_simp; try (with_reducible rfl))
  try simp only [Act.put]
  try simp only [List.setIfInBounds_toArray]
  try simp only [List.set_cons_succ]
  try simp only [List.set_cons_zero]
  refine wpAnyH_take (i := 3) (v := ?_) rfl (by kernel_rfl) (by kernel_rfl) (by kernel_rfl) (fun c a w h => hq c a _ _ w h) (Or.inl ⟨by rfl, ?_⟩) (by assumption) ?_
  rotate_left
  · (intro W hSw; (try dsimp only at hSw); go_simp; try (with_reducible rfl))
  try simp only [Act.put]
  try simp only [List.setIfInBounds_toArray]
  try simp only [List.set_cons_succ]
  try simp only [List.set_cons_zero]
  refine wpAnyH_ready (rs := [4]) (by kernel_rfl) (by simp) ?_
  refine AllReadyH.cons rfl (fun K hK => ?_) AllReadyH.nil
  go_simp
  (first
      | (go_at_call 11; refine (caccV (lies_txs (HS.out.upd hHeld.1 (fun _ _ => id))) (WalkE.upd WL.out hHeld.1) (by decide) rfl rfl rfl (a6 _ _)).mono ?_; rintro e w2 ⟨rfl, hu2⟩))
  try (go_wp2_with fail)
  refine hK.out _ _ ?_ (fun hHeld => ?_)
  · exact ALL.out _ (hHeld.1.trans hu2)
  clear hK K
  try simp only [Act.put]
  try simp only [List.setIfInBounds_toArray]
  try simp only [List.set_cons_succ]
  try simp only [List.set_cons_zero]
  refine wpAnyH_take (i := 5) (v := ?_) rfl (by kernel_rfl) (by kernel_rfl) (by kernel_rfl) (fun c a w h => hq c a _ _ w h) (Or.inl ⟨by rfl, ?_⟩) (by assumption) ?_
  rotate_left
  · (intro W hSw; (try dsimp only at hSw); go_simp; try (with_reducible rfl))
  try simp only [Act.put]
  try simp only [List.setIfInBounds_toArray]
  try simp only [List.set_cons_succ]
  try simp only [List.set_cons_zero]
  refine wpAnyH_take (i := 6) (v := ?_) rfl (by kernel_rfl) (by kernel_rfl) (by kernel_rfl) (fun c a w h => hq c a _ _ w h) (Or.inl ⟨by rfl, ?_⟩) (by assumption) ?_
  rotate_left
  · (intro W hSw; (try dsimp only at hSw); go_simp; try (with_reducible rfl))
  try simp only [Act.put]
  try simp only [List.setIfInBounds_toArray]
  try simp only [List.set_cons_succ]
  try simp only [List.set_cons_zero]
  refine wpAnyH_take (i := 7) (v := ?_) rfl (by kernel_rfl) (by kernel_rfl) (by kernel_rfl) (fun c a w h => hq c a _ _ w h) (Or.inl ⟨by rfl, ?_⟩) (by assumption) ?_
  rotate_left
  · (intro W hSw; (try dsimp only at hSw); go_simp; try (with_reducible rfl))
  try simp only [Act.put]
  try simp only [List.setIfInBounds_toArray]
  try simp only [List.set_cons_succ]
  try simp only [List.set_cons_zero]
  refine wpAnyH_done (by kernel_rfl) (hdone.out _ _ ?_) _
  clear hdone hq QQ
  refine peelQ 6 (by kernel_rfl) (by kernel_rfl) 50 rfl (fun _ _ _ _ _ h => h) (fun QQ hq hdone => ?_)
  simp only [partOps_lit, partL, shiftO_mk, shiftA, shiftG]
  refine wpAny_of_held (S := (fun W => Upd No W0 W ∧ W.cell? ⟨w1.heap.size, 0, none⟩ = some (.slice (some ⟨w.heap.size + 1 + 1 + 1, 0, none⟩) 2 2) ∧ W.cell? ⟨w1.heap.size, 1, none⟩ = some (.slice (some ⟨w.heap.size + 1 + 1 + 1 + 1 + 1 + 1, 0, none⟩) 2 2) ∧ W.cell? ⟨w1.heap.size + 1 + 1, 0, none⟩ = some (.int .i64 5) ∧ W.cell? ⟨w1.heap.size + 1 + 1, 1, none⟩ = some (.slice (some ⟨w1.heap.size + 1, 0, none⟩) 2 2) ∧ W.cell? ⟨w1.heap.size + 1 + 1, 2, none⟩ = some (.int .i64 0) ∧ W.cell? ⟨w1.heap.size + 1 + 1, 3, none⟩ = some (.int .i64 0) ∧ W.cell? ⟨w1.heap.size + 1 + 1, 4, none⟩ = some (.int .i64 0) ∧ W.cell? ⟨w1.heap.size + 1 + 1, 5, none⟩ = some (.int .i64 0) ∧ W.cell? ⟨w1.heap.size + 1 + 1, 6, none⟩ = some (.int .i64 0) ∧ W.cell? ⟨z, 0, none⟩ = some (.int .i64 5) ∧ W.cell? ⟨z, 1, none⟩ = some (.slice A6 4 c6) ∧ W.cell? ⟨z, 2, none⟩ = some (.int .i64 0) ∧ W.cell? ⟨z, 3, none⟩ = some (.int .i64 0) ∧ W.cell? ⟨z, 4, none⟩ = some (.int .i64 0) ∧ W.cell? ⟨z, 5, none⟩ = some (.int .i64 0) ∧ W.cell? ⟨z, 6, none⟩ = some (.int .i64 0) ∧ W.cell? ⟨z + 1, 0, none⟩ = some (.int .i64 2) ∧ W.cell? ⟨z + 1, 1, none⟩ = some (.int .i64 0) ∧ W.cell? ⟨z + 1, 2, none⟩ = some (.int .i64 1) ∧ W.cell? ⟨z + 1, 3, none⟩ = some (.int .i64 5) ∧ W.cell? ⟨z + 1, 4, none⟩ = some (.int .i64 1) ∧ W.cell? ⟨z + 1 + 1 + 1 + 1 + 1, 0, none⟩ = some (.slice (some ⟨z + 1 + 1 + 1 + 1, 0, none⟩) 2 2) ∧ W.cell? ⟨z + 1 + 1 + 1 + 1 + 1, 1, none⟩ = some (.slice none 0 0) ∧ W.cell? ⟨w1.heap.size + 1, 0, none⟩ = some (.int .i64 1) ∧ W.cell? ⟨w1.heap.size + 1, 1, none⟩ = some (.int .i64 2) ∧ W.cell? ⟨w1.heap.size + 1, 2, none⟩ = some (.int .i64 3) ∧ W.cell? ⟨w1.heap.size + 1, 3, none⟩ = some (.int .i64 1))) _ _ _ _ ?_
  refine wpAnyH_take (i := 0) (v := ?_) rfl (by kernel_rfl) (by kernel_rfl) (by kernel_rfl) (fun c a w h => hq c a _ _ w h) (Or.inl ⟨by rfl, ?_⟩) (by assumption) ?_
  rotate_left
  · (intro W hSw; (try dsimp only at hSw); go_simp; try (with_reducible rfl))
  try simp only [Act.put]
  try simp only [List.setIfInBounds_toArray]
  try simp only [List.set_cons_succ]
  try simp only [List.set_cons_zero]
  refine wpAnyH_take (i := 1) (v := ?_) rfl (by kernel_rfl) (by kernel_rfl) (by kernel_rfl) (fun c a w h => hq c a _ _ w h) (Or.inl ⟨by rfl, ?_⟩) (by assumption) ?_
  rotate_left
  · (intro W hSw; (try dsimp only at hSw); go_simp; try (with_reducible rfl))
  try simp only [Act.put]
  try simp only [List.setIfInBounds_toArray]
  try simp only [List.set_cons_succ]
  try simp only [List.set_cons_zero]
  refine wpAnyH_ready (rs := [2]) (by kernel_rfl) (by simp) ?_
  refine AllReadyH.cons rfl (fun K hK => ?_) AllReadyH.nil
  go_simp
  (first
      | (go_at_call 11; refine (caccV (HS.out.upd hHeld.1 (fun _ _ => id)) walkE_nil (by decide) rfl rfl rfl (a7 _)).mono ?_; rintro e w2 ⟨rfl, hu2⟩))
  try (go_wp2_with fail)
  refine hK.out _ _ ?_ (fun hHeld => ?_)
  · exact ALL.out _ (hHeld.1.trans hu2)
  clear hK K
  try simp only [Act.put]
  try simp only [List.setIfInBounds_toArray]
  try simp only [List.set_cons_succ]
  try simp only [List.set_cons_zero]
  refine wpAnyH_take (i := 3) (v := ?_) rfl (by kernel_rfl) (by kernel_rfl) (by kernel_rfl) (fun c a w h => hq c a _ _ w h) (Or.inl ⟨by rfl, ?_⟩) (by assumption) ?_
  rotate_left
  · (intro W hSw; (try dsimp only at hSw); go_simp; try (with_reducible rfl))
  try simp only [Act.put]
  try simp only [List.setIfInBounds_toArray]
  try simp only [List.set_cons_succ]
  try simp only [List.set_cons_zero]
  refine wpAnyH_take (i := 4) (v := ?_) rfl (by kernel_rfl) (by kernel_rfl) (by kernel_rfl) (fun c a w h => hq c a _ _ w h) (Or.inl ⟨by rfl, ?_⟩) (by assumption) ?_
  rotate_left
  · (intro W hSw; (try dsimp only at hSw); go_simp; try (with_reducible rfl))
  try simp only [Act.put]
  try simp only [List.setIfInBounds_toArray]
  try simp only [List.set_cons_succ]
  try simp only [List.set_cons_zero]
  refine wpAnyH_take (i := 5) (v := ?_) rfl (by kernel_rfl) (by kernel_rfl) (by kernel_rfl) (fun c a w h => hq c a _ _ w h) (Or.inl ⟨by rfl, ?_⟩) (by assumption) ?_
  rotate_left
  · (intro W hSw; (try dsimp only at hSw); go_simp; try (with_reducible rfl))
  try simp only [Act.put]
  try simp only [List.setIfInBounds_toArray]
  try simp only [List.set_cons_succ]
  try simp only [List.set_cons_zero]
  refine wpAnyH_done (by kernel_rfl) (hdone.out _ _ ?_) _
  clear hdone hq QQ
  refine peelQ 7 (by kernel_rfl) (by kernel_rfl) 43 rfl (fun _ _ _ _ _ h => h) (fun QQ hq hdone => ?_)
  simp only [partOps_lit, partL, shiftO_mk, shiftA, shiftG]
  refine wpAny_of_held (S := (fun W => Upd No W0 W ∧ W.cell? ⟨w1.heap.size, 0, none⟩ = some (.slice (some ⟨w.heap.size + 1 + 1 + 1, 0, none⟩) 2 2) ∧ W.cell? ⟨w1.heap.size, 1, none⟩ = some (.slice (some ⟨w.heap.size + 1 + 1 + 1 + 1 + 1 + 1, 0, none⟩) 2 2) ∧ W.cell? ⟨w1.heap.size + 1 + 1, 0, none⟩ = some (.int .i64 5) ∧ W.cell? ⟨w1.heap.size + 1 + 1, 1, none⟩ = some (.slice (some ⟨w1.heap.size + 1, 0, none⟩) 2 2) ∧ W.cell? ⟨w1.heap.size + 1 + 1, 2, none⟩ = some (.int .i64 0) ∧ W.cell? ⟨w1.heap.size + 1 + 1, 3, none⟩ = some (.int .i64 0) ∧ W.cell? ⟨w1.heap.size + 1 + 1, 4, none⟩ = some (.int .i64 0) ∧ W.cell? ⟨w1.heap.size + 1 + 1, 5, none⟩ = some (.int .i64 0) ∧ W.cell? ⟨w1.heap.size + 1 + 1, 6, none⟩ = some (.int .i64 0) ∧ W.cell? ⟨z, 0, none⟩ = some (.int .i64 5) ∧ W.cell? ⟨z, 1, none⟩ = some (.slice A6 4 c6) ∧ W.cell? ⟨z, 2, none⟩ = some (.int .i64 0) ∧ W.cell? ⟨z, 3, none⟩ = some (.int .i64 0) ∧ W.cell? ⟨z, 4, none⟩ = some (.int .i64 0) ∧ W.cell? ⟨z, 5, none⟩ = some (.int .i64 0) ∧ W.cell? ⟨z, 6, none⟩ = some (.int .i64 0) ∧ W.cell? ⟨z + 1, 0, none⟩ = some (.int .i64 2) ∧ W.cell? ⟨z + 1, 1, none⟩ = some (.int .i64 0) ∧ W.cell? ⟨z + 1, 2, none⟩ = some (.int .i64 1) ∧ W.cell? ⟨z + 1, 3, none⟩ = some (.int .i64 5) ∧ W.cell? ⟨z + 1, 4, none⟩ = some (.int .i64 1) ∧ W.cell? ⟨z + 1 + 1 + 1 + 1 + 1, 0, none⟩ = some (.slice (some ⟨z + 1 + 1 + 1 + 1, 0, none⟩) 2 2) ∧ W.cell? ⟨z + 1 + 1 + 1 + 1 + 1, 1, none⟩ = some (.slice none 0 0) ∧ W.cell? ⟨w1.heap.size + 1, 0, none⟩ = some (.int .i64 1) ∧ W.cell? ⟨w1.heap.size + 1, 1, none⟩ = some (.int .i64 2) ∧ W.cell? ⟨w1.heap.size + 1, 2, none⟩ = some (.int .i64 3) ∧ W.cell? ⟨w1.heap.size + 1, 3, none⟩ = some (.int .i64 1))) _ _ _ _ ?_
  refine wpAnyH_take (i := 0) (v := ?_) rfl (by kernel_rfl) (by kernel_rfl) (by kernel_rfl) (fun c a w h => hq c a _ _ w h) (Or.inl ⟨by rfl, ?_⟩) (by assumption) ?_
  rotate_left
  · (intro W hSw; (try dsimp only at hSw); go_simp; try (with_reducible rfl))
  try simp only [Act.put]
  try simp only [List.setIfInBounds_toArray]
  try simp only [List.set_cons_succ]
  try simp only [List.set_cons_zero]
  refine wpAnyH_take (i := 1) (v := ?_) rfl (by kernel_rfl) (by kernel_rfl) (by kernel_rfl) (fun c a w h => hq c a _ _ w h) (Or.inl ⟨by rfl, ?_⟩) (by assumption) ?_
  rotate_left
  · (intro W hSw; (try dsimp only at hSw); go_simp; try (with_reducible rfl))
  try simp only [Act.put]
  try simp only [List.setIfInBounds_toArray]
  try simp only [List.set_cons_succ]
  try simp only [List.set_cons_zero]
  refine wpAnyH_take (i := 2) (v := ?_) rfl (by kernel_rfl) (by kernel_rfl) (by kernel_rfl) (fun c a w h => hq c a _ _ w h) (Or.inl ⟨by rfl, ?_⟩) (by assumption) ?_
  rotate_left
  · (intro W hSw; (try dsimp only at hSw); go_simp; try (with_reducible rfl))
  try simp only [Act.put]
  try simp only [List.setIfInBounds_toArray]
  try simp only [List.set_cons_succ]
  try simp only [List.set_cons_zero]
  refine wpAnyH_take (i := 3) (v := ?_) rfl (by kernel_rfl) (by kernel_rfl) (by kernel_rfl) (fun c a w h => hq c a _ _ w h) (Or.inl ⟨by rfl, ?_⟩) (by assumption) ?_
  rotate_left
  · (intro W hSw; (try dsimp only at hSw); go_simp; try (with_reducible rfl))
  try simp only [Act.put]
  try simp only [List.setIfInBounds_toArray]
  try simp only [List.set_cons_succ]
  try simp only [List.set_cons_zero]
  refine wpAnyH_ready (rs := [4]) (by kernel_rfl) (by simp) ?_
  refine AllReadyH.cons rfl (fun K hK => ?_) AllReadyH.nil
  go_simp
  (first
      | (go_at_call 6; refine (cEdgeV (e := e1) (HS.out.upd hHeld.1 (fun _ _ => id)) rfl rfl (a8 _)).mono ?_; rintro e w2 ⟨rfl, hu2⟩))
  try (go_wp2_with fail)
  refine hK.out _ _ ?_ (fun hHeld => ?_)
  · exact ALL.out _ (hHeld.1.trans hu2)
  clear hK K
  try simp only [Act.put]
  try simp only [List.setIfInBounds_toArray]
  try simp only [List.set_cons_succ]
  try simp only [List.set_cons_zero]
  refine wpAnyH_take (i := 5) (v := ?_) rfl (by kernel_rfl) (by kernel_rfl) (by kernel_rfl) (fun c a w h => hq c a _ _ w h) (Or.inl ⟨by rfl, ?_⟩) (by assumption) ?_
  rotate_left
  · (intro W hSw; (try dsimp only at hSw); go_simp; try (with_reducible rfl))
  try simp only [Act.put]
  try simp only [List.setIfInBounds_toArray]
  try simp only [List.set_cons_succ]
  try simp only [List.set_cons_zero]
  refine wpAnyH_take (i := 6) (v := ?_) rfl (by kernel_rfl) (by kernel_rfl) (by kernel_rfl) (fun c a w h => hq c a _ _ w h) (Or.inl ⟨by rfl, ?_⟩) (by assumption) ?_
  rotate_left
  · (intro W hSw; (try dsimp only at hSw); go_simp; try (with_reducible rfl))
  try simp only [Act.put]
  try simp only [List.setIfInBounds_toArray]
  try simp only [List.set_cons_succ]
  try simp only [List.set_cons_zero]
  refine wpAnyH_done (by kernel_rfl) (hdone.out _ _ ?_) _
  clear hdone hq QQ
  refine peelQ 6 (by kernel_rfl) (by kernel_rfl) 37 rfl (fun _ _ _ _ _ h => h) (fun QQ hq hdone => ?_)
  simp only [partOps_lit, partL, shiftO_mk, shiftA, shiftG]
  refine wpAny_of_held (S := (fun W => Upd No W0 W ∧ W.cell? ⟨w1.heap.size, 0, none⟩ = some (.slice (some ⟨w.heap.size + 1 + 1 + 1, 0, none⟩) 2 2) ∧ W.cell? ⟨w1.heap.size, 1, none⟩ = some (.slice (some ⟨w.heap.size + 1 + 1 + 1 + 1 + 1 + 1, 0, none⟩) 2 2) ∧ W.cell? ⟨w1.heap.size + 1 + 1, 0, none⟩ = some (.int .i64 5) ∧ W.cell? ⟨w1.heap.size + 1 + 1, 1, none⟩ = some (.slice (some ⟨w1.heap.size + 1, 0, none⟩) 2 2) ∧ W.cell? ⟨w1.heap.size + 1 + 1, 2, none⟩ = some (.int .i64 0) ∧ W.cell? ⟨w1.heap.size + 1 + 1, 3, none⟩ = some (.int .i64 0) ∧ W.cell? ⟨w1.heap.size + 1 + 1, 4, none⟩ = some (.int .i64 0) ∧ W.cell? ⟨w1.heap.size + 1 + 1, 5, none⟩ = some (.int .i64 0) ∧ W.cell? ⟨w1.heap.size + 1 + 1, 6, none⟩ = some (.int .i64 0) ∧ W.cell? ⟨z, 0, none⟩ = some (.int .i64 5) ∧ W.cell? ⟨z, 1, none⟩ = some (.slice A6 4 c6) ∧ W.cell? ⟨z, 2, none⟩ = some (.int .i64 0) ∧ W.cell? ⟨z, 3, none⟩ = some (.int .i64 0) ∧ W.cell? ⟨z, 4, none⟩ = some (.int .i64 0) ∧ W.cell? ⟨z, 5, none⟩ = some (.int .i64 0) ∧ W.cell? ⟨z, 6, none⟩ = some (.int .i64 0) ∧ W.cell? ⟨z + 1, 0, none⟩ = some (.int .i64 2) ∧ W.cell? ⟨z + 1, 1, none⟩ = some (.int .i64 0) ∧ W.cell? ⟨z + 1, 2, none⟩ = some (.int .i64 1) ∧ W.cell? ⟨z + 1, 3, none⟩ = some (.int .i64 5) ∧ W.cell? ⟨z + 1, 4, none⟩ = some (.int .i64 1) ∧ W.cell? ⟨z + 1 + 1 + 1 + 1 + 1, 0, none⟩ = some (.slice (some ⟨z + 1 + 1 + 1 + 1, 0, none⟩) 2 2) ∧ W.cell? ⟨z + 1 + 1 + 1 + 1 + 1, 1, none⟩ = some (.slice none 0 0) ∧ W.cell? ⟨w1.heap.size + 1, 0, none⟩ = some (.int .i64 1) ∧ W.cell? ⟨w1.heap.size + 1, 1, none⟩ = some (.int .i64 2) ∧ W.cell? ⟨w1.heap.size + 1, 2, none⟩ = some (.int .i64 3) ∧ W.cell? ⟨w1.heap.size + 1, 3, none⟩ = some (.int .i64 1))) _ _ _ _ ?_
  refine wpAnyH_take (i := 0) (v := ?_) rfl (by kernel_rfl) (by kernel_rfl) (by kernel_rfl) (fun c a w h => hq c a _ _ w h) (Or.inl ⟨by rfl, ?_⟩) (by assumption) ?_
  rotate_left
  · (intro W hSw; (try dsimp only at hSw); go_simp; try (with_reducible rfl))
  try simp only [Act.put]
  try simp only [List.setIfInBounds_toArray]
  try simp only [List.set_cons_succ]
  try simp only [List.set_cons_zero]
  refine wpAnyH_take (i := 1) (v := ?_) rfl (by kernel_rfl) (by kernel_rfl) (by kernel_rfl) (fun c a w h => hq c a _ _ w h) (Or.inl ⟨by rfl, ?_⟩) (by assumption) ?_
  rotate_left
  · (intro W hSw; (try dsimp only at hSw); go_simp; try (with_reducible rfl))
  try simp only [Act.put]
  try simp only [List.setIfInBounds_toArray]
  try simp only [List.set_cons_succ]
  try simp only [List.set_cons_zero]
  refine wpAnyH_ready (rs := [2]) (by kernel_rfl) (by simp) ?_
  refine AllReadyH.cons rfl (fun K hK => ?_) AllReadyH.nil
  go_simp
  (first
      | (go_at_call 6; refine (cEdgeV (e := ⟨1, 2, 3, 2⟩) (HS.out.upd hHeld.1 (fun _ _ => id)) rfl rfl (a9 _)).mono ?_; rintro e w2 ⟨rfl, hu2⟩))
  try (go_wp2_with fail)
  refine hK.out _ _ ?_ (fun hHeld => ?_)
  · exact ALL.out _ (hHeld.1.trans hu2)
  clear hK K
  try simp only [Act.put]
  try simp only [List.setIfInBounds_toArray]
  try simp only [List.set_cons_succ]
  try simp only [List.set_cons_zero]
  refine wpAnyH_take (i := 3) (v := ?_) rfl (by kernel_rfl) (by kernel_rfl) (by kernel_rfl) (fun c a w h => hq c a _ _ w h) (Or.inl ⟨by rfl, ?_⟩) (by assumption) ?_
  rotate_left
  · (intro W hSw; (try dsimp only at hSw); go_simp; try (with_reducible rfl))
  try simp only [Act.put]
  try simp only [List.setIfInBounds_toArray]
  try simp only [List.set_cons_succ]
  try simp only [List.set_cons_zero]
  refine wpAnyH_take (i := 4) (v := ?_) rfl (by kernel_rfl) (by kernel_rfl) (by kernel_rfl) (fun c a w h => hq c a _ _ w h) (Or.inl ⟨by rfl, ?_⟩) (by assumption) ?_
  rotate_left
  · (intro W hSw; (try dsimp only at hSw); go_simp; try (with_reducible rfl))
  try simp only [Act.put]
  try simp only [List.setIfInBounds_toArray]
  try simp only [List.set_cons_succ]
  try simp only [List.set_cons_zero]
  refine wpAnyH_take (i := 5) (v := ?_) rfl (by kernel_rfl) (by kernel_rfl) (by kernel_rfl) (fun c a w h => hq c a _ _ w h) (Or.inl ⟨by rfl, ?_⟩) (by assumption) ?_
  rotate_left
  · (intro W hSw; (try dsimp only at hSw); go_simp; try (with_reducible rfl))
  try simp only [Act.put]
  try simp only [List.setIfInBounds_toArray]
  try simp only [List.set_cons_succ]
  try simp only [List.set_cons_zero]
  refine wpAnyH_done (by kernel_rfl) (hdone.out _ _ ?_) _
  clear hdone hq QQ
  refine peelQ 6 (by kernel_rfl) (by kernel_rfl) 31 rfl (fun _ _ _ _ _ h => h) (fun QQ hq hdone => ?_)
  simp only [partOps_lit, partL, shiftO_mk, shiftA, shiftG]
  refine wpAny_of_held (S := (fun W => Upd No W0 W ∧ W.cell? ⟨w1.heap.size, 0, none⟩ = some (.slice (some ⟨w.heap.size + 1 + 1 + 1, 0, none⟩) 2 2) ∧ W.cell? ⟨w1.heap.size, 1, none⟩ = some (.slice (some ⟨w.heap.size + 1 + 1 + 1 + 1 + 1 + 1, 0, none⟩) 2 2) ∧ W.cell? ⟨w1.heap.size + 1 + 1, 0, none⟩ = some (.int .i64 5) ∧ W.cell? ⟨w1.heap.size + 1 + 1, 1, none⟩ = some (.slice (some ⟨w1.heap.size + 1, 0, none⟩) 2 2) ∧ W.cell? ⟨w1.heap.size + 1 + 1, 2, none⟩ = some (.int .i64 0) ∧ W.cell? ⟨w1.heap.size + 1 + 1, 3, none⟩ = some (.int .i64 0) ∧ W.cell? ⟨w1.heap.size + 1 + 1, 4, none⟩ = some (.int .i64 0) ∧ W.cell? ⟨w1.heap.size + 1 + 1, 5, none⟩ = some (.int .i64 0) ∧ W.cell? ⟨w1.heap.size + 1 + 1, 6, none⟩ = some (.int .i64 0) ∧ W.cell? ⟨z, 0, none⟩ = some (.int .i64 5) ∧ W.cell? ⟨z, 1, none⟩ = some (.slice A6 4 c6) ∧ W.cell? ⟨z, 2, none⟩ = some (.int .i64 0) ∧ W.cell? ⟨z, 3, none⟩ = some (.int .i64 0) ∧ W.cell? ⟨z, 4, none⟩ = some (.int .i64 0) ∧ W.cell? ⟨z, 5, none⟩ = some (.int .i64 0) ∧ W.cell? ⟨z, 6, none⟩ = some (.int .i64 0) ∧ W.cell? ⟨z + 1, 0, none⟩ = some (.int .i64 2) ∧ W.cell? ⟨z + 1, 1, none⟩ = some (.int .i64 0) ∧ W.cell? ⟨z + 1, 2, none⟩ = some (.int .i64 1) ∧ W.cell? ⟨z + 1, 3, none⟩ = some (.int .i64 5) ∧ W.cell? ⟨z + 1, 4, none⟩ = some (.int .i64 1) ∧ W.cell? ⟨z + 1 + 1 + 1 + 1 + 1, 0, none⟩ = some (.slice (some ⟨z + 1 + 1 + 1 + 1, 0, none⟩) 2 2) ∧ W.cell? ⟨z + 1 + 1 + 1 + 1 + 1, 1, none⟩ = some (.slice none 0 0) ∧ W.cell? ⟨w1.heap.size + 1, 0, none⟩ = some (.int .i64 1) ∧ W.cell? ⟨w1.heap.size + 1, 1, none⟩ = some (.int .i64 2) ∧ W.cell? ⟨w1.heap.size + 1, 2, none⟩ = some (.int .i64 3) ∧ W.cell? ⟨w1.heap.size + 1, 3, none⟩ = some (.int .i64 1))) _ _ _ _ ?_
  refine wpAnyH_take (i := 0) (v := ?_) rfl (by kernel_rfl) (by kernel_rfl) (by kernel_rfl) (fun c a w h => hq c a _ _ w h) (Or.inl ⟨by rfl, ?_⟩) (by assumption) ?_
  rotate_left
  · (intro W hSw; (try dsimp only at hSw); go_simp; try (with_reducible rfl))
  try simp only [Act.put]
  try simp only [List.setIfInBounds_toArray]
  try simp only [List.set_cons_succ]
  try simp only [List.set_cons_zero]
  refine wpAnyH_take (i := 1) (v := ?_) rfl (by kernel_rfl) (by kernel_rfl) (by kernel_rfl) (fun c a w h => hq c a _ _ w h) (Or.inl ⟨by rfl, ?_⟩) (by assumption) ?_
  rotate_left
  · (intro W hSw; (try dsimp only at hSw); go_simp; try (with_reducible rfl))
  try simp only [Act.put]
  try simp only [List.setIfInBounds_toArray]
  try simp only [List.set_cons_succ]
  try simp only [List.set_cons_zero]
  refine wpAnyH_ready (rs := [2]) (by kernel_rfl) (by simp) ?_
  refine AllReadyH.cons rfl (fun K hK => ?_) AllReadyH.nil
  go_simp
  (first
      | (go_at_call 6; refine (cEdgeV (e := ⟨1, 2, 9, 1⟩) (HS.out.upd hHeld.1 (fun _ _ => id)) rfl rfl (a10 _)).mono ?_; rintro e w2 ⟨rfl, hu2⟩))
  try (go_wp2_with fail)
  refine hK.out _ _ ?_ (fun hHeld => ?_)
  · exact ALL.out _ (hHeld.1.trans hu2)
  clear hK K
  try simp only [Act.put]
  try simp only [List.setIfInBounds_toArray]
  try simp only [List.set_cons_succ]
  try simp only [List.set_cons_zero]
  refine wpAnyH_take (i := 3) (v := ?_) rfl (by kernel_rfl) (by kernel_rfl) (by kernel_rfl) (fun c a w h => hq c a _ _ w h) (Or.inl ⟨by rfl, ?_⟩) (by assumption) ?_
  rotate_left
  · (intro W hSw; (try dsimp only at hSw); go_simp; try (with_reducible rfl))
  try simp only [Act.put]
  try simp only [List.setIfInBounds_toArray]
  try simp only [List.set_cons_succ]
  try simp only [List.set_cons_zero]
  refine wpAnyH_take (i := 4) (v := ?_) rfl (by kernel_rfl) (by kernel_rfl) (by kernel_rfl) (fun c a w h => hq c a _ _ w h) (Or.inl ⟨by rfl, ?_⟩) (by assumption) ?_
  rotate_left
  · (intro W hSw; (try dsimp only at hSw); go_simp; try (with_reducible rfl))
  try simp only [Act.put]
  try simp only [List.setIfInBounds_toArray]
  try simp only [List.set_cons_succ]
  try simp only [List.set_cons_zero]
  refine wpAnyH_take (i := 5) (v := ?_) rfl (by kernel_rfl) (by kernel_rfl) (by kernel_rfl) (fun c a w h => hq c a _ _ w h) (Or.inl ⟨by rfl, ?_⟩) (by assumption) ?_
  rotate_left
  · (intro W hSw; (try dsimp only at hSw); go_simp; try (with_reducible rfl))
  try simp only [Act.put]
  try simp only [List.setIfInBounds_toArray]
  try simp only [List.set_cons_succ]
  try simp only [List.set_cons_zero]
  refine wpAnyH_done (by kernel_rfl) (hdone.out _ _ ?_) _
  clear hdone hq QQ
  refine peelQ 5 (by kernel_rfl) (by kernel_rfl) 26 rfl (fun _ _ _ _ _ h => h) (fun QQ hq hdone => ?_)
  simp only [partOps_lit, partL, shiftO_mk, shiftA, shiftG]
  refine wpAny_of_held (S := (fun W => Upd No W0 W ∧ W.cell? ⟨w1.heap.size, 0, none⟩ = some (.slice (some ⟨w.heap.size + 1 + 1 + 1, 0, none⟩) 2 2) ∧ W.cell? ⟨w1.heap.size, 1, none⟩ = some (.slice (some ⟨w.heap.size + 1 + 1 + 1 + 1 + 1 + 1, 0, none⟩) 2 2) ∧ W.cell? ⟨w1.heap.size + 1 + 1, 0, none⟩ = some (.int .i64 5) ∧ W.cell? ⟨w1.heap.size + 1 + 1, 1, none⟩ = some (.slice (some ⟨w1.heap.size + 1, 0, none⟩) 2 2) ∧ W.cell? ⟨w1.heap.size + 1 + 1, 2, none⟩ = some (.int .i64 0) ∧ W.cell? ⟨w1.heap.size + 1 + 1, 3, none⟩ = some (.int .i64 0) ∧ W.cell? ⟨w1.heap.size + 1 + 1, 4, none⟩ = some (.int .i64 0) ∧ W.cell? ⟨w1.heap.size + 1 + 1, 5, none⟩ = some (.int .i64 0) ∧ W.cell? ⟨w1.heap.size + 1 + 1, 6, none⟩ = some (.int .i64 0) ∧ W.cell? ⟨z, 0, none⟩ = some (.int .i64 5) ∧ W.cell? ⟨z, 1, none⟩ = some (.slice A6 4 c6) ∧ W.cell? ⟨z, 2, none⟩ = some (.int .i64 0) ∧ W.cell? ⟨z, 3, none⟩ = some (.int .i64 0) ∧ W.cell? ⟨z, 4, none⟩ = some (.int .i64 0) ∧ W.cell? ⟨z, 5, none⟩ = some (.int .i64 0) ∧ W.cell? ⟨z, 6, none⟩ = some (.int .i64 0) ∧ W.cell? ⟨z + 1, 0, none⟩ = some (.int .i64 2) ∧ W.cell? ⟨z + 1, 1, none⟩ = some (.int .i64 0) ∧ W.cell? ⟨z + 1, 2, none⟩ = some (.int .i64 1) ∧ W.cell? ⟨z + 1, 3, none⟩ = some (.int .i64 5) ∧ W.cell? ⟨z + 1, 4, none⟩ = some (.int .i64 1) ∧ W.cell? ⟨z + 1 + 1 + 1 + 1 + 1, 0, none⟩ = some (.slice (some ⟨z + 1 + 1 + 1 + 1, 0, none⟩) 2 2) ∧ W.cell? ⟨z + 1 + 1 + 1 + 1 + 1, 1, none⟩ = some (.slice none 0 0) ∧ W.cell? ⟨w1.heap.size + 1, 0, none⟩ = some (.int .i64 1) ∧ W.cell? ⟨w1.heap.size + 1, 1, none⟩ = some (.int .i64 2) ∧ W.cell? ⟨w1.heap.size + 1, 2, none⟩ = some (.int .i64 3) ∧ W.cell? ⟨w1.heap.size + 1, 3, none⟩ = some (.int .i64 1))) _ _ _ _ ?_
  refine wpAnyH_take (i := 0) (v := ?_) rfl (by kernel_rfl) (by kernel_rfl) (by kernel_rfl) (fun c a w h => hq c a _ _ w h) (Or.inl ⟨by rfl, ?_⟩) (by assumption) ?_
  rotate_left
  · (intro W hSw; (try dsimp only at hSw); go_simp; try (with_reducible rfl))
  try simp only [Act.put]
  try simp only [List.setIfInBounds_toArray]
  try simp only [List.set_cons_succ]
  try simp only [List.set_cons_zero]
  refine wpAnyH_take (i := 1) (v := ?_) rfl (by kernel_rfl) (by kernel_rfl) (by kernel_rfl) (fun c a w h => hq c a _ _ w h) (Or.inl ⟨by rfl, ?_⟩) (by assumption) ?_
  rotate_left
  · (intro W hSw; (try dsimp only at hSw); go_simp; try (with_reducible rfl))
  try simp only [Act.put]
  try simp only [List.setIfInBounds_toArray]
  try simp only [List.set_cons_succ]
  try simp only [List.set_cons_zero]
  refine wpAnyH_ready (rs := [2]) (by kernel_rfl) (by simp) ?_
  refine AllReadyH.cons rfl (fun K hK => ?_) AllReadyH.nil
  go_simp
  (first
      | (go_at_call 8; refine (cReadV (HB.out.upd hHeld.1 (fun _ _ => id)) rfl rfl (a11 _)).mono ?_; rintro e w2 ⟨rfl, hu2⟩))
  try (go_wp2_with fail)
  refine hK.out _ _ ?_ (fun hHeld => ?_)
  · exact ALL.out _ (hHeld.1.trans hu2)
  clear hK K
  try simp only [Act.put]
  try simp only [List.setIfInBounds_toArray]
  try simp only [List.set_cons_succ]
  try simp only [List.set_cons_zero]
  refine wpAnyH_take (i := 3) (v := ?_) rfl (by kernel_rfl) (by kernel_rfl) (by kernel_rfl) (fun c a w h => hq c a _ _ w h) (Or.inl ⟨by rfl, ?_⟩) (by assumption) ?_
  rotate_left
  · (intro W hSw; (try dsimp only at hSw); go_simp; try (with_reducible rfl))
  try simp only [Act.put]
  try simp only [List.setIfInBounds_toArray]
  try simp only [List.set_cons_succ]
  try simp only [List.set_cons_zero]
  refine wpAnyH_take (i := 4) (v := ?_) rfl (by kernel_rfl) (by kernel_rfl) (by kernel_rfl) (fun c a w h => hq c a _ _ w h) (Or.inl ⟨by rfl, ?_⟩) (by assumption) ?_
  rotate_left
  · (intro W hSw; (try dsimp only at hSw); go_simp; try (with_reducible rfl))
  try simp only [Act.put]
  try simp only [List.setIfInBounds_toArray]
  try simp only [List.set_cons_succ]
  try simp only [List.set_cons_zero]
  refine wpAnyH_done (by kernel_rfl) (hdone.out _ _ ?_) _
  clear hdone hq QQ
  refine peelQ 6 (by kernel_rfl) (by kernel_rfl) 20 rfl (fun _ _ _ _ _ h => h) (fun QQ hq hdone => ?_)
  simp only [partOps_lit, partL, shiftO_mk, shiftA, shiftG]
  refine wpAny_of_held (S := (fun W => Upd No W0 W ∧ W.cell? ⟨w1.heap.size, 0, none⟩ = some (.slice (some ⟨w.heap.size + 1 + 1 + 1, 0, none⟩) 2 2) ∧ W.cell? ⟨w1.heap.size, 1, none⟩ = some (.slice (some ⟨w.heap.size + 1 + 1 + 1 + 1 + 1 + 1, 0, none⟩) 2 2) ∧ W.cell? ⟨w1.heap.size + 1 + 1, 0, none⟩ = some (.int .i64 5) ∧ W.cell? ⟨w1.heap.size + 1 + 1, 1, none⟩ = some (.slice (some ⟨w1.heap.size + 1, 0, none⟩) 2 2) ∧ W.cell? ⟨w1.heap.size + 1 + 1, 2, none⟩ = some (.int .i64 0) ∧ W.cell? ⟨w1.heap.size + 1 + 1, 3, none⟩ = some (.int .i64 0) ∧ W.cell? ⟨w1.heap.size + 1 + 1, 4, none⟩ = some (.int .i64 0) ∧ W.cell? ⟨w1.heap.size + 1 + 1, 5, none⟩ = some (.int .i64 0) ∧ W.cell? ⟨w1.heap.size + 1 + 1, 6, none⟩ = some (.int .i64 0) ∧ W.cell? ⟨z, 0, none⟩ = some (.int .i64 5) ∧ W.cell? ⟨z, 1, none⟩ = some (.slice A6 4 c6) ∧ W.cell? ⟨z, 2, none⟩ = some (.int .i64 0) ∧ W.cell? ⟨z, 3, none⟩ = some (.int .i64 0) ∧ W.cell? ⟨z, 4, none⟩ = some (.int .i64 0) ∧ W.cell? ⟨z, 5, none⟩ = some (.int .i64 0) ∧ W.cell? ⟨z, 6, none⟩ = some (.int .i64 0) ∧ W.cell? ⟨z + 1, 0, none⟩ = some (.int .i64 2) ∧ W.cell? ⟨z + 1, 1, none⟩ = some (.int .i64 0) ∧ W.cell? ⟨z + 1, 2, none⟩ = some (.int .i64 1) ∧ W.cell? ⟨z + 1, 3, none⟩ = some (.int .i64 5) ∧ W.cell? ⟨z + 1, 4, none⟩ = some (.int .i64 1) ∧ W.cell? ⟨z + 1 + 1 + 1 + 1 + 1, 0, none⟩ = some (.slice (some ⟨z + 1 + 1 + 1 + 1, 0, none⟩) 2 2) ∧ W.cell? ⟨z + 1 + 1 + 1 + 1 + 1, 1, none⟩ = some (.slice none 0 0) ∧ W.cell? ⟨w1.heap.size + 1, 0, none⟩ = some (.int .i64 1) ∧ W.cell? ⟨w1.heap.size + 1, 1, none⟩ = some (.int .i64 2) ∧ W.cell? ⟨w1.heap.size + 1, 2, none⟩ = some (.int .i64 3) ∧ W.cell? ⟨w1.heap.size + 1, 3, none⟩ = some (.int .i64 1))) _ _ _ _ ?_
  refine wpAnyH_take (i := 0) (v := ?_) rfl (by kernel_rfl) (by kernel_rfl) (by kernel_rfl) (fun c a w h => hq c a _ _ w h) (Or.inl ⟨by rfl, ?_⟩) (by assumption) ?_
  rotate_left
  · (intro W hSw; (try dsimp only at hSw); go_simp; try (with_reducible rfl))
  try simp only [Act.put]
  try simp only [List.setIfInBounds_toArray]
  try simp only [List.set_cons_succ]
  try simp only [List.set_cons_zero]
  refine wpAnyH_take (i := 1) (v := ?_) rfl (by kernel_rfl) (by kernel_rfl) (by kernel_rfl) (fun c a w h => hq c a _ _ w h) (Or.inl ⟨by rfl, ?_⟩) (by assumption) ?_
  rotate_left
  · (intro W hSw; (try dsimp only at hSw); go_simp; try (with_reducible rfl))
  try simp only [Act.put]
  try simp only [List.setIfInBounds_toArray]
  try simp only [List.set_cons_succ]
  try simp only [List.set_cons_zero]
  refine wpAnyH_ready (rs := [2]) (by kernel_rfl) (by simp) ?_
  refine AllReadyH.cons rfl (fun K hK => ?_) AllReadyH.nil
  go_simp
  (first
      | (go_at_call 8; refine (cReadV (HB.out.upd hHeld.1 (fun _ _ => id)) rfl rfl (a12 _)).mono ?_; rintro e w2 ⟨rfl, hu2⟩))
  try (go_wp2_with fail)
  refine hK.out _ _ ?_ (fun hHeld => ?_)
  · exact ALL.out _ (hHeld.1.trans hu2)
  clear hK K
  try simp only [Act.put]
  try simp only [List.setIfInBounds_toArray]
  try simp only [List.set_cons_succ]
  try simp only [List.set_cons_zero]
  refine wpAnyH_take (i := 3) (v := ?_) rfl (by kernel_rfl) (by kernel_rfl) (by kernel_rfl) (fun c a w h => hq c a _ _ w h) (Or.inl ⟨by rfl, ?_⟩) (by assumption) ?_
  rotate_left
  · (intro W hSw; (try dsimp only at hSw); go_simp; try (with_reducible rfl))
  try simp only [Act.put]
  try simp only [List.setIfInBounds_toArray]
  try simp only [List.set_cons_succ]
  try simp only [List.set_cons_zero]
  refine wpAnyH_take (i := 4) (v := ?_) rfl (by kernel_rfl) (by kernel_rfl) (by kernel_rfl) (fun c a w h => hq c a _ _ w h) (Or.inl ⟨by rfl, ?_⟩) (by assumption) ?_
  rotate_left
  · (intro W hSw; (try dsimp only at hSw); go_simp; try (with_reducible rfl))
  try simp only [Act.put]
  try simp only [List.setIfInBounds_toArray]
  try simp only [List.set_cons_succ]
  try simp only [List.set_cons_zero]
  refine wpAnyH_take (i := 5) (v := ?_) rfl (by kernel_rfl) (by kernel_rfl) (by kernel_rfl) (fun c a w h => hq c a _ _ w h) (Or.inl ⟨by rfl, ?_⟩) (by assumption) ?_
  rotate_left
  · (intro W hSw; (try dsimp only at hSw); go_simp; try (with_reducible rfl))
  try simp only [Act.put]
  try simp only [List.setIfInBounds_toArray]
  try simp only [List.set_cons_succ]
  try simp only [List.set_cons_zero]
  refine wpAnyH_done (by kernel_rfl) (hdone.out _ _ ?_) _
  clear hdone hq QQ
  refine peelQ 6 (by kernel_rfl) (by kernel_rfl) 14 rfl (fun _ _ _ _ _ h => h) (fun QQ hq hdone => ?_)
  simp only [partOps_lit, partL, shiftO_mk, shiftA, shiftG]
  refine wpAny_of_held (S := (fun W => Upd No W0 W ∧ W.cell? ⟨w1.heap.size, 0, none⟩ = some (.slice (some ⟨w.heap.size + 1 + 1 + 1, 0, none⟩) 2 2) ∧ W.cell? ⟨w1.heap.size, 1, none⟩ = some (.slice (some ⟨w.heap.size + 1 + 1 + 1 + 1 + 1 + 1, 0, none⟩) 2 2) ∧ W.cell? ⟨w1.heap.size + 1 + 1, 0, none⟩ = some (.int .i64 5) ∧ W.cell? ⟨w1.heap.size + 1 + 1, 1, none⟩ = some (.slice (some ⟨w1.heap.size + 1, 0, none⟩) 2 2) ∧ W.cell? ⟨w1.heap.size + 1 + 1, 2, none⟩ = some (.int .i64 0) ∧ W.cell? ⟨w1.heap.size + 1 + 1, 3, none⟩ = some (.int .i64 0) ∧ W.cell? ⟨w1.heap.size + 1 + 1, 4, none⟩ = some (.int .i64 0) ∧ W.cell? ⟨w1.heap.size + 1 + 1, 5, none⟩ = some (.int .i64 0) ∧ W.cell? ⟨w1.heap.size + 1 + 1, 6, none⟩ = some (.int .i64 0) ∧ W.cell? ⟨z, 0, none⟩ = some (.int .i64 5) ∧ W.cell? ⟨z, 1, none⟩ = some (.slice A6 4 c6) ∧ W.cell? ⟨z, 2, none⟩ = some (.int .i64 0) ∧ W.cell? ⟨z, 3, none⟩ = some (.int .i64 0) ∧ W.cell? ⟨z, 4, none⟩ = some (.int .i64 0) ∧ W.cell? ⟨z, 5, none⟩ = some (.int .i64 0) ∧ W.cell? ⟨z, 6, none⟩ = some (.int .i64 0) ∧ W.cell? ⟨z + 1, 0, none⟩ = some (.int .i64 2) ∧ W.cell? ⟨z + 1, 1, none⟩ = some (.int .i64 0) ∧ W.cell? ⟨z + 1, 2, none⟩ = some (.int .i64 1) ∧ W.cell? ⟨z + 1, 3, none⟩ = some (.int .i64 5) ∧ W.cell? ⟨z + 1, 4, none⟩ = some (.int .i64 1) ∧ W.cell? ⟨z + 1 + 1 + 1 + 1 + 1, 0, none⟩ = some (.slice (some ⟨z + 1 + 1 + 1 + 1, 0, none⟩) 2 2) ∧ W.cell? ⟨z + 1 + 1 + 1 + 1 + 1, 1, none⟩ = some (.slice none 0 0) ∧ W.cell? ⟨w1.heap.size + 1, 0, none⟩ = some (.int .i64 1) ∧ W.cell? ⟨w1.heap.size + 1, 1, none⟩ = some (.int .i64 2) ∧ W.cell? ⟨w1.heap.size + 1, 2, none⟩ = some (.int .i64 3) ∧ W.cell? ⟨w1.heap.size + 1, 3, none⟩ = some (.int .i64 1))) _ _ _ _ ?_
  refine wpAnyH_take (i := 0) (v := ?_) rfl (by kernel_rfl) (by kernel_rfl) (by kernel_rfl) (fun c a w h => hq c a _ _ w h) (Or.inl ⟨by rfl, ?_⟩) (by assumption) ?_
  rotate_left
  · (intro W hSw; (try dsimp only at hSw); go_simp; try (with_reducible rfl))
  try simp only [Act.put]
  try simp only [List.setIfInBounds_toArray]
  try simp only [List.set_cons_succ]
  try simp only [List.set_cons_zero]
  refine wpAnyH_take (i := 1) (v := ?_) rfl (by kernel_rfl) (by kernel_rfl) (by kernel_rfl) (fun c a w h => hq c a _ _ w h) (Or.inl ⟨by rfl, ?_⟩) (by assumption) ?_
  rotate_left
  · (intro W hSw; (try dsimp only at hSw); go_simp; try (with_reducible rfl))
  try simp only [Act.put]
  try simp only [List.setIfInBounds_toArray]
  try simp only [List.set_cons_succ]
  try simp only [List.set_cons_zero]
  refine wpAnyH_ready (rs := [2]) (by kernel_rfl) (by simp) ?_
  refine AllReadyH.cons rfl (fun K hK => ?_) AllReadyH.nil
  go_simp
  (first
      | (go_at_call 8; refine (cReadV (HB.out.upd hHeld.1 (fun _ _ => id)) rfl rfl (a13 _)).mono ?_; rintro e w2 ⟨rfl, hu2⟩))
  try (go_wp2_with fail)
  refine hK.out _ _ ?_ (fun hHeld => ?_)
  · exact ALL.out _ (hHeld.1.trans hu2)
  clear hK K
  try simp only [Act.put]
  try simp only [List.setIfInBounds_toArray]
  try simp only [List.set_cons_succ]
  try simp only [List.set_cons_zero]
  refine wpAnyH_take (i := 3) (v := ?_) rfl (by kernel_rfl) (by kernel_rfl) (by kernel_rfl) (fun c a w h => hq c a _ _ w h) (Or.inl ⟨by rfl, ?_⟩) (by assumption) ?_
  rotate_left
  · (intro W hSw; (try dsimp only at hSw); go_simp; try (with_reducible rfl))
  try simp only [Act.put]
  try simp only [List.setIfInBounds_toArray]
  try simp only [List.set_cons_succ]
  try simp only [List.set_cons_zero]
  refine wpAnyH_take (i := 4) (v := ?_) rfl (by kernel_rfl) (by kernel_rfl) (by kernel_rfl) (fun c a w h => hq c a _ _ w h) (Or.inl ⟨by rfl, ?_⟩) (by assumption) ?_
  rotate_left
  · (intro W hSw; (try dsimp only at hSw); go_simp; try (with_reducible rfl))
  try simp only [Act.put]
  try simp only [List.setIfInBounds_toArray]
  try simp only [List.set_cons_succ]
  try simp only [List.set_cons_zero]
  refine wpAnyH_take (i := 5) (v := ?_) rfl (by kernel_rfl) (by kernel_rfl) (by kernel_rfl) (fun c a w h => hq c a _ _ w h) (Or.inl ⟨by rfl, ?_⟩) (by assumption) ?_
  rotate_left
  · (intro W hSw; (try dsimp only at hSw); go_simp; try (with_reducible rfl))
  try simp only [Act.put]
  try simp only [List.setIfInBounds_toArray]
  try simp only [List.set_cons_succ]
  try simp only [List.set_cons_zero]
  refine wpAnyH_done (by kernel_rfl) (hdone.out _ _ ?_) _
  clear hdone hq QQ
  refine peelQ 6 (by kernel_rfl) (by kernel_rfl) 8 rfl (fun _ _ _ _ _ h => h) (fun QQ hq hdone => ?_)
  simp only [partOps_lit, partL, shiftO_mk, shiftA, shiftG]
  refine wpAny_of_held (S := (fun W => Upd No W0 W ∧ W.cell? ⟨w1.heap.size, 0, none⟩ = some (.slice (some ⟨w.heap.size + 1 + 1 + 1, 0, none⟩) 2 2) ∧ W.cell? ⟨w1.heap.size, 1, none⟩ = some (.slice (some ⟨w.heap.size + 1 + 1 + 1 + 1 + 1 + 1, 0, none⟩) 2 2) ∧ W.cell? ⟨w1.heap.size + 1 + 1, 0, none⟩ = some (.int .i64 5) ∧ W.cell? ⟨w1.heap.size + 1 + 1, 1, none⟩ = some (.slice (some ⟨w1.heap.size + 1, 0, none⟩) 2 2) ∧ W.cell? ⟨w1.heap.size + 1 + 1, 2, none⟩ = some (.int .i64 0) ∧ W.cell? ⟨w1.heap.size + 1 + 1, 3, none⟩ = some (.int .i64 0) ∧ W.cell? ⟨w1.heap.size + 1 + 1, 4, none⟩ = some (.int .i64 0) ∧ W.cell? ⟨w1.heap.size + 1 + 1, 5, none⟩ = some (.int .i64 0) ∧ W.cell? ⟨w1.heap.size + 1 + 1, 6, none⟩ = some (.int .i64 0) ∧ W.cell? ⟨z, 0, none⟩ = some (.int .i64 5) ∧ W.cell? ⟨z, 1, none⟩ = some (.slice A6 4 c6) ∧ W.cell? ⟨z, 2, none⟩ = some (.int .i64 0) ∧ W.cell? ⟨z, 3, none⟩ = some (.int .i64 0) ∧ W.cell? ⟨z, 4, none⟩ = some (.int .i64 0) ∧ W.cell? ⟨z, 5, none⟩ = some (.int .i64 0) ∧ W.cell? ⟨z, 6, none⟩ = some (.int .i64 0) ∧ W.cell? ⟨z + 1, 0, none⟩ = some (.int .i64 2) ∧ W.cell? ⟨z + 1, 1, none⟩ = some (.int .i64 0) ∧ W.cell? ⟨z + 1, 2, none⟩ = some (.int .i64 1) ∧ W.cell? ⟨z + 1, 3, none⟩ = some (.int .i64 5) ∧ W.cell? ⟨z + 1, 4, none⟩ = some (.int .i64 1) ∧ W.cell? ⟨z + 1 + 1 + 1 + 1 + 1, 0, none⟩ = some (.slice (some ⟨z + 1 + 1 + 1 + 1, 0, none⟩) 2 2) ∧ W.cell? ⟨z + 1 + 1 + 1 + 1 + 1, 1, none⟩ = some (.slice none 0 0) ∧ W.cell? ⟨w1.heap.size + 1, 0, none⟩ = some (.int .i64 1) ∧ W.cell? ⟨w1.heap.size + 1, 1, none⟩ = some (.int .i64 2) ∧ W.cell? ⟨w1.heap.size + 1, 2, none⟩ = some (.int .i64 3) ∧ W.cell? ⟨w1.heap.size + 1, 3, none⟩ = some (.int .i64 1))) _ _ _ _ ?_
  refine wpAnyH_take (i := 0) (v := ?_) rfl (by kernel_rfl) (by kernel_rfl) (by kernel_rfl) (fun c a w h => hq c a _ _ w h) (Or.inl ⟨by rfl, ?_⟩) (by assumption) ?_
  rotate_left
  · (intro W hSw; (try dsimp only at hSw); go_simp; try (with_reducible rfl))
  try simp only [Act.put]
  try simp only [List.setIfInBounds_toArray]
  try simp only [List.set_cons_succ]
  try simp only [List.set_cons_zero]
  refine wpAnyH_take (i := 1) (v := ?_) rfl (by kernel_rfl) (by kernel_rfl) (by kernel_rfl) (fun c a w h => hq c a _ _ w h) (Or.inl ⟨by rfl, ?_⟩) (by assumption) ?_
  rotate_left
  · (intro W hSw; (try dsimp only at hSw); go_simp; try (with_reducible rfl))
  try simp only [Act.put]
  try simp only [List.setIfInBounds_toArray]
  try simp only [List.set_cons_succ]
  try simp only [List.set_cons_zero]
  refine wpAnyH_take (i := 2) (v := ?_) rfl (by kernel_rfl) (by kernel_rfl) (by kernel_rfl) (fun c a w h => hq c a _ _ w h) (Or.inl ⟨by rfl, ?_⟩) (by assumption) ?_
  rotate_left
  · (intro W hSw; (try dsimp only at hSw); go_simp; try (with_reducible rfl))
  try simp only [Act.put]
  try simp only [List.setIfInBounds_toArray]
  try simp only [List.set_cons_succ]
  try simp only [List.set_cons_zero]
  refine wpAnyH_ready (rs := [3]) (by kernel_rfl) (by simp) ?_
  refine AllReadyH.cons rfl (fun K hK => ?_) AllReadyH.nil
  go_simp
  (first
      | (go_at_call 11; refine (caccV (HB.out.upd hHeld.1 (fun _ _ => id)) walkE_nil (by decide) rfl rfl rfl (a14 _)).mono ?_; rintro e w2 ⟨rfl, hu2⟩))
  try (go_wp2_with fail)
  refine hK.out _ _ ?_ (fun hHeld => ?_)
  · exact ALL.out _ (hHeld.1.trans hu2)
  clear hK K
  try simp only [Act.put]
  try simp only [List.setIfInBounds_toArray]
  try simp only [List.set_cons_succ]
  try simp only [List.set_cons_zero]
  refine wpAnyH_take (i := 4) (v := ?_) rfl (by kernel_rfl) (by kernel_rfl) (by kernel_rfl) (fun c a w h => hq c a _ _ w h) (Or.inl ⟨by rfl, ?_⟩) (by assumption) ?_
  rotate_left
  · (intro W hSw; (try dsimp only at hSw); go_simp; try (with_reducible rfl))
  try simp only [Act.put]
  try simp only [List.setIfInBounds_toArray]
  try simp only [List.set_cons_succ]
  try simp only [List.set_cons_zero]
  refine wpAnyH_take (i := 5) (v := ?_) rfl (by kernel_rfl) (by kernel_rfl) (by kernel_rfl) (fun c a w h => hq c a _ _ w h) (Or.inl ⟨by rfl, ?_⟩) (by assumption) ?_
  rotate_left
  · (intro W hSw; (try dsimp only at hSw); go_simp; try (with_reducible rfl))
  try simp only [Act.put]
  try simp only [List.setIfInBounds_toArray]
  try simp only [List.set_cons_succ]
  try simp only [List.set_cons_zero]
  refine wpAnyH_done (by kernel_rfl) (hdone.out _ _ ?_) _
  clear hdone hq QQ
  refine peelQ 8 (by kernel_rfl) (by kernel_rfl) 0 rfl (fun _ _ _ _ _ h => h) (fun QQ hq hdone => ?_)
  simp only [partOps_lit, partL, shiftO_mk, shiftA, shiftG]
  refine wpAny_of_held (S := (fun W => Upd No W0 W ∧ W.cell? ⟨w1.heap.size, 0, none⟩ = some (.slice (some ⟨w.heap.size + 1 + 1 + 1, 0, none⟩) 2 2) ∧ W.cell? ⟨w1.heap.size, 1, none⟩ = some (.slice (some ⟨w.heap.size + 1 + 1 + 1 + 1 + 1 + 1, 0, none⟩) 2 2) ∧ W.cell? ⟨w1.heap.size + 1 + 1, 0, none⟩ = some (.int .i64 5) ∧ W.cell? ⟨w1.heap.size + 1 + 1, 1, none⟩ = some (.slice (some ⟨w1.heap.size + 1, 0, none⟩) 2 2) ∧ W.cell? ⟨w1.heap.size + 1 + 1, 2, none⟩ = some (.int .i64 0) ∧ W.cell? ⟨w1.heap.size + 1 + 1, 3, none⟩ = some (.int .i64 0) ∧ W.cell? ⟨w1.heap.size + 1 + 1, 4, none⟩ = some (.int .i64 0) ∧ W.cell? ⟨w1.heap.size + 1 + 1, 5, none⟩ = some (.int .i64 0) ∧ W.cell? ⟨w1.heap.size + 1 + 1, 6, none⟩ = some (.int .i64 0) ∧ W.cell? ⟨z, 0, none⟩ = some (.int .i64 5) ∧ W.cell? ⟨z, 1, none⟩ = some (.slice A6 4 c6) ∧ W.cell? ⟨z, 2, none⟩ = some (.int .i64 0) ∧ W.cell? ⟨z, 3, none⟩ = some (.int .i64 0) ∧ W.cell? ⟨z, 4, none⟩ = some (.int .i64 0) ∧ W.cell? ⟨z, 5, none⟩ = some (.int .i64 0) ∧ W.cell? ⟨z, 6, none⟩ = some (.int .i64 0) ∧ W.cell? ⟨z + 1, 0, none⟩ = some (.int .i64 2) ∧ W.cell? ⟨z + 1, 1, none⟩ = some (.int .i64 0) ∧ W.cell? ⟨z + 1, 2, none⟩ = some (.int .i64 1) ∧ W.cell? ⟨z + 1, 3, none⟩ = some (.int .i64 5) ∧ W.cell? ⟨z + 1, 4, none⟩ = some (.int .i64 1) ∧ W.cell? ⟨z + 1 + 1 + 1 + 1 + 1, 0, none⟩ = some (.slice (some ⟨z + 1 + 1 + 1 + 1, 0, none⟩) 2 2) ∧ W.cell? ⟨z + 1 + 1 + 1 + 1 + 1, 1, none⟩ = some (.slice none 0 0) ∧ W.cell? ⟨w1.heap.size + 1, 0, none⟩ = some (.int .i64 1) ∧ W.cell? ⟨w1.heap.size + 1, 1, none⟩ = some (.int .i64 2) ∧ W.cell? ⟨w1.heap.size + 1, 2, none⟩ = some (.int .i64 3) ∧ W.cell? ⟨w1.heap.size + 1, 3, none⟩ = some (.int .i64 1))) _ _ _ _ ?_
  refine wpAnyH_take (i := 0) (v := ?_) rfl (by kernel_rfl) (by kernel_rfl) (by kernel_rfl) (fun c a w h => hq c a _ _ w h) (Or.inl ⟨by rfl, ?_⟩) (by assumption) ?_
  rotate_left
  · (intro W hSw; (try dsimp only at hSw); go_simp; try (with_reducible rfl))
  try simp only [Act.put]
  try simp only [List.setIfInBounds_toArray]
  try simp only [List.set_cons_succ]
  try simp only [List.set_cons_zero]
  refine wpAnyH_take (i := 1) (v := ?_) rfl (by kernel_rfl) (by kernel_rfl) (by kernel_rfl) (fun c a w h => hq c a _ _ w h) (Or.inl ⟨by rfl, ?_⟩) (by assumption) ?_
  rotate_left
  · (intro W hSw; (try dsimp only at hSw); go_simp; try (with_reducible rfl))
  try simp only [Act.put]
  try simp only [List.setIfInBounds_toArray]
  try simp only [List.set_cons_succ]
  try simp only [List.set_cons_zero]
  refine wpAnyH_take (i := 2) (v := ?_) rfl (by kernel_rfl) (by kernel_rfl) (by kernel_rfl) (fun c a w h => hq c a _ _ w h) (Or.inl ⟨by rfl, ?_⟩) (by assumption) ?_
  rotate_left
  · (intro W hSw; (try dsimp only at hSw); go_simp; try (with_reducible rfl))
  try simp only [Act.put]
  try simp only [List.setIfInBounds_toArray]
  try simp only [List.set_cons_succ]
  try simp only [List.set_cons_zero]
  refine wpAnyH_take (i := 3) (v := ?_) rfl (by kernel_rfl) (by kernel_rfl) (by kernel_rfl) (fun c a w h => hq c a _ _ w h) (Or.inl ⟨by rfl, ?_⟩) (by assumption) ?_
  rotate_left
  · (intro W hSw; (try dsimp only at hSw); go_simp; try (with_reducible rfl))
  try simp only [Act.put]
  try simp only [List.setIfInBounds_toArray]
  try simp only [List.set_cons_succ]
  try simp only [List.set_cons_zero]
  refine wpAnyH_ready (rs := [4]) (by kernel_rfl) (by simp) ?_
  refine AllReadyH.cons rfl (fun K hK => ?_) AllReadyH.nil
  go_simp
  (first
      | (go_at_call 11; refine (caccV (HB.out.upd hHeld.1 (fun _ _ => id)) (WalkE.upd WL.out hHeld.1) (by decide) rfl rfl rfl (a15 _)).mono ?_; rintro e w2 ⟨rfl, hu2⟩))
  try (go_wp2_with fail)
  refine hK.out _ _ ?_ (fun hHeld => ?_)
  · exact ALL.out _ (hHeld.1.trans hu2)
  clear hK K
  try simp only [Act.put]
  try simp only [List.setIfInBounds_toArray]
  try simp only [List.set_cons_succ]
  try simp only [List.set_cons_zero]
  refine wpAnyH_take (i := 5) (v := ?_) rfl (by kernel_rfl) (by kernel_rfl) (by kernel_rfl) (fun c a w h => hq c a _ _ w h) (Or.inl ⟨by rfl, ?_⟩) (by assumption) ?_
  rotate_left
  · (intro W hSw; (try dsimp only at hSw); go_simp; try (with_reducible rfl))
  try simp only [Act.put]
  try simp only [List.setIfInBounds_toArray]
  try simp only [List.set_cons_succ]
  try simp only [List.set_cons_zero]
  refine wpAnyH_take (i := 6) (v := ?_) rfl (by kernel_rfl) (by kernel_rfl) (by kernel_rfl) (fun c a w h => hq c a _ _ w h) (Or.inl ⟨by rfl, ?_⟩) (by assumption) ?_
  rotate_left
  · (intro W hSw; (try dsimp only at hSw); go_simp; try (with_reducible rfl))
  try simp only [Act.put]
  try simp only [List.setIfInBounds_toArray]
  try simp only [List.set_cons_succ]
  try simp only [List.set_cons_zero]
  refine wpAnyH_take (i := 7) (v := ?_) rfl (by kernel_rfl) (by kernel_rfl) (by kernel_rfl) (fun c a w h => hq c a _ _ w h) (Or.inl ⟨by rfl, ?_⟩) (by assumption) ?_
  rotate_left
  · (intro W hSw; (try dsimp only at hSw); go_simp; try (with_reducible rfl))
  try simp only [Act.put]
  try simp only [List.setIfInBounds_toArray]
  try simp only [List.set_cons_succ]
  try simp only [List.set_cons_zero]
  refine wpAnyH_done (by kernel_rfl) (hdone.out _ _ ?_) _
  clear hdone hq QQ
  refine peel_end (NoPanic.normal ?_)
  try go_wp2
  go_ret
  exact ⟨rfl, HU.out.trans hHeld.1⟩
end Go.Proofs.YtgakhpdclhlmpaaGreat
