/- Closed walks: the edge of an arc. -/
import Derived.BigRegion
import Derived.Test.YtaicemjckagcaaaMbn
import Derived.Test.YtaicemjckagcaaaMbo
namespace Go.Proofs.Ytaicemjckagcaaa
set_option linter.unusedVariables false
open Go.RowKit
/-- the edge of an arc between ranks -/
def edgeA (ids keys : List Int) (a : HArc) : Edge := ⟨ids.getD a.f.toNat 0, ids.getD a.t.toNat 0, a.kind, keys.getD a.label.toNat 0⟩
set_option maxRecDepth 100000 in
set_option maxHeartbeats 8000000 in
theorem cedge (F1 F2 : Nat → Prop) (w : World) (A B : Option Addr) (ca cb : Nat) (ids keys : List Int) (hA : Ints F1 w A ids) (hB : Ints F2 w B keys) (a : HArc)
    (h1 : 0 ≤ a.f) (h2 : a.f < (ids.length : Int)) (h3 : 0 ≤ a.t) (h4 : a.t < (ids.length : Int)) (h5 : 0 ≤ a.label) (h6 : a.label < (keys.length : Int)) :
    Calls Try.prog 71 #[.agg #[.slice A ids.length ca, .slice B keys.length cb], .agg a.cells.toArray] w fun e w' => e = .returned (.agg (edgeA ids keys a).cells.toArray) ∧ Upd No w w' := by
  obtain ⟨af, at', ak, al⟩ := a
  simp only at h1 h2 h3 h4 h5 h6
  obtain ⟨f, rfl⟩ : ∃ f : Nat, af = (f : Int) := ⟨af.toNat, by omega⟩
  obtain ⟨t, rfl⟩ : ∃ t : Nat, at' = (t : Int) := ⟨at'.toNat, by omega⟩
  obtain ⟨lb, rfl⟩ : ∃ t : Nat, al = (t : Int) := ⟨al.toNat, by omega⟩
  have hf : f < ids.length := by omega
  have ht : t < ids.length := by omega
  have hlb : lb < keys.length := by omega
  obtain ⟨wb, hwb⟩ : ∃ wb, ((w.alloc (.cells #[.slice A ids.length ca, .slice B keys.length cb] 106)).alloc (.cells #[.int .i64 (f : Int), .int .i64 (t : Int), .int .i64 ak, .int .i64 (lb : Int)] 41)).alloc (.cells #[.int .i64 0, .int .i64 0, .int .i64 0, .int .i64 0] 33) = wb := ⟨_, rfl⟩
  have u0 : Upd No w wb := by rw [← hwb]; exact (((Upd.refl No w).alloc _).alloc _).alloc _
  have bN : Blk wb w.heap.size 106 [.slice A ids.length ca, .slice B keys.length cb] := by rw [← hwb]; exact ((Blk.new w _ _).alloc _).alloc _
  have bA : Blk wb (w.heap.size + 1) 41 [.int .i64 (f : Int), .int .i64 (t : Int), .int .i64 ak, .int .i64 (lb : Int)] := by
    rw [← hwb]; have := (Blk.new (w.alloc (.cells #[.slice A ids.length ca, .slice B keys.length cb] 106)) 41 [.int .i64 (f : Int), .int .i64 (t : Int), .int .i64 ak, .int .i64 (lb : Int)]).alloc (.cells #[.int .i64 0, .int .i64 0, .int .i64 0, .int .i64 0] 33); simpa only [World.size_alloc] using this
  have bE : Blk wb (w.heap.size + 2) 33 [.int .i64 0, .int .i64 0, .int .i64 0, .int .i64 0] := by
    rw [← hwb]; have := Blk.new ((w.alloc (.cells #[.slice A ids.length ca, .slice B keys.length cb] 106)).alloc (.cells #[.int .i64 (f : Int), .int .i64 (t : Int), .int .i64 ak, .int .i64 (lb : Int)] 41)) 33 [.int .i64 0, .int .i64 0, .int .i64 0, .int .i64 0]; simpa only [World.size_alloc] using this
  obtain ⟨aa, rfl, _, la, y1⟩ := hA.at_ hf
  obtain ⟨aa', e', _, _, y2⟩ := hA.at_ ht
  cases e'
  obtain ⟨ab, rfl, _, lb2, y3⟩ := hB.at_ hlb
  have e1 : ids[f] = ids.getD f 0 := by simp [List.getD, hf]
  have e2 : ids[t] = ids.getD t 0 := by simp [List.getD, ht]
  have e3 : keys[lb] = keys.getD lb 0 := by simp [List.getD, hlb]
  rw [e1] at y1
  rw [e2] at y2
  rw [e3] at y3
  have r0 := bE.cell 0
  have r1 := bE.cell 1
  have r2 := bE.cell 2
  have r3 := bE.cell 3
  have f0 := bE.free 0
  have f1 := bE.free 1
  have f2 := bE.free 2
  have f3 := bE.free 3
  simp only [List.getElem?_cons_zero, List.getElem?_cons_succ] at r0 r1 r2 r3
  have nN : ¬ One (w.heap.size + 2) w.heap.size := by unfold One; omega
  have nA : ¬ One (w.heap.size + 2) (w.heap.size + 1) := by unfold One; omega
  have z1 : ∀ W, Upd (One (w.heap.size + 2)) wb W → W.cell? (aa.add f) = some (.int .i64 (ids.getD f 0)) := fun W u => u.keep (u0.keepNo y1) (by rw [Ints.block_add]; unfold One; omega)
  have z2 : ∀ W, Upd (One (w.heap.size + 2)) wb W → W.cell? (aa.add t) = some (.int .i64 (ids.getD t 0)) := fun W u => u.keep (u0.keepNo y2) (by rw [Ints.block_add]; unfold One; omega)
  have z3 : ∀ W, Upd (One (w.heap.size + 2)) wb W → W.cell? (ab.add lb) = some (.int .i64 (keys.getD lb 0)) := fun W u => u.keep (u0.keepNo y3) (by rw [Ints.block_add]; unfold One; omega)
  clear y1 y2 y3
  have c0 : ∀ W, Upd (One (w.heap.size + 2)) wb W → W.cell? ⟨w.heap.size, 0, none⟩ = some (.slice (some aa) ids.length ca) := fun W u => by have := (bN.upd u nN).cell 0; simpa using this
  have c1 : ∀ W, Upd (One (w.heap.size + 2)) wb W → W.cell? ⟨w.heap.size, 1, none⟩ = some (.slice (some ab) keys.length cb) := fun W u => by have := (bN.upd u nN).cell 1; simpa using this
  have g0 : ∀ W, Upd (One (w.heap.size + 2)) wb W → W.cell? ⟨w.heap.size + 1, 0, none⟩ = some (.int .i64 (f : Int)) := fun W u => by have := (bA.upd u nA).cell 0; simpa using this
  have g1 : ∀ W, Upd (One (w.heap.size + 2)) wb W → W.cell? ⟨w.heap.size + 1, 1, none⟩ = some (.int .i64 (t : Int)) := fun W u => by have := (bA.upd u nA).cell 1; simpa using this
  have g2 : ∀ W, Upd (One (w.heap.size + 2)) wb W → W.cell? ⟨w.heap.size + 1, 2, none⟩ = some (.int .i64 ak) := fun W u => by have := (bA.upd u nA).cell 2; simpa using this
  have g3 : ∀ W, Upd (One (w.heap.size + 2)) wb W → W.cell? ⟨w.heap.size + 1, 3, none⟩ = some (.int .i64 (lb : Int)) := fun W u => by have := (bA.upd u nA).cell 3; simpa using this
  have i1 : (0 : Int) ≤ (f : Int) := Int.natCast_nonneg _
  have i2 : (0 : Int) ≤ (t : Int) := Int.natCast_nonneg _
  have i3 : (0 : Int) ≤ (lb : Int) := Int.natCast_nonneg _
  have HV : edgeA ids keys ⟨f, t, ak, lb⟩ = ⟨ids.getD f 0, ids.getD t 0, ak, keys.getD lb 0⟩ := rfl
  rw [HV]
  generalize ids.getD f 0 = vf at *
  generalize ids.getD t 0 = vt at *
  generalize keys.getD lb 0 = vl at *
  have U0 := Lib.hid u0
  have BE := Lib.hid bE
  unfold HArc.cells Edge.cells
  simp only
  clear hA hB u0 bN bA bE e1 e2 e3 h1 h3 h5 HV hf ht hlb
  go_enter Try.func71, Try.ntmps71
  go_wp2_with fail
  clear hwb
  have HE := Lib.hid BE.out
  clear r0 r1 r2 r3 f0 f1 f2 f3
  refine wp_region_noPanic ?_
  refine wp_region_held_drew (S := (fun w' => Upd (One (w.heap.size + 2)) wb w')) (by kernel_rfl) ?_ (fun hHeld => ?_)
  · (first | exact (Upd.refl _ _).drew | exact hHeld.trans hq)
  refine wpT 0 ⟨some 5, .fieldAddr 106 (.tmp 2) 0, 0, "cycle.go:45", #[], none⟩ ?_ (.inl ⟨by rfl, ?_⟩) ?_
  rotate_left
  · (intro W hSw; (try dsimp only at hSw); go_simp; try (with_reducible rfl))
  try simp only [Act.put]
  try simp only [List.setIfInBounds_toArray]
  try simp only [List.set_cons_succ]
  try simp only [List.set_cons_zero]
  refine wpT 1 ⟨some 6, .load 22 (.tmp 5), 22, "cycle.go:45", #[⟨0, .data⟩], none⟩ ?_ (.inl ⟨by rfl, ?_⟩) ?_
  rotate_left
  · (intro W hSw; (try dsimp only at hSw); go_simp; try (with_reducible rfl))
  try simp only [Act.put]
  try simp only [List.setIfInBounds_toArray]
  try simp only [List.set_cons_succ]
  try simp only [List.set_cons_zero]
  refine wpT 2 ⟨some 7, .fieldAddr 41 (.tmp 3) 0, 0, "cycle.go:45", #[], none⟩ ?_ (.inl ⟨by rfl, ?_⟩) ?_
  rotate_left
  · (intro W hSw; (try dsimp only at hSw); go_simp; try (with_reducible rfl))
  try simp only [Act.put]
  try simp only [List.setIfInBounds_toArray]
  try simp only [List.set_cons_succ]
  try simp only [List.set_cons_zero]
  refine wpT 3 ⟨some 8, .load 3 (.tmp 7), 3, "cycle.go:45", #[⟨2, .data⟩], none⟩ ?_ (.inl ⟨by rfl, ?_⟩) ?_
  rotate_left
  · (intro W hSw; (try dsimp only at hSw); go_simp; try (with_reducible rfl))
  try simp only [Act.put]
  try simp only [List.setIfInBounds_toArray]
  try simp only [List.set_cons_succ]
  try simp only [List.set_cons_zero]
  refine wpT 4 ⟨some 9, .indexAddr 22 (.tmp 6) (.tmp 8), 0, "cycle.go:45", #[⟨1, .data⟩, ⟨3, .data⟩], none⟩ ?_ (.inl ⟨by rfl, ?_⟩) ?_
  rotate_left
  · (intro W hSw; (try dsimp only at hSw); go_simp; try (with_reducible rfl))
  try simp only [Act.put]
  try simp only [List.setIfInBounds_toArray]
  try simp only [List.set_cons_succ]
  try simp only [List.set_cons_zero]
  refine wpT 5 ⟨some 10, .load 3 (.tmp 9), 3, "cycle.go:45", #[⟨4, .data⟩], none⟩ ?_ (.inl ⟨by rfl, ?_⟩) ?_
  rotate_left
  · (intro W hSw; (try dsimp only at hSw); go_simp; try (with_reducible rfl))
  try simp only [Act.put]
  try simp only [List.setIfInBounds_toArray]
  try simp only [List.set_cons_succ]
  try simp only [List.set_cons_zero]
  refine wpT 6 ⟨some 11, .fieldAddr 106 (.tmp 2) 0, 0, "cycle.go:45", #[], none⟩ ?_ (.inl ⟨by rfl, ?_⟩) ?_
  rotate_left
  · (intro W hSw; (try dsimp only at hSw); go_simp; try (with_reducible rfl))
  try simp only [Act.put]
  try simp only [List.setIfInBounds_toArray]
  try simp only [List.set_cons_succ]
  try simp only [List.set_cons_zero]
  refine wpT 7 ⟨some 12, .load 22 (.tmp 11), 22, "cycle.go:45", #[⟨6, .data⟩], none⟩ ?_ (.inl ⟨by rfl, ?_⟩) ?_
  rotate_left
  · (intro W hSw; (try dsimp only at hSw); go_simp; try (with_reducible rfl))
  try simp only [Act.put]
  try simp only [List.setIfInBounds_toArray]
  try simp only [List.set_cons_succ]
  try simp only [List.set_cons_zero]
  refine wpT 8 ⟨some 13, .fieldAddr 41 (.tmp 3) 1, 0, "cycle.go:45", #[], none⟩ ?_ (.inl ⟨by rfl, ?_⟩) ?_
  rotate_left
  · (intro W hSw; (try dsimp only at hSw); go_simp; try (with_reducible rfl))
  try simp only [Act.put]
  try simp only [List.setIfInBounds_toArray]
  try simp only [List.set_cons_succ]
  try simp only [List.set_cons_zero]
  refine wpT 9 ⟨some 14, .load 3 (.tmp 13), 3, "cycle.go:45", #[⟨8, .data⟩], none⟩ ?_ (.inl ⟨by rfl, ?_⟩) ?_
  rotate_left
  · (intro W hSw; (try dsimp only at hSw); go_simp; try (with_reducible rfl))
  try simp only [Act.put]
  try simp only [List.setIfInBounds_toArray]
  try simp only [List.set_cons_succ]
  try simp only [List.set_cons_zero]
  refine wpT 10 ⟨some 15, .indexAddr 22 (.tmp 12) (.tmp 14), 0, "cycle.go:45", #[⟨7, .data⟩, ⟨9, .data⟩], none⟩ ?_ (.inl ⟨by rfl, ?_⟩) ?_
  rotate_left
  · (intro W hSw; (try dsimp only at hSw); go_simp; try (with_reducible rfl))
  try simp only [Act.put]
  try simp only [List.setIfInBounds_toArray]
  try simp only [List.set_cons_succ]
  try simp only [List.set_cons_zero]
  refine wpT 11 ⟨some 16, .load 3 (.tmp 15), 3, "cycle.go:45", #[⟨10, .data⟩], none⟩ ?_ (.inl ⟨by rfl, ?_⟩) ?_
  rotate_left
  · (intro W hSw; (try dsimp only at hSw); go_simp; try (with_reducible rfl))
  try simp only [Act.put]
  try simp only [List.setIfInBounds_toArray]
  try simp only [List.set_cons_succ]
  try simp only [List.set_cons_zero]
  refine wpT 12 ⟨some 17, .fieldAddr 41 (.tmp 3) 2, 0, "cycle.go:45", #[], none⟩ ?_ (.inl ⟨by rfl, ?_⟩) ?_
  rotate_left
  · (intro W hSw; (try dsimp only at hSw); go_simp; try (with_reducible rfl))
  try simp only [Act.put]
  try simp only [List.setIfInBounds_toArray]
  try simp only [List.set_cons_succ]
  try simp only [List.set_cons_zero]
  refine wpT 13 ⟨some 18, .load 3 (.tmp 17), 3, "cycle.go:45", #[⟨12, .data⟩], none⟩ ?_ (.inl ⟨by rfl, ?_⟩) ?_
  rotate_left
  · (intro W hSw; (try dsimp only at hSw); go_simp; try (with_reducible rfl))
  try simp only [Act.put]
  try simp only [List.setIfInBounds_toArray]
  try simp only [List.set_cons_succ]
  try simp only [List.set_cons_zero]
  refine wpT 14 ⟨some 19, .fieldAddr 106 (.tmp 2) 1, 0, "cycle.go:45", #[], none⟩ ?_ (.inl ⟨by rfl, ?_⟩) ?_
  rotate_left
  · (intro W hSw; (try dsimp only at hSw); go_simp; try (with_reducible rfl))
  try simp only [Act.put]
  try simp only [List.setIfInBounds_toArray]
  try simp only [List.set_cons_succ]
  try simp only [List.set_cons_zero]
  refine wpT 15 ⟨some 20, .load 22 (.tmp 19), 22, "cycle.go:45", #[⟨14, .data⟩], none⟩ ?_ (.inl ⟨by rfl, ?_⟩) ?_
  rotate_left
  · (intro W hSw; (try dsimp only at hSw); go_simp; try (with_reducible rfl))
  try simp only [Act.put]
  try simp only [List.setIfInBounds_toArray]
  try simp only [List.set_cons_succ]
  try simp only [List.set_cons_zero]
  refine wpT 16 ⟨some 21, .fieldAddr 41 (.tmp 3) 3, 0, "cycle.go:45", #[], none⟩ ?_ (.inl ⟨by rfl, ?_⟩) ?_
  rotate_left
  · (intro W hSw; (try dsimp only at hSw); go_simp; try (with_reducible rfl))
  try simp only [Act.put]
  try simp only [List.setIfInBounds_toArray]
  try simp only [List.set_cons_succ]
  try simp only [List.set_cons_zero]
  refine wpT 17 ⟨some 22, .load 3 (.tmp 21), 3, "cycle.go:45", #[⟨16, .data⟩], none⟩ ?_ (.inl ⟨by rfl, ?_⟩) ?_
  rotate_left
  · (intro W hSw; (try dsimp only at hSw); go_simp; try (with_reducible rfl))
  try simp only [Act.put]
  try simp only [List.setIfInBounds_toArray]
  try simp only [List.set_cons_succ]
  try simp only [List.set_cons_zero]
  refine wpT 18 ⟨some 23, .indexAddr 22 (.tmp 20) (.tmp 22), 0, "cycle.go:45", #[⟨15, .data⟩, ⟨17, .data⟩], none⟩ ?_ (.inl ⟨by rfl, ?_⟩) ?_
  rotate_left
  · (intro W hSw; (try dsimp only at hSw); go_simp; try (with_reducible rfl))
  try simp only [Act.put]
  try simp only [List.setIfInBounds_toArray]
  try simp only [List.set_cons_succ]
  try simp only [List.set_cons_zero]
  refine wpT 19 ⟨some 24, .load 3 (.tmp 23), 3, "cycle.go:45", #[⟨18, .data⟩], none⟩ ?_ (.inl ⟨by rfl, ?_⟩) ?_
  rotate_left
  · (intro W hSw; (try dsimp only at hSw); go_simp; try (with_reducible rfl))
  try simp only [Act.put]
  try simp only [List.setIfInBounds_toArray]
  try simp only [List.set_cons_succ]
  try simp only [List.set_cons_zero]
  refine wpT 20 ⟨some 25, .build 33 #[(0, .tmp 10), (1, .tmp 16), (2, .tmp 18), (3, .tmp 24)], 33, "cycle.go:45", #[⟨5, .data⟩, ⟨11, .data⟩, ⟨13, .data⟩, ⟨19, .data⟩], none⟩ ?_ (.inl ⟨by rfl, ?_⟩) ?_
  rotate_left
  · (intro W hSw; (try dsimp only at hSw); go_simp; try (with_reducible rfl))
  try simp only [Act.put]
  try simp only [List.setIfInBounds_toArray]
  try simp only [List.set_cons_succ]
  try simp only [List.set_cons_zero]
  refine wpAnyH_ready (rs := [21]) (by kernel_rfl) (by simp) ?_
  refine AllReadyH.cons (o := ⟨none, .store 33 (.tmp 4) (.tmp 25), 0, "cycle.go:45", #[⟨20, .data⟩, ⟨0, .phase⟩, ⟨1, .phase⟩, ⟨2, .phase⟩, ⟨3, .phase⟩, ⟨4, .phase⟩, ⟨5, .phase⟩, ⟨6, .phase⟩, ⟨7, .phase⟩, ⟨8, .phase⟩, ⟨9, .phase⟩, ⟨10, .phase⟩, ⟨11, .phase⟩, ⟨12, .phase⟩, ⟨13, .phase⟩, ⟨14, .phase⟩, ⟨15, .phase⟩, ⟨16, .phase⟩, ⟨17, .phase⟩, ⟨18, .phase⟩, ⟨19, .phase⟩, ⟨20, .phase⟩], none⟩) rfl (fun K hK => ?_) AllReadyH.nil
  (first
    | (refine step_storeC rfl rfl (g := w.heap.size + 2) (cells := [.int .i64 vf, .int .i64 vt, .int .i64 ak, .int .i64 vl]) rfl rfl (show Blk _ _ 33 [.int .i64 0, .int .i64 0, .int .i64 0, .int .i64 0] from HE.out) (by kernel_rfl) rfl rfl ?_; intro w5 hb5 hu5; have HE := Lib.hid hb5; have hq : Upd (One (w.heap.size + 2)) _ _ := hu5; clear hb5 hu5))
  refine hK.out _ _ ?_ (fun hHeld => ?_)
  · (first | exact (Upd.refl _ _).drew | exact hHeld.trans hq)
  clear hK K
  try simp only [Act.put]
  try simp only [List.setIfInBounds_toArray]
  try simp only [List.set_cons_succ]
  try simp only [List.set_cons_zero]
  refine wpAnyH_done (by kernel_rfl) (NoPanic.normal ?_) _
  go_wp2
  refine bodyPost_ret (results_cell_row (p := 4) rfl _ _ _ _ _ _ _ rfl HE.out Try.underlying33 rfl (by kernel_rfl)) rfl ⟨rfl, ?_⟩
  exact U0.out.then_ hHeld fun k e => .inr (by unfold One at e; omega)
end Go.Proofs.Ytaicemjckagcaaa

/- Closed walks, plain: the document's answer, and that the search by ranks tells the same. -/
namespace Go.Proofs.Ytaicemjckagcaaa
set_option linter.unusedVariables false
open Go.RowKit
def edAll : List Edge → List Edge → List Edge
  | acc, [] => acc
  | acc, e :: l => edAll (putEd e acc) l
def idsR : List Int → List Edge → List Int
  | acc, [] => acc
  | acc, e :: l => idsR (putL e.t (putL e.f acc)) l
def needR (must : Int) : Bool := bitR must 1 || (bitR must 2 || bitR must 3)
def docQ (l : List Edge) (mask : Int) : List Edge := edAll [] (l.filter fun e => bitR mask e.k)
/-- what the document answers -/
def docB (q : List Edge) (must : Int) : Nat × Int := overR (hitR must (needR must) q) (2 * (idsR [] q).length) (idsR [] q) (0, 0)
def docS (l : List Edge) (mask must : Int) : List Edge :=
  if (docB (docQ l mask) must).1 = 0 then [] else firstR must (docQ l mask) (rowsW must (docQ l mask) (docB (docQ l mask) must).2) (docB (docQ l mask) must).1 (docB (docQ l mask) must).2 (needR must)
theorem arc_inj {a b : Edge} (h : a.arc = b.arc) : a = b := by rw [← arc_edge a, ← arc_edge b, h]
theorem map_arc_inj {l m : List Edge} (h : l.map Edge.arc = m.map Edge.arc) : l = m := by
  have := congrArg (List.map HArc.edge) h
  rw [List.map_map, List.map_map] at this
  have e : ∀ x : List Edge, x.map (HArc.edge ∘ Edge.arc) = x := fun x => by
    conv => rhs; rw [← List.map_id x]
    exact List.map_congr_left fun _ _ => rfl
  rwa [e, e] at this
theorem mem_arcs {l : List Edge} {e : Edge} : e.arc ∈ l.map Edge.arc ↔ e ∈ l := by
  rw [List.mem_map]
  exact ⟨fun ⟨x, hx, h⟩ => arc_inj h ▸ hx, fun h => ⟨e, h, rfl⟩⟩
theorem mem_edPut (a b : Edge) (l : List Edge) : b ∈ putEd a l ↔ b = a ∨ b ∈ l := by
  rw [← mem_arcs, edPut_arc, mem_putA, mem_arcs]
  exact ⟨fun h => h.imp arc_inj id, fun h => h.imp (fun e => by rw [e]) id⟩
theorem edPut_sorted (a : Edge) (l : List Edge) (h : l.Pairwise fun a b => ltE a b = true) : (putEd a l).Pairwise fun a b => ltE a b = true := by
  have h1 : sortedA (l.map Edge.arc) := List.pairwise_map.2 (h.imp fun {x y} e => by rw [← ltE_less]; exact e)
  have h2 := putA_sorted a.arc _ h1
  rw [← edPut_arc] at h2
  exact (List.pairwise_map.1 h2).imp fun {x y} e => by rw [ltE_less]; exact e
theorem mem_edAll (b : Edge) : ∀ (l acc : List Edge), b ∈ edAll acc l ↔ b ∈ acc ∨ b ∈ l
  | [], acc => by simp [edAll]
  | e :: l, acc => by
    show b ∈ edAll (putEd e acc) l ↔ _
    rw [mem_edAll b l, mem_edPut, List.mem_cons]
    constructor
    · rintro ((h | h) | h)
      · exact .inr (.inl h)
      · exact .inl h
      · exact .inr (.inr h)
    · rintro (h | h | h)
      · exact .inl (.inr h)
      · exact .inl (.inl h)
      · exact .inr h
theorem edAll_sorted : ∀ (l acc : List Edge), (acc.Pairwise fun a b => ltE a b = true) → (edAll acc l).Pairwise fun a b => ltE a b = true
  | [], _, h => h
  | e :: l, acc, h => edAll_sorted l _ (edPut_sorted e acc h)
theorem mem_idsR (x : Int) : ∀ (l : List Edge) (acc : List Int), x ∈ idsR acc l ↔ x ∈ acc ∨ ∃ e ∈ l, x = e.f ∨ x = e.t
  | [], acc => by simp [idsR]
  | e :: l, acc => by
    show x ∈ idsR (putL e.t (putL e.f acc)) l ↔ _
    rw [mem_idsR x l, mem_putL, mem_putL]
    constructor
    · rintro ((h | h | h) | ⟨y, hy, h⟩)
      · exact .inr ⟨e, List.mem_cons_self, .inr h⟩
      · exact .inr ⟨e, List.mem_cons_self, .inl h⟩
      · exact .inl h
      · exact .inr ⟨y, List.mem_cons_of_mem _ hy, h⟩
    · rintro (h | ⟨y, hy, h⟩)
      · exact .inl (.inr (.inr h))
      · rcases List.mem_cons.1 hy with rfl | hy
        · rcases h with h | h
          · exact .inl (.inr (.inl h))
          · exact .inl (.inl h)
        · exact .inr ⟨y, hy, h⟩
theorem idsR_lt : ∀ (l : List Edge) (acc : List Int), acc.Pairwise (· < ·) → (idsR acc l).Pairwise (· < ·)
  | [], _, h => h
  | e :: l, acc, h => idsR_lt l _ (putL_lt _ _ (putL_lt _ _ h))
theorem mem_docQ {l : List Edge} {mask : Int} {e : Edge} : e ∈ docQ l mask ↔ e ∈ l ∧ bitR mask e.k = true := by
  unfold docQ
  rw [mem_edAll, List.mem_filter]
  simp
theorem bitR_kind {mask k : Int} (h : bitR mask k = true) : 1 ≤ k ∧ k ≤ 3 ∧ bitM mask k = true := by
  unfold bitR at h
  rw [Bool.and_eq_true, Bool.and_eq_true, decide_eq_true_eq, decide_eq_true_eq] at h
  exact ⟨h.1, h.2.1, h.2.2⟩
/-- a bound below all -/
theorem low_of (l : List Edge) : ∃ lo : Int, ∀ e ∈ l, lo ≤ e.f := by
  induction l with
  | nil => exact ⟨0, fun e he => by cases he⟩
  | cons a l ih =>
    obtain ⟨lo, h⟩ := ih
    refine ⟨min lo a.f, fun e he => ?_⟩
    rcases List.mem_cons.1 he with rfl | he
    · omega
    · have := h e he; omega
theorem Short.mem {D D' : List HArc} {must : Int} {need : Bool} {v : Int} {c : List HArc} (h : Short D must need v c) (hD : ∀ a, a ∈ D ↔ a ∈ D') : Short D' must need v c :=
  h.less (fun a ha => (hD a).2 ha) (fun a ha => (hD a).1 (okW_mem h.w a ha))
theorem NoWay.mem {D D' : List HArc} {must : Int} {need : Bool} (h : NoWay D must need) (hD : ∀ a, a ∈ D' → a ∈ D) : NoWay D' must need :=
  fun u c' n1 n2 n3 => h u c' n1 (okW_mono hD (Int.le_refl _) n2) n3
section
variable {l : List Edge} {mask must : Int}
theorem docQ_arcs (a : HArc) : a ∈ (docQ l mask).map Edge.arc ↔ a ∈ (l.filter fun e => bitR mask e.k).map Edge.arc := by
  rw [← edge_arc a, mem_arcs, mem_arcs, mem_docQ, List.mem_filter]
theorem docS_short {v : Int} {c : List HArc} (h : Short ((l.filter fun e => bitR mask e.k).map Edge.arc) must (needR must) v c) : (docS l mask must).map Edge.arc = c := by
  have h2 := h.mem (fun a => (docQ_arcs (l := l) (mask := mask) a).symm)
  obtain ⟨lo, hlo⟩ := low_of (docQ l mask)
  have hk : ∀ e ∈ docQ l mask, 1 ≤ e.k ∧ e.k ≤ 3 := fun e he => ⟨(bitR_kind (mem_docQ.1 he).2).1, (bitR_kind (mem_docQ.1 he).2).2.1⟩
  have hF := overR_short (ids := idsR [] (docQ l mask)) (l := docQ l mask) (most := 2 * (idsR [] (docQ l mask)).length) (edAll_sorted _ _ List.Pairwise.nil) hlo hk (idsR_lt _ _ List.Pairwise.nil) (fun e he => (mem_idsR _ _ _).2 (.inr ⟨e, he, .inl rfl⟩)) (by omega) h2
  have hb : docB (docQ l mask) must = (c.length, v) := hF.1
  have hc : ¬ c.length = 0 := fun e => h.ne (List.eq_nil_of_length_eq_zero e)
  unfold docS
  rw [hb, if_neg hc]
  exact hF.2
theorem docS_none (h : NoWay ((l.filter fun e => bitR mask e.k).map Edge.arc) must (needR must)) : docS l mask must = [] := by
  have h2 := h.mem (fun a ha => (docQ_arcs (l := l) (mask := mask) a).1 ha)
  obtain ⟨lo, hlo⟩ := low_of (docQ l mask)
  have hk : ∀ e ∈ docQ l mask, 1 ≤ e.k ∧ e.k ≤ 3 := fun e he => ⟨(bitR_kind (mem_docQ.1 he).2).1, (bitR_kind (mem_docQ.1 he).2).2.1⟩
  have hb : (docB (docQ l mask) must).1 = 0 := overR_none hlo hk (idsR_lt _ _ List.Pairwise.nil) _ h2
  unfold docS
  rw [if_pos hb]
end
/-- the edges that count, the ids and the keys -/
def keptE (l : List Edge) (mask : Int) : List Edge := l.filter fun e => bitR mask e.k
def idsL : List Edge → List Int
  | [] => []
  | e :: l => e.f :: e.t :: idsL l
theorem mem_idsL (x : Int) : ∀ l : List Edge, x ∈ idsL l ↔ ∃ e ∈ l, x = e.f ∨ x = e.t
  | [] => by simp [idsL]
  | e :: l => by
    show x ∈ e.f :: e.t :: idsL l ↔ _
    rw [List.mem_cons, List.mem_cons, mem_idsL x l]
    constructor
    · rintro (h | h | ⟨y, hy, h⟩)
      · exact ⟨e, List.mem_cons_self, .inl h⟩
      · exact ⟨e, List.mem_cons_self, .inr h⟩
      · exact ⟨y, List.mem_cons_of_mem _ hy, h⟩
    · rintro ⟨y, hy, h⟩
      rcases List.mem_cons.1 hy with rfl | hy
      · rcases h with h | h
        · exact .inl h
        · exact .inr (.inl h)
      · exact .inr (.inr ⟨y, hy, h⟩)
theorem idsL_len : ∀ l : List Edge, (idsL l).length = 2 * l.length
  | [] => rfl
  | e :: l => by
    show (idsL l).length + 1 + 1 = _
    rw [idsL_len l]
    simp only [List.length_cons]
    omega
def idsE (D : List Edge) : List Int := setK (idsL D)
def keysE (D : List Edge) : List Int := setK (D.map Edge.key)
/-- the arcs of the edges, put one by one -/
def arcsQ (ids keys : List Int) (N : Nat) : List HArc → List Edge → List HArc
  | q, [] => q
  | q, e :: l => arcsQ ids keys N (addQ N q (toR ids keys e.arc)) l
theorem mem_arcsQ {ids keys : List Int} {N : Nat} (b : HArc) : ∀ (l : List Edge) (q : List HArc), (∀ e ∈ l, rightA N (toR ids keys e.arc) = true) → (b ∈ arcsQ ids keys N q l ↔ b ∈ q ∨ ∃ e ∈ l, b = toR ids keys e.arc)
  | [], q, _ => by simp [arcsQ]
  | e :: l, q, hr => by
    have h1 : b ∈ addQ N q (toR ids keys e.arc) ↔ b = toR ids keys e.arc ∨ b ∈ q := by
      unfold addQ
      rw [if_pos (hr e List.mem_cons_self)]
      split
      · rename_i hm
        exact ⟨.inr, fun h => h.elim (fun e => by rw [e]; exact hm) id⟩
      · exact mem_putA _ _ _
    show b ∈ arcsQ ids keys N (addQ N q (toR ids keys e.arc)) l ↔ _
    rw [mem_arcsQ b l _ (fun x hx => hr x (List.mem_cons_of_mem _ hx)), h1]
    constructor
    · rintro ((h | h) | ⟨y, hy, h⟩)
      · exact .inr ⟨e, List.mem_cons_self, h⟩
      · exact .inl h
      · exact .inr ⟨y, List.mem_cons_of_mem _ hy, h⟩
    · rintro (h | ⟨y, hy, h⟩)
      · exact .inl (.inr h)
      · rcases List.mem_cons.1 hy with rfl | hy
        · exact .inl (.inl h)
        · exact .inr ⟨y, hy, h⟩
section
variable {D : List Edge}
theorem idsE_mem {e : Edge} (he : e ∈ D) : e.f ∈ idsE D ∧ e.t ∈ idsE D := ⟨(mem_setK _ _).2 ((mem_idsL _ _).2 ⟨e, he, .inl rfl⟩), (mem_setK _ _).2 ((mem_idsL _ _).2 ⟨e, he, .inr rfl⟩)⟩
theorem keysE_mem {e : Edge} (he : e ∈ D) : e.key ∈ keysE D := (mem_setK _ _).2 (List.mem_map.2 ⟨e, he, rfl⟩)
theorem toR_right (hk : ∀ e ∈ D, 1 ≤ e.k ∧ e.k ≤ 3) (hl : D.length ≤ 100000) {e : Edge} (he : e ∈ D) : rightA (idsE D).length (toR (idsE D) (keysE D) e.arc) = true := by
  rw [rightA_iff]
  have h1 := idsE_mem he
  have h2 := keysE_mem he
  have f1 := rk_in (idsE D) e.f
  have f2 := rk_in (idsE D) e.t
  have f3 := rk_in (keysE D) e.key
  have g1 := (rk_get (setK_lt (idsL D)) h1.1).1
  have g2 := (rk_get (setK_lt (idsL D)) h1.2).1
  have g3 := (rk_get (setK_lt (D.map Edge.key)) h2).1
  have k := hk e he
  have hkl : (keysE D).length ≤ D.length := by
    have := setK_len (D.map Edge.key)
    rwa [List.length_map] at this
  exact ⟨f1.1, g1, f2.1, g2, k.1, k.2, f3.1, by
    have g3' : rk (keysE D) e.key < ((keysE D).length : Int) := g3
    show rk (keysE D) e.key ≤ 1048575
    omega⟩
theorem rk_of (hk : ∀ e ∈ D, 1 ≤ e.k ∧ e.k ≤ 3) (hl : D.length ≤ 100000) : Rk (D.map Edge.arc) (idsE D) (keysE D) (arcsQ (idsE D) (keysE D) (idsE D).length [] D) := by
  refine ⟨setK_lt _, setK_lt _, fun a ha => ?_, fun a ha => ?_, fun b => ?_⟩
  · obtain ⟨e, he, rfl⟩ := List.mem_map.1 ha
    exact idsE_mem he
  · obtain ⟨e, he, rfl⟩ := List.mem_map.1 ha
    exact keysE_mem he
  · rw [mem_arcsQ b D [] (fun e he => toR_right hk hl he)]
    constructor
    · rintro (h | ⟨e, he, h⟩)
      · cases h
      · exact ⟨e.arc, List.mem_map.2 ⟨e, he, rfl⟩, h⟩
    · rintro ⟨a, ha, h⟩
      obtain ⟨e, he, rfl⟩ := List.mem_map.1 ha
      exact .inr ⟨e, he, h⟩
end
theorem bits14 (x : Int) (j : Nat) (hj : j = 1 ∨ j = 2 ∨ j = 3) : bitM (bits .and .i64 x 14) (j : Int) = bitM x (j : Int) := by
  rw [bitM_and x 14 j hj]
  have : bitM 14 (j : Int) = true := by rcases hj with rfl | rfl | rfl <;> rfl
  rw [this, Bool.and_true]
theorem bitR14 (x k : Int) : bitR (bits .and .i64 x 14) k = bitR x k := by
  unfold bitR
  by_cases h1 : 1 ≤ k
  · by_cases h2 : k ≤ 3
    · obtain ⟨j, rfl, hj⟩ := kind_nat h1 h2
      rw [bits14 x j hj]
    · rw [decide_eq_false h2]
      simp
  · rw [decide_eq_false h1]
    simp
theorem badE14 (mask : Int) (e : Edge) : badE (bits .and .i64 mask 14) e = !bitR mask e.k := by
  rw [← bitR14 mask e.k]
  unfold badE bitR
  by_cases h1 : e.k < 1
  · rw [decide_eq_true h1, decide_eq_false (show ¬ 1 ≤ e.k by omega)]
    rfl
  · rw [decide_eq_false h1, decide_eq_true (show 1 ≤ e.k by omega)]
    by_cases h2 : 3 < e.k
    · rw [decide_eq_true h2, decide_eq_false (show ¬ e.k ≤ 3 by omega)]
      rfl
    · rw [decide_eq_false h2, decide_eq_true (show e.k ≤ 3 by omega)]
      simp
theorem and_litB (x : Int) (y : Nat) (hy : y ≤ 1000) : bits .and .i64 x (y : Int) = (((x % 18446744073709551616).toNat &&& y : Nat) : Int) := by
  change IntKind.i64.wrap (((BitVec.ofInt 64 x &&& BitVec.ofInt 64 (y : Int)).toNat : Nat) : Int) = _
  have h1 : (BitVec.ofInt 64 x).toNat = (x % 18446744073709551616).toNat := by rw [BitVec.toNat_ofInt]; rfl
  have h2 : (BitVec.ofInt 64 (y : Int)).toNat = y := by rw [BitVec.toNat_ofInt]; omega
  rw [BitVec.toNat_and, h1, h2]
  have h3 : (x % 18446744073709551616).toNat &&& y ≤ y := Nat.and_le_right
  exact IntWalk.i64_in _ (by omega)
theorem need14 (must : Int) : (bits .and .i64 must 14 != 0) = needR must := by
  have h1 := bits14 must 1 (.inl rfl)
  have h2 := bits14 must 2 (.inr (.inl rfl))
  have h3 := bits14 must 3 (.inr (.inr rfl))
  have hn : needR must = (bitM must ((1 : Nat) : Int) || (bitM must ((2 : Nat) : Int) || bitM must ((3 : Nat) : Int))) := rfl
  rw [hn, ← h1, ← h2, ← h3]
  have h := and_litB must 14 (by decide)
  have h' : bits .and .i64 must 14 = ((((must % 18446744073709551616).toNat &&& 14 : Nat)) : Int) := h
  rw [h']
  generalize (must % 18446744073709551616).toNat = n
  have e1 : ∀ j : Nat, bitM (((n &&& 14 : Nat)) : Int) (j : Int) = (n &&& 14).testBit j := by
    intro j
    unfold bitM
    rw [Nat.testBit_eq_decide_div_mod_eq, decide_eq_decide]
    rw [show ((j : Int).toNat) = j from Int.toNat_natCast j]
    have : (((n &&& 14 : Nat) : Int) / 2 ^ j) % 2 = (((n &&& 14) / 2 ^ j % 2 : Nat) : Int) := by
      norm_cast
    rw [this]
    omega
  rw [e1, e1, e1]
  by_cases hz : n &&& 14 = 0
  · rw [hz]
    rfl
  · have hb : ((((n &&& 14 : Nat)) : Int) != 0) = true := by rw [bne_iff_ne]; omega
    rw [hb]
    refine Eq.symm ?_
    refine Classical.byContradiction fun hc => hz ?_
    have hc : ((n &&& 14).testBit 1 || ((n &&& 14).testBit 2 || (n &&& 14).testBit 3)) = false := by simpa using hc
    rw [Bool.or_eq_false_iff, Bool.or_eq_false_iff] at hc
    refine Nat.eq_of_testBit_eq fun i => ?_
    rw [Nat.zero_testBit, Nat.testBit_and]
    by_cases hi : i = 1 ∨ i = 2 ∨ i = 3
    · rw [← Nat.testBit_and]
      rcases hi with rfl | rfl | rfl
      · exact hc.1
      · exact hc.2.1
      · exact hc.2.2
    · have : Nat.testBit 14 i = false := by
        match i, hi with
        | 0, _ => rfl
        | 1, h => exact absurd (.inl rfl) h
        | 2, h => exact absurd (.inr (.inl rfl)) h
        | 3, h => exact absurd (.inr (.inr rfl)) h
        | i + 4, _ =>
          refine Nat.testBit_lt_two_pow ?_
          have : 2 ^ (i + 4) = 2 ^ i * 16 := by rw [Nat.pow_add]
          have := Nat.two_pow_pos i
          omega
      rw [this, Bool.and_false]
/-- the search by ranks tells what the document says -/
theorem way_doc {l : List Edge} {mask must : Int} (hl : l.length ≤ 100000) {q : List HArc} (ids keys : List Int) (hids : ids = idsE (keptE l mask)) (hkeys : keys = keysE (keptE l mask)) (hq : q = arcsQ ids keys ids.length [] (keptE l mask)) (hs : sortedA q) (ks : Int → Int) (ws : Int → List HArc)
    (hk : ∀ i : Int, 0 ≤ i → i < (ids.length : Int) → ks i = shortA (ofA (bits .and .i64 mask 14) q) (bits .and .i64 must 14) i (anyD ids.length q (bits .and .i64 mask 14) i) (withF ids.length q (bits .and .i64 mask 14) (bits .and .i64 must 14) i) (needR must))
    (hk2 : ∀ i : Int, 0 ≤ i → (ids.length : Int) ≤ i → ks i = 0) (hk3 : ∀ i : Int, i < 0 → ks i = 0)
    (hw : ∀ i : Int, 0 ≤ i → i < (ids.length : Int) → ws i = walkC (ofA (bits .and .i64 mask 14) q) (bits .and .i64 must 14) i (anyD ids.length q (bits .and .i64 mask 14) i) (withF ids.length q (bits .and .i64 mask 14) (bits .and .i64 must 14) i) (ks i).toNat i (needR must)) :
    docS l mask must = (bestW ks ws ids.length).map (edgeA ids keys) ∧ ∀ a ∈ bestW ks ws ids.length, rightA ids.length a = true ∧ a.label < (keys.length : Int) := by
  have hkD : ∀ e ∈ keptE l mask, 1 ≤ e.k ∧ e.k ≤ 3 := fun e he => by
    have := bitR_kind (List.mem_filter.1 he).2
    exact ⟨this.1, this.2.1⟩
  have hlD : (keptE l mask).length ≤ 100000 := Nat.le_trans (List.length_filter_le _ _) hl
  have hR := rk_of hkD hlD
  rw [← hids, ← hkeys, ← hq] at hR
  have hr : ∀ a ∈ q, rightA ids.length a = true := fun a ha => by
    obtain ⟨b, hb, rfl⟩ := (hR.mq a).1 ha
    obtain ⟨e, he, rfl⟩ := List.mem_map.1 hb
    rw [hids, hkeys]
    exact toR_right hkD hlD he
  have hlab : ∀ a ∈ q, a.label < (keys.length : Int) := fun a ha => by
    obtain ⟨b, hb, rfl⟩ := (hR.mq a).1 ha
    exact (rk_get hR.sk (hR.ml b hb)).1
  have hof : ofA (bits .and .i64 mask 14) q = q := by
    unfold ofA
    rw [List.filter_eq_self]
    intro a ha
    obtain ⟨b, hb, rfl⟩ := (hR.mq a).1 ha
    obtain ⟨e, he, rfl⟩ := List.mem_map.1 hb
    have h1 := (List.mem_filter.1 he).2
    rw [← bitR14] at h1
    exact (bitR_kind h1).2.2
  have hmust : ∀ a ∈ (keptE l mask).map Edge.arc, isM (bits .and .i64 must 14) a = isM must a := fun a ha => by
    obtain ⟨e, he, rfl⟩ := List.mem_map.1 ha
    obtain ⟨j, hj, hj2⟩ := kind_nat (hkD e he).1 (hkD e he).2
    show bitM _ e.k = bitM _ e.k
    rw [hj, bits14 must j hj2]
  have hmap : ∀ c : List HArc, (c.map (unR ids keys)) = (c.map (edgeA ids keys)).map Edge.arc := fun c => by
    rw [List.map_map]
    exact List.map_congr_left fun _ _ => rfl
  rcases best_short hr hs (bits .and .i64 mask 14) (bits .and .i64 must 14) (needR must) ks ws hk hk2 hk3 hw with ⟨e, h⟩ | ⟨v, h0, h1, h⟩
  · rw [hof] at h
    rw [e]
    exact ⟨docS_none ((hR.none h).must hmust), fun a ha => by cases ha⟩
  · rw [hof] at h
    refine ⟨?_, fun a ha => ⟨hr a (okW_mem h.w a ha), hlab a (okW_mem h.w a ha)⟩⟩
    have h2 := docS_short ((hR.short h0 h1 h).must hmust)
    rw [hmap] at h2
    exact map_arc_inj h2
theorem docS_or (l : List Edge) (mask must : Int) (hl : l.length ≤ 100000) : (docS l mask must = [] ∧ NoWay ((keptE l mask).map Edge.arc) must (needR must)) ∨ ∃ v, Short ((keptE l mask).map Edge.arc) must (needR must) v ((docS l mask must).map Edge.arc) := by
  have hkD : ∀ e ∈ keptE l mask, 1 ≤ e.k ∧ e.k ≤ 3 := fun e he => by
    have := bitR_kind (List.mem_filter.1 he).2
    exact ⟨this.1, this.2.1⟩
  have hlD : (keptE l mask).length ≤ 100000 := Nat.le_trans (List.length_filter_le _ _) hl
  have hR := rk_of hkD hlD
  -- the arcs by ranks, in order
  obtain ⟨q, hq⟩ : ∃ q, (arcsQ (idsE (keptE l mask)) (keysE (keptE l mask)) (idsE (keptE l mask)).length [] (keptE l mask)) = q := ⟨_, rfl⟩
  rw [hq] at hR
  have hs : sortedA q := by
    rw [← hq]
    have : ∀ (m : List Edge) (q : List HArc), sortedA q → sortedA (arcsQ (idsE (keptE l mask)) (keysE (keptE l mask)) (idsE (keptE l mask)).length q m) := by
      intro m
      induction m with
      | nil => exact fun q h => h
      | cons e m ih =>
        intro q h
        refine ih _ ?_
        unfold addQ
        split
        · split
          · exact h
          · exact putA_sorted _ _ h
        · exact h
    exact this _ _ List.Pairwise.nil
  have hr : ∀ a ∈ q, rightA (idsE (keptE l mask)).length a = true := fun a ha => by
    obtain ⟨b, hb, rfl⟩ := (hR.mq a).1 ha
    obtain ⟨e, he, rfl⟩ := List.mem_map.1 hb
    exact toR_right hkD hlD he
  have hof : ofA 14 q = q := by
    unfold ofA
    rw [List.filter_eq_self]
    intro a ha
    obtain ⟨b, hb, rfl⟩ := (hR.mq a).1 ha
    obtain ⟨e, he, rfl⟩ := List.mem_map.1 hb
    obtain ⟨j, hj, hj2⟩ := kind_nat (hkD e he).1 (hkD e he).2
    show bitM 14 e.k = true
    rw [hj]
    rcases hj2 with rfl | rfl | rfl <;> rfl
  have hb := best_short hr hs 14 must (needR must) (fun i => if 0 ≤ i ∧ i < ((idsE (keptE l mask)).length : Int) then shortA (ofA 14 q) must i (anyD (idsE (keptE l mask)).length q 14 i) (withF (idsE (keptE l mask)).length q 14 must i) (needR must) else 0)
    (fun i => walkC (ofA 14 q) must i (anyD (idsE (keptE l mask)).length q 14 i) (withF (idsE (keptE l mask)).length q 14 must i) (if 0 ≤ i ∧ i < ((idsE (keptE l mask)).length : Int) then shortA (ofA 14 q) must i (anyD (idsE (keptE l mask)).length q 14 i) (withF (idsE (keptE l mask)).length q 14 must i) (needR must) else 0).toNat i (needR must))
    (fun i h0 h1 => if_pos ⟨h0, h1⟩) (fun i _ h1 => if_neg (fun e => by omega)) (fun i h1 => if_neg (fun e => by omega)) (fun i _ _ => rfl)
  rw [hof] at hb
  rcases hb with ⟨_, h⟩ | ⟨v, h0, h1, h⟩
  · have h3 := hR.none h
    exact .inl ⟨docS_none h3, h3⟩
  · have h3 := hR.short h0 h1 h
    rw [← docS_short h3] at h3
    exact .inr ⟨_, h3⟩
end Go.Proofs.Ytaicemjckagcaaa
