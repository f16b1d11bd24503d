/- Digraphs: the law's asking for some answers. -/
import Derived.Test.YtmnhgdedkniafaaMas
namespace Go.Proofs.Ytmnhgdedkniafaa
set_option linter.unusedVariables false
open Go.RowKit
/-! the contracts with their values named -/
section
variable {w : World} {G : Nat → Prop} {p : Option Addr} {N K : Nat} {q : List HArc}
theorem dgnextV (h : DG w G p N K q) (i mask : Int) (l : List Int) (e : nxA i false (ofA mask q) = l) : Calls Try.prog 54 #[.pointer p, .int .i64 i, .int .i64 mask] w (NewI w l) := e ▸ dgnext h i mask
theorem dgprevV (h : DG w G p N K q) (i mask : Int) (l : List Int) (e : nxA i true (ofA mask q) = l) : Calls Try.prog 56 #[.pointer p, .int .i64 i, .int .i64 mask] w (NewI w l) := e ▸ dgprev h i mask
theorem dgoutV (h : DG w G p N K q) (i mask : Int) (l : List HArc) (e : ((ofA mask q).filter fun x => x.f == i) = l) : Calls Try.prog 52 #[.pointer p, .int .i64 i, .int .i64 mask] w (NewA w l) := e ▸ dgout h i mask
theorem dgarcsV (h : DG w G p N K q) (mask : Int) (l : List HArc) (e : ofA mask q = l) : Calls Try.prog 51 #[.pointer p, .int .i64 mask] w (NewA w l) := e ▸ dgarcs h mask
theorem dghasV (h : DG w G p N K q) (a : HArc) (b : Bool) (e : decide (a ∈ q) = b) : Calls Try.prog 49 #[.pointer p, .agg a.cells.toArray] w fun e w' => e = .returned (.bool b) ∧ Upd No w w' := e ▸ dghas h a
theorem dgnodesV (h : DG w G p N K q) (n : Int) (e : (N : Int) = n) : Calls Try.prog 47 #[.pointer p] w fun e w' => e = .returned (.int .i64 n) ∧ Upd No w w' := by
  subst e; exact (dgnodes h).mono fun _ _ h => ⟨h.1, h.2 ▸ Upd.refl _ _⟩
theorem dglenV (h : DG w G p N K q) (n : Int) (e : (q.length : Int) = n) : Calls Try.prog 48 #[.pointer p] w fun e w' => e = .returned (.int .i64 n) ∧ Upd No w w' := by
  subst e; exact (dglen h).mono fun _ _ h => ⟨h.1, h.2 ▸ Upd.refl _ _⟩
theorem dgaddV (h : DG w G p N K q) (hK : K < 100000) (a : HArc) (q' : List HArc) (v : Int) (e : addQ N q a = q') (e2 : addE N q a = v) : Calls Try.prog 43 #[.pointer p, .agg a.cells.toArray] w (DTs w G p N (K + 1) q' (.int .i64 v)) := e ▸ e2 ▸ dgadd h hK a
theorem dgdropV (h : DG w G p N K q) (hK : K < 100000) (a : HArc) (q' : List HArc) (v : Int) (e : (q.filter fun x => x != a) = q') (e2 : dropE q a = v) : Calls Try.prog 45 #[.pointer p, .agg a.cells.toArray] w (DTs w G p N K q' (.int .i64 v)) := e ▸ e2 ▸ dgdrop h hK a
/-- what is done to a digraph that was made in the call turns nothing of old -/
theorem made_no {w0 w w' : World} (h0 : Upd No w0 w) (h : Upd G w w') (hG : ∀ k, G k → w0.heap.size ≤ k) : Upd No w0 w' := h0.then_ h fun k e => .inr (hG k e)
theorem made_ge {w0 w : World} {G' : Nat → Prop} (h0 : Upd No w0 w) (hG : ∀ k, G k → w0.heap.size ≤ k) (h : ∀ k, G' k → G k ∨ w.heap.size ≤ k) : ∀ k, G' k → w0.heap.size ≤ k := fun k hk => by
  have := h0.size
  rcases h k hk with e | e
  · exact hG k e
  · omega
/-- a block that is none of the digraph's stays none -/
theorem made_ne {w : World} {G' : Nat → Prop} {b : Nat} (hb : b < w.heap.size) (hn : ¬ G b) (h : ∀ k, G' k → G k ∨ w.heap.size ≤ k) : ¬ G' b := fun e => by
  rcases h b e with e | e
  · exact hn e
  · omega
theorem lit_arcs {W : World} (l : List HArc) (e : TypeId) : ArcsL (fun i => i = W.heap.size) (W.alloc (.cells (arcsF l).toArray e)) (some ⟨W.heap.size, 0, none⟩) l := fun _ => by
  refine ⟨_, rfl, rfl, by simp, fun i row hi j v hj => ?_⟩
  rw [List.getElem?_map, Option.map_eq_some_iff] at hi
  obtain ⟨a, ha, rfl⟩ := hi
  have e1 : (⟨W.heap.size, 0, none⟩ : Addr).add (i * 4 + j) = ⟨W.heap.size, i * 4 + j, none⟩ := by unfold Addr.add; split <;> simp_all
  rw [e1, cell_of_row _ _ _ _ e (0, 0) (heap_alloc_new W _), List.getElem?_toArray]
  unfold arcsF
  exact flat_get (arc_len l) (by rw [List.getElem?_map, ha]; rfl) hj
end
def arA : HArc := ⟨0, 1, 2, 5⟩
def arB : HArc := ⟨0, 1, 3, 4⟩
/-- a digraph made in the call lies there, and two boxes of arcs -/
def St22 (w : World) (n g : Nat) (K : Nat) (q : List HArc) (W : World) : Prop :=
  ∃ G, DG W G (some ⟨g, 0, none⟩) 2 K q ∧ Upd No w W ∧ (∀ k, G k → w.heap.size ≤ k) ∧ ¬ G n ∧ ¬ G (n + 1) ∧ Blk W n 63 arA.cells ∧ Blk W (n + 1) 63 arB.cells
def Ce22 (n : Nat) (W : World) : Prop :=
  W.cell? ⟨n, 0, none⟩ = some (.int .i64 0) ∧ W.cell? ⟨n, 1, none⟩ = some (.int .i64 1) ∧ W.cell? ⟨n, 2, none⟩ = some (.int .i64 2) ∧ W.cell? ⟨n, 3, none⟩ = some (.int .i64 5) ∧
  W.cell? ⟨n + 1, 0, none⟩ = some (.int .i64 0) ∧ W.cell? ⟨n + 1, 1, none⟩ = some (.int .i64 1) ∧ W.cell? ⟨n + 1, 2, none⟩ = some (.int .i64 3) ∧ W.cell? ⟨n + 1, 3, none⟩ = some (.int .i64 4)
namespace St22
variable {w W W' : World} {n g K : Nat} {q : List HArc}
theorem no (h : St22 w n g K q W) (k : Upd No W W') : St22 w n g K q W' := by
  obtain ⟨G, h1, h2, h3, h4, h5, h6, h7⟩ := h
  exact ⟨G, h1.no k, h2.trans k, h3, h4, h5, h6.upd k id, h7.upd k id⟩
theorem al (h : St22 w n g K q W) (o : Obj) : St22 w n g K q (W.alloc o) := h.no ((Upd.refl No W).alloc o)
theorem all (h : St22 w n g K q W) : St22 w n g K q W ∧ W.cell? ⟨n, 0, none⟩ = some (.int .i64 0) ∧ W.cell? ⟨n, 1, none⟩ = some (.int .i64 1) ∧ W.cell? ⟨n, 2, none⟩ = some (.int .i64 2) ∧ W.cell? ⟨n, 3, none⟩ = some (.int .i64 5) ∧ W.cell? ⟨n + 1, 0, none⟩ = some (.int .i64 0) ∧ W.cell? ⟨n + 1, 1, none⟩ = some (.int .i64 1) ∧ W.cell? ⟨n + 1, 2, none⟩ = some (.int .i64 3) ∧ W.cell? ⟨n + 1, 3, none⟩ = some (.int .i64 4) := ⟨h, by
  obtain ⟨G, h1, h2, h3, h4, h5, h6, h7⟩ := h
  exact ⟨h6.cell 0, h6.cell 1, h6.cell 2, h6.cell 3, h7.cell 0, h7.cell 1, h7.cell 2, h7.cell 3⟩⟩
theorem lit1 {x : Int} {e : TypeId} (_h : St22 w n g K q (W.alloc (.cells #[.int .i64 x] e))) : Ints (fun i => i = W.heap.size) (W.alloc (.cells #[.int .i64 x] e)) (some ⟨W.heap.size, 0, none⟩) [x] := lit_ints [x] e
theorem litA1 {a b c d : Int} {e : TypeId} (_h : St22 w n g K q (W.alloc (.cells #[.int .i64 a, .int .i64 b, .int .i64 c, .int .i64 d] e))) : ArcsL (fun i => i = W.heap.size) (W.alloc (.cells #[.int .i64 a, .int .i64 b, .int .i64 c, .int .i64 d] e)) (some ⟨W.heap.size, 0, none⟩) [⟨a, b, c, d⟩] := lit_arcs [⟨a, b, c, d⟩] e
theorem litA2 {a b c d a' b' c' d' : Int} {e : TypeId} (_h : St22 w n g K q (W.alloc (.cells #[.int .i64 a, .int .i64 b, .int .i64 c, .int .i64 d, .int .i64 a', .int .i64 b', .int .i64 c', .int .i64 d'] e))) :
    ArcsL (fun i => i = W.heap.size) (W.alloc (.cells #[.int .i64 a, .int .i64 b, .int .i64 c, .int .i64 d, .int .i64 a', .int .i64 b', .int .i64 c', .int .i64 d'] e)) (some ⟨W.heap.size, 0, none⟩) [⟨a, b, c, d⟩, ⟨a', b', c', d'⟩] := lit_arcs [⟨a, b, c, d⟩, ⟨a', b', c', d'⟩] e
theorem keepI {F : Nat → Prop} {A : Option Addr} {xs : List Int} {o : Obj} (_h : St22 w n g K q (W.alloc o)) (k : Ints F W A xs) : Ints F (W.alloc o) A xs := k.upd ((Upd.refl No W).alloc o) (fun _ _ => id)
theorem keepA {F : Nat → Prop} {A : Option Addr} {xs : List HArc} {o : Obj} (_h : St22 w n g K q (W.alloc o)) (k : ArcsL F W A xs) : ArcsL F (W.alloc o) A xs := k.upd ((Upd.refl No W).alloc o) (fun _ _ => id)
theorem cel (h : St22 w n g K q W) : Ce22 n W := by
  obtain ⟨G, h1, h2, h3, h4, h5, h6, h7⟩ := h
  exact ⟨h6.cell 0, h6.cell 1, h6.cell 2, h6.cell 3, h7.cell 0, h7.cell 1, h7.cell 2, h7.cell 3⟩
theorem upd (h : St22 w n g K q W) : Upd No w W := by
  obtain ⟨G, h1, h2, h3, h4, h5, h6, h7⟩ := h
  exact h2
theorem add (h : St22 w n g K q W) (hK : K < 100000) (a : HArc) (q' : List HArc) (v : Int) (e1 : addQ 2 q a = q') (e2 : addE 2 q a = v) :
    Calls Try.prog 43 #[.pointer (some ⟨g, 0, none⟩), .agg a.cells.toArray] W fun e w' => e = .returned (.int .i64 v) ∧ St22 w n g (K + 1) q' w' := by
  obtain ⟨G, h1, h2, h3, h4, h5, h6, h7⟩ := h
  refine (dgaddV h1 hK a q' v e1 e2).mono ?_
  rintro e w2 ⟨G1, rfl, hd, hu, hg⟩
  exact ⟨rfl, G1, hd, made_no h2 hu h3, made_ge h2 h3 hg, made_ne h6.lt h4 hg, made_ne h7.lt h5 hg, h6.upd hu h4, h7.upd hu h5⟩
theorem drop (h : St22 w n g K q W) (hK : K < 100000) (a : HArc) (q' : List HArc) (v : Int) (e1 : (q.filter fun x => x != a) = q') (e2 : dropE q a = v) :
    Calls Try.prog 45 #[.pointer (some ⟨g, 0, none⟩), .agg a.cells.toArray] W fun e w' => e = .returned (.int .i64 v) ∧ St22 w n g K q' w' := by
  obtain ⟨G, h1, h2, h3, h4, h5, h6, h7⟩ := h
  refine (dgdropV h1 hK a q' v e1 e2).mono ?_
  rintro e w2 ⟨G1, rfl, hd, hu, hg⟩
  exact ⟨rfl, G1, hd, made_no h2 hu h3, made_ge h2 h3 hg, made_ne h6.lt h4 hg, made_ne h7.lt h5 hg, h6.upd hu h4, h7.upd hu h5⟩
theorem next (h : St22 w n g K q W) (i mask : Int) (l : List Int) (e : nxA i false (ofA mask q) = l) : Calls Try.prog 54 #[.pointer (some ⟨g, 0, none⟩), .int .i64 i, .int .i64 mask] W (NewI W l) := by
  obtain ⟨G, h1, _⟩ := h
  exact dgnextV h1 i mask l e
theorem prev (h : St22 w n g K q W) (i mask : Int) (l : List Int) (e : nxA i true (ofA mask q) = l) : Calls Try.prog 56 #[.pointer (some ⟨g, 0, none⟩), .int .i64 i, .int .i64 mask] W (NewI W l) := by
  obtain ⟨G, h1, _⟩ := h
  exact dgprevV h1 i mask l e
theorem out (h : St22 w n g K q W) (i mask : Int) (l : List HArc) (e : ((ofA mask q).filter fun x => x.f == i) = l) : Calls Try.prog 52 #[.pointer (some ⟨g, 0, none⟩), .int .i64 i, .int .i64 mask] W (NewA W l) := by
  obtain ⟨G, h1, _⟩ := h
  exact dgoutV h1 i mask l e
theorem arcs (h : St22 w n g K q W) (mask : Int) (l : List HArc) (e : ofA mask q = l) : Calls Try.prog 51 #[.pointer (some ⟨g, 0, none⟩), .int .i64 mask] W (NewA W l) := by
  obtain ⟨G, h1, _⟩ := h
  exact dgarcsV h1 mask l e
theorem has (h : St22 w n g K q W) (a : HArc) (b : Bool) (e : decide (a ∈ q) = b) : Calls Try.prog 49 #[.pointer (some ⟨g, 0, none⟩), .agg a.cells.toArray] W fun e w' => e = .returned (.bool b) ∧ Upd No W w' := by
  obtain ⟨G, h1, _⟩ := h
  exact dghasV h1 a b e
theorem nodes (h : St22 w n g K q W) : Calls Try.prog 47 #[.pointer (some ⟨g, 0, none⟩)] W fun e w' => e = .returned (.int .i64 2) ∧ Upd No W w' := by
  obtain ⟨G, h1, _⟩ := h
  exact dgnodesV h1 2 rfl
theorem len (h : St22 w n g K q W) (m : Int) (e : (q.length : Int) = m) : Calls Try.prog 48 #[.pointer (some ⟨g, 0, none⟩)] W fun e w' => e = .returned (.int .i64 m) ∧ Upd No W w' := by
  obtain ⟨G, h1, _⟩ := h
  exact dglenV h1 m e
end St22
theorem arcs_own {w : World} {base c : Nat} {A : Option Addr} {l : List HArc} (h : w.ownsRow base 63 4 (.slice A l.length c) l.length (arcsF l)) : ArcsL (Own (.slice A l.length c)) w A l := Recs.of_own (n := l.length) (c := c) (arc_len l) (by omega) h
set_option maxRecDepth 100000 in
set_option maxHeartbeats 40000000 in
theorem lives22 (w : World) : Calls Try.prog 38 #[] w fun e w' => e = .returned (.bool true) ∧ Upd No w w' := by
  have hr : roomN 2 = 2 := by decide
  have H1 := Lib.hid (hr ▸ dgnew w 2)
  clear hr
  go_enter Try.func38, Try.ntmps38
  go_wp2_with fail
  refine (H1.out).mono ?_
  rintro e w1 ⟨G0, g, rfl, hd0, hu0, hg0⟩
  go_wp2
  have hs2 : St22 w w1.heap.size g 0 [] ((w1.alloc (.cells #[.int .i64 0, .int .i64 1, .int .i64 2, .int .i64 5] 63)).alloc (.cells #[.int .i64 0, .int .i64 1, .int .i64 3, .int .i64 4] 63)) := by
    have ho := hd0.old (by simp)
    refine ⟨G0, hd0.no (((Upd.refl No w1).alloc _).alloc _), (hu0.alloc _).alloc _, hg0, fun e => by have := ho _ e; omega, fun e => by have := ho _ e; omega, (Blk.new w1 63 arA.cells).alloc _, ?_⟩
    have := Blk.new (w1.alloc (.cells #[.int .i64 0, .int .i64 1, .int .i64 2, .int .i64 5] 63)) 63 arB.cells
    rw [show (w1.alloc (.cells #[.int .i64 0, .int .i64 1, .int .i64 2, .int .i64 5] 63)).heap.size = w1.heap.size + 1 by simp] at this
    exact this
  obtain ⟨n, hn⟩ : ∃ n, w1.heap.size = n := ⟨_, rfl⟩
  generalize hw0 : (w1.alloc (.cells #[.int .i64 0, .int .i64 1, .int .i64 2, .int .i64 5] 63)).alloc (.cells #[.int .i64 0, .int .i64 1, .int .i64 3, .int .i64 4] 63) = w0 at *
  rw [hn] at *
  clear hw0 hd0 hg0 hu0 H1 hn
  have hs2 := hs2.no ((Upd.refl No w0).drew)
  refine wp_region_noPanic ?_
  refine wp_region_held_drew (S := (fun W => (∃ K q, St22 w n g K q W) ∧ W.cell? ⟨n, 0, none⟩ = some (.int .i64 0) ∧ W.cell? ⟨n, 1, none⟩ = some (.int .i64 1) ∧ W.cell? ⟨n, 2, none⟩ = some (.int .i64 2) ∧ W.cell? ⟨n, 3, none⟩ = some (.int .i64 5) ∧ W.cell? ⟨n + 1, 0, none⟩ = some (.int .i64 0) ∧ W.cell? ⟨n + 1, 1, none⟩ = some (.int .i64 1) ∧ W.cell? ⟨n + 1, 2, none⟩ = some (.int .i64 3) ∧ W.cell? ⟨n + 1, 3, none⟩ = some (.int .i64 4))) (by kernel_rfl) ?_ (fun hHeld => ?_)
  · exact ⟨⟨_, _, hs2⟩, hs2.cel⟩
  refine wpT 0 ⟨some 15, .move (.tmp 1), 58, "law.go:19", #[], none⟩ ?_ (.inl ⟨by rfl, ?_⟩) ?_
  rotate_left
  · (intro W hSw; (try dsimp only at hSw); go_simp; try (with_reducible rfl))
  try simp only [Act.put, List.setIfInBounds_toArray, List.set_cons_zero, List.set_cons_succ]
  refine wpT 1 ⟨some 16, .load 63 (.tmp 3), 63, "law.go:19", #[], none⟩ ?_ (.inl ⟨by rfl, ?_⟩) ?_
  rotate_left
  · (intro W hSw; (try dsimp only at hSw); go_simp; try (with_reducible rfl))
  try simp only [Act.put, List.setIfInBounds_toArray, List.set_cons_zero, List.set_cons_succ]
  refine wpT 3 ⟨some 18, .move (.tmp 1), 58, "law.go:19", #[], none⟩ ?_ (.inl ⟨by rfl, ?_⟩) ?_
  rotate_left
  · (intro W hSw; (try dsimp only at hSw); go_simp; try (with_reducible rfl))
  try simp only [Act.put, List.setIfInBounds_toArray, List.set_cons_zero, List.set_cons_succ]
  refine wpT 4 ⟨some 19, .load 63 (.tmp 2), 63, "law.go:19", #[], none⟩ ?_ (.inl ⟨by rfl, ?_⟩) ?_
  rotate_left
  · (intro W hSw; (try dsimp only at hSw); go_simp; try (with_reducible rfl))
  try simp only [Act.put, List.setIfInBounds_toArray, List.set_cons_zero, List.set_cons_succ]
  refine wpT 6 ⟨some 21, .move (.tmp 1), 58, "law.go:19", #[], none⟩ ?_ (.inl ⟨by rfl, ?_⟩) ?_
  rotate_left
  · (intro W hSw; (try dsimp only at hSw); go_simp; try (with_reducible rfl))
  try simp only [Act.put, List.setIfInBounds_toArray, List.set_cons_zero, List.set_cons_succ]
  refine wpT 7 ⟨some 22, .load 63 (.tmp 2), 63, "law.go:19", #[], none⟩ ?_ (.inl ⟨by rfl, ?_⟩) ?_
  rotate_left
  · (intro W hSw; (try dsimp only at hSw); go_simp; try (with_reducible rfl))
  try simp only [Act.put, List.setIfInBounds_toArray, List.set_cons_zero, List.set_cons_succ]
  refine wpAnyH_ready (rs := [2]) (by kernel_rfl) (by simp) ?_
  refine AllReadyH.cons (o := ⟨some 17, .call { callee := .value (.func 43), args := #[.tmp 15, .tmp 16], argTypes := #[58, 63] }, 22, "law.go:19", #[⟨0, .data⟩, ⟨1, .data⟩], none⟩) rfl (fun K hK => ?_) AllReadyH.nil
  go_simp
  (first
    | (go_at_call 43; refine (hs2.add (by decide) arB [arB] 0 (by kernel_rfl) (by kernel_rfl)).mono ?_; clear hs2; rintro e w2 ⟨rfl, hs2⟩))
  try (go_wp2_with fail)
  refine hK.out _ _ ?_ (fun hHeld => ?_)
  · exact ⟨⟨_, _, hs2⟩, hs2.cel⟩
  clear hK K
  try simp only [Act.put, List.setIfInBounds_toArray, List.set_cons_zero, List.set_cons_succ]
  refine wpAnyH_ready (rs := [5]) (by kernel_rfl) (by simp) ?_
  refine AllReadyH.cons (o := ⟨some 20, .call { callee := .value (.func 43), args := #[.tmp 18, .tmp 19], argTypes := #[58, 63] }, 22, "law.go:19", #[⟨3, .data⟩, ⟨4, .data⟩, ⟨2, .chain⟩], none⟩) rfl (fun K hK => ?_) AllReadyH.nil
  go_simp
  (first
    | (go_at_call 43; refine (hs2.add (by decide) arA [arA, arB] 0 (by kernel_rfl) (by kernel_rfl)).mono ?_; clear hs2; rintro e w2 ⟨rfl, hs2⟩))
  try (go_wp2_with fail)
  refine hK.out _ _ ?_ (fun hHeld => ?_)
  · exact ⟨⟨_, _, hs2⟩, hs2.cel⟩
  clear hK K
  try simp only [Act.put, List.setIfInBounds_toArray, List.set_cons_zero, List.set_cons_succ]
  refine wpAnyH_ready (rs := [8]) (by kernel_rfl) (by simp) ?_
  refine AllReadyH.cons (o := ⟨some 23, .call { callee := .value (.func 43), args := #[.tmp 21, .tmp 22], argTypes := #[58, 63] }, 22, "law.go:19", #[⟨6, .data⟩, ⟨7, .data⟩, ⟨5, .chain⟩], none⟩) rfl (fun K hK => ?_) AllReadyH.nil
  go_simp
  (first
    | (go_at_call 43; refine (hs2.add (by decide) arA [arA, arB] 4 (by kernel_rfl) (by kernel_rfl)).mono ?_; clear hs2; rintro e w2 ⟨rfl, hs2⟩))
  try (go_wp2_with fail)
  refine hK.out _ _ ?_ (fun hHeld => ?_)
  · exact ⟨⟨_, _, hs2⟩, hs2.cel⟩
  clear hK K
  try simp only [Act.put, List.setIfInBounds_toArray, List.set_cons_zero, List.set_cons_succ]
  refine wpT 9 ⟨some 4, .assign (.tmp 17), 22, "law.go:19", #[⟨2, .data⟩, ⟨8, .chain⟩, ⟨0, .phase⟩, ⟨1, .phase⟩, ⟨2, .phase⟩, { on := 3, ground := Go.Ground.textOnly Go.Departure.lateStores }, { on := 4, ground := Go.Ground.textOnly Go.Departure.lateStores }, { on := 5, ground := Go.Ground.textOnly Go.Departure.lateStoresUnsure }, { on := 6, ground := Go.Ground.textOnly Go.Departure.lateStores }, { on := 7, ground := Go.Ground.textOnly Go.Departure.lateStores }, { on := 8, ground := Go.Ground.textOnly Go.Departure.lateStoresUnsure }], none⟩ ?_ (.inl ⟨by rfl, ?_⟩) ?_
  rotate_left
  · (intro W hSw; (try dsimp only at hSw); go_simp; try (with_reducible rfl))
  try simp only [Act.put, List.setIfInBounds_toArray, List.set_cons_zero, List.set_cons_succ]
  refine wpT 10 ⟨some 5, .assign (.tmp 20), 22, "law.go:19", #[⟨5, .data⟩, ⟨9, .chain⟩, ⟨0, .phase⟩, ⟨1, .phase⟩, ⟨2, .phase⟩, ⟨3, .phase⟩, ⟨4, .phase⟩, ⟨5, .phase⟩, { on := 6, ground := Go.Ground.textOnly Go.Departure.lateStores }, { on := 7, ground := Go.Ground.textOnly Go.Departure.lateStores }, { on := 8, ground := Go.Ground.textOnly Go.Departure.lateStoresUnsure }, ⟨9, .phase⟩], none⟩ ?_ (.inl ⟨by rfl, ?_⟩) ?_
  rotate_left
  · (intro W hSw; (try dsimp only at hSw); go_simp; try (with_reducible rfl))
  try simp only [Act.put, List.setIfInBounds_toArray, List.set_cons_zero, List.set_cons_succ]
  refine wpT 11 ⟨some 6, .assign (.tmp 23), 22, "law.go:19", #[⟨8, .data⟩, ⟨10, .chain⟩, ⟨0, .phase⟩, ⟨1, .phase⟩, ⟨2, .phase⟩, ⟨3, .phase⟩, ⟨4, .phase⟩, ⟨5, .phase⟩, ⟨6, .phase⟩, ⟨7, .phase⟩, ⟨8, .phase⟩, ⟨9, .phase⟩, ⟨10, .phase⟩], none⟩ ?_ (.inl ⟨by rfl, ?_⟩) ?_
  rotate_left
  · (intro W hSw; (try dsimp only at hSw); go_simp; try (with_reducible rfl))
  try simp only [Act.put, List.setIfInBounds_toArray, List.set_cons_zero, List.set_cons_succ]
  refine wpAnyH_done (by kernel_rfl) (NoPanic.normal ?_) _
  go_wp2_with fail
  refine (hs2.add (by decide) ⟨0, 2, 1, 0⟩ [arA, arB] 1 (by kernel_rfl) (by kernel_rfl)).mono ?_
  rintro e w3 ⟨rfl, hs3⟩
  go_wp2_with fail
  refine (hs3.drop (by decide) ⟨0, 0, 1, 0⟩ [arA, arB] 3 (by kernel_rfl) (by kernel_rfl)).mono ?_
  rintro e w4 ⟨rfl, hs4⟩
  go_wp2
  clear hs2 hs3 hHeld
  have hHeld : St22 w n g 4 [arA, arB] w4.drew ∧ w4.drew.cell? ⟨n, 0, none⟩ = some (.int .i64 0) ∧ w4.drew.cell? ⟨n, 1, none⟩ = some (.int .i64 1) ∧ w4.drew.cell? ⟨n, 2, none⟩ = some (.int .i64 2) ∧ w4.drew.cell? ⟨n, 3, none⟩ = some (.int .i64 5) ∧ w4.drew.cell? ⟨n + 1, 0, none⟩ = some (.int .i64 0) ∧ w4.drew.cell? ⟨n + 1, 1, none⟩ = some (.int .i64 1) ∧ w4.drew.cell? ⟨n + 1, 2, none⟩ = some (.int .i64 3) ∧ w4.drew.cell? ⟨n + 1, 3, none⟩ = some (.int .i64 4) := ⟨hs4.no (Upd.refl No w4).drew, (hs4.no (Upd.refl No w4).drew).cel⟩
  clear hs4
  simp only [List.append]
  refine wp_region_noPanic ?_
  refine peel_start (by kernel_rfl) ?_
  generalize w4.drew = w5 at hHeld ⊢
  refine peelQ 3 (by kernel_rfl) (by kernel_rfl) 110 rfl (fun _ _ _ _ _ h => h) (fun QQ hq hdone => ?_)
  simp only [partOps_lit, partL, shiftO_mk, shiftA, shiftG]
  refine wpAny_of_held (S := (fun W => St22 w n g 4 [arA, arB] W ∧ W.cell? ⟨n, 0, none⟩ = some (.int .i64 0) ∧ W.cell? ⟨n, 1, none⟩ = some (.int .i64 1) ∧ W.cell? ⟨n, 2, none⟩ = some (.int .i64 2) ∧ W.cell? ⟨n, 3, none⟩ = some (.int .i64 5) ∧ W.cell? ⟨n + 1, 0, none⟩ = some (.int .i64 0) ∧ W.cell? ⟨n + 1, 1, none⟩ = some (.int .i64 1) ∧ W.cell? ⟨n + 1, 2, none⟩ = some (.int .i64 3) ∧ W.cell? ⟨n + 1, 3, none⟩ = some (.int .i64 4))) _ _ _ _ ?_
  refine wpAnyH_take (i := 0) (v := ?_) rfl (by kernel_rfl) (by kernel_rfl) (by kernel_rfl) (fun c a w h => hq c a _ _ w h) (Or.inl ⟨by rfl, ?_⟩) (by assumption) ?_
  rotate_left
  · (intro W hSw; (try dsimp only at hSw); go_simp; try (with_reducible rfl))
  try simp only [Act.put]
  try simp only [List.setIfInBounds_toArray]
  try simp only [List.set_cons_succ]
  try simp only [List.set_cons_zero]
  refine wpAnyH_take (i := 1) (v := ?_) rfl (by kernel_rfl) (by kernel_rfl) (by kernel_rfl) (fun c a w h => hq c a _ _ w h) (Or.inl ⟨by rfl, ?_⟩) (by assumption) ?_
  rotate_left
  · (intro W hSw; (try dsimp only at hSw); go_simp; try (with_reducible rfl))
  try simp only [Act.put]
  try simp only [List.setIfInBounds_toArray]
  try simp only [List.set_cons_succ]
  try simp only [List.set_cons_zero]
  refine wpAnyH_take (i := 2) (v := ?_) rfl (by kernel_rfl) (by kernel_rfl) (by kernel_rfl) (fun c a w h => hq c a _ _ w h) (Or.inl ⟨by rfl, ?_⟩) (by assumption) ?_
  rotate_left
  · (intro W hSw; (try dsimp only at hSw); go_simp; try (with_reducible rfl))
  try simp only [Act.put]
  try simp only [List.setIfInBounds_toArray]
  try simp only [List.set_cons_succ]
  try simp only [List.set_cons_zero]
  refine wpAnyH_done (by kernel_rfl) (hdone.out _ _ ?_) _
  clear hdone hq QQ
  refine peelQ 4 (by kernel_rfl) (by kernel_rfl) 106 rfl (fun _ _ _ _ _ h => h) (fun QQ hq hdone => ?_)
  simp only [partOps_lit, partL, shiftO_mk, shiftA, shiftG]
  refine wpAny_of_held (S := (fun W => St22 w n g 4 [arA, arB] W ∧ W.cell? ⟨n, 0, none⟩ = some (.int .i64 0) ∧ W.cell? ⟨n, 1, none⟩ = some (.int .i64 1) ∧ W.cell? ⟨n, 2, none⟩ = some (.int .i64 2) ∧ W.cell? ⟨n, 3, none⟩ = some (.int .i64 5) ∧ W.cell? ⟨n + 1, 0, none⟩ = some (.int .i64 0) ∧ W.cell? ⟨n + 1, 1, none⟩ = some (.int .i64 1) ∧ W.cell? ⟨n + 1, 2, none⟩ = some (.int .i64 3) ∧ W.cell? ⟨n + 1, 3, none⟩ = some (.int .i64 4))) _ _ _ _ ?_
  refine wpAnyH_take (i := 0) (v := ?_) rfl (by kernel_rfl) (by kernel_rfl) (by kernel_rfl) (fun c a w h => hq c a _ _ w h) (Or.inl ⟨by rfl, ?_⟩) (by assumption) ?_
  rotate_left
  · (intro W hSw; (try dsimp only at hSw); go_simp; try (with_reducible rfl))
  try simp only [Act.put]
  try simp only [List.setIfInBounds_toArray]
  try simp only [List.set_cons_succ]
  try simp only [List.set_cons_zero]
  refine wpAnyH_take (i := 1) (v := ?_) rfl (by kernel_rfl) (by kernel_rfl) (by kernel_rfl) (fun c a w h => hq c a _ _ w h) (Or.inl ⟨by rfl, ?_⟩) (by assumption) ?_
  rotate_left
  · (intro W hSw; (try dsimp only at hSw); go_simp; try (with_reducible rfl))
  try simp only [Act.put]
  try simp only [List.setIfInBounds_toArray]
  try simp only [List.set_cons_succ]
  try simp only [List.set_cons_zero]
  refine wpAnyH_take (i := 2) (v := ?_) rfl (by kernel_rfl) (by kernel_rfl) (by kernel_rfl) (fun c a w h => hq c a _ _ w h) (Or.inl ⟨by rfl, ?_⟩) (by assumption) ?_
  rotate_left
  · (intro W hSw; (try dsimp only at hSw); go_simp; try (with_reducible rfl))
  try simp only [Act.put]
  try simp only [List.setIfInBounds_toArray]
  try simp only [List.set_cons_succ]
  try simp only [List.set_cons_zero]
  refine wpAnyH_take (i := 3) (v := ?_) rfl (by kernel_rfl) (by kernel_rfl) (by kernel_rfl) (fun c a w h => hq c a _ _ w h) (Or.inl ⟨by rfl, ?_⟩) (by assumption) ?_
  rotate_left
  · (intro W hSw; (try dsimp only at hSw); go_simp; try (with_reducible rfl))
  try simp only [Act.put]
  try simp only [List.setIfInBounds_toArray]
  try simp only [List.set_cons_succ]
  try simp only [List.set_cons_zero]
  refine wpAnyH_done (by kernel_rfl) (hdone.out _ _ ?_) _
  clear hdone hq QQ
  refine peelQ 4 (by kernel_rfl) (by kernel_rfl) 102 rfl (fun _ _ _ _ _ h => h) (fun QQ hq hdone => ?_)
  simp only [partOps_lit, partL, shiftO_mk, shiftA, shiftG]
  refine wpAny_of_held (S := (fun W => St22 w n g 4 [arA, arB] W ∧ W.cell? ⟨n, 0, none⟩ = some (.int .i64 0) ∧ W.cell? ⟨n, 1, none⟩ = some (.int .i64 1) ∧ W.cell? ⟨n, 2, none⟩ = some (.int .i64 2) ∧ W.cell? ⟨n, 3, none⟩ = some (.int .i64 5) ∧ W.cell? ⟨n + 1, 0, none⟩ = some (.int .i64 0) ∧ W.cell? ⟨n + 1, 1, none⟩ = some (.int .i64 1) ∧ W.cell? ⟨n + 1, 2, none⟩ = some (.int .i64 3) ∧ W.cell? ⟨n + 1, 3, none⟩ = some (.int .i64 4))) _ _ _ _ ?_
  refine wpAnyH_take (i := 0) (v := ?_) rfl (by kernel_rfl) (by kernel_rfl) (by kernel_rfl) (fun c a w h => hq c a _ _ w h) (Or.inl ⟨by rfl, ?_⟩) (by assumption) ?_
  rotate_left
  · (intro W hSw; (try dsimp only at hSw); go_simp; try (with_reducible rfl))
  try simp only [Act.put]
  try simp only [List.setIfInBounds_toArray]
  try simp only [List.set_cons_succ]
  try simp only [List.set_cons_zero]
  refine wpAnyH_take (i := 1) (v := ?_) rfl (by kernel_rfl) (by kernel_rfl) (by kernel_rfl) (fun c a w h => hq c a _ _ w h) (Or.inl ⟨by rfl, ?_⟩) (by assumption) ?_
  rotate_left
  · (intro W hSw; (try dsimp only at hSw); go_simp; try (with_reducible rfl))
  try simp only [Act.put]
  try simp only [List.setIfInBounds_toArray]
  try simp only [List.set_cons_succ]
  try simp only [List.set_cons_zero]
  refine wpAnyH_take (i := 2) (v := ?_) rfl (by kernel_rfl) (by kernel_rfl) (by kernel_rfl) (fun c a w h => hq c a _ _ w h) (Or.inl ⟨by rfl, ?_⟩) (by assumption) ?_
  rotate_left
  · (intro W hSw; (try dsimp only at hSw); go_simp; try (with_reducible rfl))
  try simp only [Act.put]
  try simp only [List.setIfInBounds_toArray]
  try simp only [List.set_cons_succ]
  try simp only [List.set_cons_zero]
  refine wpAnyH_take (i := 3) (v := ?_) rfl (by kernel_rfl) (by kernel_rfl) (by kernel_rfl) (fun c a w h => hq c a _ _ w h) (Or.inl ⟨by rfl, ?_⟩) (by assumption) ?_
  rotate_left
  · (intro W hSw; (try dsimp only at hSw); go_simp; try (with_reducible rfl))
  try simp only [Act.put]
  try simp only [List.setIfInBounds_toArray]
  try simp only [List.set_cons_succ]
  try simp only [List.set_cons_zero]
  refine wpAnyH_done (by kernel_rfl) (hdone.out _ _ ?_) _
  clear hdone hq QQ
  refine peelQ 4 (by kernel_rfl) (by kernel_rfl) 98 rfl (fun _ _ _ _ _ h => h) (fun QQ hq hdone => ?_)
  simp only [partOps_lit, partL, shiftO_mk, shiftA, shiftG]
  refine wpAny_of_held (S := (fun W => St22 w n g 4 [arA, arB] W ∧ W.cell? ⟨n, 0, none⟩ = some (.int .i64 0) ∧ W.cell? ⟨n, 1, none⟩ = some (.int .i64 1) ∧ W.cell? ⟨n, 2, none⟩ = some (.int .i64 2) ∧ W.cell? ⟨n, 3, none⟩ = some (.int .i64 5) ∧ W.cell? ⟨n + 1, 0, none⟩ = some (.int .i64 0) ∧ W.cell? ⟨n + 1, 1, none⟩ = some (.int .i64 1) ∧ W.cell? ⟨n + 1, 2, none⟩ = some (.int .i64 3) ∧ W.cell? ⟨n + 1, 3, none⟩ = some (.int .i64 4))) _ _ _ _ ?_
  refine wpAnyH_take (i := 0) (v := ?_) rfl (by kernel_rfl) (by kernel_rfl) (by kernel_rfl) (fun c a w h => hq c a _ _ w h) (Or.inl ⟨by rfl, ?_⟩) (by assumption) ?_
  rotate_left
  · (intro W hSw; (try dsimp only at hSw); go_simp; try (with_reducible rfl))
  try simp only [Act.put]
  try simp only [List.setIfInBounds_toArray]
  try simp only [List.set_cons_succ]
  try simp only [List.set_cons_zero]
  refine wpAnyH_take (i := 1) (v := ?_) rfl (by kernel_rfl) (by kernel_rfl) (by kernel_rfl) (fun c a w h => hq c a _ _ w h) (Or.inl ⟨by rfl, ?_⟩) (by assumption) ?_
  rotate_left
  · (intro W hSw; (try dsimp only at hSw); go_simp; try (with_reducible rfl))
  try simp only [Act.put]
  try simp only [List.setIfInBounds_toArray]
  try simp only [List.set_cons_succ]
  try simp only [List.set_cons_zero]
  refine wpAnyH_take (i := 2) (v := ?_) rfl (by kernel_rfl) (by kernel_rfl) (by kernel_rfl) (fun c a w h => hq c a _ _ w h) (Or.inl ⟨by rfl, ?_⟩) (by assumption) ?_
  rotate_left
  · (intro W hSw; (try dsimp only at hSw); go_simp; try (with_reducible rfl))
  try simp only [Act.put]
  try simp only [List.setIfInBounds_toArray]
  try simp only [List.set_cons_succ]
  try simp only [List.set_cons_zero]
  refine wpAnyH_take (i := 3) (v := ?_) rfl (by kernel_rfl) (by kernel_rfl) (by kernel_rfl) (fun c a w h => hq c a _ _ w h) (Or.inl ⟨by rfl, ?_⟩) (by assumption) ?_
  rotate_left
  · (intro W hSw; (try dsimp only at hSw); go_simp; try (with_reducible rfl))
  try simp only [Act.put]
  try simp only [List.setIfInBounds_toArray]
  try simp only [List.set_cons_succ]
  try simp only [List.set_cons_zero]
  refine wpAnyH_done (by kernel_rfl) (hdone.out _ _ ?_) _
  clear hdone hq QQ
  refine peelQ 4 (by kernel_rfl) (by kernel_rfl) 94 rfl (fun _ _ _ _ _ h => h) (fun QQ hq hdone => ?_)
  simp only [partOps_lit, partL, shiftO_mk, shiftA, shiftG]
  refine wpAny_of_held (S := (fun W => St22 w n g 4 [arA, arB] W ∧ W.cell? ⟨n, 0, none⟩ = some (.int .i64 0) ∧ W.cell? ⟨n, 1, none⟩ = some (.int .i64 1) ∧ W.cell? ⟨n, 2, none⟩ = some (.int .i64 2) ∧ W.cell? ⟨n, 3, none⟩ = some (.int .i64 5) ∧ W.cell? ⟨n + 1, 0, none⟩ = some (.int .i64 0) ∧ W.cell? ⟨n + 1, 1, none⟩ = some (.int .i64 1) ∧ W.cell? ⟨n + 1, 2, none⟩ = some (.int .i64 3) ∧ W.cell? ⟨n + 1, 3, none⟩ = some (.int .i64 4))) _ _ _ _ ?_
  refine wpAnyH_take (i := 0) (v := ?_) rfl (by kernel_rfl) (by kernel_rfl) (by kernel_rfl) (fun c a w h => hq c a _ _ w h) (Or.inl ⟨by rfl, ?_⟩) (by assumption) ?_
  rotate_left
  · (intro W hSw; (try dsimp only at hSw); go_simp; try (with_reducible rfl))
  try simp only [Act.put]
  try simp only [List.setIfInBounds_toArray]
  try simp only [List.set_cons_succ]
  try simp only [List.set_cons_zero]
  refine wpAnyH_take (i := 1) (v := ?_) rfl (by kernel_rfl) (by kernel_rfl) (by kernel_rfl) (fun c a w h => hq c a _ _ w h) (Or.inl ⟨by rfl, ?_⟩) (by assumption) ?_
  rotate_left
  · (intro W hSw; (try dsimp only at hSw); go_simp; try (with_reducible rfl))
  try simp only [Act.put]
  try simp only [List.setIfInBounds_toArray]
  try simp only [List.set_cons_succ]
  try simp only [List.set_cons_zero]
  refine wpAnyH_take (i := 2) (v := ?_) rfl (by kernel_rfl) (by kernel_rfl) (by kernel_rfl) (fun c a w h => hq c a _ _ w h) (Or.inl ⟨by rfl, ?_⟩) (by assumption) ?_
  rotate_left
  · (intro W hSw; (try dsimp only at hSw); go_simp; try (with_reducible rfl))
  try simp only [Act.put]
  try simp only [List.setIfInBounds_toArray]
  try simp only [List.set_cons_succ]
  try simp only [List.set_cons_zero]
  refine wpAnyH_take (i := 3) (v := ?_) rfl (by kernel_rfl) (by kernel_rfl) (by kernel_rfl) (fun c a w h => hq c a _ _ w h) (Or.inl ⟨by rfl, ?_⟩) (by assumption) ?_
  rotate_left
  · (intro W hSw; (try dsimp only at hSw); go_simp; try (with_reducible rfl))
  try simp only [Act.put]
  try simp only [List.setIfInBounds_toArray]
  try simp only [List.set_cons_succ]
  try simp only [List.set_cons_zero]
  refine wpAnyH_done (by kernel_rfl) (hdone.out _ _ ?_) _
  clear hdone hq QQ
  refine peelQ 6 (by kernel_rfl) (by kernel_rfl) 88 rfl (fun _ _ _ _ _ h => h) (fun QQ hq hdone => ?_)
  simp only [partOps_lit, partL, shiftO_mk, shiftA, shiftG]
  refine wpAny_of_held (S := (fun W => St22 w n g 4 [arA, arB] W ∧ W.cell? ⟨n, 0, none⟩ = some (.int .i64 0) ∧ W.cell? ⟨n, 1, none⟩ = some (.int .i64 1) ∧ W.cell? ⟨n, 2, none⟩ = some (.int .i64 2) ∧ W.cell? ⟨n, 3, none⟩ = some (.int .i64 5) ∧ W.cell? ⟨n + 1, 0, none⟩ = some (.int .i64 0) ∧ W.cell? ⟨n + 1, 1, none⟩ = some (.int .i64 1) ∧ W.cell? ⟨n + 1, 2, none⟩ = some (.int .i64 3) ∧ W.cell? ⟨n + 1, 3, none⟩ = some (.int .i64 4))) _ _ _ _ ?_
  refine peel_join [49, 50, 51, 52] [53, 54] (.bool true) ?_ (fun hrest => ?_)
  · intro vs W hHeld
    refine hdone.out _ _ ?_
    clear hdone hq QQ
    simp only [putS, putC]
    try simp only [Act.put]
    try simp only [List.setIfInBounds_toArray]
    try simp only [List.set_cons_succ]
    try simp only [List.set_cons_zero]
    refine peelQ 6 (by kernel_rfl) (by kernel_rfl) 82 rfl (fun _ _ _ _ _ h => h) (fun QQ hq hdone => ?_)
    simp only [partOps_lit, partL, shiftO_mk, shiftA, shiftG]
    refine wpAny_of_held (S := (fun W => St22 w n g 4 [arA, arB] W ∧ W.cell? ⟨n, 0, none⟩ = some (.int .i64 0) ∧ W.cell? ⟨n, 1, none⟩ = some (.int .i64 1) ∧ W.cell? ⟨n, 2, none⟩ = some (.int .i64 2) ∧ W.cell? ⟨n, 3, none⟩ = some (.int .i64 5) ∧ W.cell? ⟨n + 1, 0, none⟩ = some (.int .i64 0) ∧ W.cell? ⟨n + 1, 1, none⟩ = some (.int .i64 1) ∧ W.cell? ⟨n + 1, 2, none⟩ = some (.int .i64 3) ∧ W.cell? ⟨n + 1, 3, none⟩ = some (.int .i64 4))) _ _ _ _ ?_
    refine wpAnyH_take (i := 0) (v := ?_) rfl (by kernel_rfl) (by kernel_rfl) (by kernel_rfl) (fun c a w h => hq c a _ _ w h) (Or.inl ⟨by rfl, ?_⟩) (by assumption) ?_
    rotate_left
    · (intro W hSw; (try dsimp only at hSw); go_simp; try (with_reducible rfl))
    try simp only [Act.put]
    try simp only [List.setIfInBounds_toArray]
    try simp only [List.set_cons_succ]
    try simp only [List.set_cons_zero]
    refine wpAnyH_ready (rs := [1]) (by kernel_rfl) (by simp) ?_
    refine AllReadyH.cons rfl (fun K hK => ?_) AllReadyH.nil
    go_simp
    (first
        | (go_at_call 54; refine (hHeld.1.next 0 2 [] (by kernel_rfl)).mono ?_; rintro e w2 ⟨A5, c5, rfl, ho5, hu2⟩; have HI := Lib.hid (Ints.of_own (xs := []) ho5); (try have HL := Lib.hid (HL.out.upd hu2 (fun _ _ => id)))))
    try (go_wp2_with fail)
    refine hK.out _ _ ?_ (fun hHeld => ?_)
    · (first | (with_reducible exact St22.all (hHeld.1.no hu2)) | (with_reducible exact St22.all (hHeld.1.al _)) | (with_reducible exact hHeld))
    clear hK K
    try simp only [Act.put]
    try simp only [List.setIfInBounds_toArray]
    try simp only [List.set_cons_succ]
    try simp only [List.set_cons_zero]
    refine wpAnyH_take (i := 2) (v := ?_) rfl (by kernel_rfl) (by kernel_rfl) (by kernel_rfl) (fun c a w h => hq c a _ _ w h) (Or.inl ⟨by rfl, ?_⟩) (by assumption) ?_
    rotate_left
    · (intro W hSw; (try dsimp only at hSw); go_simp; try (with_reducible rfl))
    try simp only [Act.put]
    try simp only [List.setIfInBounds_toArray]
    try simp only [List.set_cons_succ]
    try simp only [List.set_cons_zero]
    refine wpAnyH_take (i := 3) (v := ?_) rfl (by kernel_rfl) (by kernel_rfl) (by kernel_rfl) (fun c a w h => hq c a _ _ w h) (Or.inl ⟨by rfl, ?_⟩) (by assumption) ?_
    rotate_left
    · (intro W hSw; (try dsimp only at hSw); go_simp; try (with_reducible rfl))
    try simp only [Act.put]
    try simp only [List.setIfInBounds_toArray]
    try simp only [List.set_cons_succ]
    try simp only [List.set_cons_zero]
    refine wpAnyH_take (i := 4) (v := ?_) rfl (by kernel_rfl) (by kernel_rfl) (by kernel_rfl) (fun c a w h => hq c a _ _ w h) (Or.inl ⟨by rfl, ?_⟩) (by assumption) ?_
    rotate_left
    · (intro W hSw; (try dsimp only at hSw); go_simp; try (with_reducible rfl))
    try simp only [Act.put]
    try simp only [List.setIfInBounds_toArray]
    try simp only [List.set_cons_succ]
    try simp only [List.set_cons_zero]
    refine wpAnyH_take (i := 5) (v := ?_) rfl (by kernel_rfl) (by kernel_rfl) (by kernel_rfl) (fun c a w h => hq c a _ _ w h) (Or.inl ⟨by rfl, ?_⟩) (by assumption) ?_
    rotate_left
    · (intro W hSw; (try dsimp only at hSw); go_simp; try (with_reducible rfl))
    try simp only [Act.put]
    try simp only [List.setIfInBounds_toArray]
    try simp only [List.set_cons_succ]
    try simp only [List.set_cons_zero]
    refine wpAnyH_done (by kernel_rfl) (hdone.out _ _ ?_) _
    clear hdone hq QQ
    refine peelQ 8 (by kernel_rfl) (by kernel_rfl) 74 rfl (fun _ _ _ _ _ h => h) (fun QQ hq hdone => ?_)
    simp only [partOps_lit, partL, shiftO_mk, shiftA, shiftG]
    refine wpAny_of_held (S := (fun W => St22 w n g 4 [arA, arB] W ∧ W.cell? ⟨n, 0, none⟩ = some (.int .i64 0) ∧ W.cell? ⟨n, 1, none⟩ = some (.int .i64 1) ∧ W.cell? ⟨n, 2, none⟩ = some (.int .i64 2) ∧ W.cell? ⟨n, 3, none⟩ = some (.int .i64 5) ∧ W.cell? ⟨n + 1, 0, none⟩ = some (.int .i64 0) ∧ W.cell? ⟨n + 1, 1, none⟩ = some (.int .i64 1) ∧ W.cell? ⟨n + 1, 2, none⟩ = some (.int .i64 3) ∧ W.cell? ⟨n + 1, 3, none⟩ = some (.int .i64 4))) _ _ _ _ ?_
    refine peel_join [61, 62, 63, 64, 65, 66] [67, 68] (.bool true) ?_ (fun hrest => ?_)
    · intro vs W hHeld
      refine hdone.out _ _ ?_
      clear hdone hq QQ
      simp only [putS, putC]
      try simp only [Act.put]
      try simp only [List.setIfInBounds_toArray]
      try simp only [List.set_cons_succ]
      try simp only [List.set_cons_zero]
      refine peelQ 6 (by kernel_rfl) (by kernel_rfl) 68 rfl (fun _ _ _ _ _ h => h) (fun QQ hq hdone => ?_)
      simp only [partOps_lit, partL, shiftO_mk, shiftA, shiftG]
      refine wpAny_of_held (S := (fun W => St22 w n g 4 [arA, arB] W ∧ W.cell? ⟨n, 0, none⟩ = some (.int .i64 0) ∧ W.cell? ⟨n, 1, none⟩ = some (.int .i64 1) ∧ W.cell? ⟨n, 2, none⟩ = some (.int .i64 2) ∧ W.cell? ⟨n, 3, none⟩ = some (.int .i64 5) ∧ W.cell? ⟨n + 1, 0, none⟩ = some (.int .i64 0) ∧ W.cell? ⟨n + 1, 1, none⟩ = some (.int .i64 1) ∧ W.cell? ⟨n + 1, 2, none⟩ = some (.int .i64 3) ∧ W.cell? ⟨n + 1, 3, none⟩ = some (.int .i64 4))) _ _ _ _ ?_
      refine wpAnyH_take (i := 0) (v := ?_) rfl (by kernel_rfl) (by kernel_rfl) (by kernel_rfl) (fun c a w h => hq c a _ _ w h) (Or.inl ⟨by rfl, ?_⟩) (by assumption) ?_
      rotate_left
      · (intro W hSw; (try dsimp only at hSw); go_simp; try (with_reducible rfl))
      try simp only [Act.put]
      try simp only [List.setIfInBounds_toArray]
      try simp only [List.set_cons_succ]
      try simp only [List.set_cons_zero]
      refine wpAnyH_ready (rs := [1]) (by kernel_rfl) (by simp) ?_
      refine AllReadyH.cons rfl (fun K hK => ?_) AllReadyH.nil
      go_simp
      (first
          | (go_at_call 52; refine (hHeld.1.out 1 14 [] (by kernel_rfl)).mono ?_; rintro e w2 ⟨A5, c5, rfl, ho5, hu2⟩; have HI := Lib.hid (arcs_own (l := []) ho5); (try have HL := Lib.hid (HL.out.upd hu2 (fun _ _ => id)))))
      try (go_wp2_with fail)
      refine hK.out _ _ ?_ (fun hHeld => ?_)
      · (first | (with_reducible exact St22.all (hHeld.1.no hu2)) | (with_reducible exact St22.all (hHeld.1.al _)) | (with_reducible exact hHeld))
      clear hK K
      try simp only [Act.put]
      try simp only [List.setIfInBounds_toArray]
      try simp only [List.set_cons_succ]
      try simp only [List.set_cons_zero]
      refine wpAnyH_take (i := 2) (v := ?_) rfl (by kernel_rfl) (by kernel_rfl) (by kernel_rfl) (fun c a w h => hq c a _ _ w h) (Or.inl ⟨by rfl, ?_⟩) (by assumption) ?_
      rotate_left
      · (intro W hSw; (try dsimp only at hSw); go_simp; try (with_reducible rfl))
      try simp only [Act.put]
      try simp only [List.setIfInBounds_toArray]
      try simp only [List.set_cons_succ]
      try simp only [List.set_cons_zero]
      refine wpAnyH_take (i := 3) (v := ?_) rfl (by kernel_rfl) (by kernel_rfl) (by kernel_rfl) (fun c a w h => hq c a _ _ w h) (Or.inl ⟨by rfl, ?_⟩) (by assumption) ?_
      rotate_left
      · (intro W hSw; (try dsimp only at hSw); go_simp; try (with_reducible rfl))
      try simp only [Act.put]
      try simp only [List.setIfInBounds_toArray]
      try simp only [List.set_cons_succ]
      try simp only [List.set_cons_zero]
      refine wpAnyH_take (i := 4) (v := ?_) rfl (by kernel_rfl) (by kernel_rfl) (by kernel_rfl) (fun c a w h => hq c a _ _ w h) (Or.inl ⟨by rfl, ?_⟩) (by assumption) ?_
      rotate_left
      · (intro W hSw; (try dsimp only at hSw); go_simp; try (with_reducible rfl))
      try simp only [Act.put]
      try simp only [List.setIfInBounds_toArray]
      try simp only [List.set_cons_succ]
      try simp only [List.set_cons_zero]
      refine wpAnyH_take (i := 5) (v := ?_) rfl (by kernel_rfl) (by kernel_rfl) (by kernel_rfl) (fun c a w h => hq c a _ _ w h) (Or.inl ⟨by rfl, ?_⟩) (by assumption) ?_
      rotate_left
      · (intro W hSw; (try dsimp only at hSw); go_simp; try (with_reducible rfl))
      try simp only [Act.put]
      try simp only [List.setIfInBounds_toArray]
      try simp only [List.set_cons_succ]
      try simp only [List.set_cons_zero]
      refine wpAnyH_done (by kernel_rfl) (hdone.out _ _ ?_) _
      clear hdone hq QQ
      refine peelQ 6 (by kernel_rfl) (by kernel_rfl) 62 rfl (fun _ _ _ _ _ h => h) (fun QQ hq hdone => ?_)
      simp only [partOps_lit, partL, shiftO_mk, shiftA, shiftG]
      refine wpAny_of_held (S := (fun W => St22 w n g 4 [arA, arB] W ∧ W.cell? ⟨n, 0, none⟩ = some (.int .i64 0) ∧ W.cell? ⟨n, 1, none⟩ = some (.int .i64 1) ∧ W.cell? ⟨n, 2, none⟩ = some (.int .i64 2) ∧ W.cell? ⟨n, 3, none⟩ = some (.int .i64 5) ∧ W.cell? ⟨n + 1, 0, none⟩ = some (.int .i64 0) ∧ W.cell? ⟨n + 1, 1, none⟩ = some (.int .i64 1) ∧ W.cell? ⟨n + 1, 2, none⟩ = some (.int .i64 3) ∧ W.cell? ⟨n + 1, 3, none⟩ = some (.int .i64 4))) _ _ _ _ ?_
      refine peel_join [75, 76, 77, 78] [79, 80] (.bool true) ?_ (fun hrest => ?_)
      · intro vs W hHeld
        refine hdone.out _ _ ?_
        clear hdone hq QQ
        simp only [putS, putC]
        try simp only [Act.put]
        try simp only [List.setIfInBounds_toArray]
        try simp only [List.set_cons_succ]
        try simp only [List.set_cons_zero]
        refine peelQ 7 (by kernel_rfl) (by kernel_rfl) 55 rfl (fun _ _ _ _ _ h => h) (fun QQ hq hdone => ?_)
        simp only [partOps_lit, partL, shiftO_mk, shiftA, shiftG]
        refine wpAny_of_held (S := (fun W => St22 w n g 4 [arA, arB] W ∧ W.cell? ⟨n, 0, none⟩ = some (.int .i64 0) ∧ W.cell? ⟨n, 1, none⟩ = some (.int .i64 1) ∧ W.cell? ⟨n, 2, none⟩ = some (.int .i64 2) ∧ W.cell? ⟨n, 3, none⟩ = some (.int .i64 5) ∧ W.cell? ⟨n + 1, 0, none⟩ = some (.int .i64 0) ∧ W.cell? ⟨n + 1, 1, none⟩ = some (.int .i64 1) ∧ W.cell? ⟨n + 1, 2, none⟩ = some (.int .i64 3) ∧ W.cell? ⟨n + 1, 3, none⟩ = some (.int .i64 4))) _ _ _ _ ?_
        refine peel_join [81, 82, 83, 84, 85] [86, 87] (.bool true) ?_ (fun hrest => ?_)
        · intro vs W hHeld
          refine hdone.out _ _ ?_
          clear hdone hq QQ
          simp only [putS, putC]
          try simp only [Act.put]
          try simp only [List.setIfInBounds_toArray]
          try simp only [List.set_cons_succ]
          try simp only [List.set_cons_zero]
          refine peelQ 5 (by kernel_rfl) (by kernel_rfl) 50 rfl (fun _ _ _ _ _ h => h) (fun QQ hq hdone => ?_)
          simp only [partOps_lit, partL, shiftO_mk, shiftA, shiftG]
          refine wpAny_of_held (S := (fun W => St22 w n g 4 [arA, arB] W ∧ W.cell? ⟨n, 0, none⟩ = some (.int .i64 0) ∧ W.cell? ⟨n, 1, none⟩ = some (.int .i64 1) ∧ W.cell? ⟨n, 2, none⟩ = some (.int .i64 2) ∧ W.cell? ⟨n, 3, none⟩ = some (.int .i64 5) ∧ W.cell? ⟨n + 1, 0, none⟩ = some (.int .i64 0) ∧ W.cell? ⟨n + 1, 1, none⟩ = some (.int .i64 1) ∧ W.cell? ⟨n + 1, 2, none⟩ = some (.int .i64 3) ∧ W.cell? ⟨n + 1, 3, none⟩ = some (.int .i64 4))) _ _ _ _ ?_
          refine wpAnyH_take (i := 0) (v := ?_) rfl (by kernel_rfl) (by kernel_rfl) (by kernel_rfl) (fun c a w h => hq c a _ _ w h) (Or.inl ⟨by rfl, ?_⟩) (by assumption) ?_
          rotate_left
          · (intro W hSw; (try dsimp only at hSw); go_simp; try (with_reducible rfl))
          try simp only [Act.put]
          try simp only [List.setIfInBounds_toArray]
          try simp only [List.set_cons_succ]
          try simp only [List.set_cons_zero]
          refine wpAnyH_ready (rs := [1]) (by kernel_rfl) (by simp) ?_
          refine AllReadyH.cons rfl (fun K hK => ?_) AllReadyH.nil
          go_simp
          (first
              | (go_at_call 47; refine hHeld.1.nodes.mono ?_; rintro e w2 ⟨rfl, hu2⟩))
          try (go_wp2_with fail)
          refine hK.out _ _ ?_ (fun hHeld => ?_)
          · (first | (with_reducible exact St22.all (hHeld.1.no hu2)) | (with_reducible exact St22.all (hHeld.1.al _)) | (with_reducible exact hHeld))
          clear hK K
          try simp only [Act.put]
          try simp only [List.setIfInBounds_toArray]
          try simp only [List.set_cons_succ]
          try simp only [List.set_cons_zero]
          refine wpAnyH_take (i := 2) (v := ?_) rfl (by kernel_rfl) (by kernel_rfl) (by kernel_rfl) (fun c a w h => hq c a _ _ w h) (Or.inl ⟨by rfl, ?_⟩) (by assumption) ?_
          rotate_left
          · (intro W hSw; (try dsimp only at hSw); go_simp; try (with_reducible rfl))
          try simp only [Act.put]
          try simp only [List.setIfInBounds_toArray]
          try simp only [List.set_cons_succ]
          try simp only [List.set_cons_zero]
          refine wpAnyH_take (i := 3) (v := ?_) rfl (by kernel_rfl) (by kernel_rfl) (by kernel_rfl) (fun c a w h => hq c a _ _ w h) (Or.inl ⟨by rfl, ?_⟩) (by assumption) ?_
          rotate_left
          · (intro W hSw; (try dsimp only at hSw); go_simp; try (with_reducible rfl))
          try simp only [Act.put]
          try simp only [List.setIfInBounds_toArray]
          try simp only [List.set_cons_succ]
          try simp only [List.set_cons_zero]
          refine wpAnyH_take (i := 4) (v := ?_) rfl (by kernel_rfl) (by kernel_rfl) (by kernel_rfl) (fun c a w h => hq c a _ _ w h) (Or.inl ⟨by rfl, ?_⟩) (by assumption) ?_
          rotate_left
          · (intro W hSw; (try dsimp only at hSw); go_simp; try (with_reducible rfl))
          try simp only [Act.put]
          try simp only [List.setIfInBounds_toArray]
          try simp only [List.set_cons_succ]
          try simp only [List.set_cons_zero]
          refine wpAnyH_done (by kernel_rfl) (hdone.out _ _ ?_) _
          clear hdone hq QQ
          refine peelQ 5 (by kernel_rfl) (by kernel_rfl) 45 rfl (fun _ _ _ _ _ h => h) (fun QQ hq hdone => ?_)
          simp only [partOps_lit, partL, shiftO_mk, shiftA, shiftG]
          refine wpAny_of_held (S := (fun W => St22 w n g 4 [arA, arB] W ∧ W.cell? ⟨n, 0, none⟩ = some (.int .i64 0) ∧ W.cell? ⟨n, 1, none⟩ = some (.int .i64 1) ∧ W.cell? ⟨n, 2, none⟩ = some (.int .i64 2) ∧ W.cell? ⟨n, 3, none⟩ = some (.int .i64 5) ∧ W.cell? ⟨n + 1, 0, none⟩ = some (.int .i64 0) ∧ W.cell? ⟨n + 1, 1, none⟩ = some (.int .i64 1) ∧ W.cell? ⟨n + 1, 2, none⟩ = some (.int .i64 3) ∧ W.cell? ⟨n + 1, 3, none⟩ = some (.int .i64 4))) _ _ _ _ ?_
          refine wpAnyH_take (i := 0) (v := ?_) rfl (by kernel_rfl) (by kernel_rfl) (by kernel_rfl) (fun c a w h => hq c a _ _ w h) (Or.inl ⟨by rfl, ?_⟩) (by assumption) ?_
          rotate_left
          · (intro W hSw; (try dsimp only at hSw); go_simp; try (with_reducible rfl))
          try simp only [Act.put]
          try simp only [List.setIfInBounds_toArray]
          try simp only [List.set_cons_succ]
          try simp only [List.set_cons_zero]
          refine wpAnyH_ready (rs := [1]) (by kernel_rfl) (by simp) ?_
          refine AllReadyH.cons rfl (fun K hK => ?_) AllReadyH.nil
          go_simp
          (first
              | (go_at_call 48; refine (hHeld.1.len 2 (by kernel_rfl)).mono ?_; rintro e w2 ⟨rfl, hu2⟩))
          try (go_wp2_with fail)
          refine hK.out _ _ ?_ (fun hHeld => ?_)
          · (first | (with_reducible exact St22.all (hHeld.1.no hu2)) | (with_reducible exact St22.all (hHeld.1.al _)) | (with_reducible exact hHeld))
          clear hK K
          try simp only [Act.put]
          try simp only [List.setIfInBounds_toArray]
          try simp only [List.set_cons_succ]
          try simp only [List.set_cons_zero]
          refine wpAnyH_take (i := 2) (v := ?_) rfl (by kernel_rfl) (by kernel_rfl) (by kernel_rfl) (fun c a w h => hq c a _ _ w h) (Or.inl ⟨by rfl, ?_⟩) (by assumption) ?_
          rotate_left
          · (intro W hSw; (try dsimp only at hSw); go_simp; try (with_reducible rfl))
          try simp only [Act.put]
          try simp only [List.setIfInBounds_toArray]
          try simp only [List.set_cons_succ]
          try simp only [List.set_cons_zero]
          refine wpAnyH_take (i := 3) (v := ?_) rfl (by kernel_rfl) (by kernel_rfl) (by kernel_rfl) (fun c a w h => hq c a _ _ w h) (Or.inl ⟨by rfl, ?_⟩) (by assumption) ?_
          rotate_left
          · (intro W hSw; (try dsimp only at hSw); go_simp; try (with_reducible rfl))
          try simp only [Act.put]
          try simp only [List.setIfInBounds_toArray]
          try simp only [List.set_cons_succ]
          try simp only [List.set_cons_zero]
          refine wpAnyH_take (i := 4) (v := ?_) rfl (by kernel_rfl) (by kernel_rfl) (by kernel_rfl) (fun c a w h => hq c a _ _ w h) (Or.inl ⟨by rfl, ?_⟩) (by assumption) ?_
          rotate_left
          · (intro W hSw; (try dsimp only at hSw); go_simp; try (with_reducible rfl))
          try simp only [Act.put]
          try simp only [List.setIfInBounds_toArray]
          try simp only [List.set_cons_succ]
          try simp only [List.set_cons_zero]
          refine wpAnyH_done (by kernel_rfl) (hdone.out _ _ ?_) _
          clear hdone hq QQ
          refine peelQ 5 (by kernel_rfl) (by kernel_rfl) 40 rfl (fun _ _ _ _ _ h => h) (fun QQ hq hdone => ?_)
          simp only [partOps_lit, partL, shiftO_mk, shiftA, shiftG]
          refine wpAny_of_held (S := (fun W => St22 w n g 4 [arA, arB] W ∧ W.cell? ⟨n, 0, none⟩ = some (.int .i64 0) ∧ W.cell? ⟨n, 1, none⟩ = some (.int .i64 1) ∧ W.cell? ⟨n, 2, none⟩ = some (.int .i64 2) ∧ W.cell? ⟨n, 3, none⟩ = some (.int .i64 5) ∧ W.cell? ⟨n + 1, 0, none⟩ = some (.int .i64 0) ∧ W.cell? ⟨n + 1, 1, none⟩ = some (.int .i64 1) ∧ W.cell? ⟨n + 1, 2, none⟩ = some (.int .i64 3) ∧ W.cell? ⟨n + 1, 3, none⟩ = some (.int .i64 4))) _ _ _ _ ?_
          refine wpAnyH_take (i := 0) (v := ?_) rfl (by kernel_rfl) (by kernel_rfl) (by kernel_rfl) (fun c a w h => hq c a _ _ w h) (Or.inl ⟨by rfl, ?_⟩) (by assumption) ?_
          rotate_left
          · (intro W hSw; (try dsimp only at hSw); go_simp; try (with_reducible rfl))
          try simp only [Act.put]
          try simp only [List.setIfInBounds_toArray]
          try simp only [List.set_cons_succ]
          try simp only [List.set_cons_zero]
          refine wpAnyH_take (i := 1) (v := ?_) rfl (by kernel_rfl) (by kernel_rfl) (by kernel_rfl) (fun c a w h => hq c a _ _ w h) (Or.inl ⟨by rfl, ?_⟩) (by assumption) ?_
          rotate_left
          · (intro W hSw; (try dsimp only at hSw); go_simp; try (with_reducible rfl))
          try simp only [Act.put]
          try simp only [List.setIfInBounds_toArray]
          try simp only [List.set_cons_succ]
          try simp only [List.set_cons_zero]
          refine wpAnyH_ready (rs := [2]) (by kernel_rfl) (by simp) ?_
          refine AllReadyH.cons rfl (fun K hK => ?_) AllReadyH.nil
          go_simp
          (first
              | (go_at_call 49; refine (hHeld.1.has arA true (by kernel_rfl)).mono ?_; rintro e w2 ⟨rfl, hu2⟩))
          try (go_wp2_with fail)
          refine hK.out _ _ ?_ (fun hHeld => ?_)
          · (first | (with_reducible exact St22.all (hHeld.1.no hu2)) | (with_reducible exact St22.all (hHeld.1.al _)) | (with_reducible exact hHeld))
          clear hK K
          try simp only [Act.put]
          try simp only [List.setIfInBounds_toArray]
          try simp only [List.set_cons_succ]
          try simp only [List.set_cons_zero]
          refine wpAnyH_take (i := 3) (v := ?_) rfl (by kernel_rfl) (by kernel_rfl) (by kernel_rfl) (fun c a w h => hq c a _ _ w h) (Or.inl ⟨by rfl, ?_⟩) (by assumption) ?_
          rotate_left
          · (intro W hSw; (try dsimp only at hSw); go_simp; try (with_reducible rfl))
          try simp only [Act.put]
          try simp only [List.setIfInBounds_toArray]
          try simp only [List.set_cons_succ]
          try simp only [List.set_cons_zero]
          refine wpAnyH_take (i := 4) (v := ?_) rfl (by kernel_rfl) (by kernel_rfl) (by kernel_rfl) (fun c a w h => hq c a _ _ w h) (Or.inl ⟨by rfl, ?_⟩) (by assumption) ?_
          rotate_left
          · (intro W hSw; (try dsimp only at hSw); go_simp; try (with_reducible rfl))
          try simp only [Act.put]
          try simp only [List.setIfInBounds_toArray]
          try simp only [List.set_cons_succ]
          try simp only [List.set_cons_zero]
          refine wpAnyH_done (by kernel_rfl) (hdone.out _ _ ?_) _
          clear hdone hq QQ
          refine peelQ 6 (by kernel_rfl) (by kernel_rfl) 34 rfl (fun _ _ _ _ _ h => h) (fun QQ hq hdone => ?_)
          simp only [partOps_lit, partL, shiftO_mk, shiftA, shiftG]
          have HS := Lib.hid hHeld.1
          have hHeld := And.intro (show ∃ K q, St22 w n g K q _ from Exists.intro _ (Exists.intro _ hHeld.1)) hHeld.2
          refine wpAny_of_held (S := (fun W => (∃ K q, St22 w n g K q W) ∧ W.cell? ⟨n, 0, none⟩ = some (.int .i64 0) ∧ W.cell? ⟨n, 1, none⟩ = some (.int .i64 1) ∧ W.cell? ⟨n, 2, none⟩ = some (.int .i64 2) ∧ W.cell? ⟨n, 3, none⟩ = some (.int .i64 5) ∧ W.cell? ⟨n + 1, 0, none⟩ = some (.int .i64 0) ∧ W.cell? ⟨n + 1, 1, none⟩ = some (.int .i64 1) ∧ W.cell? ⟨n + 1, 2, none⟩ = some (.int .i64 3) ∧ W.cell? ⟨n + 1, 3, none⟩ = some (.int .i64 4))) _ _ _ _ ?_
          refine wpAnyH_take (i := 0) (v := ?_) rfl (by kernel_rfl) (by kernel_rfl) (by kernel_rfl) (fun c a w h => hq c a _ _ w h) (Or.inl ⟨by rfl, ?_⟩) (by assumption) ?_
          rotate_left
          · (intro W hSw; (try dsimp only at hSw); go_simp; try (with_reducible rfl))
          try simp only [Act.put]
          try simp only [List.setIfInBounds_toArray]
          try simp only [List.set_cons_succ]
          try simp only [List.set_cons_zero]
          refine wpAnyH_take (i := 1) (v := ?_) rfl (by kernel_rfl) (by kernel_rfl) (by kernel_rfl) (fun c a w h => hq c a _ _ w h) (Or.inl ⟨by rfl, ?_⟩) (by assumption) ?_
          rotate_left
          · (intro W hSw; (try dsimp only at hSw); go_simp; try (with_reducible rfl))
          try simp only [Act.put]
          try simp only [List.setIfInBounds_toArray]
          try simp only [List.set_cons_succ]
          try simp only [List.set_cons_zero]
          refine wpAnyH_ready (rs := [2]) (by kernel_rfl) (by simp) ?_
          refine AllReadyH.cons rfl (fun K hK => ?_) AllReadyH.nil
          go_simp
          (first
              | (go_at_call 45; refine (HS.out.drop (by decide) arA [arB] 0 (by kernel_rfl) (by kernel_rfl)).mono ?_; rintro e w2 ⟨rfl, hs2⟩))
          try (go_wp2_with fail)
          refine hK.out _ _ ?_ (fun hHeld => ?_)
          · exact ⟨⟨_, _, hs2⟩, hs2.cel⟩
          clear hK K
          try simp only [Act.put]
          try simp only [List.setIfInBounds_toArray]
          try simp only [List.set_cons_succ]
          try simp only [List.set_cons_zero]
          refine wpAnyH_take (i := 3) (v := ?_) rfl (by kernel_rfl) (by kernel_rfl) (by kernel_rfl) (fun c a w h => hq c a _ _ w h) (Or.inl ⟨by rfl, ?_⟩) (by assumption) ?_
          rotate_left
          · (intro W hSw; (try dsimp only at hSw); go_simp; try (with_reducible rfl))
          try simp only [Act.put]
          try simp only [List.setIfInBounds_toArray]
          try simp only [List.set_cons_succ]
          try simp only [List.set_cons_zero]
          refine wpAnyH_take (i := 4) (v := ?_) rfl (by kernel_rfl) (by kernel_rfl) (by kernel_rfl) (fun c a w h => hq c a _ _ w h) (Or.inl ⟨by rfl, ?_⟩) (by assumption) ?_
          rotate_left
          · (intro W hSw; (try dsimp only at hSw); go_simp; try (with_reducible rfl))
          try simp only [Act.put]
          try simp only [List.setIfInBounds_toArray]
          try simp only [List.set_cons_succ]
          try simp only [List.set_cons_zero]
          refine wpAnyH_take (i := 5) (v := ?_) rfl (by kernel_rfl) (by kernel_rfl) (by kernel_rfl) (fun c a w h => hq c a _ _ w h) (Or.inl ⟨by rfl, ?_⟩) (by assumption) ?_
          rotate_left
          · (intro W hSw; (try dsimp only at hSw); go_simp; try (with_reducible rfl))
          try simp only [Act.put]
          try simp only [List.setIfInBounds_toArray]
          try simp only [List.set_cons_succ]
          try simp only [List.set_cons_zero]
          refine wpAnyH_done (by kernel_rfl) (hdone.out _ _ ?_) _
          clear hdone hq QQ
          refine peelQ 6 (by kernel_rfl) (by kernel_rfl) 28 rfl (fun _ _ _ _ _ h => h) (fun QQ hq hdone => ?_)
          simp only [partOps_lit, partL, shiftO_mk, shiftA, shiftG]
          have hHeld : St22 w n g 4 [arB] w2 ∧ w2.cell? ⟨n, 0, none⟩ = some (.int .i64 0) ∧ w2.cell? ⟨n, 1, none⟩ = some (.int .i64 1) ∧ w2.cell? ⟨n, 2, none⟩ = some (.int .i64 2) ∧ w2.cell? ⟨n, 3, none⟩ = some (.int .i64 5) ∧ w2.cell? ⟨n + 1, 0, none⟩ = some (.int .i64 0) ∧ w2.cell? ⟨n + 1, 1, none⟩ = some (.int .i64 1) ∧ w2.cell? ⟨n + 1, 2, none⟩ = some (.int .i64 3) ∧ w2.cell? ⟨n + 1, 3, none⟩ = some (.int .i64 4) := ⟨hs2, hs2.cel⟩
          refine wpAny_of_held (S := (fun W => St22 w n g 4 [arB] W ∧ W.cell? ⟨n, 0, none⟩ = some (.int .i64 0) ∧ W.cell? ⟨n, 1, none⟩ = some (.int .i64 1) ∧ W.cell? ⟨n, 2, none⟩ = some (.int .i64 2) ∧ W.cell? ⟨n, 3, none⟩ = some (.int .i64 5) ∧ W.cell? ⟨n + 1, 0, none⟩ = some (.int .i64 0) ∧ W.cell? ⟨n + 1, 1, none⟩ = some (.int .i64 1) ∧ W.cell? ⟨n + 1, 2, none⟩ = some (.int .i64 3) ∧ W.cell? ⟨n + 1, 3, none⟩ = some (.int .i64 4))) _ _ _ _ ?_
          refine wpAnyH_take (i := 0) (v := ?_) rfl (by kernel_rfl) (by kernel_rfl) (by kernel_rfl) (fun c a w h => hq c a _ _ w h) (Or.inl ⟨by rfl, ?_⟩) (by assumption) ?_
          rotate_left
          · (intro W hSw; (try dsimp only at hSw); go_simp; try (with_reducible rfl))
          try simp only [Act.put]
          try simp only [List.setIfInBounds_toArray]
          try simp only [List.set_cons_succ]
          try simp only [List.set_cons_zero]
          refine wpAnyH_take (i := 1) (v := ?_) rfl (by kernel_rfl) (by kernel_rfl) (by kernel_rfl) (fun c a w h => hq c a _ _ w h) (Or.inl ⟨by rfl, ?_⟩) (by assumption) ?_
          rotate_left
          · (intro W hSw; (try dsimp only at hSw); go_simp; try (with_reducible rfl))
          try simp only [Act.put]
          try simp only [List.setIfInBounds_toArray]
          try simp only [List.set_cons_succ]
          try simp only [List.set_cons_zero]
          refine wpAnyH_ready (rs := [2]) (by kernel_rfl) (by simp) ?_
          refine AllReadyH.cons rfl (fun K hK => ?_) AllReadyH.nil
          go_simp
          (first
              | (go_at_call 49; refine (hHeld.1.has arA false (by kernel_rfl)).mono ?_; rintro e w2 ⟨rfl, hu2⟩))
          try (go_wp2_with fail)
          refine hK.out _ _ ?_ (fun hHeld => ?_)
          · (first | (with_reducible exact St22.all (hHeld.1.no hu2)) | (with_reducible exact St22.all (hHeld.1.al _)) | (with_reducible exact hHeld))
          clear hK K
          try simp only [Act.put]
          try simp only [List.setIfInBounds_toArray]
          try simp only [List.set_cons_succ]
          try simp only [List.set_cons_zero]
          refine wpAnyH_take (i := 3) (v := ?_) rfl (by kernel_rfl) (by kernel_rfl) (by kernel_rfl) (fun c a w h => hq c a _ _ w h) (Or.inl ⟨by rfl, ?_⟩) (by assumption) ?_
          rotate_left
          · (intro W hSw; (try dsimp only at hSw); go_simp; try (with_reducible rfl))
          try simp only [Act.put]
          try simp only [List.setIfInBounds_toArray]
          try simp only [List.set_cons_succ]
          try simp only [List.set_cons_zero]
          refine wpAnyH_take (i := 4) (v := ?_) rfl (by kernel_rfl) (by kernel_rfl) (by kernel_rfl) (fun c a w h => hq c a _ _ w h) (Or.inl ⟨by rfl, ?_⟩) (by assumption) ?_
          rotate_left
          · (intro W hSw; (try dsimp only at hSw); go_simp; try (with_reducible rfl))
          try simp only [Act.put]
          try simp only [List.setIfInBounds_toArray]
          try simp only [List.set_cons_succ]
          try simp only [List.set_cons_zero]
          refine wpAnyH_take (i := 5) (v := ?_) rfl (by kernel_rfl) (by kernel_rfl) (by kernel_rfl) (fun c a w h => hq c a _ _ w h) (Or.inl ⟨by rfl, ?_⟩) (by assumption) ?_
          rotate_left
          · (intro W hSw; (try dsimp only at hSw); go_simp; try (with_reducible rfl))
          try simp only [Act.put]
          try simp only [List.setIfInBounds_toArray]
          try simp only [List.set_cons_succ]
          try simp only [List.set_cons_zero]
          refine wpAnyH_done (by kernel_rfl) (hdone.out _ _ ?_) _
          clear hdone hq QQ
          refine peelQ 5 (by kernel_rfl) (by kernel_rfl) 23 rfl (fun _ _ _ _ _ h => h) (fun QQ hq hdone => ?_)
          simp only [partOps_lit, partL, shiftO_mk, shiftA, shiftG]
          refine wpAny_of_held (S := (fun W => St22 w n g 4 [arB] W ∧ W.cell? ⟨n, 0, none⟩ = some (.int .i64 0) ∧ W.cell? ⟨n, 1, none⟩ = some (.int .i64 1) ∧ W.cell? ⟨n, 2, none⟩ = some (.int .i64 2) ∧ W.cell? ⟨n, 3, none⟩ = some (.int .i64 5) ∧ W.cell? ⟨n + 1, 0, none⟩ = some (.int .i64 0) ∧ W.cell? ⟨n + 1, 1, none⟩ = some (.int .i64 1) ∧ W.cell? ⟨n + 1, 2, none⟩ = some (.int .i64 3) ∧ W.cell? ⟨n + 1, 3, none⟩ = some (.int .i64 4))) _ _ _ _ ?_
          refine wpAnyH_take (i := 0) (v := ?_) rfl (by kernel_rfl) (by kernel_rfl) (by kernel_rfl) (fun c a w h => hq c a _ _ w h) (Or.inl ⟨by rfl, ?_⟩) (by assumption) ?_
          rotate_left
          · (intro W hSw; (try dsimp only at hSw); go_simp; try (with_reducible rfl))
          try simp only [Act.put]
          try simp only [List.setIfInBounds_toArray]
          try simp only [List.set_cons_succ]
          try simp only [List.set_cons_zero]
          refine wpAnyH_ready (rs := [1]) (by kernel_rfl) (by simp) ?_
          refine AllReadyH.cons rfl (fun K hK => ?_) AllReadyH.nil
          go_simp
          (first
              | (go_at_call 48; refine (hHeld.1.len 1 (by kernel_rfl)).mono ?_; rintro e w2 ⟨rfl, hu2⟩))
          try (go_wp2_with fail)
          refine hK.out _ _ ?_ (fun hHeld => ?_)
          · (first | (with_reducible exact St22.all (hHeld.1.no hu2)) | (with_reducible exact St22.all (hHeld.1.al _)) | (with_reducible exact hHeld))
          clear hK K
          try simp only [Act.put]
          try simp only [List.setIfInBounds_toArray]
          try simp only [List.set_cons_succ]
          try simp only [List.set_cons_zero]
          refine wpAnyH_take (i := 2) (v := ?_) rfl (by kernel_rfl) (by kernel_rfl) (by kernel_rfl) (fun c a w h => hq c a _ _ w h) (Or.inl ⟨by rfl, ?_⟩) (by assumption) ?_
          rotate_left
          · (intro W hSw; (try dsimp only at hSw); go_simp; try (with_reducible rfl))
          try simp only [Act.put]
          try simp only [List.setIfInBounds_toArray]
          try simp only [List.set_cons_succ]
          try simp only [List.set_cons_zero]
          refine wpAnyH_take (i := 3) (v := ?_) rfl (by kernel_rfl) (by kernel_rfl) (by kernel_rfl) (fun c a w h => hq c a _ _ w h) (Or.inl ⟨by rfl, ?_⟩) (by assumption) ?_
          rotate_left
          · (intro W hSw; (try dsimp only at hSw); go_simp; try (with_reducible rfl))
          try simp only [Act.put]
          try simp only [List.setIfInBounds_toArray]
          try simp only [List.set_cons_succ]
          try simp only [List.set_cons_zero]
          refine wpAnyH_take (i := 4) (v := ?_) rfl (by kernel_rfl) (by kernel_rfl) (by kernel_rfl) (fun c a w h => hq c a _ _ w h) (Or.inl ⟨by rfl, ?_⟩) (by assumption) ?_
          rotate_left
          · (intro W hSw; (try dsimp only at hSw); go_simp; try (with_reducible rfl))
          try simp only [Act.put]
          try simp only [List.setIfInBounds_toArray]
          try simp only [List.set_cons_succ]
          try simp only [List.set_cons_zero]
          refine wpAnyH_done (by kernel_rfl) (hdone.out _ _ ?_) _
          clear hdone hq QQ
          refine peelQ 6 (by kernel_rfl) (by kernel_rfl) 17 rfl (fun _ _ _ _ _ h => h) (fun QQ hq hdone => ?_)
          simp only [partOps_lit, partL, shiftO_mk, shiftA, shiftG]
          refine wpAny_of_held (S := (fun W => St22 w n g 4 [arB] W ∧ W.cell? ⟨n, 0, none⟩ = some (.int .i64 0) ∧ W.cell? ⟨n, 1, none⟩ = some (.int .i64 1) ∧ W.cell? ⟨n, 2, none⟩ = some (.int .i64 2) ∧ W.cell? ⟨n, 3, none⟩ = some (.int .i64 5) ∧ W.cell? ⟨n + 1, 0, none⟩ = some (.int .i64 0) ∧ W.cell? ⟨n + 1, 1, none⟩ = some (.int .i64 1) ∧ W.cell? ⟨n + 1, 2, none⟩ = some (.int .i64 3) ∧ W.cell? ⟨n + 1, 3, none⟩ = some (.int .i64 4))) _ _ _ _ ?_
          refine wpAnyH_take (i := 0) (v := ?_) rfl (by kernel_rfl) (by kernel_rfl) (by kernel_rfl) (fun c a w h => hq c a _ _ w h) (Or.inl ⟨by rfl, ?_⟩) (by assumption) ?_
          rotate_left
          · (intro W hSw; (try dsimp only at hSw); go_simp; try (with_reducible rfl))
          try simp only [Act.put]
          try simp only [List.setIfInBounds_toArray]
          try simp only [List.set_cons_succ]
          try simp only [List.set_cons_zero]
          refine wpAnyH_take (i := 1) (v := ?_) rfl (by kernel_rfl) (by kernel_rfl) (by kernel_rfl) (fun c a w h => hq c a _ _ w h) (Or.inl ⟨by rfl, ?_⟩) (by assumption) ?_
          rotate_left
          · (intro W hSw; (try dsimp only at hSw); go_simp; try (with_reducible rfl))
          try simp only [Act.put]
          try simp only [List.setIfInBounds_toArray]
          try simp only [List.set_cons_succ]
          try simp only [List.set_cons_zero]
          refine wpAnyH_ready (rs := [2]) (by kernel_rfl) (by simp) ?_
          refine AllReadyH.cons rfl (fun K hK => ?_) AllReadyH.nil
          go_simp
          (first
              | (go_at_call 43; refine (dadd0 _ arA).mono ?_; rintro e w2 ⟨rfl, hu2⟩))
          try (go_wp2_with fail)
          refine hK.out _ _ ?_ (fun hHeld => ?_)
          · (first | (with_reducible exact St22.all (hHeld.1.no hu2)) | (with_reducible exact St22.all (hHeld.1.al _)) | (with_reducible exact hHeld))
          clear hK K
          try simp only [Act.put]
          try simp only [List.setIfInBounds_toArray]
          try simp only [List.set_cons_succ]
          try simp only [List.set_cons_zero]
          refine wpAnyH_take (i := 3) (v := ?_) rfl (by kernel_rfl) (by kernel_rfl) (by kernel_rfl) (fun c a w h => hq c a _ _ w h) (Or.inl ⟨by rfl, ?_⟩) (by assumption) ?_
          rotate_left
          · (intro W hSw; (try dsimp only at hSw); go_simp; try (with_reducible rfl))
          try simp only [Act.put]
          try simp only [List.setIfInBounds_toArray]
          try simp only [List.set_cons_succ]
          try simp only [List.set_cons_zero]
          refine wpAnyH_take (i := 4) (v := ?_) rfl (by kernel_rfl) (by kernel_rfl) (by kernel_rfl) (fun c a w h => hq c a _ _ w h) (Or.inl ⟨by rfl, ?_⟩) (by assumption) ?_
          rotate_left
          · (intro W hSw; (try dsimp only at hSw); go_simp; try (with_reducible rfl))
          try simp only [Act.put]
          try simp only [List.setIfInBounds_toArray]
          try simp only [List.set_cons_succ]
          try simp only [List.set_cons_zero]
          refine wpAnyH_take (i := 5) (v := ?_) rfl (by kernel_rfl) (by kernel_rfl) (by kernel_rfl) (fun c a w h => hq c a _ _ w h) (Or.inl ⟨by rfl, ?_⟩) (by assumption) ?_
          rotate_left
          · (intro W hSw; (try dsimp only at hSw); go_simp; try (with_reducible rfl))
          try simp only [Act.put]
          try simp only [List.setIfInBounds_toArray]
          try simp only [List.set_cons_succ]
          try simp only [List.set_cons_zero]
          refine wpAnyH_done (by kernel_rfl) (hdone.out _ _ ?_) _
          clear hdone hq QQ
          refine peelQ 5 (by kernel_rfl) (by kernel_rfl) 12 rfl (fun _ _ _ _ _ h => h) (fun QQ hq hdone => ?_)
          simp only [partOps_lit, partL, shiftO_mk, shiftA, shiftG]
          refine wpAny_of_held (S := (fun W => St22 w n g 4 [arB] W ∧ W.cell? ⟨n, 0, none⟩ = some (.int .i64 0) ∧ W.cell? ⟨n, 1, none⟩ = some (.int .i64 1) ∧ W.cell? ⟨n, 2, none⟩ = some (.int .i64 2) ∧ W.cell? ⟨n, 3, none⟩ = some (.int .i64 5) ∧ W.cell? ⟨n + 1, 0, none⟩ = some (.int .i64 0) ∧ W.cell? ⟨n + 1, 1, none⟩ = some (.int .i64 1) ∧ W.cell? ⟨n + 1, 2, none⟩ = some (.int .i64 3) ∧ W.cell? ⟨n + 1, 3, none⟩ = some (.int .i64 4))) _ _ _ _ ?_
          refine wpAnyH_take (i := 0) (v := ?_) rfl (by kernel_rfl) (by kernel_rfl) (by kernel_rfl) (fun c a w h => hq c a _ _ w h) (Or.inl ⟨by rfl, ?_⟩) (by assumption) ?_
          rotate_left
          · (intro W hSw; (try dsimp only at hSw); go_simp; try (with_reducible rfl))
          try simp only [Act.put]
          try simp only [List.setIfInBounds_toArray]
          try simp only [List.set_cons_succ]
          try simp only [List.set_cons_zero]
          refine wpAnyH_ready (rs := [1]) (by kernel_rfl) (by simp) ?_
          refine AllReadyH.cons rfl (fun K hK => ?_) AllReadyH.nil
          go_simp
          (first
              | (go_at_call 47; refine (dgnodesV (DG.nil _ (fun _ => False)) 0 rfl).mono ?_; rintro e w2 ⟨rfl, hu2⟩))
          try (go_wp2_with fail)
          refine hK.out _ _ ?_ (fun hHeld => ?_)
          · (first | (with_reducible exact St22.all (hHeld.1.no hu2)) | (with_reducible exact St22.all (hHeld.1.al _)) | (with_reducible exact hHeld))
          clear hK K
          try simp only [Act.put]
          try simp only [List.setIfInBounds_toArray]
          try simp only [List.set_cons_succ]
          try simp only [List.set_cons_zero]
          refine wpAnyH_take (i := 2) (v := ?_) rfl (by kernel_rfl) (by kernel_rfl) (by kernel_rfl) (fun c a w h => hq c a _ _ w h) (Or.inl ⟨by rfl, ?_⟩) (by assumption) ?_
          rotate_left
          · (intro W hSw; (try dsimp only at hSw); go_simp; try (with_reducible rfl))
          try simp only [Act.put]
          try simp only [List.setIfInBounds_toArray]
          try simp only [List.set_cons_succ]
          try simp only [List.set_cons_zero]
          refine wpAnyH_take (i := 3) (v := ?_) rfl (by kernel_rfl) (by kernel_rfl) (by kernel_rfl) (fun c a w h => hq c a _ _ w h) (Or.inl ⟨by rfl, ?_⟩) (by assumption) ?_
          rotate_left
          · (intro W hSw; (try dsimp only at hSw); go_simp; try (with_reducible rfl))
          try simp only [Act.put]
          try simp only [List.setIfInBounds_toArray]
          try simp only [List.set_cons_succ]
          try simp only [List.set_cons_zero]
          refine wpAnyH_take (i := 4) (v := ?_) rfl (by kernel_rfl) (by kernel_rfl) (by kernel_rfl) (fun c a w h => hq c a _ _ w h) (Or.inl ⟨by rfl, ?_⟩) (by assumption) ?_
          rotate_left
          · (intro W hSw; (try dsimp only at hSw); go_simp; try (with_reducible rfl))
          try simp only [Act.put]
          try simp only [List.setIfInBounds_toArray]
          try simp only [List.set_cons_succ]
          try simp only [List.set_cons_zero]
          refine wpAnyH_done (by kernel_rfl) (hdone.out _ _ ?_) _
          clear hdone hq QQ
          refine peelQ 6 (by kernel_rfl) (by kernel_rfl) 6 rfl (fun _ _ _ _ _ h => h) (fun QQ hq hdone => ?_)
          simp only [partOps_lit, partL, shiftO_mk, shiftA, shiftG]
          refine wpAny_of_held (S := (fun W => St22 w n g 4 [arB] W ∧ W.cell? ⟨n, 0, none⟩ = some (.int .i64 0) ∧ W.cell? ⟨n, 1, none⟩ = some (.int .i64 1) ∧ W.cell? ⟨n, 2, none⟩ = some (.int .i64 2) ∧ W.cell? ⟨n, 3, none⟩ = some (.int .i64 5) ∧ W.cell? ⟨n + 1, 0, none⟩ = some (.int .i64 0) ∧ W.cell? ⟨n + 1, 1, none⟩ = some (.int .i64 1) ∧ W.cell? ⟨n + 1, 2, none⟩ = some (.int .i64 3) ∧ W.cell? ⟨n + 1, 3, none⟩ = some (.int .i64 4))) _ _ _ _ ?_
          refine wpAnyH_take (i := 0) (v := ?_) rfl (by kernel_rfl) (by kernel_rfl) (by kernel_rfl) (fun c a w h => hq c a _ _ w h) (Or.inl ⟨by rfl, ?_⟩) (by assumption) ?_
          rotate_left
          · (intro W hSw; (try dsimp only at hSw); go_simp; try (with_reducible rfl))
          try simp only [Act.put]
          try simp only [List.setIfInBounds_toArray]
          try simp only [List.set_cons_succ]
          try simp only [List.set_cons_zero]
          refine wpAnyH_ready (rs := [1]) (by kernel_rfl) (by simp) ?_
          refine AllReadyH.cons rfl (fun K hK => ?_) AllReadyH.nil
          go_simp
          (first
              | (go_at_call 54; refine (dnext0 _ 0 14).mono ?_; rintro e w2 ⟨A5, c5, rfl, ho5, hu2⟩))
          try (go_wp2_with fail)
          refine hK.out _ _ ?_ (fun hHeld => ?_)
          · (first | (with_reducible exact St22.all (hHeld.1.no hu2)) | (with_reducible exact St22.all (hHeld.1.al _)) | (with_reducible exact hHeld))
          clear hK K
          try simp only [Act.put]
          try simp only [List.setIfInBounds_toArray]
          try simp only [List.set_cons_succ]
          try simp only [List.set_cons_zero]
          refine wpAnyH_take (i := 2) (v := ?_) rfl (by kernel_rfl) (by kernel_rfl) (by kernel_rfl) (fun c a w h => hq c a _ _ w h) (Or.inl ⟨by rfl, ?_⟩) (by assumption) ?_
          rotate_left
          · (intro W hSw; (try dsimp only at hSw); go_simp; try (with_reducible rfl))
          try simp only [Act.put]
          try simp only [List.setIfInBounds_toArray]
          try simp only [List.set_cons_succ]
          try simp only [List.set_cons_zero]
          refine wpAnyH_take (i := 3) (v := ?_) rfl (by kernel_rfl) (by kernel_rfl) (by kernel_rfl) (fun c a w h => hq c a _ _ w h) (Or.inl ⟨by rfl, ?_⟩) (by assumption) ?_
          rotate_left
          · (intro W hSw; (try dsimp only at hSw); go_simp; try (with_reducible rfl))
          try simp only [Act.put]
          try simp only [List.setIfInBounds_toArray]
          try simp only [List.set_cons_succ]
          try simp only [List.set_cons_zero]
          refine wpAnyH_take (i := 4) (v := ?_) rfl (by kernel_rfl) (by kernel_rfl) (by kernel_rfl) (fun c a w h => hq c a _ _ w h) (Or.inl ⟨by rfl, ?_⟩) (by assumption) ?_
          rotate_left
          · (intro W hSw; (try dsimp only at hSw); go_simp; try (with_reducible rfl))
          try simp only [Act.put]
          try simp only [List.setIfInBounds_toArray]
          try simp only [List.set_cons_succ]
          try simp only [List.set_cons_zero]
          refine wpAnyH_take (i := 5) (v := ?_) rfl (by kernel_rfl) (by kernel_rfl) (by kernel_rfl) (fun c a w h => hq c a _ _ w h) (Or.inl ⟨by rfl, ?_⟩) (by assumption) ?_
          rotate_left
          · (intro W hSw; (try dsimp only at hSw); go_simp; try (with_reducible rfl))
          try simp only [Act.put]
          try simp only [List.setIfInBounds_toArray]
          try simp only [List.set_cons_succ]
          try simp only [List.set_cons_zero]
          refine wpAnyH_done (by kernel_rfl) (hdone.out _ _ ?_) _
          clear hdone hq QQ
          refine peelQ 6 (by kernel_rfl) (by kernel_rfl) 0 rfl (fun _ _ _ _ _ h => h) (fun QQ hq hdone => ?_)
          simp only [partOps_lit, partL, shiftO_mk, shiftA, shiftG]
          refine wpAny_of_held (S := (fun W => St22 w n g 4 [arB] W ∧ W.cell? ⟨n, 0, none⟩ = some (.int .i64 0) ∧ W.cell? ⟨n, 1, none⟩ = some (.int .i64 1) ∧ W.cell? ⟨n, 2, none⟩ = some (.int .i64 2) ∧ W.cell? ⟨n, 3, none⟩ = some (.int .i64 5) ∧ W.cell? ⟨n + 1, 0, none⟩ = some (.int .i64 0) ∧ W.cell? ⟨n + 1, 1, none⟩ = some (.int .i64 1) ∧ W.cell? ⟨n + 1, 2, none⟩ = some (.int .i64 3) ∧ W.cell? ⟨n + 1, 3, none⟩ = some (.int .i64 4))) _ _ _ _ ?_
          refine wpAnyH_take (i := 0) (v := ?_) rfl (by kernel_rfl) (by kernel_rfl) (by kernel_rfl) (fun c a w h => hq c a _ _ w h) (Or.inl ⟨by rfl, ?_⟩) (by assumption) ?_
          rotate_left
          · (intro W hSw; (try dsimp only at hSw); go_simp; try (with_reducible rfl))
          try simp only [Act.put]
          try simp only [List.setIfInBounds_toArray]
          try simp only [List.set_cons_succ]
          try simp only [List.set_cons_zero]
          refine wpAnyH_take (i := 1) (v := ?_) rfl (by kernel_rfl) (by kernel_rfl) (by kernel_rfl) (fun c a w h => hq c a _ _ w h) (Or.inl ⟨by rfl, ?_⟩) (by assumption) ?_
          rotate_left
          · (intro W hSw; (try dsimp only at hSw); go_simp; try (with_reducible rfl))
          try simp only [Act.put]
          try simp only [List.setIfInBounds_toArray]
          try simp only [List.set_cons_succ]
          try simp only [List.set_cons_zero]
          refine wpAnyH_ready (rs := [2]) (by kernel_rfl) (by simp) ?_
          refine AllReadyH.cons rfl (fun K hK => ?_) AllReadyH.nil
          go_simp
          (first
              | (go_at_call 45; refine (ddrop0 _ arA).mono ?_; rintro e w2 ⟨rfl, hu2⟩))
          try (go_wp2_with fail)
          refine hK.out _ _ ?_ (fun hHeld => ?_)
          · (first | (with_reducible exact St22.all (hHeld.1.no hu2)) | (with_reducible exact St22.all (hHeld.1.al _)) | (with_reducible exact hHeld))
          clear hK K
          try simp only [Act.put]
          try simp only [List.setIfInBounds_toArray]
          try simp only [List.set_cons_succ]
          try simp only [List.set_cons_zero]
          refine wpAnyH_take (i := 3) (v := ?_) rfl (by kernel_rfl) (by kernel_rfl) (by kernel_rfl) (fun c a w h => hq c a _ _ w h) (Or.inl ⟨by rfl, ?_⟩) (by assumption) ?_
          rotate_left
          · (intro W hSw; (try dsimp only at hSw); go_simp; try (with_reducible rfl))
          try simp only [Act.put]
          try simp only [List.setIfInBounds_toArray]
          try simp only [List.set_cons_succ]
          try simp only [List.set_cons_zero]
          refine wpAnyH_take (i := 4) (v := ?_) rfl (by kernel_rfl) (by kernel_rfl) (by kernel_rfl) (fun c a w h => hq c a _ _ w h) (Or.inl ⟨by rfl, ?_⟩) (by assumption) ?_
          rotate_left
          · (intro W hSw; (try dsimp only at hSw); go_simp; try (with_reducible rfl))
          try simp only [Act.put]
          try simp only [List.setIfInBounds_toArray]
          try simp only [List.set_cons_succ]
          try simp only [List.set_cons_zero]
          refine wpAnyH_take (i := 5) (v := ?_) rfl (by kernel_rfl) (by kernel_rfl) (by kernel_rfl) (fun c a w h => hq c a _ _ w h) (Or.inl ⟨by rfl, ?_⟩) (by assumption) ?_
          rotate_left
          · (intro W hSw; (try dsimp only at hSw); go_simp; try (with_reducible rfl))
          try simp only [Act.put]
          try simp only [List.setIfInBounds_toArray]
          try simp only [List.set_cons_succ]
          try simp only [List.set_cons_zero]
          refine wpAnyH_done (by kernel_rfl) (hdone.out _ _ ?_) _
          clear hdone hq QQ
          refine peel_end (NoPanic.normal ?_)
          try go_wp2
          go_ret
          exact ⟨rfl, hHeld.1.upd⟩
        refine wpAnyH_take (i := 0) (v := ?_) rfl (by kernel_rfl) (by kernel_rfl) (by kernel_rfl) (fun c a w h => hq c a _ _ w h) (Or.inl ⟨by rfl, ?_⟩) (by assumption) ?_
        rotate_left
        · (intro W hSw; (try dsimp only at hSw); go_simp; try (with_reducible rfl))
        try simp only [Act.put]
        try simp only [List.setIfInBounds_toArray]
        try simp only [List.set_cons_succ]
        try simp only [List.set_cons_zero]
        refine wpAnyH_take (i := 2) (v := ?_) rfl (by kernel_rfl) (by kernel_rfl) (by kernel_rfl) (fun c a w h => hq c a _ _ w h) (Or.inl ⟨by rfl, ?_⟩) (by assumption) ?_
        rotate_left
        · (intro W hSw; (try dsimp only at hSw); go_simp; try (with_reducible rfl))
        try simp only [Act.put]
        try simp only [List.setIfInBounds_toArray]
        try simp only [List.set_cons_succ]
        try simp only [List.set_cons_zero]
        refine wpAnyH_ready (rs := [1, 3]) (by kernel_rfl) (by simp) ?_
        refine AllReadyH.cons rfl (fun K hK => ?_) ?_
        · go_simp
          (first
              | (go_at_call 51; refine (hHeld.1.arcs 8 [arB] (by kernel_rfl)).mono ?_; rintro e w2 ⟨A5, c5, rfl, ho5, hu2⟩; have HI := Lib.hid (arcs_own (l := [arB]) ho5); (try have HL := Lib.hid (HL.out.upd hu2 (fun _ _ => id)))))
          try (go_wp2_with fail)
          refine hK.out _ _ ?_ (fun hHeld => ?_)
          · (first | (with_reducible exact St22.all (hHeld.1.no hu2)) | (with_reducible exact St22.all (hHeld.1.al _)) | (with_reducible exact hHeld))
          clear hK K
          try simp only [Act.put]
          try simp only [List.setIfInBounds_toArray]
          try simp only [List.set_cons_succ]
          try simp only [List.set_cons_zero]
          refine wpAnyH_ready (rs := [3]) (by kernel_rfl) (by simp) ?_
          refine AllReadyH.cons rfl (fun K hK => ?_) AllReadyH.nil
          go_simp
          refine hK.out _ _ ?_ (fun hHeld => ?_)
          · (first | (with_reducible exact St22.all (hHeld.1.no hu2)) | (with_reducible exact St22.all (hHeld.1.al _)) | (with_reducible exact hHeld))
          clear hK K
          try simp only [Act.put]
          try simp only [List.setIfInBounds_toArray]
          try simp only [List.set_cons_succ]
          try simp only [List.set_cons_zero]
          have HL : Hid (ArcsL _ _ _ [arB]) := Lib.hid (St22.litA1 hHeld.1)
          (try have HI := Lib.hid (St22.keepA hHeld.1 HI.out))
          refine wpAnyH_ready (rs := [4]) (by kernel_rfl) (by simp) ?_
          refine AllReadyH.cons rfl (fun K hK => ?_) AllReadyH.nil
          go_simp
          (first
              | (go_at_call 50; refine (samearcs _ _ _ A5 _ c5 _ [arB] [arB] HI.out HL.out (by decide) (by decide)).mono ?_; rintro e w3 ⟨rfl, hu2⟩))
          try (go_wp2_with fail)
          refine hK.out _ _ ?_ (fun hHeld => ?_)
          · (first | (with_reducible exact St22.all (hHeld.1.no hu2)) | (with_reducible exact St22.all (hHeld.1.al _)) | (with_reducible exact hHeld))
          clear hK K
          try simp only [Act.put]
          try simp only [List.setIfInBounds_toArray]
          try simp only [List.set_cons_succ]
          try simp only [List.set_cons_zero]
          refine wpAnyH_take (i := 5) (v := ?_) rfl (by kernel_rfl) (by kernel_rfl) (by kernel_rfl) (fun c a w h => hq c a _ _ w h) (Or.inl ⟨by rfl, ?_⟩) (by assumption) ?_
          rotate_left
          · (intro W hSw; (try dsimp only at hSw); go_simp; try (with_reducible rfl))
          try simp only [Act.put]
          try simp only [List.setIfInBounds_toArray]
          try simp only [List.set_cons_succ]
          try simp only [List.set_cons_zero]
          refine wpAnyH_take (i := 6) (v := ?_) rfl (by kernel_rfl) (by kernel_rfl) (by kernel_rfl) (fun c a w h => hq c a _ _ w h) (Or.inl ⟨by rfl, ?_⟩) (by assumption) ?_
          rotate_left
          · (intro W hSw; (try dsimp only at hSw); go_simp; try (with_reducible rfl))
          try simp only [Act.put]
          try simp only [List.setIfInBounds_toArray]
          try simp only [List.set_cons_succ]
          try simp only [List.set_cons_zero]
          refine wpAnyH_done (by kernel_rfl) (peel_use hrest.out ?_ (by kernel_rfl)) _
          exact hHeld
        refine AllReadyH.cons rfl (fun K hK => ?_) AllReadyH.nil
        go_simp
        refine hK.out _ _ ?_ (fun hHeld => ?_)
        · (first | (with_reducible exact St22.all (hHeld.1.no hu2)) | (with_reducible exact St22.all (hHeld.1.al _)) | (with_reducible exact hHeld))
        clear hK K
        try simp only [Act.put]
        try simp only [List.setIfInBounds_toArray]
        try simp only [List.set_cons_succ]
        try simp only [List.set_cons_zero]
        have HL : Hid (ArcsL _ _ _ [arB]) := Lib.hid (St22.litA1 hHeld.1)
        (try have HI := Lib.hid (St22.keepA hHeld.1 HI.out))
        refine wpAnyH_ready (rs := [1]) (by kernel_rfl) (by simp) ?_
        refine AllReadyH.cons rfl (fun K hK => ?_) AllReadyH.nil
        go_simp
        (first
            | (go_at_call 51; refine (hHeld.1.arcs 8 [arB] (by kernel_rfl)).mono ?_; rintro e w2 ⟨A5, c5, rfl, ho5, hu2⟩; have HI := Lib.hid (arcs_own (l := [arB]) ho5); (try have HL := Lib.hid (HL.out.upd hu2 (fun _ _ => id)))))
        try (go_wp2_with fail)
        refine hK.out _ _ ?_ (fun hHeld => ?_)
        · (first | (with_reducible exact St22.all (hHeld.1.no hu2)) | (with_reducible exact St22.all (hHeld.1.al _)) | (with_reducible exact hHeld))
        clear hK K
        try simp only [Act.put]
        try simp only [List.setIfInBounds_toArray]
        try simp only [List.set_cons_succ]
        try simp only [List.set_cons_zero]
        refine wpAnyH_ready (rs := [4]) (by kernel_rfl) (by simp) ?_
        refine AllReadyH.cons rfl (fun K hK => ?_) AllReadyH.nil
        go_simp
        (first
            | (go_at_call 50; refine (samearcs _ _ _ A5 _ c5 _ [arB] [arB] HI.out HL.out (by decide) (by decide)).mono ?_; rintro e w3 ⟨rfl, hu2⟩))
        try (go_wp2_with fail)
        refine hK.out _ _ ?_ (fun hHeld => ?_)
        · (first | (with_reducible exact St22.all (hHeld.1.no hu2)) | (with_reducible exact St22.all (hHeld.1.al _)) | (with_reducible exact hHeld))
        clear hK K
        try simp only [Act.put]
        try simp only [List.setIfInBounds_toArray]
        try simp only [List.set_cons_succ]
        try simp only [List.set_cons_zero]
        refine wpAnyH_take (i := 5) (v := ?_) rfl (by kernel_rfl) (by kernel_rfl) (by kernel_rfl) (fun c a w h => hq c a _ _ w h) (Or.inl ⟨by rfl, ?_⟩) (by assumption) ?_
        rotate_left
        · (intro W hSw; (try dsimp only at hSw); go_simp; try (with_reducible rfl))
        try simp only [Act.put]
        try simp only [List.setIfInBounds_toArray]
        try simp only [List.set_cons_succ]
        try simp only [List.set_cons_zero]
        refine wpAnyH_take (i := 6) (v := ?_) rfl (by kernel_rfl) (by kernel_rfl) (by kernel_rfl) (fun c a w h => hq c a _ _ w h) (Or.inl ⟨by rfl, ?_⟩) (by assumption) ?_
        rotate_left
        · (intro W hSw; (try dsimp only at hSw); go_simp; try (with_reducible rfl))
        try simp only [Act.put]
        try simp only [List.setIfInBounds_toArray]
        try simp only [List.set_cons_succ]
        try simp only [List.set_cons_zero]
        refine wpAnyH_done (by kernel_rfl) (peel_use hrest.out ?_ (by kernel_rfl)) _
        exact hHeld
      refine wpAnyH_take (i := 0) (v := ?_) rfl (by kernel_rfl) (by kernel_rfl) (by kernel_rfl) (fun c a w h => hq c a _ _ w h) (Or.inl ⟨by rfl, ?_⟩) (by assumption) ?_
      rotate_left
      · (intro W hSw; (try dsimp only at hSw); go_simp; try (with_reducible rfl))
      try simp only [Act.put]
      try simp only [List.setIfInBounds_toArray]
      try simp only [List.set_cons_succ]
      try simp only [List.set_cons_zero]
      refine wpAnyH_ready (rs := [1, 2]) (by kernel_rfl) (by simp) ?_
      refine AllReadyH.cons rfl (fun K hK => ?_) ?_
      · go_simp
        (first
            | (go_at_call 56; refine (hHeld.1.prev 1 (-1) [0] (by kernel_rfl)).mono ?_; rintro e w2 ⟨A5, c5, rfl, ho5, hu2⟩; have HI := Lib.hid (Ints.of_own (xs := [0]) ho5); (try have HL := Lib.hid (HL.out.upd hu2 (fun _ _ => id)))))
        try (go_wp2_with fail)
        refine hK.out _ _ ?_ (fun hHeld => ?_)
        · (first | (with_reducible exact St22.all (hHeld.1.no hu2)) | (with_reducible exact St22.all (hHeld.1.al _)) | (with_reducible exact hHeld))
        clear hK K
        try simp only [Act.put]
        try simp only [List.setIfInBounds_toArray]
        try simp only [List.set_cons_succ]
        try simp only [List.set_cons_zero]
        refine wpAnyH_ready (rs := [2]) (by kernel_rfl) (by simp) ?_
        refine AllReadyH.cons rfl (fun K hK => ?_) AllReadyH.nil
        go_simp
        refine hK.out _ _ ?_ (fun hHeld => ?_)
        · (first | (with_reducible exact St22.all (hHeld.1.no hu2)) | (with_reducible exact St22.all (hHeld.1.al _)) | (with_reducible exact hHeld))
        clear hK K
        try simp only [Act.put]
        try simp only [List.setIfInBounds_toArray]
        try simp only [List.set_cons_succ]
        try simp only [List.set_cons_zero]
        have HL := Lib.hid (St22.lit1 hHeld.1)
        (try have HI := Lib.hid (St22.keepI hHeld.1 HI.out))
        refine wpAnyH_ready (rs := [3]) (by kernel_rfl) (by simp) ?_
        refine AllReadyH.cons rfl (fun K hK => ?_) AllReadyH.nil
        go_simp
        (first
            | (go_at_call 33; refine (samei _ _ _ A5 _ c5 _ [0] [0] HI.out HL.out (by decide) (by decide)).mono ?_; rintro e w3 ⟨rfl, hu2⟩))
        try (go_wp2_with fail)
        refine hK.out _ _ ?_ (fun hHeld => ?_)
        · (first | (with_reducible exact St22.all (hHeld.1.no hu2)) | (with_reducible exact St22.all (hHeld.1.al _)) | (with_reducible exact hHeld))
        clear hK K
        try simp only [Act.put]
        try simp only [List.setIfInBounds_toArray]
        try simp only [List.set_cons_succ]
        try simp only [List.set_cons_zero]
        refine wpAnyH_take (i := 4) (v := ?_) rfl (by kernel_rfl) (by kernel_rfl) (by kernel_rfl) (fun c a w h => hq c a _ _ w h) (Or.inl ⟨by rfl, ?_⟩) (by assumption) ?_
        rotate_left
        · (intro W hSw; (try dsimp only at hSw); go_simp; try (with_reducible rfl))
        try simp only [Act.put]
        try simp only [List.setIfInBounds_toArray]
        try simp only [List.set_cons_succ]
        try simp only [List.set_cons_zero]
        refine wpAnyH_take (i := 5) (v := ?_) rfl (by kernel_rfl) (by kernel_rfl) (by kernel_rfl) (fun c a w h => hq c a _ _ w h) (Or.inl ⟨by rfl, ?_⟩) (by assumption) ?_
        rotate_left
        · (intro W hSw; (try dsimp only at hSw); go_simp; try (with_reducible rfl))
        try simp only [Act.put]
        try simp only [List.setIfInBounds_toArray]
        try simp only [List.set_cons_succ]
        try simp only [List.set_cons_zero]
        refine wpAnyH_done (by kernel_rfl) (peel_use hrest.out ?_ (by kernel_rfl)) _
        exact hHeld
      refine AllReadyH.cons rfl (fun K hK => ?_) AllReadyH.nil
      go_simp
      refine hK.out _ _ ?_ (fun hHeld => ?_)
      · (first | (with_reducible exact St22.all (hHeld.1.no hu2)) | (with_reducible exact St22.all (hHeld.1.al _)) | (with_reducible exact hHeld))
      clear hK K
      try simp only [Act.put]
      try simp only [List.setIfInBounds_toArray]
      try simp only [List.set_cons_succ]
      try simp only [List.set_cons_zero]
      have HL := Lib.hid (St22.lit1 hHeld.1)
      (try have HI := Lib.hid (St22.keepI hHeld.1 HI.out))
      refine wpAnyH_ready (rs := [1]) (by kernel_rfl) (by simp) ?_
      refine AllReadyH.cons rfl (fun K hK => ?_) AllReadyH.nil
      go_simp
      (first
          | (go_at_call 56; refine (hHeld.1.prev 1 (-1) [0] (by kernel_rfl)).mono ?_; rintro e w2 ⟨A5, c5, rfl, ho5, hu2⟩; have HI := Lib.hid (Ints.of_own (xs := [0]) ho5); (try have HL := Lib.hid (HL.out.upd hu2 (fun _ _ => id)))))
      try (go_wp2_with fail)
      refine hK.out _ _ ?_ (fun hHeld => ?_)
      · (first | (with_reducible exact St22.all (hHeld.1.no hu2)) | (with_reducible exact St22.all (hHeld.1.al _)) | (with_reducible exact hHeld))
      clear hK K
      try simp only [Act.put]
      try simp only [List.setIfInBounds_toArray]
      try simp only [List.set_cons_succ]
      try simp only [List.set_cons_zero]
      refine wpAnyH_ready (rs := [3]) (by kernel_rfl) (by simp) ?_
      refine AllReadyH.cons rfl (fun K hK => ?_) AllReadyH.nil
      go_simp
      (first
          | (go_at_call 33; refine (samei _ _ _ A5 _ c5 _ [0] [0] HI.out HL.out (by decide) (by decide)).mono ?_; rintro e w3 ⟨rfl, hu2⟩))
      try (go_wp2_with fail)
      refine hK.out _ _ ?_ (fun hHeld => ?_)
      · (first | (with_reducible exact St22.all (hHeld.1.no hu2)) | (with_reducible exact St22.all (hHeld.1.al _)) | (with_reducible exact hHeld))
      clear hK K
      try simp only [Act.put]
      try simp only [List.setIfInBounds_toArray]
      try simp only [List.set_cons_succ]
      try simp only [List.set_cons_zero]
      refine wpAnyH_take (i := 4) (v := ?_) rfl (by kernel_rfl) (by kernel_rfl) (by kernel_rfl) (fun c a w h => hq c a _ _ w h) (Or.inl ⟨by rfl, ?_⟩) (by assumption) ?_
      rotate_left
      · (intro W hSw; (try dsimp only at hSw); go_simp; try (with_reducible rfl))
      try simp only [Act.put]
      try simp only [List.setIfInBounds_toArray]
      try simp only [List.set_cons_succ]
      try simp only [List.set_cons_zero]
      refine wpAnyH_take (i := 5) (v := ?_) rfl (by kernel_rfl) (by kernel_rfl) (by kernel_rfl) (fun c a w h => hq c a _ _ w h) (Or.inl ⟨by rfl, ?_⟩) (by assumption) ?_
      rotate_left
      · (intro W hSw; (try dsimp only at hSw); go_simp; try (with_reducible rfl))
      try simp only [Act.put]
      try simp only [List.setIfInBounds_toArray]
      try simp only [List.set_cons_succ]
      try simp only [List.set_cons_zero]
      refine wpAnyH_done (by kernel_rfl) (peel_use hrest.out ?_ (by kernel_rfl)) _
      exact hHeld
    refine wpAnyH_take (i := 0) (v := ?_) rfl (by kernel_rfl) (by kernel_rfl) (by kernel_rfl) (fun c a w h => hq c a _ _ w h) (Or.inl ⟨by rfl, ?_⟩) (by assumption) ?_
    rotate_left
    · (intro W hSw; (try dsimp only at hSw); go_simp; try (with_reducible rfl))
    try simp only [Act.put]
    try simp only [List.setIfInBounds_toArray]
    try simp only [List.set_cons_succ]
    try simp only [List.set_cons_zero]
    refine wpAnyH_take (i := 2) (v := ?_) rfl (by kernel_rfl) (by kernel_rfl) (by kernel_rfl) (fun c a w h => hq c a _ _ w h) (Or.inl ⟨by rfl, ?_⟩) (by assumption) ?_
    rotate_left
    · (intro W hSw; (try dsimp only at hSw); go_simp; try (with_reducible rfl))
    try simp only [Act.put]
    try simp only [List.setIfInBounds_toArray]
    try simp only [List.set_cons_succ]
    try simp only [List.set_cons_zero]
    refine wpAnyH_take (i := 3) (v := ?_) rfl (by kernel_rfl) (by kernel_rfl) (by kernel_rfl) (fun c a w h => hq c a _ _ w h) (Or.inl ⟨by rfl, ?_⟩) (by assumption) ?_
    rotate_left
    · (intro W hSw; (try dsimp only at hSw); go_simp; try (with_reducible rfl))
    try simp only [Act.put]
    try simp only [List.setIfInBounds_toArray]
    try simp only [List.set_cons_succ]
    try simp only [List.set_cons_zero]
    refine wpAnyH_ready (rs := [1, 4]) (by kernel_rfl) (by simp) ?_
    refine AllReadyH.cons rfl (fun K hK => ?_) ?_
    · go_simp
      (first
          | (go_at_call 52; refine (hHeld.1.out 0 12 [arA, arB] (by kernel_rfl)).mono ?_; rintro e w2 ⟨A5, c5, rfl, ho5, hu2⟩; have HI := Lib.hid (arcs_own (l := [arA, arB]) ho5); (try have HL := Lib.hid (HL.out.upd hu2 (fun _ _ => id)))))
      try (go_wp2_with fail)
      refine hK.out _ _ ?_ (fun hHeld => ?_)
      · (first | (with_reducible exact St22.all (hHeld.1.no hu2)) | (with_reducible exact St22.all (hHeld.1.al _)) | (with_reducible exact hHeld))
      clear hK K
      try simp only [Act.put]
      try simp only [List.setIfInBounds_toArray]
      try simp only [List.set_cons_succ]
      try simp only [List.set_cons_zero]
      refine wpAnyH_ready (rs := [4]) (by kernel_rfl) (by simp) ?_
      refine AllReadyH.cons rfl (fun K hK => ?_) AllReadyH.nil
      go_simp
      refine hK.out _ _ ?_ (fun hHeld => ?_)
      · (first | (with_reducible exact St22.all (hHeld.1.no hu2)) | (with_reducible exact St22.all (hHeld.1.al _)) | (with_reducible exact hHeld))
      clear hK K
      try simp only [Act.put]
      try simp only [List.setIfInBounds_toArray]
      try simp only [List.set_cons_succ]
      try simp only [List.set_cons_zero]
      have HL : Hid (ArcsL _ _ _ [arA, arB]) := Lib.hid (St22.litA2 hHeld.1)
      (try have HI := Lib.hid (St22.keepA hHeld.1 HI.out))
      refine wpAnyH_ready (rs := [5]) (by kernel_rfl) (by simp) ?_
      refine AllReadyH.cons rfl (fun K hK => ?_) AllReadyH.nil
      go_simp
      (first
          | (go_at_call 50; refine (samearcs _ _ _ A5 _ c5 _ [arA, arB] [arA, arB] HI.out HL.out (by decide) (by decide)).mono ?_; rintro e w3 ⟨rfl, hu2⟩))
      try (go_wp2_with fail)
      refine hK.out _ _ ?_ (fun hHeld => ?_)
      · (first | (with_reducible exact St22.all (hHeld.1.no hu2)) | (with_reducible exact St22.all (hHeld.1.al _)) | (with_reducible exact hHeld))
      clear hK K
      try simp only [Act.put]
      try simp only [List.setIfInBounds_toArray]
      try simp only [List.set_cons_succ]
      try simp only [List.set_cons_zero]
      refine wpAnyH_take (i := 6) (v := ?_) rfl (by kernel_rfl) (by kernel_rfl) (by kernel_rfl) (fun c a w h => hq c a _ _ w h) (Or.inl ⟨by rfl, ?_⟩) (by assumption) ?_
      rotate_left
      · (intro W hSw; (try dsimp only at hSw); go_simp; try (with_reducible rfl))
      try simp only [Act.put]
      try simp only [List.setIfInBounds_toArray]
      try simp only [List.set_cons_succ]
      try simp only [List.set_cons_zero]
      refine wpAnyH_take (i := 7) (v := ?_) rfl (by kernel_rfl) (by kernel_rfl) (by kernel_rfl) (fun c a w h => hq c a _ _ w h) (Or.inl ⟨by rfl, ?_⟩) (by assumption) ?_
      rotate_left
      · (intro W hSw; (try dsimp only at hSw); go_simp; try (with_reducible rfl))
      try simp only [Act.put]
      try simp only [List.setIfInBounds_toArray]
      try simp only [List.set_cons_succ]
      try simp only [List.set_cons_zero]
      refine wpAnyH_done (by kernel_rfl) (peel_use hrest.out ?_ (by kernel_rfl)) _
      exact hHeld
    refine AllReadyH.cons rfl (fun K hK => ?_) AllReadyH.nil
    go_simp
    refine hK.out _ _ ?_ (fun hHeld => ?_)
    · (first | (with_reducible exact St22.all (hHeld.1.no hu2)) | (with_reducible exact St22.all (hHeld.1.al _)) | (with_reducible exact hHeld))
    clear hK K
    try simp only [Act.put]
    try simp only [List.setIfInBounds_toArray]
    try simp only [List.set_cons_succ]
    try simp only [List.set_cons_zero]
    have HL : Hid (ArcsL _ _ _ [arA, arB]) := Lib.hid (St22.litA2 hHeld.1)
    (try have HI := Lib.hid (St22.keepA hHeld.1 HI.out))
    refine wpAnyH_ready (rs := [1]) (by kernel_rfl) (by simp) ?_
    refine AllReadyH.cons rfl (fun K hK => ?_) AllReadyH.nil
    go_simp
    (first
        | (go_at_call 52; refine (hHeld.1.out 0 12 [arA, arB] (by kernel_rfl)).mono ?_; rintro e w2 ⟨A5, c5, rfl, ho5, hu2⟩; have HI := Lib.hid (arcs_own (l := [arA, arB]) ho5); (try have HL := Lib.hid (HL.out.upd hu2 (fun _ _ => id)))))
    try (go_wp2_with fail)
    refine hK.out _ _ ?_ (fun hHeld => ?_)
    · (first | (with_reducible exact St22.all (hHeld.1.no hu2)) | (with_reducible exact St22.all (hHeld.1.al _)) | (with_reducible exact hHeld))
    clear hK K
    try simp only [Act.put]
    try simp only [List.setIfInBounds_toArray]
    try simp only [List.set_cons_succ]
    try simp only [List.set_cons_zero]
    refine wpAnyH_ready (rs := [5]) (by kernel_rfl) (by simp) ?_
    refine AllReadyH.cons rfl (fun K hK => ?_) AllReadyH.nil
    go_simp
    (first
        | (go_at_call 50; refine (samearcs _ _ _ A5 _ c5 _ [arA, arB] [arA, arB] HI.out HL.out (by decide) (by decide)).mono ?_; rintro e w3 ⟨rfl, hu2⟩))
    try (go_wp2_with fail)
    refine hK.out _ _ ?_ (fun hHeld => ?_)
    · (first | (with_reducible exact St22.all (hHeld.1.no hu2)) | (with_reducible exact St22.all (hHeld.1.al _)) | (with_reducible exact hHeld))
    clear hK K
    try simp only [Act.put]
    try simp only [List.setIfInBounds_toArray]
    try simp only [List.set_cons_succ]
    try simp only [List.set_cons_zero]
    refine wpAnyH_take (i := 6) (v := ?_) rfl (by kernel_rfl) (by kernel_rfl) (by kernel_rfl) (fun c a w h => hq c a _ _ w h) (Or.inl ⟨by rfl, ?_⟩) (by assumption) ?_
    rotate_left
    · (intro W hSw; (try dsimp only at hSw); go_simp; try (with_reducible rfl))
    try simp only [Act.put]
    try simp only [List.setIfInBounds_toArray]
    try simp only [List.set_cons_succ]
    try simp only [List.set_cons_zero]
    refine wpAnyH_take (i := 7) (v := ?_) rfl (by kernel_rfl) (by kernel_rfl) (by kernel_rfl) (fun c a w h => hq c a _ _ w h) (Or.inl ⟨by rfl, ?_⟩) (by assumption) ?_
    rotate_left
    · (intro W hSw; (try dsimp only at hSw); go_simp; try (with_reducible rfl))
    try simp only [Act.put]
    try simp only [List.setIfInBounds_toArray]
    try simp only [List.set_cons_succ]
    try simp only [List.set_cons_zero]
    refine wpAnyH_done (by kernel_rfl) (peel_use hrest.out ?_ (by kernel_rfl)) _
    exact hHeld
  refine wpAnyH_take (i := 0) (v := ?_) rfl (by kernel_rfl) (by kernel_rfl) (by kernel_rfl) (fun c a w h => hq c a _ _ w h) (Or.inl ⟨by rfl, ?_⟩) (by assumption) ?_
  rotate_left
  · (intro W hSw; (try dsimp only at hSw); go_simp; try (with_reducible rfl))
  try simp only [Act.put]
  try simp only [List.setIfInBounds_toArray]
  try simp only [List.set_cons_succ]
  try simp only [List.set_cons_zero]
  refine wpAnyH_ready (rs := [1, 2]) (by kernel_rfl) (by simp) ?_
  refine AllReadyH.cons rfl (fun K hK => ?_) ?_
  · go_simp
    (first
        | (go_at_call 54; refine (hHeld.1.next 0 4 [1] (by kernel_rfl)).mono ?_; rintro e w2 ⟨A5, c5, rfl, ho5, hu2⟩; have HI := Lib.hid (Ints.of_own (xs := [1]) ho5); (try have HL := Lib.hid (HL.out.upd hu2 (fun _ _ => id)))))
    try (go_wp2_with fail)
    refine hK.out _ _ ?_ (fun hHeld => ?_)
    · (first | (with_reducible exact St22.all (hHeld.1.no hu2)) | (with_reducible exact St22.all (hHeld.1.al _)) | (with_reducible exact hHeld))
    clear hK K
    try simp only [Act.put]
    try simp only [List.setIfInBounds_toArray]
    try simp only [List.set_cons_succ]
    try simp only [List.set_cons_zero]
    refine wpAnyH_ready (rs := [2]) (by kernel_rfl) (by simp) ?_
    refine AllReadyH.cons rfl (fun K hK => ?_) AllReadyH.nil
    go_simp
    refine hK.out _ _ ?_ (fun hHeld => ?_)
    · (first | (with_reducible exact St22.all (hHeld.1.no hu2)) | (with_reducible exact St22.all (hHeld.1.al _)) | (with_reducible exact hHeld))
    clear hK K
    try simp only [Act.put]
    try simp only [List.setIfInBounds_toArray]
    try simp only [List.set_cons_succ]
    try simp only [List.set_cons_zero]
    have HL := Lib.hid (St22.lit1 hHeld.1)
    (try have HI := Lib.hid (St22.keepI hHeld.1 HI.out))
    refine wpAnyH_ready (rs := [3]) (by kernel_rfl) (by simp) ?_
    refine AllReadyH.cons rfl (fun K hK => ?_) AllReadyH.nil
    go_simp
    (first
        | (go_at_call 33; refine (samei _ _ _ A5 _ c5 _ [1] [1] HI.out HL.out (by decide) (by decide)).mono ?_; rintro e w3 ⟨rfl, hu2⟩))
    try (go_wp2_with fail)
    refine hK.out _ _ ?_ (fun hHeld => ?_)
    · (first | (with_reducible exact St22.all (hHeld.1.no hu2)) | (with_reducible exact St22.all (hHeld.1.al _)) | (with_reducible exact hHeld))
    clear hK K
    try simp only [Act.put]
    try simp only [List.setIfInBounds_toArray]
    try simp only [List.set_cons_succ]
    try simp only [List.set_cons_zero]
    refine wpAnyH_take (i := 4) (v := ?_) rfl (by kernel_rfl) (by kernel_rfl) (by kernel_rfl) (fun c a w h => hq c a _ _ w h) (Or.inl ⟨by rfl, ?_⟩) (by assumption) ?_
    rotate_left
    · (intro W hSw; (try dsimp only at hSw); go_simp; try (with_reducible rfl))
    try simp only [Act.put]
    try simp only [List.setIfInBounds_toArray]
    try simp only [List.set_cons_succ]
    try simp only [List.set_cons_zero]
    refine wpAnyH_take (i := 5) (v := ?_) rfl (by kernel_rfl) (by kernel_rfl) (by kernel_rfl) (fun c a w h => hq c a _ _ w h) (Or.inl ⟨by rfl, ?_⟩) (by assumption) ?_
    rotate_left
    · (intro W hSw; (try dsimp only at hSw); go_simp; try (with_reducible rfl))
    try simp only [Act.put]
    try simp only [List.setIfInBounds_toArray]
    try simp only [List.set_cons_succ]
    try simp only [List.set_cons_zero]
    refine wpAnyH_done (by kernel_rfl) (peel_use hrest.out ?_ (by kernel_rfl)) _
    exact hHeld
  refine AllReadyH.cons rfl (fun K hK => ?_) AllReadyH.nil
  go_simp
  refine hK.out _ _ ?_ (fun hHeld => ?_)
  · (first | (with_reducible exact St22.all (hHeld.1.no hu2)) | (with_reducible exact St22.all (hHeld.1.al _)) | (with_reducible exact hHeld))
  clear hK K
  try simp only [Act.put]
  try simp only [List.setIfInBounds_toArray]
  try simp only [List.set_cons_succ]
  try simp only [List.set_cons_zero]
  have HL := Lib.hid (St22.lit1 hHeld.1)
  (try have HI := Lib.hid (St22.keepI hHeld.1 HI.out))
  refine wpAnyH_ready (rs := [1]) (by kernel_rfl) (by simp) ?_
  refine AllReadyH.cons rfl (fun K hK => ?_) AllReadyH.nil
  go_simp
  (first
      | (go_at_call 54; refine (hHeld.1.next 0 4 [1] (by kernel_rfl)).mono ?_; rintro e w2 ⟨A5, c5, rfl, ho5, hu2⟩; have HI := Lib.hid (Ints.of_own (xs := [1]) ho5); (try have HL := Lib.hid (HL.out.upd hu2 (fun _ _ => id)))))
  try (go_wp2_with fail)
  refine hK.out _ _ ?_ (fun hHeld => ?_)
  · (first | (with_reducible exact St22.all (hHeld.1.no hu2)) | (with_reducible exact St22.all (hHeld.1.al _)) | (with_reducible exact hHeld))
  clear hK K
  try simp only [Act.put]
  try simp only [List.setIfInBounds_toArray]
  try simp only [List.set_cons_succ]
  try simp only [List.set_cons_zero]
  refine wpAnyH_ready (rs := [3]) (by kernel_rfl) (by simp) ?_
  refine AllReadyH.cons rfl (fun K hK => ?_) AllReadyH.nil
  go_simp
  (first
      | (go_at_call 33; refine (samei _ _ _ A5 _ c5 _ [1] [1] HI.out HL.out (by decide) (by decide)).mono ?_; rintro e w3 ⟨rfl, hu2⟩))
  try (go_wp2_with fail)
  refine hK.out _ _ ?_ (fun hHeld => ?_)
  · (first | (with_reducible exact St22.all (hHeld.1.no hu2)) | (with_reducible exact St22.all (hHeld.1.al _)) | (with_reducible exact hHeld))
  clear hK K
  try simp only [Act.put]
  try simp only [List.setIfInBounds_toArray]
  try simp only [List.set_cons_succ]
  try simp only [List.set_cons_zero]
  refine wpAnyH_take (i := 4) (v := ?_) rfl (by kernel_rfl) (by kernel_rfl) (by kernel_rfl) (fun c a w h => hq c a _ _ w h) (Or.inl ⟨by rfl, ?_⟩) (by assumption) ?_
  rotate_left
  · (intro W hSw; (try dsimp only at hSw); go_simp; try (with_reducible rfl))
  try simp only [Act.put]
  try simp only [List.setIfInBounds_toArray]
  try simp only [List.set_cons_succ]
  try simp only [List.set_cons_zero]
  refine wpAnyH_take (i := 5) (v := ?_) rfl (by kernel_rfl) (by kernel_rfl) (by kernel_rfl) (fun c a w h => hq c a _ _ w h) (Or.inl ⟨by rfl, ?_⟩) (by assumption) ?_
  rotate_left
  · (intro W hSw; (try dsimp only at hSw); go_simp; try (with_reducible rfl))
  try simp only [Act.put]
  try simp only [List.setIfInBounds_toArray]
  try simp only [List.set_cons_succ]
  try simp only [List.set_cons_zero]
  refine wpAnyH_done (by kernel_rfl) (peel_use hrest.out ?_ (by kernel_rfl)) _
  exact hHeld
end Go.Proofs.Ytmnhgdedkniafaa
