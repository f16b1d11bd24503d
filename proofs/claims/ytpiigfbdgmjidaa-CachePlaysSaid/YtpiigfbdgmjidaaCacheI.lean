/- Caches: an entry is got; those of a label are forgotten. -/
import Derived.Test.YtpiigfbdgmjidaaProg
import Derived.Test.YtpiigfbdgmjidaaCacheG
import Derived.Deep.RegionWith
namespace Go.Proofs.Ytpiigfbdgmjidaa
set_option linter.unusedVariables false
open Go.RowKit

abbrev W0 : List Value := [.int .i64 0, .slice none 0 0, .int .i64 0, .int .i64 0, .int .i64 0, .int .i64 0, .int .i64 0]
theorem cget_nil (w : World) (a b : Value) : Calls Try.prog 26 #[.pointer none, a, b] w fun e w' => e = .returned (.tuple #[.agg W0.toArray, .bool false, .bool false]) ∧ Upd No w w' := by
  go_enter Try.func26, Try.ntmps26
  go_wp2
  exact bodyPost_ret (v := .tuple #[.agg W0.toArray, .bool false, .bool false]) (by simp [results, Try.results26, go_sem]) rfl ⟨rfl, (Upd.refl No w).alloc _⟩
theorem cget_no (w : World) (T V : Nat → Prop) (g bm r : Nat) (room : Int) (ns : List Node) (nw od : Nat → Nat) (m : List ((Int × Int) × Value)) (h : CacheW w T V g bm r room ns nw od m) (a b : Int)
    (hno : (a, b) ∉ ns.map fun n => n.e.key) :
    Calls Try.prog 26 #[pt g, .int .i64 a, .int .i64 b] w fun e w' => e = .returned (.tuple #[.agg W0.toArray, .bool false, .bool false]) ∧ Upd No w w' := by
  have hu0 := (Upd.refl No w).alloc (.cells W0.toArray 47)
  have h0 := h.upd hu0 id id (fun _ _ => id) (fun _ _ => id)
  have c1 := h0.blk.cell 1
  simp only [List.getElem?_cons_zero, List.getElem?_cons_succ] at c1
  have hlk := run_look kby Try.underlying89 zeroP h0.map (a, b)
  rw [h0.look_none hno] at hlk
  unfold kenc at hlk
  simp only [Option.getD_none] at hlk
  go_enter Try.func26, Try.ntmps26
  go_wp2
  exact bodyPost_ret (v := .tuple #[.agg W0.toArray, .bool false, .bool false]) (by simp [results, Try.results26, go_sem]) rfl ⟨rfl, (Upd.refl No w).alloc _⟩
theorem cell7 {w : World} {b : Nat} {t : TypeId} {x0 x1 x2 x3 x4 x5 x6 : Value} (h : Blk w b t [x0, x1, x2, x3, x4, x5, x6]) : w.cell? ⟨b, 0, none⟩ = some x0 ∧ w.cell? ⟨b, 1, none⟩ = some x1 ∧ w.cell? ⟨b, 2, none⟩ = some x2 ∧
    w.cell? ⟨b, 3, none⟩ = some x3 ∧ w.cell? ⟨b, 4, none⟩ = some x4 ∧ w.cell? ⟨b, 5, none⟩ = some x5 ∧ w.cell? ⟨b, 6, none⟩ = some x6 := ⟨h.cell 0, h.cell 1, h.cell 2, h.cell 3, h.cell 4, h.cell 5, h.cell 6⟩
theorem free7 {w : World} {b : Nat} {t : TypeId} {cs : List Value} (h : Blk w b t cs) : w.frozen? ⟨b, 0, none⟩ = false ∧ w.frozen? ⟨b, 1, none⟩ = false ∧ w.frozen? ⟨b, 2, none⟩ = false ∧
    w.frozen? ⟨b, 3, none⟩ = false ∧ w.frozen? ⟨b, 4, none⟩ = false ∧ w.frozen? ⟨b, 5, none⟩ = false ∧ w.frozen? ⟨b, 6, none⟩ = false := ⟨h.free 0, h.free 1, h.free 2, h.free 3, h.free 4, h.free 5, h.free 6⟩
def GetPost (w : World) (T V : Nat → Prop) (g bm r : Nat) (room : Int) (as_ bs : List Node) (n : Node) (m : List ((Int × Int) × Value)) (e : Ending) (w' : World) : Prop :=
  ∃ A' c' nw' od', e = .returned (.tuple #[.agg (n.e.w.cells A' c').toArray, .bool n.e.has, .bool true]) ∧ Walk (fun i => w.heap.size ≤ i) w' A' n.e.w.walk ∧ CacheW w' T V g bm r room (as_ ++ bs ++ [n]) nw' od' m ∧ Upd T w w'
theorem get_done {w w2 w3 w4 : World} {T V : Nat → Prop} {g bm r : Nat} {room : Int} {as_ bs : List Node} {n : Node} {nx ox : Nat → Nat} {m : List ((Int × Int) × Value)} {A' : Option Addr} {c' : Nat}
    (hlw : ∀ i, T i ∨ V i ∨ i = g ∨ i = bm → i < w.heap.size) (hw2 : w.heap.size < w2.heap.size) (hu02 : Upd T w w2) (h2 : CacheW w2 T V g bm r room (as_ ++ bs ++ [n]) nx ox m)
    (hu3 : Upd No w2 w3) (hw3 : Walk (fun i => w2.heap.size ≤ i) w3 A' n.e.w.walk) (hu4 : Upd (One w.heap.size) w3 w4) :
    GetPost w T V g bm r room as_ bs n m (.returned (.tuple #[.agg (n.e.w.cells A' c').toArray, .bool n.e.has, .bool true])) w4 := by
  have hne : ∀ i, T i ∨ V i ∨ i = g ∨ i = bm → ¬ One w.heap.size i := fun i hi e => by
    have := hlw i hi
    have e : i = w.heap.size := e
    omega
  refine ⟨A', c', nx, ox, rfl, (Recs.upd hw3 hu4 (fun i hi e => ?_)).weak (fun i _ hi => by omega), (h2.upd hu3 id id (fun _ _ => id) (fun _ _ => id)).upd hu4 (hne _ (.inr (.inr (.inl rfl)))) (hne _ (.inr (.inr (.inr rfl)))) (fun i hi => hne i (.inl hi)) (fun i hi => hne i (.inr (.inl hi))), ?_⟩
  · have e : i = w.heap.size := e
    omega
  · exact (hu02.trans (hu3.mono (fun i _ h => h.elim))).then_ hu4 (fun i e => by
      have e : i = w.heap.size := e
      right; omega)
set_option maxRecDepth 100000 in
set_option maxHeartbeats 2000000 in
theorem cget (w : World) (T V : Nat → Prop) (g bm r : Nat) (room : Int) (as_ bs : List Node) (n : Node) (nw od : Nat → Nat) (m : List ((Int × Int) × Value)) (h : CacheW w T V g bm r room (as_ ++ n :: bs) nw od m) :
    Calls Try.prog 26 #[pt g, .int .i64 n.e.l, .int .i64 n.e.p] w (GetPost w T V g bm r room as_ bs n m) := by
  have hu0 := (Upd.refl No w).alloc (.cells W0.toArray 47)
  have b0 := Blk.new w 47 W0
  have h0 := h.upd hu0 id id (fun _ _ => id) (fun _ _ => id)
  have c1 := h0.blk.cell 1
  simp only [List.getElem?_cons_zero, List.getElem?_cons_succ] at c1
  have hn : n ∈ as_ ++ n :: bs := by simp
  have hlk := run_look kby Try.underlying89 zeroP h0.map n.e.key
  rw [h0.look hn] at hlk
  unfold kenc at hlk
  simp only [Option.getD_some, Ent.key] at hlk
  have hnT := h.ring.inT n.b (List.mem_cons_of_mem _ (List.mem_map_of_mem hn))
  have hnr : n.b ∉ r :: (as_ ++ bs).map (·.b) := by
    have := h.ring.nd
    rw [List.map_append, List.map_cons, List.nodup_cons, List.nodup_append] at this
    simp only [List.mem_append, List.mem_cons, not_or] at this
    rw [List.mem_cons, List.map_append, List.mem_append]
    rintro (e | e | e)
    · exact this.1.2.1 e.symm
    · exact this.2.2.2 _ e _ (.inl rfl) rfl
    · exact (List.nodup_cons.1 this.2.2.1).1 e
  have hwT : ¬ T w.heap.size := fun e => by have := h.lt _ (.inl e); omega
  go_enter Try.func26, Try.ntmps26
  go_wp2_with fail
  refine (rout _ T V r as_ bs n nw od h0.ring).mono ?_
  rintro e w1 ⟨rfl, hr1, hn1, hu1⟩
  go_wp2_with fail
  refine (rin _ T V g r _ _ (as_ ++ bs) n _ _ _ _ hr1 (h0.blk.upd hu1 h.gT.1) hn1 hnT hnr h.gT.1).mono ?_
  rintro e w2 ⟨rfl, hr2, hu2⟩
  have hu12 := hu1.trans hu2
  have hpm : m.Perm ((as_ ++ bs ++ [n]).map fun n => (n.e.key, pt n.b)) := h.perm.trans (List.Perm.map _ (by
    rw [List.append_assoc]
    exact List.Perm.append_left _ (List.perm_append_singleton n bs).symm))
  have hky : ((as_ ++ bs ++ [n]).map fun n => n.e.key).Nodup := ((List.Perm.map _ (show (as_ ++ n :: bs).Perm (as_ ++ bs ++ [n]) by
    rw [List.append_assoc]
    exact List.Perm.append_left _ (List.perm_append_singleton n bs).symm)).nodup_iff).1 h.keys
  have h2 : CacheW w2 T V g bm r room (as_ ++ bs ++ [n]) _ _ m := ⟨h0.blk.upd hu12 h.gT.1, h0.map.upd hu12 h.gT.2.2.1, hpm, hky, hr2, h.gT, fun i hi => Nat.lt_of_lt_of_le (h0.lt i hi) hu12.size⟩
  obtain ⟨nx, hnx⟩ : ∃ nx, nx = (upd1 (upd1 (upd1 nw (od n.b) (nw n.b)) n.b r) (upd1 od (nw n.b) (od n.b) r) n.b) := ⟨_, rfl⟩
  obtain ⟨ox, hox⟩ : ∃ ox, ox = (upd1 (upd1 (upd1 od (nw n.b) (od n.b)) n.b (upd1 od (nw n.b) (od n.b) r)) r n.b) := ⟨_, rfl⟩
  rw [← hnx, ← hox] at h2
  clear hnx hox hr1 hr2 hn1 hpm hky hlk c1
  obtain ⟨bn, wn, sn⟩ := h2.ring.at_ n (by simp)
  have hnb : ¬ One w.heap.size n.b := fun e => by
    have e : n.b = w.heap.size := e
    have := h.lt _ (.inl hnT)
    omega
  have hu02 := hu0.mono (T := T) (fun i _ h => h.elim) |>.trans hu12
  have hlw : ∀ i, T i ∨ V i ∨ i = g ∨ i = bm → i < w.heap.size := fun i hi => by
    rcases hi with hi | hi | rfl | rfl
    · exact h.lt i (.inl hi)
    · exact h.lt i (.inr hi)
    · exact h.blk.lt
    · exact h.map.lt
  have hw2 : w.heap.size < w2.heap.size := by
    have := hu12.size
    simp only [World.size_alloc] at this
    omega
  clear hn hnr hu1 hu2 h0 h
  obtain ⟨nb, ⟨xl, xp, ⟨ph, l, r0, r1, r2, r3, r4⟩, xh⟩, A, c⟩ := n
  simp only at bn wn sn hnb hnT h2 ⊢
  have b2 := b0.upd hu12 hwT
  have e2 := bn.cell 2
  have e3 := bn.cell 3
  have e4 := bn.cell 4
  have e5 := bn.cell 5
  have e6 := bn.cell 6
  have e7 := bn.cell 7
  have e8 := bn.cell 8
  have e9 := bn.cell 9
  simp only [entv, List.getElem?_cons_zero, List.getElem?_cons_succ] at e2 e3 e4 e5 e6 e7 e8 e9
  go_wp2
  go_region_with ((go_at_call 56; refine (wcopied V _ A c ⟨ph, l, r0, r1, r2, r3, r4⟩ (by exact wn) sn).mono ?_; rintro e w3 ⟨A', c', he, hw3, hu3⟩; replace he : e = .returned (.agg #[.int .i64 ph, .slice A' l.length c', .int .i64 r0, .int .i64 r1, .int .i64 r2, .int .i64 r3, .int .i64 r4]) := he; subst he; have e9' := hu3.of_drew.keepNo e9; have hb3 : Blk w3 w.heap.size 47 W0 := b2.upd hu3.of_drew id; obtain ⟨c0, c1, c2, c3, c4, c5, c6⟩ := cell7 hb3; obtain ⟨cf0, cf1, cf2, cf3, cf4, cf5, cf6⟩ := free7 hb3))
  all_goals
    go_wp2
    exact bodyPost_ret (v := .tuple #[.agg #[.int .i64 ph, .slice A' l.length c', .int .i64 r0, .int .i64 r1, .int .i64 r2, .int .i64 r3, .int .i64 r4], .bool xh, .bool true])
      (by simp [results, Try.results26, go_sem, c0, c1, c2, c3, c4, c5, c6]) rfl (get_done (w2 := w2) hlw hw2 hu02 h2 hu3.of_drew hw3 (by with_reducible (repeat (first | exact Upd.refl _ _ | apply Upd.setOne | apply Upd.drew | apply Upd.drewN))))
end Go.Proofs.Ytpiigfbdgmjidaa
