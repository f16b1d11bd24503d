/- Witnesses: how they lie; a copy that shares nothing; whether two are the same. -/
import Derived.Test.YtpiigfbdgmjidaaProg
import Derived.Test.YtpiigfbdgmjidaaEdges
import Derived.Test.YtpiigfbdgmjidaaCacheB
namespace Go.Proofs.Ytpiigfbdgmjidaa
set_option linter.unusedVariables false
open Go.RowKit

/-- what a witness says -/
structure Wit where
  phen : Int
  walk : List Edge
  r0 : Int
  r1 : Int
  r2 : Int
  r3 : Int
  r4 : Int
deriving DecidableEq
def Wit.cells (x : Wit) (A : Option Addr) (c : Nat) : List Value :=
  [.int .i64 x.phen, .slice A x.walk.length c, .int .i64 x.r0, .int .i64 x.r1, .int .i64 x.r2, .int .i64 x.r3, .int .i64 x.r4]
set_option maxRecDepth 10000 in
theorem clone_edges (F : Nat → Prop) (w : World) (A : Option Addr) (c : Nat) (l : List Edge) (h : Walk F w A l) (hn : l.length ≤ 4398046511103) :
    Calls Try.prog 65 #[.slice A l.length c] w fun e w' => ∃ A' c', e = .returned (.slice A' l.length c') ∧ Walk (fun i => w.heap.size ≤ i) w' A' l ∧ Upd No w w' := by
  have qT : ∀ (w : World) (a : Option Addr) (n c : Nat), (binOp .eql 41 (.slice a n c) (.slice none 0 0)).run Try.prog w = .ok (.bool a.isNone) w := fun w a n c => Lib.run_eql_slice_nil w _ _ a n c 0 0 Try.underlying41
  go_enter Try.func65, Try.ntmps65
  cases A with
  | none =>
    have : l = [] := by
      rcases Classical.em (l = []) with h' | h'
      · exact h'
      · obtain ⟨ad, h1, _⟩ := h (by simpa using h')
        cases h1
    subst this
    go_wp2
    refine bodyPost_ret (results_tmp rfl _ _ _) rfl ⟨none, 0, rfl, fun h => absurd rfl h, Upd.refl _ _⟩
  | some ad =>
    have h' := h.lt
    have hz : (l.map Edge.cells).length = l.length := List.length_map ..
    have hs := (h'.upd ((Upd.refl No w).alloc (.cells #[] 93)) (fun _ _ => id)).src edges_len
    rw [hz] at hs
    go_wp2_with (at_builtin; refine appN rfl rfl slt_edges (v := .slice (some ⟨w.heap.size, 0, none⟩) 0 0) (n := 0) (xs := []) (by rfl) rfl (World.ownsRow_made w #[] 0 (Nat.le_refl _) (by decide) rfl) hs edges_one (by omega) (by omega) (by simp) ?_; intro v1 w1 hown1 hupd1 hgrew1; simp only [Nat.zero_add, List.nil_append] at hown1)
    obtain ⟨A', c', rfl⟩ := own_slice hown1
    go_ret
    refine ⟨A', c', rfl, (Recs.of_own edges_len (by omega) hown1).weak (fun i _ e => (hown1.lt i e).1), ((Upd.refl No w).alloc _).then_ hupd1 (fun i e => .inr ?_)⟩
    have e1 : w.heap.size = i := by simpa [Own, Value.ownBlock] using e
    omega
/-- a walk of the call's own, made since w -/
def NewWit (w : World) (x : Wit) (e : Ending) (w' : World) : Prop :=
  ∃ A c, e = .returned (.agg (x.cells A c).toArray) ∧ Walk (fun i => w.heap.size ≤ i) w' A x.walk ∧ Upd No w w'
theorem wcopied (F : Nat → Prop) (w : World) (A : Option Addr) (c : Nat) (x : Wit) (h : Walk F w A x.walk) (hn : x.walk.length ≤ 4398046511103) :
    Calls Try.prog 56 #[.agg (x.cells A c).toArray] w (NewWit w x) := by
  have h' := h.lt
  obtain ⟨ph, l, r0, r1, r2, r3, r4⟩ := x
  unfold Wit.cells
  go_enter Try.func56, Try.ntmps56
  go_wp2_with fail
  refine (clone_edges _ _ A c l (h'.upd (((Upd.refl No w).alloc _).alloc _) (fun _ _ => id)) hn).mono ?_
  rintro e w' ⟨A', c', rfl, h2, hu⟩
  have hlt := hu.size
  simp only [World.size_alloc] at hlt
  have b1 := ((Blk.new w 47 [.int .i64 ph, .slice A l.length c, .int .i64 r0, .int .i64 r1, .int .i64 r2, .int .i64 r3, .int .i64 r4]).alloc (.cells #[.int .i64 0, .slice none 0 0, .int .i64 0, .int .i64 0, .int .i64 0, .int .i64 0, .int .i64 0] 47)).upd hu id
  have b2 := (Blk.new (w.alloc (.cells #[.int .i64 ph, .slice A l.length c, .int .i64 r0, .int .i64 r1, .int .i64 r2, .int .i64 r3, .int .i64 r4] 47)) 47 [.int .i64 0, .slice none 0 0, .int .i64 0, .int .i64 0, .int .i64 0, .int .i64 0, .int .i64 0]).upd hu id
  simp only [World.size_alloc] at b2
  have c0 := b1.cell 0
  have c1 := b1.cell 1
  have c2 := b1.cell 2
  have c3 := b1.cell 3
  have c4 := b1.cell 4
  have c5 := b1.cell 5
  have c6 := b1.cell 6
  have cf0 := b1.free 0
  have cf1 := b1.free 1
  have cf2 := b1.free 2
  have cf3 := b1.free 3
  have cf4 := b1.free 4
  have cf5 := b1.free 5
  have cf6 := b1.free 6
  simp only [List.getElem?_cons_zero, List.getElem?_cons_succ] at c0 c1 c2 c3 c4 c5 c6
  have d0 := b2.cell 0
  have d1 := b2.cell 1
  have d2 := b2.cell 2
  have d3 := b2.cell 3
  have d4 := b2.cell 4
  have d5 := b2.cell 5
  have d6 := b2.cell 6
  have df0 := b2.free 0
  have df1 := b2.free 1
  have df2 := b2.free 2
  have df3 := b2.free 3
  have df4 := b2.free 4
  have df5 := b2.free 5
  have df6 := b2.free 6
  simp only [List.getElem?_cons_zero, List.getElem?_cons_succ] at d0 d1 d2 d3 d4 d5 d6
  go_wp2
  have b3 := ((((((((b2.far (p := ⟨w.heap.size, 1, none⟩) (by show w.heap.size + 1 ≠ w.heap.size; omega) (.slice A' l.length c')).set_ 0 (.int .i64 ph)).set_ 1 (.slice A' l.length c')).set_ 2 (.int .i64 r0)).set_ 3 (.int .i64 r1)).set_ 4 (.int .i64 r2)).set_ 5 (.int .i64 r3)).set_ 6 (.int .i64 r4))
  simp only [List.set_cons_zero, List.set_cons_succ] at b3
  refine bodyPost_ret (results_cell_row (p := 2) rfl _ _ _ _ _ _ _ rfl b3 Try.underlying47 rfl (by kernel_rfl)) rfl ⟨A', c', rfl, ?_, ?_⟩
  · have u8 := ((((((((Upd.refl (fun i => i = w.heap.size ∨ i = w.heap.size + 1) w').setCell (p := ⟨w.heap.size, 1, none⟩) (.inl (.inl rfl)) (.slice A' l.length c')).setCell (p := ⟨w.heap.size + 1, 0, none⟩) (.inl (.inr rfl)) (.int .i64 ph)).setCell (p := ⟨w.heap.size + 1, 1, none⟩) (.inl (.inr rfl)) (.slice A' l.length c')).setCell (p := ⟨w.heap.size + 1, 2, none⟩) (.inl (.inr rfl)) (.int .i64 r0)).setCell (p := ⟨w.heap.size + 1, 3, none⟩) (.inl (.inr rfl)) (.int .i64 r1)).setCell (p := ⟨w.heap.size + 1, 4, none⟩) (.inl (.inr rfl)) (.int .i64 r2)).setCell (p := ⟨w.heap.size + 1, 5, none⟩) (.inl (.inr rfl)) (.int .i64 r3)).setCell (p := ⟨w.heap.size + 1, 6, none⟩) (.inl (.inr rfl)) (.int .i64 r4)
    simp only [World.size_alloc] at h2
    exact (Recs.upd h2 u8 (fun i hi e => by rcases e with e | e <;> omega)).weak (fun i _ e => by omega)
  · have u0 : Upd No w w' := (((Upd.refl No w).alloc _).alloc _).trans hu
    exact (((((((u0.setCell (p := ⟨w.heap.size, 1, none⟩) (.inr (Nat.le_refl _)) _).setCell (p := ⟨w.heap.size + 1, 0, none⟩) (.inr (Nat.le_succ _)) _).setCell (p := ⟨w.heap.size + 1, 1, none⟩) (.inr (Nat.le_succ _)) _).setCell (p := ⟨w.heap.size + 1, 2, none⟩) (.inr (Nat.le_succ _)) _).setCell (p := ⟨w.heap.size + 1, 3, none⟩) (.inr (Nat.le_succ _)) _).setCell (p := ⟨w.heap.size + 1, 4, none⟩) (.inr (Nat.le_succ _)) _).setCell (p := ⟨w.heap.size + 1, 5, none⟩) (.inr (Nat.le_succ _)) _).setCell (p := ⟨w.heap.size + 1, 6, none⟩) (.inr (Nat.le_succ _)) _
end Go.Proofs.Ytpiigfbdgmjidaa
