/- Ways: how far each node is, by walks with an arc of another mask. -/
import Derived.Test.YtaicemjckagcaaaMan
import Derived.Test.YtaicemjckagcaaaMap
import Derived.Test.YtaicemjckagcaaaMav
import Derived.Test.YtaicemjckagcaaaMbe
import Derived.Test.YtaicemjckagcaaaMbh
import Derived.Test.YtaicemjckagcaaaMbi
import Derived.Test.YtaicemjckagcaaaMbj
namespace Go.Proofs.Ytaicemjckagcaaa
set_option linter.unusedVariables false
open Go.RowKit
/-- two rows of distances and the queue lie there, and a list that is gone through -/
def DQ2 (w : World) (ab g0 g1 qg N : Nat) (d : Int → Int) (qu : List Int) (A : Option Addr) (us : List Int) (W : World) : Prop :=
  ∃ F F2, Blk W ab 236 [.slice (some ⟨g0, 0, none⟩) N N, .slice (some ⟨g1, 0, none⟩) N N] ∧ Blk W g0 3 ((row0 N d 0).map (Value.int .i64)) ∧ Blk W g1 3 ((row0 N d 1).map (Value.int .i64)) ∧
    Que W F qg ((2 * N : Nat) : Int) qu ∧ (¬ F ab ∧ ¬ F g0 ∧ ¬ F g1) ∧ (ab ≠ g0 ∧ ab ≠ g1 ∧ g0 ≠ g1) ∧ (∀ i, F i → w.heap.size ≤ i) ∧ (w.heap.size ≤ ab ∧ w.heap.size ≤ g0 ∧ w.heap.size ≤ g1) ∧ Upd No w W ∧ Ints F2 W A us ∧
    (∀ i, F2 i → ¬ F i ∧ (i ≠ ab ∧ i ≠ g0 ∧ i ≠ g1) ∧ i < W.heap.size)
def gOf (g0 g1 : Nat) (h : Nat) : Nat := if h = 0 then g0 else g1
namespace DQ2
variable {w W W' : World} {ab g0 g1 qg N : Nat} {d : Int → Int} {qu us : List Int} {A : Option Addr}
theorem no (h : DQ2 w ab g0 g1 qg N d qu A us W) (k : Upd No W W') : DQ2 w ab g0 g1 qg N d qu A us W' := by
  obtain ⟨F, F2, a1, a2, a3, h2, h3, h9, h4, h5, h6, h7, h8⟩ := h
  exact ⟨F, F2, a1.upd k id, a2.upd k id, a3.upd k id, h2.upd k (fun _ _ => id), h3, h9, h4, h5, h6.trans k, h7.upd k (fun _ _ => id), fun i hi => ⟨(h8 i hi).1, (h8 i hi).2.1, Nat.lt_of_lt_of_le (h8 i hi).2.2 k.size⟩⟩
theorem upd (h : DQ2 w ab g0 g1 qg N d qu A us W) : Upd No w W := by
  obtain ⟨F, F2, a1, a2, a3, h2, h3, h9, h4, h5, h6, h7, h8⟩ := h
  exact h6
theorem arr (h : DQ2 w ab g0 g1 qg N d qu A us W) {k : Nat} (hk : k ≤ 1) : W.cell? ⟨ab, k, none⟩ = some (.slice (some ⟨gOf g0 g1 k, 0, none⟩) N N) := by
  obtain ⟨F, F2, a1, a2, a3, h2, h3, h9, h4, h5, h6, h7, h8⟩ := h
  have hk : k = 0 ∨ k = 1 := by omega
  rcases hk with rfl | rfl
  · exact a1.cell 0
  · exact a1.cell 1
theorem cell (h : DQ2 w ab g0 g1 qg N d qu A us W) {i k : Nat} (hk : k ≤ 1) (hi : i < N) : W.cell? ⟨gOf g0 g1 k, i, none⟩ = some (.int .i64 (d ((i : Int) * 2 + (k : Int)))) := by
  obtain ⟨F, F2, a1, a2, a3, h2, h3, h9, h4, h5, h6, h7, h8⟩ := h
  have hk : k = 0 ∨ k = 1 := by omega
  rcases hk with rfl | rfl
  · show W.cell? ⟨g0, i, none⟩ = _
    rw [a2.cell i, List.getElem?_map]
    unfold row0
    rw [rowD_at _ hi]
    rfl
  · show W.cell? ⟨g1, i, none⟩ = _
    rw [a3.cell i, List.getElem?_map]
    unfold row0
    rw [rowD_at _ hi]
    rfl
theorem free (h : DQ2 w ab g0 g1 qg N d qu A us W) {k : Nat} (hk : k ≤ 1) (i : Nat) : W.frozen? ⟨gOf g0 g1 k, i, none⟩ = false := by
  obtain ⟨F, F2, a1, a2, a3, h2, h3, h9, h4, h5, h6, h7, h8⟩ := h
  have hk : k = 0 ∨ k = 1 := by omega
  rcases hk with rfl | rfl
  · exact a2.free i
  · exact a3.free i
theorem set_ (h : DQ2 w ab g0 g1 qg N d qu A us W) {k u : Nat} (hk : k ≤ 1) (hu : u < N) (v : Int) : DQ2 w ab g0 g1 qg N (updF d ((u : Int) * 2 + (k : Int)) v) qu A us (W.setCell ⟨gOf g0 g1 k, u, none⟩ (.int .i64 v)) := by
  obtain ⟨F, F2, a1, a2, a3, h2, h3, h9, h4, h5, h6, h7, h8⟩ := h
  have hk : k = 0 ∨ k = 1 := by omega
  rcases hk with rfl | rfl
  · show DQ2 w ab g0 g1 qg N _ qu A us (W.setCell ⟨g0, u, none⟩ (.int .i64 v))
    have k := Upd.setOne (Upd.refl (One g0) W) u (.int .i64 v)
    refine ⟨F, F2, a1.upd k (fun e => h9.1 e), ?_, ?_, h2.upd k (fun i hi e => h3.2.1 (e ▸ hi)), h3, h9, h4, h5, h6.then_ k fun i e => .inr (by rw [e]; exact h5.2.1), h7.upd k (fun i hi e => (h8 i hi).2.1.2.1 e), fun i hi => ⟨(h8 i hi).1, (h8 i hi).2.1, Nat.lt_of_lt_of_le (h8 i hi).2.2 k.size⟩⟩
    · have := a2.set_ u (.int .i64 v)
      rw [← List.map_set, row0_set d (.inl rfl) v hu] at this
      exact this
    · have e : row0 N (updF d ((u : Int) * 2 + ((0 : Nat) : Int)) v) 1 = row0 N d 1 := row0_other d (.inl rfl) (.inr rfl) (by decide) v
      rw [e]
      exact a3.upd k (fun e => h9.2.2 e.symm)
  · show DQ2 w ab g0 g1 qg N _ qu A us (W.setCell ⟨g1, u, none⟩ (.int .i64 v))
    have k := Upd.setOne (Upd.refl (One g1) W) u (.int .i64 v)
    refine ⟨F, F2, a1.upd k (fun e => h9.2.1 e), ?_, ?_, h2.upd k (fun i hi e => h3.2.2 (e ▸ hi)), h3, h9, h4, h5, h6.then_ k fun i e => .inr (by rw [e]; exact h5.2.2), h7.upd k (fun i hi e => (h8 i hi).2.1.2.2 e), fun i hi => ⟨(h8 i hi).1, (h8 i hi).2.1, Nat.lt_of_lt_of_le (h8 i hi).2.2 k.size⟩⟩
    · have e : row0 N (updF d ((u : Int) * 2 + ((1 : Nat) : Int)) v) 0 = row0 N d 0 := row0_other d (.inr rfl) (.inl rfl) (by decide) v
      rw [e]
      exact a2.upd k (fun e => h9.2.2 e)
    · have := a3.set_ u (.int .i64 v)
      rw [← List.map_set, row0_set d (.inr rfl) v hu] at this
      exact this
theorem push (h : DQ2 w ab g0 g1 qg N d qu A us W) (hN : N ≤ 32768) (hf : qu.length < 2 * N) (u : Int) : Calls Try.prog 165 #[.pointer (some ⟨qg, 0, none⟩), .int .i64 u] W fun e w' => e = .returned (.int .i64 0) ∧ DQ2 w ab g0 g1 qg N d (qu ++ [u]) A us w' := by
  obtain ⟨F, F2, a1, a2, a3, h2, h3, h9, h4, h5, h6, h7, h8⟩ := h
  refine (qpush W F qg ((2 * N : Nat) : Int) qu u h2 (by omega) (by omega) (by omega)).mono ?_
  rintro e w' ⟨rfl, F', hF', hq, hu⟩
  have hs := h6.size
  have hne : ∀ i, i < W.heap.size → ¬ F i → ¬ F' i := fun i hi hn e => by
    rcases hF' i e with e | e
    · exact hn e
    · omega
  refine ⟨rfl, F', F2, a1.upd hu h3.1, a2.upd hu h3.2.1, a3.upd hu h3.2.2, hq, ⟨hne ab a1.lt h3.1, hne g0 a2.lt h3.2.1, hne g1 a3.lt h3.2.2⟩, h9, fun i hi => ?_, h5, h6.then_ hu fun i e => .inr (h4 i e), h7.upd hu (fun i hi => (h8 i hi).1), fun i hi => ⟨hne i (h8 i hi).2.2 (h8 i hi).1, (h8 i hi).2.1, Nat.lt_of_lt_of_le (h8 i hi).2.2 hu.size⟩⟩
  rcases hF' i hi with e | e
  · exact h4 i e
  · omega
end DQ2
end Go.Proofs.Ytaicemjckagcaaa

/- Ways: how far each node is, by walks with an arc of another mask: the walk. -/
namespace Go.Proofs.Ytaicemjckagcaaa
set_option linter.unusedVariables false
open Go.RowKit
end Go.Proofs.Ytaicemjckagcaaa

/- Closed walks: what is left behind an arc. -/
namespace Go.Proofs.Ytaicemjckagcaaa
set_option linter.unusedVariables false
open Go.RowKit
/-- the two rows of distances in memory -/
structure LoopI (w : World) (A B : Option Addr) (N : Nat) (da dw : Int → Int) : Prop where
  a : Ints (fun _ => True) w A (rowD N da)
  b : Ints (fun _ => True) w B (rowD N dw)
theorem LoopI.upd {w w' : World} {A B : Option Addr} {N : Nat} {da dw : Int → Int} (h : LoopI w A B N da dw) (hu : Upd No w w') : LoopI w' A B N da dw := ⟨h.a.upd hu (fun _ _ => id), h.b.upd hu (fun _ _ => id)⟩
end Go.Proofs.Ytaicemjckagcaaa

/- Closed walks: the rows at a node. -/
namespace Go.Proofs.Ytaicemjckagcaaa
set_option linter.unusedVariables false
open Go.RowKit
end Go.Proofs.Ytaicemjckagcaaa

/- Closed walks, plain: the bounds of the rows. -/
namespace Go.Proofs.Ytaicemjckagcaaa
set_option linter.unusedVariables false
open Go.RowKit
end Go.Proofs.Ytaicemjckagcaaa

/- Closed walks: how many arcs the shortest has. -/
namespace Go.Proofs.Ytaicemjckagcaaa
set_option linter.unusedVariables false
open Go.RowKit
end Go.Proofs.Ytaicemjckagcaaa

/- Closed walks: the first of so many arcs. -/
namespace Go.Proofs.Ytaicemjckagcaaa
set_option linter.unusedVariables false
open Go.RowKit
end Go.Proofs.Ytaicemjckagcaaa

/- Closed walks: numbers by ranks. -/
namespace Go.Proofs.Ytaicemjckagcaaa
set_option linter.unusedVariables false
open Go.RowKit
end Go.Proofs.Ytaicemjckagcaaa

/- Closed walks, plain: ids and their ranks; what the first of the shortest is. -/
namespace Go.Proofs.Ytaicemjckagcaaa
set_option linter.unusedVariables false
open Go.RowKit
/-- where a number stands among numbers that rise -/
def rk : List Int → Int → Int
  | [], _ => 0
  | a :: s, x => if a < x then rk s x + 1 else 0
theorem rk_in : ∀ (s : List Int) (x : Int), 0 ≤ rk s x ∧ rk s x ≤ (s.length : Int)
  | [], x => by simp [rk]
  | a :: s, x => by
    have := rk_in s x
    unfold rk
    simp only [List.length_cons]
    split <;> omega
theorem rk_zero : ∀ {s : List Int} {x : Int}, (∀ y ∈ s, x ≤ y) → rk s x = 0
  | [], _, _ => rfl
  | a :: s, x, h => by
    unfold rk
    rw [if_neg (by have := h a List.mem_cons_self; omega)]
theorem rk_lt : ∀ {s : List Int} {x y : Int}, s.Pairwise (· < ·) → x ∈ s → x < y → rk s x < rk s y
  | [], x, y, _, h, _ => by cases h
  | a :: s, x, y, hs, h, hxy => by
    rw [List.pairwise_cons] at hs
    rcases List.mem_cons.1 h with rfl | h
    · have e1 : rk (x :: s) x = 0 := rk_zero fun z hz => by
        rcases List.mem_cons.1 hz with rfl | hz
        · exact Int.le_refl _
        · exact Int.le_of_lt (hs.1 z hz)
      rw [e1]
      unfold rk
      rw [if_pos hxy]
      have := rk_in s y
      omega
    · have h1 := hs.1 x h
      have h2 := rk_lt hs.2 h hxy
      unfold rk
      rw [if_pos h1, if_pos (by omega)]
      omega
theorem rk_le {s : List Int} {x y : Int} (hs : s.Pairwise (· < ·)) (hx : x ∈ s) (h : x ≤ y) : rk s x ≤ rk s y := by
  rcases Classical.em (x = y) with rfl | e
  · exact Int.le_refl _
  · have := rk_lt hs hx (show x < y by omega)
    omega
theorem rk_get : ∀ {s : List Int} {x : Int}, s.Pairwise (· < ·) → x ∈ s → rk s x < (s.length : Int) ∧ s.getD (rk s x).toNat 0 = x
  | [], x, _, h => by cases h
  | a :: s, x, hs, h => by
    rw [List.pairwise_cons] at hs
    rcases List.mem_cons.1 h with rfl | h
    · have e1 : rk (x :: s) x = 0 := rk_zero fun z hz => by
        rcases List.mem_cons.1 hz with rfl | hz
        · exact Int.le_refl _
        · exact Int.le_of_lt (hs.1 z hz)
      rw [e1]
      simp
    · have h1 := hs.1 x h
      have h2 := rk_get hs.2 h
      have h3 := rk_in s x
      unfold rk
      rw [if_pos h1]
      refine ⟨by simp only [List.length_cons]; omega, ?_⟩
      rw [show (rk s x + 1).toNat = (rk s x).toNat + 1 by omega, List.getD_cons_succ]
      exact h2.2
theorem getD_mem {s : List Int} {i : Int} (h0 : 0 ≤ i) (h1 : i < (s.length : Int)) : s.getD i.toNat 0 ∈ s := by
  rw [List.getD_eq_getElem?_getD, List.getElem?_eq_getElem (show i.toNat < s.length by omega)]
  exact List.getElem_mem _
theorem rk_getD {s : List Int} {i : Int} (hs : s.Pairwise (· < ·)) (h0 : 0 ≤ i) (h1 : i < (s.length : Int)) : rk s (s.getD i.toNat 0) = i := by
  have hm := getD_mem h0 h1
  have h2 := rk_get hs hm
  have h3 := rk_in s (s.getD i.toNat 0)
  have hp := List.pairwise_iff_getElem.1 hs
  rw [List.getD_eq_getElem?_getD, List.getD_eq_getElem?_getD] at h2
  rw [List.getD_eq_getElem?_getD] at h3 ⊢
  have hi : i.toNat < s.length := by omega
  rw [List.getElem?_eq_getElem hi] at h2 h3 ⊢
  simp only [Option.getD_some] at h2 h3 ⊢
  have hj : (rk s s[i.toNat]).toNat < s.length := by omega
  rw [List.getElem?_eq_getElem hj] at h2
  simp only [Option.getD_some] at h2
  rcases Nat.lt_trichotomy (rk s s[i.toNat]).toNat i.toNat with e | e | e
  · have := hp _ _ hj hi e; omega
  · omega
  · have := hp _ _ hi hj e; omega
theorem getD_le {s : List Int} {i j : Int} (hs : s.Pairwise (· < ·)) (h0 : 0 ≤ i) (h1 : j < (s.length : Int)) (h : i ≤ j) : s.getD i.toNat 0 ≤ s.getD j.toNat 0 := by
  rcases Classical.em (i = j) with rfl | e
  · exact Int.le_refl _
  · refine Classical.byContradiction fun hc => ?_
    have := rk_lt hs (getD_mem (s := s) (i := j) (by omega) h1) (show s.getD j.toNat 0 < s.getD i.toNat 0 by omega)
    rw [rk_getD hs h0 (by omega), rk_getD hs (by omega) h1] at this
    omega
/-- an arc by ranks, and back -/
def toR (ids keys : List Int) (a : HArc) : HArc := ⟨rk ids a.f, rk ids a.t, a.kind, rk keys a.label⟩
def unR (ids keys : List Int) (a : HArc) : HArc := ⟨ids.getD a.f.toNat 0, ids.getD a.t.toNat 0, a.kind, keys.getD a.label.toNat 0⟩
/-- the ids and keys of some arcs, and these arcs by ranks -/
structure Rk (D : List HArc) (ids keys : List Int) (q : List HArc) : Prop where
  si : ids.Pairwise (· < ·)
  sk : keys.Pairwise (· < ·)
  mi : ∀ a ∈ D, a.f ∈ ids ∧ a.t ∈ ids
  ml : ∀ a ∈ D, a.label ∈ keys
  mq : ∀ b, b ∈ q ↔ ∃ a ∈ D, b = toR ids keys a
section
variable {D : List HArc} {ids keys : List Int} {q : List HArc}
theorem Rk.un (h : Rk D ids keys q) {a : HArc} (ha : a ∈ D) : unR ids keys (toR ids keys a) = a := by
  obtain ⟨h1, h2⟩ := h.mi a ha
  have h3 := h.ml a ha
  obtain ⟨af, at', ak, al⟩ := a
  simp only at h1 h2 h3
  unfold unR toR
  simp only [(rk_get h.si h1).2, (rk_get h.si h2).2, (rk_get h.sk h3).2]
theorem Rk.to (h : Rk D ids keys q) {b : HArc} (hb : b ∈ q) : unR ids keys b ∈ D ∧ toR ids keys (unR ids keys b) = b := by
  obtain ⟨a, ha, rfl⟩ := (h.mq b).1 hb
  rw [h.un ha]
  exact ⟨ha, rfl⟩
theorem Rk.less (h : Rk D ids keys q) {a b : HArc} (ha : a ∈ D) (hb : b ∈ D) : lessA a b = true → lessA (toR ids keys a) (toR ids keys b) = true := by
  have a1 := h.mi a ha
  have b1 := h.mi b hb
  have a2 := h.ml a ha
  have b2 := h.ml b hb
  rw [lessA_iff, lessA_iff]
  unfold toR
  simp only
  rintro (e | ⟨e1, e | ⟨e2, e | ⟨e3, e⟩⟩⟩)
  · exact .inl (rk_lt h.si a1.1 e)
  · exact .inr ⟨by rw [e1], .inl e⟩
  · exact .inr ⟨by rw [e1], .inr ⟨e2, .inl (rk_lt h.sk a2 e)⟩⟩
  · exact .inr ⟨by rw [e1], .inr ⟨e2, .inr ⟨by rw [e3], rk_lt h.si a1.2 e⟩⟩⟩
theorem Rk.up (h : Rk D ids keys q) {least v : Int} (hl : least ∈ ids) : ∀ {l : List HArc} {u : Int}, okW D least u l v → u ∈ ids → okW q (rk ids least) (rk ids u) (l.map (toR ids keys)) (rk ids v)
  | [], u, hw, _ => by
    have hw : u = v := hw
    rw [hw]
    exact rfl
  | a :: l, u, hw, hu => by
    obtain ⟨ha, haf, hlu, hw⟩ := hw
    exact ⟨(h.mq _).2 ⟨a, ha, rfl⟩, by unfold toR; simp only; rw [haf], rk_le h.si hl hlu, h.up hl hw (h.mi a ha).2⟩
theorem Rk.down (h : Rk D ids keys q) {i k : Int} (hi : 0 ≤ i) : ∀ {l : List HArc} {j : Int}, okW q i j l k → 0 ≤ j → j < (ids.length : Int) → okW D (ids.getD i.toNat 0) (ids.getD j.toNat 0) (l.map (unR ids keys)) (ids.getD k.toNat 0)
  | [], j, hw, _, _ => by
    have hw : j = k := hw
    rw [hw]
    exact rfl
  | a :: l, j, hw, h0, h1 => by
    obtain ⟨ha, haf, hij, hw⟩ := hw
    have ha' := h.to ha
    obtain ⟨b, hb, e⟩ := (h.mq a).1 ha
    have ht : a.t = rk ids b.t := by rw [e]; rfl
    have h2 := rk_in ids b.t
    have h3 := rk_get h.si (h.mi b hb).2
    refine ⟨ha'.1, by show ids.getD a.f.toNat 0 = _; rw [haf], getD_le h.si hi h1 hij, ?_⟩
    exact h.down hi hw (by omega) (by omega)
end
theorem hasM_map {f : HArc → HArc} (hf : ∀ a, (f a).kind = a.kind) (must : Int) (l : List HArc) : hasM must (l.map f) = hasM must l := by
  unfold hasM
  rw [List.any_map]
  congr 1
  funext a
  show isM must (f a) = isM must a
  unfold isM
  rw [hf]
/-- the first of the shortest closed walks: its least node, and its arcs -/
structure Short (D : List HArc) (must : Int) (need : Bool) (v : Int) (c : List HArc) : Prop where
  ne : c ≠ []
  w : okW D v v c v
  m : need = true → hasM must c = true
  le : ∀ u c', c' ≠ [] → okW D u u c' u → (need = true → hasM must c' = true) → c.length ≤ c'.length ∧ (c.length = c'.length → v ≤ u ∧ (v = u → c' = c ∨ lexA c c'))
def NoWay (D : List HArc) (must : Int) (need : Bool) : Prop := ∀ u c', c' ≠ [] → okW D u u c' u → (need = true → hasM must c' = true) → False
theorem lexA_irr : ∀ {l m : List HArc}, lexA l m → lexA m l → False
  | [], m, h, _ => by cases m <;> exact h.elim
  | a :: l, [], h, _ => h.elim
  | a :: l, b :: m, h, k => by
    rcases h with h | ⟨e, h⟩
    · rcases k with k | ⟨e, k⟩
      · exact lessA_irr a (lessA_trans a b a h k)
      · rw [e] at h; exact lessA_irr a h
    · rcases k with k | ⟨e2, k⟩
      · rw [e] at k; exact lessA_irr b k
      · exact lexA_irr h k
theorem Short.same {D : List HArc} {must : Int} {need : Bool} {v u : Int} {c d : List HArc} (h : Short D must need v c) (k : Short D must need u d) : v = u ∧ c = d := by
  have h1 := h.le u d k.ne k.w k.m
  have k1 := k.le v c h.ne h.w h.m
  have hl : c.length = d.length := by omega
  have h2 := h1.2 hl
  have k2 := k1.2 hl.symm
  have hv : v = u := by omega
  refine ⟨hv, ?_⟩
  rcases h2.2 hv with e | e
  · exact e.symm
  · rcases k2.2 hv.symm with e2 | e2
    · exact e2
    · exact (lexA_irr e e2).elim
theorem Short.some {D : List HArc} {must : Int} {need : Bool} {v : Int} {c : List HArc} (h : Short D must need v c) (k : NoWay D must need) : False := k v c h.ne h.w h.m
/-- it meets no node twice -/
theorem Short.simple {D : List HArc} {must : Int} {need : Bool} {v : Int} {c : List HArc} (h : Short D must need v c) : c.Pairwise fun a b => a.f ≠ b.f :=
  way_simple h.w h.m (fun c' h1 h2 h3 => (h.le v c' h1 h2 h3).1) (fun u c' h1 h2 h3 => (h.le u c' h1 h2 h3).1)
theorem Rk.none {D : List HArc} {ids keys : List Int} {q : List HArc} (h : Rk D ids keys q) {must : Int} {need : Bool} (k : NoWay q must need) : NoWay D must need := by
  intro u c' n1 n2 n3
  have hu : u ∈ ids := by
    cases c' with
    | nil => exact absurd rfl n1
    | cons a l => rw [← n2.2.1]; exact (h.mi a n2.1).1
  exact k (rk ids u) (c'.map (toR ids keys)) (by simpa using n1) (h.up hu n2 hu) (fun e => by rw [hasM_map (f := toR ids keys) (fun _ => rfl)]; exact n3 e)
/-- a walk of fewer arcs is a walk of more -/
theorem Short.more {D D' : List HArc} {must : Int} {need : Bool} {v u : Int} {c d : List HArc} (h : Short D must need v c) (hD : ∀ a ∈ D, a ∈ D') (k : Short D' must need u d) : d.length ≤ c.length :=
  (k.le v c h.ne (okW_mono hD (Int.le_refl _) h.w) h.m).1
theorem okW_of_mem {p p' : List HArc} {least : Int} : ∀ {l : List HArc} {u v : Int}, okW p least u l v → (∀ a ∈ l, a ∈ p') → okW p' least u l v
  | [], u, v, h, _ => h
  | a :: l, u, v, h, hp => ⟨hp a List.mem_cons_self, h.2.1, h.2.2.1, okW_of_mem h.2.2.2 (fun x hx => hp x (List.mem_cons_of_mem _ hx))⟩
/-- without an arc that is not in it, it is the same -/
theorem Short.less {D D' : List HArc} {must : Int} {need : Bool} {v : Int} {c : List HArc} (h : Short D must need v c) (hD : ∀ a ∈ D', a ∈ D) (hc : ∀ a ∈ c, a ∈ D') : Short D' must need v c :=
  ⟨h.ne, okW_of_mem h.w hc, h.m, fun u c' n1 n2 n3 => h.le u c' n1 (okW_mono hD (Int.le_refl _) n2) n3⟩
theorem Short.must {D : List HArc} {must must' : Int} {need : Bool} {v : Int} {c : List HArc} (h : Short D must need v c) (hm : ∀ a ∈ D, isM must a = isM must' a) : Short D must' need v c := by
  have hh : ∀ l : List HArc, (∀ a ∈ l, a ∈ D) → hasM must l = hasM must' l := by
    intro l hl
    unfold hasM
    induction l with
    | nil => rfl
    | cons a l ih => rw [List.any_cons, List.any_cons, hm a (hl a List.mem_cons_self), ih (fun x hx => hl x (List.mem_cons_of_mem _ hx))]
  exact ⟨h.ne, h.w, fun e => by rw [← hh c (okW_mem h.w)]; exact h.m e, fun u c' n1 n2 n3 => h.le u c' n1 n2 (fun e => by rw [hh c' (okW_mem n2)]; exact n3 e)⟩
theorem NoWay.must {D : List HArc} {must must' : Int} {need : Bool} (h : NoWay D must need) (hm : ∀ a ∈ D, isM must a = isM must' a) : NoWay D must' need := by
  have hh : ∀ l : List HArc, (∀ a ∈ l, a ∈ D) → hasM must l = hasM must' l := by
    intro l hl
    unfold hasM
    induction l with
    | nil => rfl
    | cons a l ih => rw [List.any_cons, List.any_cons, hm a (hl a List.mem_cons_self), ih (fun x hx => hl x (List.mem_cons_of_mem _ hx))]
  exact fun u c' n1 n2 n3 => h u c' n1 n2 (fun e => by rw [hh c' (okW_mem n2)]; exact n3 e)
end Go.Proofs.Ytaicemjckagcaaa

/- Closed walks, plain: the document's search tells the same. -/
namespace Go.Proofs.Ytaicemjckagcaaa
set_option linter.unusedVariables false
open Go.RowKit
def Edge.arc (e : Edge) : HArc := ⟨e.f, e.t, e.k, e.key⟩
def HArc.edge (a : HArc) : Edge := ⟨a.f, a.t, a.kind, a.label⟩
section
variable {l : List Edge} {must lo : Int}
end
end Go.Proofs.Ytaicemjckagcaaa

/- Closed walks, the document's: edges put among others, and those of a mask. -/
namespace Go.Proofs.Ytaicemjckagcaaa
set_option linter.unusedVariables false
open Go.RowKit
def edgesF (l : List Edge) : List Value := (l.map Edge.cells).flatten
end Go.Proofs.Ytaicemjckagcaaa
