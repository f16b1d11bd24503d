/- Slices that read as rows of cells. -/
import Derived.Deep.Slices
import Derived.ChangeArms
import Derived.ChangeSame
import Derived.SizedLaws
import Derived.Test.YtmnhgdedkniafaaProg
import Derived.Laws.StructEq
import Derived.IntWalk
import Derived.WideLaws
import Derived.Sort.Grow
import Derived.Test.YtmnhgdedkniafaaMaa
namespace Go.Proofs.Ytmnhgdedkniafaa
set_option linter.unusedVariables false
open Go.RowKit

/-- a slice of A reads as rows of so many cells -/
def Recs (F : Nat → Prop) (w : World) (A : Option Addr) (size : Nat) (rows : List (List Value)) : Prop :=
  rows ≠ [] → ∃ ad, A = some ad ∧ F ad.block ∧ ad.block < w.heap.size ∧ ∀ (i : Nat) row, rows[i]? = some row → ∀ (j : Nat) v, row[j]? = some v → w.cell? (ad.add (i * size + j)) = some v
namespace Recs
variable {F S : Nat → Prop} {w w' : World} {A : Option Addr} {size : Nat} {rows : List (List Value)}
theorem at_ (h : Recs F w A size rows) {k : Nat} (hk : k < rows.length) : ∃ ad, A = some ad ∧ F ad.block ∧ ad.block < w.heap.size ∧ ∀ (j : Nat) v, rows[k][j]? = some v → w.cell? (if j = 0 then ad.add (k * size) else ⟨(ad.add (k * size)).block, (ad.add (k * size)).off + j, none⟩) = some v := by
  obtain ⟨ad, e, hf, hl, hc⟩ := h (by intro e; subst e; simp at hk)
  refine ⟨ad, e, hf, hl, fun j v hj => ?_⟩
  have := hc k _ (List.getElem?_eq_getElem hk) j v hj
  rw [← Ints.add_add] at this
  split
  · rename_i h0; subst h0; simpa [Addr.add] using this
  · rename_i h0
    rw [← this]
    congr 1
    generalize ad.add (k * size) = X
    unfold Addr.add
    rw [if_neg h0]
theorem upd (h : Recs F w A size rows) (k : Upd S w w') (hn : ∀ i, F i → ¬ S i) : Recs F w' A size rows := fun hne => by
  obtain ⟨ad, e, hf, hl, hc⟩ := h hne
  exact ⟨ad, e, hf, Nat.lt_of_lt_of_le hl k.size, fun i row hi j v hj => (k.cell (by rw [Ints.block_add]; exact hl) (by rw [Ints.block_add]; exact hn _ hf)).trans (hc i row hi j v hj)⟩
theorem lt (h : Recs F w A size rows) : Recs (fun i => i < w.heap.size) w A size rows := fun hne => by
  obtain ⟨ad, e, _, hl, hc⟩ := h hne
  exact ⟨ad, e, hl, hl, hc⟩
end Recs
theorem flat_len {rows : List (List Value)} {size : Nat} (h : ∀ r ∈ rows, r.length = size) : rows.flatten.length = rows.length * size := by
  induction rows with
  | nil => simp
  | cons a l ih =>
    rw [List.flatten_cons, List.length_append, ih (fun r hr => h r (List.mem_cons_of_mem _ hr)), h a (List.mem_cons_self ..), List.length_cons, Nat.add_mul, Nat.one_mul, Nat.add_comm]
theorem flat_get {rows : List (List Value)} {size : Nat} (h : ∀ r ∈ rows, r.length = size) {i k : Nat} {r : List Value} {v : Value} (h1 : rows[i]? = some r) (h2 : r[k]? = some v) : rows.flatten[i * size + k]? = some v := by
  induction rows generalizing i with
  | nil => simp at h1
  | cons a l ih =>
    have ha := h a (List.mem_cons_self ..)
    have hr := h r (List.mem_of_getElem? h1)
    have hk := (List.getElem?_eq_some_iff.1 h2).1
    cases i with
    | zero =>
      simp only [List.getElem?_cons_zero, Option.some.injEq] at h1
      subst h1
      rw [List.flatten_cons, List.getElem?_append_left (by omega)]
      simpa using h2
    | succ i =>
      have := ih (fun r hr => h r (List.mem_cons_of_mem _ hr)) (i := i) (by simpa using h1)
      rw [List.flatten_cons, List.getElem?_append_right (by rw [Nat.add_mul]; omega), ← this]
      congr 1
      rw [Nat.add_mul]
      omega
theorem Recs.of_own {w : World} {base : Nat} {e : TypeId} {size n c : Nat} {A : Option Addr} {rows : List (List Value)} (hr : ∀ r ∈ rows, r.length = size) (hs : 0 < size) (h : w.ownsRow base e size (.slice A n c) n rows.flatten) : Recs (Own (.slice A n c)) w A size rows := fun hne => by
  rcases h.2 with ⟨h', hn⟩ | ⟨g, cap, cur, hv, hb, hg, hnc, hcm, hcs, htake⟩
  · have := h.1
    rw [flat_len hr, hn] at this
    have : rows.length = 0 := by
      rcases Nat.mul_eq_zero.1 (show rows.length * size = 0 by omega) with h | h <;> omega
    exact absurd (List.eq_nil_of_length_eq_zero this) hne
  · cases hv
    refine ⟨⟨g, 0, none⟩, rfl, rfl, (Array.getElem?_eq_some_iff.1 hg).1, fun i row hi j v hj => ?_⟩
    have e1 : (⟨g, 0, none⟩ : Addr).add (i * size + j) = ⟨g, i * size + j, none⟩ := by unfold Addr.add; split <;> simp_all
    rw [e1, cell_of_row _ g _ _ _ (0, 0) hg]
    have h2 := flat_get hr hi hj
    rw [← htake, List.getElem?_take] at h2
    split at h2
    · simpa using h2
    · cases h2
theorem Recs.take {F : Nat → Prop} {w : World} {A : Option Addr} {size : Nat} {rows : List (List Value)} (h : Recs F w A size rows) {i : Nat} : Recs F w A size (rows.take i) := fun hne => by
  obtain ⟨ad, e, hf, hl, hc⟩ := h (by intro e; subst e; simp at hne)
  refine ⟨ad, e, hf, hl, fun i row hi j v hj => hc i row ?_ j v hj⟩
  rw [List.getElem?_take] at hi
  split at hi
  · exact hi
  · cases hi
theorem Recs.cut {F : Nat → Prop} {w : World} {A : Option Addr} {size : Nat} {rows : List (List Value)} (h : Recs F w A size rows) {i c : Nat} (hc : rows.length ≤ c) : Recs F w (cutA A c i size) size (rows.drop i) := fun hne => by
  have hi : i < rows.length := by
    rcases Nat.lt_or_ge i rows.length with h | h
    · exact h
    · exact absurd (List.drop_of_length_le h) hne
  obtain ⟨ad, rfl, hf, hl, hcc⟩ := h (by intro e; subst e; simp at hi)
  unfold cutA
  rw [if_neg (by omega)]
  refine ⟨ad.add (i * size), rfl, by rw [Ints.block_add]; exact hf, by rw [Ints.block_add]; exact hl, fun k row hk j v hj => ?_⟩
  rw [Ints.add_add, ← hcc (i + k) row (by rw [← hk, List.getElem?_drop]) j v hj, Nat.add_mul, Nat.add_assoc]
end Go.Proofs.Ytmnhgdedkniafaa

/- From the form's reading of an argument to lists of cells, with the reach: structs, slices, and what lies in them. -/
namespace Go.Proofs.Ytmnhgdedkniafaa
set_option linter.unusedVariables false
open Go.RowKit Go.ChangeShapes Go.WideShapes Go.Deep

section
variable {H : Type} (enc : TypeId × Value → H) (P : Program) (w : World) (base : Nat) (spare : Nat → Bool) (held : Bool)
/-- these cells read as a datum of type t, and nothing in it is beyond the reach -/
def Rdz (t : TypeId) (cs : List Value) : Prop := ∃ n y, DataW.trod enc P w base spare held n t cs = some y ∧ ∀ z ∈ y.1.weights P t, z ≤ reachBytes
end
section
variable {H : Type} {enc : TypeId × Value → H} {P : Program} {w : World} {base : Nat} {spare : Nat → Bool} {held : Bool} {t e : TypeId} {cs : List Value}
theorem weightsAll_mem {d : DataW H} : ∀ {l : List (DataW H)}, d ∈ l → ∀ n ∈ d.weights P e, n ∈ DataW.weightsAll P e l
  | x :: l, h, n, hn => by
    simp only [DataW.weightsAll, List.mem_append]
    rcases List.mem_cons.1 h with rfl | h
    · exact .inl hn
    · exact .inr (weightsAll_mem h n hn)
  | [], h, _, _ => by simp at h
theorem Rdz.int_ {k : IntKind} (ht : P.underlying t = some (.int k)) (h : Rdz enc P w base spare held t cs) : ∃ n, cs = [.int k n] ∧ (Lit.int k n).wf = true := by
  obtain ⟨n, y, h, _⟩ := h
  obtain ⟨a, rfl, _, hw⟩ := DataW.trod_int ht h
  exact ⟨a, rfl, hw⟩
theorem Rdz.struct_ {fs : Array Field} (ht : P.underlying t = some (.struct fs)) (h : Rdz enc P w base spare held t cs) :
    cs.length = P.cellsOf t ∧ ∀ (i : Nat) (f : Field), fs[i]? = some f → Rdz enc P w base spare held f.type ((cs.drop f.offset).take (P.cellsOf f.type)) := by
  obtain ⟨n, y, h, hz⟩ := h
  obtain ⟨xs, m, _, rfl, hl, hxl, hf⟩ := DataW.trod_struct ht h
  refine ⟨hl, fun i f hi => ?_⟩
  have hil : i < xs.length := by rw [hxl]; exact (Array.getElem?_eq_some_iff.1 hi).1
  refine ⟨m, xs[i], (hf i f hi).trans (List.getElem?_eq_getElem hil), fun z hzz => hz z ?_⟩
  simp only [DataW.weights, ht]
  refine DataW.weights_mem_each (j := i) (t := f.type) (d := xs[i].1) ?_ ?_ z hzz
  · rw [List.getElem?_map, Array.getElem?_toList, hi]; rfl
  · rw [List.getElem?_map, List.getElem?_eq_getElem hil]; rfl
/-- a slice is nil, or its elements are rows of cells, each of which reads; all of them are within the reach -/
theorem Rdz.slice_ {C : Nat} (ht : P.underlying t = some (.slice e)) (hC : P.cellsOf e = C) (hC0 : 0 < C) (h : Rdz enc P w base spare held t cs) :
    cs = [.slice none 0 0] ∨ ∃ (a : Addr) (len cap : Nat) (rows : List (List Value)), cs = [.slice (some a) len cap] ∧ len ≤ cap ∧ cap ≤ maxLen ∧ rows.length = len ∧ len * P.bytesOf e ≤ reachBytes ∧
      Recs (fun _ => True) w (some a) C rows ∧ ∀ row ∈ rows, row.length = C ∧ Rdz enc P w base spare held e row := by
  obtain ⟨n, y, h, hz⟩ := h
  rcases open_slice ht h with ⟨hcs, _⟩ | ⟨a, len, cap, m, n', D, Pl, hcs, hb, hl, hm, hmm, hx, hi⟩
  · exact .inl hcs
  · right
    rw [hC] at hi
    subst hx
    simp only [DataW.weights, ht] at hz
    have hlm : len ≤ m := by rw [hmm]; split <;> omega
    have hreach : len * P.bytesOf e ≤ reachBytes := by
      have := hz _ (List.mem_cons_self ..)
      simp only [List.length_map, List.length_range] at this
      exact Nat.le_trans (Nat.mul_le_mul_right _ (by omega)) this
    have hch : ∀ i : Fin len, ∃ row : List Value, w.cells? base (a.add (i.1 * C)) C = some row ∧ Rdz enc P w base spare held e row := fun i => by
      obtain ⟨cs', h1, h2⟩ := hi i.1 (by have := i.2; omega)
      refine ⟨cs', h1, n', _, h2, fun z hzz => hz z (List.mem_cons_of_mem _ (List.mem_append_left _ (weightsAll_mem (d := D i.1) ?_ z hzz)))⟩
      exact List.mem_map.2 ⟨i.1, List.mem_range.2 i.2, rfl⟩
    have hf := fun i => Classical.choose_spec (hch i)
    generalize hg : (fun i => Classical.choose (hch i)) = f at *
    have hf : ∀ i : Fin len, w.cells? base (a.add (i.1 * C)) C = some (f i) ∧ Rdz enc P w base spare held e (f i) := fun i => by rw [← hg]; exact hf i
    refine ⟨a, len, cap, List.ofFn f, hcs, hl, hm, by simp, hreach, fun hne => ?_, fun row hrow => ?_⟩
    · have hlen : 0 < len := by
        rcases Nat.eq_zero_or_pos len with h0 | h0
        · subst h0; simp at hne
        · exact h0
      obtain ⟨_, hl0, hc0⟩ := World.cells?_some (hf ⟨0, hlen⟩).1
      have hv : (f ⟨0, hlen⟩)[0]? = some ((f ⟨0, hlen⟩)[0]'(by omega)) := List.getElem?_eq_getElem (by omega)
      have hbl := block_lt_of_cell ((hc0 0 hC0).trans hv)
      simp only [Ints.block_add] at hbl
      refine ⟨a, rfl, trivial, hbl, fun i row hi' j v hj => ?_⟩
      obtain ⟨hil, hir⟩ := List.getElem?_eq_some_iff.1 hi'
      have hil' : i < len := by simpa using hil
      have hir' : f ⟨i, hil'⟩ = row := by rw [← hir]; simp
      obtain ⟨_, hl1, hc1⟩ := World.cells?_some (hf ⟨i, hil'⟩).1
      have hjl := (List.getElem?_eq_some_iff.1 hj).1
      rw [← Ints.add_add, hc1 j (by rw [← hl1, hir']; exact hjl), hir']
      exact hj
    · obtain ⟨i, rfl⟩ := (List.mem_ofFn).1 hrow
      exact ⟨(World.cells?_some (hf i).1).2.1, (hf i).2⟩
/-- the same, with what is known of each -/
theorem rows_of' {α : Type} {f : α → List Value} {Q : α → Prop} {rows : List (List Value)} (h : ∀ row ∈ rows, ∃ d, row = f d ∧ Q d) : ∃ ds : List α, rows = ds.map f ∧ ∀ d ∈ ds, Q d := by
  induction rows with
  | nil => exact ⟨[], rfl, fun d hd => by simp at hd⟩
  | cons r rs ih =>
    obtain ⟨d, rfl, hd⟩ := h _ (List.mem_cons_self ..)
    obtain ⟨ds, rfl, hds⟩ := ih fun row hr => h row (List.mem_cons_of_mem _ hr)
    exact ⟨d :: ds, rfl, fun x hx => by
      rcases List.mem_cons.1 hx with rfl | hx
      · exact hd
      · exact hds x hx⟩
end
end Go.Proofs.Ytmnhgdedkniafaa

/- Edges: how lists of them lie in memory; when two are one. -/
namespace Go.Proofs.Ytmnhgdedkniafaa
set_option linter.unusedVariables false
open Go.RowKit

/-- an edge -/
structure Edge where
  f : Int
  t : Int
  k : Int
  key : Int
deriving DecidableEq
def Edge.cells (e : Edge) : List Value := [.int .i64 e.f, .int .i64 e.t, .int .i64 e.k, .int .i64 e.key]
/-- a walk lies there -/
def Walk (F : Nat → Prop) (w : World) (A : Option Addr) (l : List Edge) : Prop := Recs F w A 4 (l.map Edge.cells)
theorem Walk.at_ {F : Nat → Prop} {w : World} {A : Option Addr} {l : List Edge} (h : Walk F w A l) {k : Nat} (hk : k < l.length) : ∃ ad, A = some ad ∧
    w.cell? (ad.add (k * 4)) = some (.int .i64 l[k].f) ∧ w.cell? ⟨(ad.add (k * 4)).block, (ad.add (k * 4)).off + 1, none⟩ = some (.int .i64 l[k].t) ∧
    w.cell? ⟨(ad.add (k * 4)).block, (ad.add (k * 4)).off + 2, none⟩ = some (.int .i64 l[k].k) ∧ w.cell? ⟨(ad.add (k * 4)).block, (ad.add (k * 4)).off + 3, none⟩ = some (.int .i64 l[k].key) := by
  have hk' : k < (l.map Edge.cells).length := by simpa using hk
  obtain ⟨ad, e, _, _, hc⟩ := Recs.at_ h hk'
  rw [List.getElem_map] at hc
  exact ⟨ad, e, by simpa using hc 0 _ rfl, by simpa using hc 1 _ rfl, by simpa using hc 2 _ rfl, by simpa using hc 3 _ rfl⟩
theorem Walk.upd {F S : Nat → Prop} {w w' : World} {A : Option Addr} {l : List Edge} (h : Walk F w A l) (k : Upd S w w') (hn : ∀ i, F i → ¬ S i) : Walk F w' A l := Recs.upd h k hn

end Go.Proofs.Ytmnhgdedkniafaa

/- Walks of edges: whether they are closed, and simple; by the program and by the document. -/
namespace Go.Proofs.Ytmnhgdedkniafaa
set_option linter.unusedVariables false
open Go.RowKit

end Go.Proofs.Ytmnhgdedkniafaa

/- Maps that the calls themselves make: what is in them, by key, whatever the kind of keys and elements. -/
namespace Go.Proofs.Ytmnhgdedkniafaa
set_option linter.unusedVariables false
open Go.RowKit

section
variable {α : Type} [DecidableEq α]
/-- the first entry of a key, and its place -/
def look (a : α) : List (α × Value) → Nat → Option (Nat × Value)
  | [], _ => none
  | p :: l, i => if a = p.1 then some (i, p.2) else look a l (i + 1)
def mget (m : List (α × Value)) (a : α) : Option Value := (look a m 0).map (·.2)
def mput (m : List (α × Value)) (a : α) (v : Value) : List (α × Value) :=
  match look a m 0 with
  | some (i, _) => m.modify i fun p => (p.1, v)
  | none => m ++ [(a, v)]
/-- keys of a type, as values: they are found as they are -/
structure KeyBy (P : Program) (kt : TypeId) (enc : α → Value) : Prop where
  check : ∀ (w : World) (e : Bool) (a : α), (Instr.checkKey e 10000 kt (enc a)).run P w = .ok () w
  bits : ∀ a, Instr.sameBits 10000 (enc a) (enc a) = true
  find : ∀ (w : World) (a : α) (es : List MapEntry) (m : List (α × Value)), es.map (fun e => (e.key, e.val)) = m.map (fun p => (enc p.1, p.2)) →
    (Instr.findKey kt (enc a) es).run P w = .ok (look a m 0) w

/-- block b is a map of just these entries -/
def MapIs (w : World) (b : Nat) (enc : α → Value) (m : List (α × Value)) : Prop :=
  ∃ es clock, w.heap[b]? = some (.map es clock) ∧ es.toList.map (fun e => (e.key, e.val)) = m.map (fun p => (enc p.1, p.2))
end

section
variable {α : Type} [DecidableEq α] {P : Program} {w w' : World} {b : Nat} {enc : α → Value} {m : List (α × Value)} {S : Nat → Prop} {t kt et : TypeId}
omit [DecidableEq α] in
theorem MapIs.lt (h : MapIs w b enc m) : b < w.heap.size := by
  obtain ⟨es, c, hb, _⟩ := h
  exact (Array.getElem?_eq_some_iff.1 hb).1
omit [DecidableEq α] in
theorem MapIs.upd (h : MapIs w b enc m) (k : Upd S w w') (hn : ¬ S b) : MapIs w' b enc m := by
  have hl := h.lt
  obtain ⟨es, c, hb, he⟩ := h
  exact ⟨es, c, (k.block b hl hn).trans hb, he⟩
omit [DecidableEq α] in
theorem MapIs.new (w : World) (enc : α → Value) : MapIs (w.alloc (.map #[] 0)) w.heap.size enc ([] : List (α × Value)) := ⟨#[], 0, heap_alloc_new w _, rfl⟩

theorem find_now {a : α} {d : TypeDesc} (heq : ∀ (x y : α), Instr.sameNow d (enc x) (enc y) = some (decide (x = y))) :
    ∀ (es : List MapEntry) (m : List (α × Value)) (i : Nat), es.map (fun e => (e.key, e.val)) = m.map (fun p => (enc p.1, p.2)) → Instr.findNow d (enc a) es i = some (look a m i)
  | [], [], i, _ => rfl
  | [], p :: m, i, h => by simp at h
  | e :: es, [], i, h => by simp at h
  | e :: es, p :: m, i, h => by
    simp only [List.map_cons, List.cons.injEq, Prod.mk.injEq] at h
    obtain ⟨⟨hk, hv⟩, hr⟩ := h
    have ih := find_now (a := a) heq es m (i + 1) hr
    simp only [Instr.findNow, hk, heq, look]
    by_cases hab : a = p.1
    · simp [hab, hv]
    · simp [hab, ih]
theorem KeyBy.int_ {k k' : IntKind} (ht : P.underlying kt = some (.int k')) : KeyBy P kt (fun n : Int => Value.int k n) where
  check w e a := by unfold Instr.checkKey; simp [run_underlying ht]
  bits a := by simp [Instr.sameBits]
  find w a es m h := by
    have := find_now (a := a) (enc := fun n : Int => Value.int k n) (d := .int k') (fun x y => by simp [Instr.sameNow]; rfl) es m 0 h
    simp [Instr.findKey, run_underlying ht, this]

theorem look_lt (a : α) : ∀ (m : List (α × Value)) (i : Nat) (r : Nat × Value), look a m i = some r → i ≤ r.1 ∧ m[r.1 - i]? = some (a, r.2)
  | [], i, r, h => by simp [look] at h
  | p :: m, i, r, h => by
    unfold look at h
    split at h
    · rename_i hab
      cases h
      subst hab
      simp
    · obtain ⟨h1, h2⟩ := look_lt a m (i + 1) r h
      refine ⟨by omega, ?_⟩
      rw [show r.1 - i = (r.1 - (i + 1)) + 1 by omega, List.getElem?_cons_succ]
      exact h2
omit [DecidableEq α] in
end

end Go.Proofs.Ytmnhgdedkniafaa

/- Walks of edges: closed, and simple, by the document; simple by the program. -/
namespace Go.Proofs.Ytmnhgdedkniafaa
set_option linter.unusedVariables false
open Go.RowKit

end Go.Proofs.Ytmnhgdedkniafaa

/- Edges held against one another: by the program and by the document. -/
namespace Go.Proofs.Ytmnhgdedkniafaa
set_option linter.unusedVariables false
open Go.RowKit

def cmpI (a b : Int) : Int := if a < b then -1 else if b < a then 1 else 0
theorem isnan (w : World) (n : Int) : Calls Try.prog 195 #[.int .i64 n] w fun e w' => e = .returned (.bool false) ∧ w = w' := by
  have hb : (n != n) = false := by simp
  go_enter Try.func195, Try.ntmps195
  go_wp2
  go_ret
  exact ⟨rfl, rfl⟩
theorem cmpint (w : World) (a b : Int) : Calls Try.prog 160 #[.int .i64 a, .int .i64 b] w fun e w' => e = .returned (.int .i64 (cmpI a b)) ∧ w = w' := by
  by_cases h1 : a < b
  · have H := Lib.hid (show cmpI a b = -1 by unfold cmpI; rw [if_pos h1])
    go_enter Try.func160, Try.ntmps160
    go_wp2_with fail
    refine (isnan _ _).mono ?_
    rintro e w' ⟨rfl, rfl⟩
    go_wp2_with fail
    refine (isnan _ _).mono ?_
    rintro e w' ⟨rfl, rfl⟩
    go_wp2
    go_ret
    exact ⟨by rw [H.out]; rfl, rfl⟩
  · by_cases h2 : b < a
    · have H := Lib.hid (show cmpI a b = 1 by unfold cmpI; rw [if_neg h1, if_pos h2])
      go_enter Try.func160, Try.ntmps160
      go_wp2_with fail
      refine (isnan _ _).mono ?_
      rintro e w' ⟨rfl, rfl⟩
      go_wp2_with fail
      refine (isnan _ _).mono ?_
      rintro e w' ⟨rfl, rfl⟩
      go_wp2
      go_ret
      exact ⟨by rw [H.out]; rfl, rfl⟩
    · have H := Lib.hid (show cmpI a b = 0 by unfold cmpI; rw [if_neg h1, if_neg h2])
      go_enter Try.func160, Try.ntmps160
      go_wp2_with fail
      refine (isnan _ _).mono ?_
      rintro e w' ⟨rfl, rfl⟩
      go_wp2_with fail
      refine (isnan _ _).mono ?_
      rintro e w' ⟨rfl, rfl⟩
      go_wp2
      go_ret
      exact ⟨by rw [H.out]; rfl, rfl⟩

/-- new blocks, and draws, and no more -/
def Grw (w w' : World) : Prop := ∃ q os', w' = Sort.grow (w.drewN q) os'
theorem Grw.refl (w : World) : Grw w w := ⟨0, #[], by unfold Sort.grow World.drewN; simp⟩
theorem Grw.alloc {w w' : World} (h : Grw w w') (o : Obj) : Grw w (w'.alloc o) := by
  obtain ⟨q, os', rfl⟩ := h
  exact ⟨q, os'.push o, by unfold Sort.grow World.drewN World.alloc; simp⟩
theorem Grw.drewN {w w' : World} (h : Grw w w') (n : Nat) : Grw w (w'.drewN n) := by
  obtain ⟨q, os', rfl⟩ := h
  exact ⟨q + n, os', by unfold Sort.grow World.drewN; simp [Nat.add_assoc]⟩
theorem Grw.upd {w w' : World} (h : Grw w w') : Upd No w w' := by
  obtain ⟨q, os', rfl⟩ := h
  exact ⟨rfl, rfl, rfl, by unfold Sort.grow World.drewN; simp, fun k hk _ => by unfold Sort.grow World.drewN; simp [Array.getElem?_append_left hk]⟩
end Go.Proofs.Ytmnhgdedkniafaa
