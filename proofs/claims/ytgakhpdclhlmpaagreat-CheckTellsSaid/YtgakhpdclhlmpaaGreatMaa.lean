/- Words for memory that the walks of this seat share: what a call may have turned, blocks that are known whole, slices that read as lists. -/
import Derived.WalkKit
import Derived.Handy
import Derived.WalkSpells
import Derived.WalkLawsBesides
import Derived.Lib.Hide
import Derived.Deep.LoopGhost
import Derived.Deep.QuietTactic
import Derived.BigQuiet
import Derived.Deep.DeepFit
import Derived.Deep.DeepMust
import Derived.Outline
import Derived.Maps.AppendAt
import Derived.Deep.RegionHeld3
import Derived.Deep.DeepCutAuto
import Derived.Laws.CopyOwn
import Derived.Deep.AppendLies
import Derived.Deep.Slices
import Derived.ChangeArms
import Derived.ChangeSame
import Derived.SizedLaws
import Derived.Test.YtgakhpdclhlmpaaGreatProg
import Derived.Laws.StructEq
namespace Go.Proofs.YtgakhpdclhlmpaaGreat
set_option linter.unusedVariables false
open Go.RowKit

/-- an operation that may come up first, in a region that draws its order -/
theorem wpT {P : Program} {ops : Array Oper} {Q : Exit → Act → World → Prop} {md : Region.Mode} {S : World → Prop} {fuel : Nat} {listed : Array Bool} {a : Act} {w : World} (i : Nat) (oi : Oper) (v : Value)
    (hy : YieldsIf P ops S oi v a) (h : wpAnyH P md ops Q S fuel (listed.setIfInBounds i true) (a.put oi.dst v) w)
    (hi : ops[i]? = some oi := by rfl) (hs : Region.noSelect ops = true := by kernel_rfl) (hf : Region.free md ops listed i = true := by kernel_rfl) (hr : (Region.ready md ops listed).contains i = true := by kernel_rfl)
    (hQ : ∀ c a w, Q (.panic c) (a.put oi.dst v) w → Q (.panic c) a w := by exact fun _ _ _ h => h) (hS : S w := by assumption) : wpAnyH P md ops Q S (fuel + 1) listed a w := wpAnyH_take hi hs hf hr hQ hy hS h
/-- of what was there, only blocks of S may have turned -/
structure Upd (S : Nat → Prop) (w w' : World) : Prop where
  os : w'.os = w.os
  tape : w'.tape = w.tape
  output : w'.output = w.output
  size : w.heap.size ≤ w'.heap.size
  block : ∀ k, k < w.heap.size → ¬ S k → w'.heap[k]? = w.heap[k]?

namespace Upd
variable {S T : Nat → Prop} {a w w' : World}
theorem refl (S : Nat → Prop) (w : World) : Upd S w w := ⟨rfl, rfl, rfl, Nat.le_refl _, fun _ _ _ => rfl⟩
theorem trans_ (h : Upd S a w) (k : Upd T w w') (hT : ∀ i, i < a.heap.size → T i → S i) : Upd S a w' :=
  ⟨k.os.trans h.os, k.tape.trans h.tape, k.output.trans h.output, Nat.le_trans h.size k.size,
    fun i hi hn => (k.block i (Nat.lt_of_lt_of_le hi h.size) (fun t => hn (hT i hi t))).trans (h.block i hi hn)⟩
theorem trans (h : Upd S a w) (k : Upd S w w') : Upd S a w' := h.trans_ k fun _ _ t => t
theorem mono (h : Upd S a w) (hT : ∀ i, i < a.heap.size → S i → T i) : Upd T a w := (refl T a).trans_ h hT
theorem drew (h : Upd S a w) : Upd S a w.drew := ⟨h.os, h.tape, h.output, h.size, h.block⟩
theorem drewN (h : Upd S a w) (n : Nat) : Upd S a (w.drewN n) := ⟨h.os, h.tape, h.output, h.size, h.block⟩
theorem alloc (h : Upd S a w) (o : Obj) : Upd S a (w.alloc o) :=
  h.trans ⟨rfl, rfl, rfl, by simp, fun k hk _ => Below.heap_alloc w o k hk⟩
theorem setCell (h : Upd S a w) {p : Addr} (hp : S p.block ∨ a.heap.size ≤ p.block) (v : Value) : Upd S a (w.setCell p v) :=
  ⟨h.os, h.tape, h.output, by simpa [World.setCell] using h.size, fun k hk hn => (Below.heap_setCell w p v k (by
    rintro rfl
    rcases hp with hp | hp
    · exact hn hp
    · omega)).trans (h.block k hk hn)⟩
theorem below {B : Nat} (h : Upd S a w) (hB : B ≤ a.heap.size) (hS : ∀ i, S i → B ≤ i) : Below B a w :=
  ⟨h.os, h.tape, h.output, h.size, fun k hk => h.block k (by omega) (fun s => by have := hS k s; omega)⟩
theorem cell (h : Upd S a w) {p : Addr} (hp : p.block < a.heap.size) (hn : ¬ S p.block) : w.cell? p = a.cell? p := World.cell?_of_block (h.block _ hp hn)
theorem of_drew (h : Upd S a.drew w) : Upd S a w := ⟨h.os, h.tape, h.output, h.size, h.block⟩
theorem keep (h : Upd S a w) {p : Addr} {v : Value} (hc : a.cell? p = some v) (hn : ¬ S p.block) : w.cell? p = some v := (h.cell (block_lt_of_cell hc) hn).trans hc
end Upd

/-- nothing that was there has turned -/
def No : Nat → Prop := fun _ => False
/-- one block may have turned -/
def One (g : Nat) : Nat → Prop := fun i => i = g

theorem Upd.setOne {g : Nat} {a w : World} (h : Upd (One g) a w) (i : Nat) (v : Value) : Upd (One g) a (w.setCell ⟨g, i, none⟩ v) := h.setCell (p := ⟨g, i, none⟩) (.inl rfl) v
theorem Upd.keepNo {a w : World} (h : Upd No a w) {p : Addr} {v : Value} (hc : a.cell? p = some v) : w.cell? p = some v := h.keep hc id
/-- block g is just these cells -/
def Blk (w : World) (g : Nat) (t : TypeId) (cs : List Value) : Prop := w.heap[g]? = some (.cells cs.toArray t (0, 0))
namespace Blk
variable {w w' : World} {g : Nat} {t : TypeId} {cs : List Value} {S : Nat → Prop}
theorem lt (h : Blk w g t cs) : g < w.heap.size := (Array.getElem?_eq_some_iff.1 h).1
theorem cell (h : Blk w g t cs) (i : Nat) : w.cell? ⟨g, i, none⟩ = cs[i]? := by
  rw [cell_of_row w g i _ t (0, 0) h, List.getElem?_toArray]
theorem free (h : Blk w g t cs) (i : Nat) : w.frozen? ⟨g, i, none⟩ = false := frozen_of_row w g i _ t h
theorem new (w : World) (t : TypeId) (cs : List Value) : Blk (w.alloc (.cells cs.toArray t)) w.heap.size t cs := heap_alloc_new w _
theorem new_at {n : Nat} {arr : Array Value} (h : n = w.heap.size) : Blk (w.alloc (.cells arr t)) n t arr.toList := by
  subst h; unfold Blk; rw [heap_alloc_new]
theorem upd (h : Blk w g t cs) (k : Upd S w w') (hn : ¬ S g) : Blk w' g t cs := (k.block g h.lt hn).trans h
theorem set_ (h : Blk w g t cs) (i : Nat) (v : Value) : Blk (w.setCell ⟨g, i, none⟩ v) g t (cs.set i v) := by
  unfold Blk at h ⊢
  rw [heap_setCell_same w g i _ t v h]
  simp
theorem far (h : Blk w g t cs) {p : Addr} (hp : g ≠ p.block) (v : Value) : Blk (w.setCell p v) g t cs := (Below.heap_setCell w p v g hp).trans h
theorem alloc (h : Blk w g t cs) (o : Obj) : Blk (w.alloc o) g t cs := (Below.heap_alloc w o g h.lt).trans h
theorem drew (h : Blk w g t cs) : Blk w.drew g t cs := h
theorem drewN (h : Blk w g t cs) (n : Nat) : Blk (w.drewN n) g t cs := h
end Blk

/-- a slice of A, n elements, reads as the numbers xs; it lies in blocks of F -/
def Ints (F : Nat → Prop) (w : World) (A : Option Addr) (xs : List Int) : Prop :=
  xs ≠ [] → ∃ ad, A = some ad ∧ F ad.block ∧ ad.block < w.heap.size ∧ ∀ j v, xs[j]? = some v → w.cell? (ad.add j) = some (.int .i64 v)
namespace Ints
variable {F S : Nat → Prop} {w w' : World} {A : Option Addr} {xs : List Int}
theorem block_add (a : Addr) (n : Nat) : (a.add n).block = a.block := by unfold Addr.add; split <;> rfl
theorem nil_ : Ints F w A [] := fun h => absurd rfl h
theorem at_ (h : Ints F w A xs) {k : Nat} (hk : k < xs.length) : ∃ ad, A = some ad ∧ F ad.block ∧ ad.block < w.heap.size ∧ w.cell? (ad.add k) = some (.int .i64 xs[k]) := by
  obtain ⟨ad, e, hf, hl, hc⟩ := h (by intro e; subst e; simp at hk)
  exact ⟨ad, e, hf, hl, hc k _ (List.getElem?_eq_getElem hk)⟩
theorem upd (h : Ints F w A xs) (k : Upd S w w') (hn : ∀ i, F i → ¬ S i) : Ints F w' A xs := fun hne => by
  obtain ⟨ad, e, hf, hl, hc⟩ := h hne
  exact ⟨ad, e, hf, Nat.lt_of_lt_of_le hl k.size, fun j v hj => (k.cell (by rw [block_add]; exact hl) (by rw [block_add]; exact hn _ hf)).trans (hc j v hj)⟩
theorem take (h : Ints F w A xs) {i : Nat} : Ints F w A (xs.take i) := fun hne => by
  obtain ⟨ad, e, hf, hl, hc⟩ := h (by intro e; subst e; simp at hne)
  refine ⟨ad, e, hf, hl, fun j v hj => hc j v ?_⟩
  rw [List.getElem?_take] at hj
  split at hj
  · exact hj
  · cases hj
theorem add_add (a : Addr) (i j : Nat) : (a.add i).add j = a.add (i + j) := by
  unfold Addr.add
  by_cases hi : i = 0 <;> by_cases hj : j = 0 <;> simp [hi, hj, Nat.add_assoc]
theorem cut_ (h : Ints F w A xs) {i c : Nat} (hc : xs.length ≤ c) : Ints F w (if c = i then A else A.map (·.add i)) (xs.drop i) := fun hne => by
  have hi : i < xs.length := by
    rcases Nat.lt_or_ge i xs.length with h | h
    · exact h
    · exact absurd (List.drop_of_length_le h) hne
  obtain ⟨ad, rfl, hf, hl, hcc⟩ := h (by intro e; subst e; simp at hi)
  rw [if_neg (by omega)]
  refine ⟨ad.add i, rfl, by rw [block_add]; exact hf, by rw [block_add]; exact hl, fun j v hj => ?_⟩
  rw [add_add]
  exact hcc _ v (by rw [← hj, List.getElem?_drop])
theorem vals (h : Ints F w A xs) : xs.map (Value.int .i64) ≠ [] → ∃ ad, A = some ad ∧ ∀ (j : Nat) v, (xs.map (Value.int .i64))[j]? = some v → w.cell? (ad.add j) = some v := fun hne => by
  obtain ⟨ad, e, _, _, hc⟩ := h (by intro e; subst e; simp at hne)
  refine ⟨ad, e, fun j v hj => ?_⟩
  rw [List.getElem?_map, Option.map_eq_some_iff] at hj
  obtain ⟨n, hn, rfl⟩ := hj
  exact hc j n hn
theorem one_ (l : List Int) : ∀ v ∈ l.map (Value.int .i64), v.oneCell' = true := fun v hv => by
  obtain ⟨n, _, rfl⟩ := List.mem_map.1 hv
  rfl
theorem lt (h : Ints F w A xs) : Ints (fun i => i < w.heap.size) w A xs := fun hne => by
  obtain ⟨ad, e, _, hl, hc⟩ := h hne
  exact ⟨ad, e, hl, hl, hc⟩
theorem drew (h : Ints F w A xs) : Ints F w.drew A xs := h
theorem drewN (h : Ints F w A xs) (n : Nat) : Ints F (w.drewN n) A xs := h
theorem of_row {cs : Array Value} {g : Nat} {t : TypeId} (hg : w.heap[g]? = some (.cells cs t (0, 0))) (hF : F g) (hx : ∀ (j : Nat) (v : Int), xs[j]? = some v → cs[j]? = some (Value.int .i64 v)) : Ints F w (some ⟨g, 0, none⟩) xs := fun _ => by
  refine ⟨_, rfl, hF, (Array.getElem?_eq_some_iff.1 hg).1, fun j v hj => ?_⟩
  have e : (⟨g, 0, none⟩ : Addr).add j = ⟨g, j, none⟩ := by unfold Addr.add; split <;> simp_all
  rw [e, cell_of_row w g j cs t (0, 0) hg]
  exact hx j v hj
theorem of_own {base : Nat} {e : TypeId} {n c : Nat} (h : w.ownsRow base e 1 (.slice A n c) n (xs.map (Value.int .i64))) : Ints (fun i => base ≤ i) w A xs := fun hne => by
  rcases h.2 with ⟨h', hn⟩ | ⟨g, cap, cur, hv, hb, hg, hnc, hcm, hcs, htake⟩
  · have := h.1
    simp only [List.length_map] at this
    have : xs.length = 0 := by omega
    exact absurd (List.eq_nil_of_length_eq_zero this) hne
  · simp only [Value.slice.injEq] at hv
    obtain ⟨rfl, _, rfl⟩ := hv
    refine of_row (F := fun i => base ≤ i) hg hb (fun j v hj => ?_) hne
    have h2 : (xs.map (Value.int .i64))[j]? = some (.int .i64 v) := by rw [List.getElem?_map, hj]; rfl
    rw [← htake, List.getElem?_take] at h2
    split at h2
    · simpa using h2
    · cases h2
end Ints
/-- t is a slice type of elements e, of so many cells and bytes -/
def SlT (P : Program) (t e : TypeId) (size bytes : Nat) : Prop :=
  P.underlying t = some (.slice e) ∧ ∃ i z, P.info? e = some i ∧ i.zero = some z ∧ i.size = size ∧ i.bytes = bytes ∧ z.cells.size = size ∧ 0 < size
theorem SlT.mk_ {P : Program} {t e : TypeId} {z : Value} {size bytes : Nat} (h1 : P.underlying t = some (.slice e))
    (h2 : (P.info? e).map (fun i => (i.zero, i.size, i.bytes)) = some (some z, size, bytes)) (h3 : z.cells.size = size) (h4 : 0 < size) : SlT P t e size bytes := by
  obtain ⟨i, a, b, c, d⟩ := info_parts h2
  exact ⟨h1, i, z, a, b, c, d, h3, h4⟩

theorem own_slice {w : World} {base : Nat} {e : TypeId} {size : Nat} {v : Value} {n : Nat} {xs : List Value} (h : w.ownsRow base e size v n xs) : ∃ A c, v = .slice A n c := by
  rcases h.2 with ⟨rfl, rfl⟩ | ⟨g, cap, cur, rfl, _⟩
  · exact ⟨none, 0, rfl⟩
  · exact ⟨_, _, rfl⟩

theorem own_upd {S : Nat → Prop} {w w' : World} {base : Nat} {e : TypeId} {size : Nat} {v : Value} {n : Nat} {xs : List Value} (h : w.ownsRow base e size v n xs) (k : Upd S w w') (hn : ∀ i, v.ownBlock = some i → ¬ S i) : w'.ownsRow base e size v n xs := by
  refine ⟨h.1, ?_⟩
  rcases h.2 with h0 | ⟨g, cap, cur, rfl, hb, hg, rest⟩
  · exact .inl h0
  · exact .inr ⟨g, cap, cur, rfl, hb, (k.block g (Array.getElem?_eq_some_iff.1 hg).1 (hn g rfl)).trans hg, rest⟩

theorem own_base {w : World} {base b2 : Nat} {e : TypeId} {size : Nat} {v : Value} {n : Nat} {xs : List Value} (h : w.ownsRow base e size v n xs) (hb : b2 ≤ base) : w.ownsRow b2 e size v n xs := by
  refine ⟨h.1, ?_⟩
  rcases h.2 with h0 | ⟨g, cap, cur, hv, hg, rest⟩
  · exact .inl h0
  · exact .inr ⟨g, cap, cur, hv, Nat.le_trans hb hg, rest⟩
theorem own_ge {a j n c : Nat} (e : Value.ownBlock (.slice (some ⟨a, 0, none⟩) n c) = some j) : a ≤ j := by
  have e1 : a = j := by simpa [Value.ownBlock] using e
  omega
/-- where a cut of a slice begins -/
def cutA (A : Option Addr) (cap l size : Nat) : Option Addr := if cap = l then A else A.map (·.add (l * size))
section
variable {P : Program} {t e : TypeId} {size bytes : Nat} (W : World)
theorem run_cut_h (hT : SlT P t e size bytes) (A : Option Addr) (len cap h : Nat) (h1 : h ≤ cap) :
    (Instr.slice t (.slice A len cap) none (some (.int .i64 h)) none).run P W = .ok (.slice (cutA A cap 0 size) h cap) W := by
  obtain ⟨ht, i, z, hi, hz, hsize, hby, hzs, hsz⟩ := hT
  have hel : P.elem t = e := by simp [Program.elem, ht]
  rw [run_slice_h _ t A len cap (by rw [hel]; exact ht) _ _ (by omega) (by omega)]
  simp [sizeOf, typeInfo, hel, hi, hsize, sliced, cutA, Result.andThen]
end

theorem Ints.cut {F : Nat → Prop} {w : World} {A : Option Addr} {xs : List Int} (h : Ints F w A xs) {i c : Nat} (hc : xs.length ≤ c) : Ints F w (cutA A c i 1) (xs.drop i) := by
  unfold cutA; rw [Nat.mul_one]; exact h.cut_ hc

theorem own_cap {w : World} {base : Nat} {e : TypeId} {size : Nat} {A : Option Addr} {c n : Nat} {xs : List Value} (h : w.ownsRow base e size (.slice A n c) n xs) : n ≤ c := by
  rcases h.2 with ⟨hv, rfl⟩ | ⟨g, cap, cur, hv, _, _, hnc, _⟩
  · omega
  · simp only [Value.slice.injEq] at hv
    obtain ⟨_, _, rfl⟩ := hv
    exact hnc

/-- which block a slice owns, behind an append: that one, or a new one -/
def Grew (w : World) (v v' : Value) : Prop := v'.ownBlock = v.ownBlock ∨ ∃ k, v'.ownBlock = some k ∧ w.heap.size ≤ k
/-- the block of a slice -/
def Own (v : Value) : Nat → Prop := fun i => v.ownBlock = some i

theorem Upd.of_grown {w w' : World} {v : Value} (h : w.grownBy w' v.ownBlock) : Upd (Own v) w w' :=
  ⟨h.os, h.tape, h.output, h.size, fun k hk hn => h.block k hk (fun e => hn e.symm)⟩

section
variable {P : Program} {ops : Array Oper} {rest : List Oper} {o : Oper} {a : Act} {Q : Exit → Act → World → Prop}
/-- append of one element that was just laid -/
theorem app1 {W : World} (hgd : o.guard = none) {s x : Operand} {t : TypeId}
    (ho : o.op = .call { callee := .builtin .append, args := #[s, x], argTypes := #[t, t] }) {e : TypeId} {size bytes : Nat} (hT : SlT P t e size bytes)
    {base : Nat} {v : Value} {n c : Nat} {xs cells : List Value} (hs : a.eval s = v) (hx : a.eval x = .slice (some ⟨W.heap.size, 0, none⟩) 1 c)
    (hown : W.ownsRow base e size v n xs) (hl : cells.length = size) (h1 : cells.all (·.oneCell') = true) (hn : n + 1 ≤ 9223372036854775807)
    (hb : (n + 1) * bytes ≤ 140737488355328) (hbase : base ≤ W.heap.size)
    (h : ∀ v' w', w'.ownsRow base e size v' (n + 1) (xs ++ cells) → Upd (Own v) W w' → Grew W v v' → wpList P ops Q rest (a.put o.dst v') w') :
    wpList P ops Q (o :: rest) a (W.alloc (.cells cells.toArray e)) := by
  obtain ⟨ht, i, z, hi, hz, hsize, hby, hzs, hsz⟩ := hT
  have hnews : ∀ j v, cells[j]? = some v → (W.alloc (.cells cells.toArray e)).cell? ((⟨W.heap.size, 0, none⟩ : Addr).add j) = some v := fun j v hj => by
    have e1 : (⟨W.heap.size, 0, none⟩ : Addr).add j = ⟨W.heap.size, j, none⟩ := by unfold Addr.add; split <;> simp_all
    rw [e1, cell_of_row _ _ j _ e (0, 0) (heap_alloc_new W _), List.getElem?_toArray]
    exact hj
  obtain ⟨v', w', hr, h2, h3, _, h5⟩ := Go.run_append_own_at (P := P) (W.alloc (.cells cells.toArray e)) base t o.type e i z size bytes ht hi hz hsize hby hzs hsz v n xs (hown.alloc _)
    ⟨W.heap.size, 0, none⟩ 1 c cells (by omega) hnews (by simpa using h1) (by simp only [maxLen]; omega) hb (by simp; omega)
  refine wpList_plain hgd fun _ hK => ?_
  unfold Oper.wp execOp
  simp only [ho, resolve, invoke, builtin, Sem.run_bind, Sem.run_pure, Result.andThen_ok, List.map_toArray, List.map_cons, List.map_nil, hs, hx, hr]
  refine hK _ _ (h v' w' h2 (((Upd.refl _ _).alloc _).trans (Upd.of_grown h3)) ?_)
  rcases h5 with h5 | h5
  · exact .inl h5
  · exact .inr ⟨_, h5, by simp⟩
end
section
variable {P : Program} {ops : Array Oper} {o : Oper} {a : Act} {Q : Exit → Act → World → Prop}
/-- append of one element, at a step of a region that draws its order -/
theorem step_app1 {W : World} {K : Act → World → Prop} {E : Prop} (hgd : o.guard = none) {s x : Operand} {t : TypeId}
    (ho : o.op = .call { callee := .builtin .append, args := #[s, x], argTypes := #[t, t] }) {e : TypeId} {size bytes : Nat} (hT : SlT P t e size bytes)
    {base : Nat} {v : Value} {n c : Nat} {ad : Addr} {xs cells : List Value} (hs : a.eval s = v) (hx : a.eval x = .slice (some ad) 1 c)
    (hown : W.ownsRow base e size v n xs) (hl : cells.length = size) (hnews : ∀ (j : Nat) v, cells[j]? = some v → W.cell? (ad.add j) = some v) (h1 : cells.all (·.oneCell') = true) (hn : n + 1 ≤ 9223372036854775807)
    (hb : (n + 1) * bytes ≤ 140737488355328) (hbase : base ≤ W.heap.size)
    (h : ∀ g cap w', w'.ownsRow base e size (.slice (some ⟨g, 0, none⟩) (n + 1) cap) (n + 1) (xs ++ cells) → Upd (Own v) W w' → Grew W v (.slice (some ⟨g, 0, none⟩) (n + 1) cap) → g < w'.heap.size →
      K (a.put o.dst (.slice (some ⟨g, 0, none⟩) (n + 1) cap)) w') :
    if Region.wanted o (yielded ops a.tmps) = true then Oper.wp P o a W K Q else E := by
  obtain ⟨ht, i, z, hi, hz, hsize, hby, hzs, hsz⟩ := hT
  refine step_append_lies W hgd s x t ho base e i z size bytes ht hi hz hsize hby hzs hsz v n xs hs hown ad 1 c cells hx (by omega) hnews (by simpa using h1) (by omega) (by simp only [maxLen]; omega) hb hbase W.heap.size rfl ?_
  intro g cap w' h2 h3 h4 h5
  refine h g cap w' h2 (Upd.of_grown h3) ?_ h5
  rcases h4 with h4 | h4
  · exact .inl h4.symm
  · exact .inr ⟨g, rfl, by omega⟩
end
/-- the same in a plain region: the value as it reads -/
theorem app1s {P : Program} {ops : Array Oper} {rest : List Oper} {o : Oper} {a : Act} {Q : Exit → Act → World → Prop} {W : World} (hgd : o.guard = none) {s x : Operand} {t : TypeId}
    (ho : o.op = .call { callee := .builtin .append, args := #[s, x], argTypes := #[t, t] }) {e : TypeId} {size bytes : Nat} (hT : SlT P t e size bytes)
    {base : Nat} {v : Value} {n c : Nat} {xs cells : List Value} (hs : a.eval s = v) (hx : a.eval x = .slice (some ⟨W.heap.size, 0, none⟩) 1 c)
    (hown : W.ownsRow base e size v n xs) (hl : cells.length = size) (h1 : cells.all (·.oneCell') = true) (hn : n + 1 ≤ 9223372036854775807)
    (hb : (n + 1) * bytes ≤ 140737488355328) (hbase : base ≤ W.heap.size)
    (h : ∀ g cap w', w'.ownsRow base e size (.slice (some ⟨g, 0, none⟩) (n + 1) cap) (n + 1) (xs ++ cells) → Upd (Own v) W w' → (v.ownBlock = some g ∨ W.heap.size ≤ g) → g < w'.heap.size →
      wpList P ops Q rest (a.put o.dst (.slice (some ⟨g, 0, none⟩) (n + 1) cap)) w') :
    wpList P ops Q (o :: rest) a (W.alloc (.cells cells.toArray e)) := by
  refine app1 hgd ho hT hs hx hown hl h1 hn hb hbase fun v' w' h2 h3 h4 => ?_
  obtain ⟨g, cap, rfl, _, hlt⟩ := h2.form (by omega)
  refine h g cap w' h2 h3 ?_ hlt
  rcases h4 with h4 | ⟨k, h4, hk⟩
  · exact .inl h4.symm
  · cases h4; exact .inr hk
theorem news_new {W : World} {cs : List Value} {e : TypeId} (j : Nat) (v : Value) (hj : cs[j]? = some v) : (W.alloc (.cells cs.toArray e)).cell? ((⟨W.heap.size, 0, none⟩ : Addr).add j) = some v :=
  World.news_of_block (heap_alloc_new W _) j v (by simpa using hj)
section
variable {P : Program} {w : World} {ops : Array Oper} {rest : List Oper} {o : Oper} {a : Act} {Q : Exit → Act → World → Prop}
end

section
variable {P : Program} {ops : Array Oper} {rest : List Oper} {o : Oper} {a : Act} {Q : Exit → Act → World → Prop}
theorem run_append_nil (W : World) {base : Nat} {t ty e : TypeId} {i : TypeInfo} {size : Nat} (ht : P.underlying t = some (.slice e)) (hi : P.info? e = some i)
    {v : Value} {n : Nat} {xs : List Value} (hown : W.ownsRow base e size v n xs) (c : Nat) : (Builtin.append_ #[t, t] ty #[v, .slice none 0 c]).run P W = .ok v W := by
  rcases hown.2 with ⟨rfl, rfl⟩ | ⟨g, cap, cur, rfl, _, _, hnc, _⟩
  · simp [Builtin.append_, run_underlying ht, sizeOf, typeInfo, hi, Builtin.lenOf, Builtin.firstCells]
  · simp [Builtin.append_, run_underlying ht, sizeOf, typeInfo, hi, Builtin.lenOf, Builtin.firstCells, hnc, storeCells]
/-- what is appended reads as these cells; it may be nil -/
def Src (W : World) (A : Option Addr) (m size : Nat) (news : List Value) : Prop :=
  news.length = m * size ∧ (news ≠ [] → ∃ ad, A = some ad ∧ ∀ (j : Nat) v, news[j]? = some v → W.cell? (ad.add j) = some v)
theorem run_appN (W : World) {t ty e : TypeId} {size bytes : Nat} (hT : SlT P t e size bytes) {base : Nat} {v : Value} {n m c : Nat} {A : Option Addr} {xs news : List Value}
    (hown : W.ownsRow base e size v n xs) (hsrc : Src W A m size news) (h1 : ∀ u ∈ news, u.oneCell' = true) (hn : n + m ≤ 9223372036854775807) (hb : (n + m) * bytes ≤ 140737488355328) (hbase : base ≤ W.heap.size) :
    ∃ v' w', (Builtin.append_ #[t, t] ty #[v, .slice A m c]).run P W = .ok v' w' ∧ w'.ownsRow base e size v' (n + m) (xs ++ news) ∧ Upd (Own v) W w' ∧ Grew W v v' := by
  obtain ⟨ht, i, z, hi, hz, hsize, hby, hzs, hsz⟩ := hT
  cases A with
  | none =>
    have hnews : news = [] := by
      rcases Classical.em (news = []) with h | h
      · exact h
      · obtain ⟨ad, h, _⟩ := hsrc.2 h
        cases h
    subst hnews
    have hm : m = 0 := by
      have h0 := hsrc.1
      rcases Nat.mul_eq_zero.1 (show m * size = 0 by rw [← h0]; rfl) with h | h <;> omega
    subst hm
    exact ⟨v, W, run_append_nil W ht hi hown c, by simpa using hown, Upd.refl _ _, .inl rfl⟩
  | some ad =>
    have hc : ∀ (j : Nat) v, news[j]? = some v → W.cell? (ad.add j) = some v := fun j v hj => by
      obtain ⟨ad', h, hc⟩ := hsrc.2 (by rintro rfl; simp at hj)
      cases h
      exact hc j v hj
    obtain ⟨v', w', hr, h2, h3, _, h5⟩ := Go.run_append_own_at (P := P) W base t ty e i z size bytes ht hi hz hsize hby hzs hsz v n xs hown ad m c news hsrc.1 hc h1 (by simp only [maxLen]; omega) hb hbase
    refine ⟨v', w', hr, h2, Upd.of_grown h3, ?_⟩
    rcases h5 with h5 | h5
    · exact .inl h5
    · exact .inr ⟨_, h5, Nat.le_refl _⟩
/-- append of many -/
theorem appN {W : World} (hgd : o.guard = none) {s x : Operand} {t : TypeId}
    (ho : o.op = .call { callee := .builtin .append, args := #[s, x], argTypes := #[t, t] }) {e : TypeId} {size bytes : Nat} (hT : SlT P t e size bytes)
    {base : Nat} {v : Value} {n m c : Nat} {A : Option Addr} {xs news : List Value} (hs : a.eval s = v) (hx : a.eval x = .slice A m c)
    (hown : W.ownsRow base e size v n xs) (hsrc : Src W A m size news) (h1 : ∀ u ∈ news, u.oneCell' = true) (hn : n + m ≤ 9223372036854775807)
    (hb : (n + m) * bytes ≤ 140737488355328) (hbase : base ≤ W.heap.size)
    (h : ∀ v' w', w'.ownsRow base e size v' (n + m) (xs ++ news) → Upd (Own v) W w' → Grew W v v' → wpList P ops Q rest (a.put o.dst v') w') :
    wpList P ops Q (o :: rest) a W := by
  obtain ⟨v', w', hr, h2, h3, h4⟩ := run_appN (P := P) (ty := o.type) (c := c) W hT hown hsrc h1 hn hb hbase
  refine wpList_plain hgd fun _ hK => ?_
  unfold Oper.wp execOp
  simp only [ho, resolve, invoke, builtin, Sem.run_bind, Sem.run_pure, Result.andThen_ok, List.map_toArray, List.map_cons, List.map_nil, hs, hx, hr]
  exact hK _ _ (h v' w' h2 h3 h4)
end
section
variable {P : Program} {ops : Array Oper} {o : Oper} {a : Act} {Q : Exit → Act → World → Prop}
end
theorem Ints.src {F : Nat → Prop} {w : World} {A : Option Addr} {xs : List Int} (h : Ints F w A xs) : Src w A xs.length 1 (xs.map (Value.int .i64)) := ⟨by simp, h.vals⟩

theorem Upd.then_ {S T : Nat → Prop} {w w1 w2 : World} (h : Upd S w w1) (h2 : Upd T w1 w2) (hT : ∀ i, T i → S i ∨ w.heap.size ≤ i) : Upd S w w2 :=
  h.trans_ h2 fun i hi t => by
    rcases hT i t with s | s
    · exact s
    · omega
/-- a text's bytes as numbers -/
def bytes (s : ByteArray) : List Int := s.data.toList.map fun b => (b.toNat : Int)
end Go.Proofs.YtgakhpdclhlmpaaGreat

/- Slices that read as rows of cells. -/
namespace Go.Proofs.YtgakhpdclhlmpaaGreat
set_option linter.unusedVariables false
open Go.RowKit

/-- a slice of A reads as rows of so many cells -/
def Recs (F : Nat → Prop) (w : World) (A : Option Addr) (size : Nat) (rows : List (List Value)) : Prop :=
  rows ≠ [] → ∃ ad, A = some ad ∧ F ad.block ∧ ad.block < w.heap.size ∧ ∀ (i : Nat) row, rows[i]? = some row → ∀ (j : Nat) v, row[j]? = some v → w.cell? (ad.add (i * size + j)) = some v
namespace Recs
variable {F S : Nat → Prop} {w w' : World} {A : Option Addr} {size : Nat} {rows : List (List Value)}
theorem at_ (h : Recs F w A size rows) {k : Nat} (hk : k < rows.length) : ∃ ad, A = some ad ∧ F ad.block ∧ ad.block < w.heap.size ∧ ∀ (j : Nat) v, rows[k][j]? = some v → w.cell? (if j = 0 then ad.add (k * size) else ⟨(ad.add (k * size)).block, (ad.add (k * size)).off + j, none⟩) = some v := by
  obtain ⟨ad, e, hf, hl, hc⟩ := h (by intro e; subst e; simp at hk)
  refine ⟨ad, e, hf, hl, fun j v hj => ?_⟩
  have := hc k _ (List.getElem?_eq_getElem hk) j v hj
  rw [← Ints.add_add] at this
  split
  · rename_i h0; subst h0; simpa [Addr.add] using this
  · rename_i h0
    rw [← this]
    congr 1
    generalize ad.add (k * size) = X
    unfold Addr.add
    rw [if_neg h0]
theorem upd (h : Recs F w A size rows) (k : Upd S w w') (hn : ∀ i, F i → ¬ S i) : Recs F w' A size rows := fun hne => by
  obtain ⟨ad, e, hf, hl, hc⟩ := h hne
  exact ⟨ad, e, hf, Nat.lt_of_lt_of_le hl k.size, fun i row hi j v hj => (k.cell (by rw [Ints.block_add]; exact hl) (by rw [Ints.block_add]; exact hn _ hf)).trans (hc i row hi j v hj)⟩
theorem lt (h : Recs F w A size rows) : Recs (fun i => i < w.heap.size) w A size rows := fun hne => by
  obtain ⟨ad, e, _, hl, hc⟩ := h hne
  exact ⟨ad, e, hl, hl, hc⟩
end Recs
theorem Ints.weak {F G : Nat → Prop} {w : World} {A : Option Addr} {xs : List Int} (h : Ints F w A xs) (hg : ∀ i, i < w.heap.size → F i → G i) : Ints G w A xs := fun hne => by
  obtain ⟨ad, e, hf, hl, hc⟩ := h hne
  exact ⟨ad, e, hg _ hl hf, hl, hc⟩

theorem flat_len {rows : List (List Value)} {size : Nat} (h : ∀ r ∈ rows, r.length = size) : rows.flatten.length = rows.length * size := by
  induction rows with
  | nil => simp
  | cons a l ih =>
    rw [List.flatten_cons, List.length_append, ih (fun r hr => h r (List.mem_cons_of_mem _ hr)), h a (List.mem_cons_self ..), List.length_cons, Nat.add_mul, Nat.one_mul, Nat.add_comm]
theorem flat_at {rows : List (List Value)} {size : Nat} (h : ∀ r ∈ rows, r.length = size) : ∀ (j : Nat) (v : Value), rows.flatten[j]? = some v → ∃ (i : Nat) (k : Nat) (r : List Value), rows[i]? = some r ∧ r[k]? = some v ∧ j = i * size + k := by
  induction rows with
  | nil => intro j v hj; simp at hj
  | cons a l ih =>
    intro j v hj
    have ha := h a (List.mem_cons_self ..)
    rw [List.flatten_cons, List.getElem?_append] at hj
    split at hj
    · exact ⟨0, j, a, rfl, hj, by omega⟩
    · obtain ⟨i, k, r, h1, h2, h3⟩ := ih (fun r hr => h r (List.mem_cons_of_mem _ hr)) _ v hj
      refine ⟨i + 1, k, r, h1, h2, ?_⟩
      rw [Nat.add_mul, Nat.one_mul]
      omega
theorem flat_get {rows : List (List Value)} {size : Nat} (h : ∀ r ∈ rows, r.length = size) {i k : Nat} {r : List Value} {v : Value} (h1 : rows[i]? = some r) (h2 : r[k]? = some v) : rows.flatten[i * size + k]? = some v := by
  induction rows generalizing i with
  | nil => simp at h1
  | cons a l ih =>
    have ha := h a (List.mem_cons_self ..)
    have hr := h r (List.mem_of_getElem? h1)
    have hk := (List.getElem?_eq_some_iff.1 h2).1
    cases i with
    | zero =>
      simp only [List.getElem?_cons_zero, Option.some.injEq] at h1
      subst h1
      rw [List.flatten_cons, List.getElem?_append_left (by omega)]
      simpa using h2
    | succ i =>
      have := ih (fun r hr => h r (List.mem_cons_of_mem _ hr)) (i := i) (by simpa using h1)
      rw [List.flatten_cons, List.getElem?_append_right (by rw [Nat.add_mul]; omega), ← this]
      congr 1
      rw [Nat.add_mul]
      omega
theorem Recs.src {F : Nat → Prop} {w : World} {A : Option Addr} {size : Nat} {rows : List (List Value)} (h : Recs F w A size rows) (hr : ∀ r ∈ rows, r.length = size) : Src w A rows.length size rows.flatten :=
  ⟨flat_len hr, fun hne => by
    obtain ⟨ad, e, _, _, hc⟩ := h (by rintro rfl; simp at hne)
    refine ⟨ad, e, fun j v hj => ?_⟩
    obtain ⟨i, k, r, h1, h2, rfl⟩ := flat_at hr j v hj
    exact hc i r h1 k v h2⟩
theorem Recs.of_own {w : World} {base : Nat} {e : TypeId} {size n c : Nat} {A : Option Addr} {rows : List (List Value)} (hr : ∀ r ∈ rows, r.length = size) (hs : 0 < size) (h : w.ownsRow base e size (.slice A n c) n rows.flatten) : Recs (Own (.slice A n c)) w A size rows := fun hne => by
  rcases h.2 with ⟨h', hn⟩ | ⟨g, cap, cur, hv, hb, hg, hnc, hcm, hcs, htake⟩
  · have := h.1
    rw [flat_len hr, hn] at this
    have : rows.length = 0 := by
      rcases Nat.mul_eq_zero.1 (show rows.length * size = 0 by omega) with h | h <;> omega
    exact absurd (List.eq_nil_of_length_eq_zero this) hne
  · cases hv
    refine ⟨⟨g, 0, none⟩, rfl, rfl, (Array.getElem?_eq_some_iff.1 hg).1, fun i row hi j v hj => ?_⟩
    have e1 : (⟨g, 0, none⟩ : Addr).add (i * size + j) = ⟨g, i * size + j, none⟩ := by unfold Addr.add; split <;> simp_all
    rw [e1, cell_of_row _ g _ _ _ (0, 0) hg]
    have h2 := flat_get hr hi hj
    rw [← htake, List.getElem?_take] at h2
    split at h2
    · simpa using h2
    · cases h2
theorem Recs.weak {F G : Nat → Prop} {w : World} {A : Option Addr} {size : Nat} {rows : List (List Value)} (h : Recs F w A size rows) (hg : ∀ i, i < w.heap.size → F i → G i) : Recs G w A size rows := fun hne => by
  obtain ⟨ad, e, hf, hl, hc⟩ := h hne
  exact ⟨ad, e, hg _ hl hf, hl, hc⟩
theorem Recs.take {F : Nat → Prop} {w : World} {A : Option Addr} {size : Nat} {rows : List (List Value)} (h : Recs F w A size rows) {i : Nat} : Recs F w A size (rows.take i) := fun hne => by
  obtain ⟨ad, e, hf, hl, hc⟩ := h (by intro e; subst e; simp at hne)
  refine ⟨ad, e, hf, hl, fun i row hi j v hj => hc i row ?_ j v hj⟩
  rw [List.getElem?_take] at hi
  split at hi
  · exact hi
  · cases hi
theorem Recs.cut {F : Nat → Prop} {w : World} {A : Option Addr} {size : Nat} {rows : List (List Value)} (h : Recs F w A size rows) {i c : Nat} (hc : rows.length ≤ c) : Recs F w (cutA A c i size) size (rows.drop i) := fun hne => by
  have hi : i < rows.length := by
    rcases Nat.lt_or_ge i rows.length with h | h
    · exact h
    · exact absurd (List.drop_of_length_le h) hne
  obtain ⟨ad, rfl, hf, hl, hcc⟩ := h (by intro e; subst e; simp at hi)
  unfold cutA
  rw [if_neg (by omega)]
  refine ⟨ad.add (i * size), rfl, by rw [Ints.block_add]; exact hf, by rw [Ints.block_add]; exact hl, fun k row hk j v hj => ?_⟩
  rw [Ints.add_add, ← hcc (i + k) row (by rw [← hk, List.getElem?_drop]) j v hj, Nat.add_mul, Nat.add_assoc]
end Go.Proofs.YtgakhpdclhlmpaaGreat

/- From the form's reading of an argument to lists of cells, with the reach: structs, slices, and what lies in them. -/
namespace Go.Proofs.YtgakhpdclhlmpaaGreat
set_option linter.unusedVariables false
open Go.RowKit Go.ChangeShapes Go.WideShapes Go.Deep

section
variable {H : Type} (enc : TypeId × Value → H) (P : Program) (w : World) (base : Nat) (spare : Nat → Bool) (held : Bool)
/-- these cells read as a datum of type t, and nothing in it is beyond the reach -/
def Rdz (t : TypeId) (cs : List Value) : Prop := ∃ n y, DataW.trod enc P w base spare held n t cs = some y ∧ ∀ z ∈ y.1.weights P t, z ≤ reachBytes
end
section
variable {H : Type} {enc : TypeId × Value → H} {P : Program} {w : World} {base : Nat} {spare : Nat → Bool} {held : Bool} {t e : TypeId} {cs : List Value}
theorem weightsAll_mem {d : DataW H} : ∀ {l : List (DataW H)}, d ∈ l → ∀ n ∈ d.weights P e, n ∈ DataW.weightsAll P e l
  | x :: l, h, n, hn => by
    simp only [DataW.weightsAll, List.mem_append]
    rcases List.mem_cons.1 h with rfl | h
    · exact .inl hn
    · exact .inr (weightsAll_mem h n hn)
  | [], h, _, _ => by simp at h
theorem Rdz.int_ {k : IntKind} (ht : P.underlying t = some (.int k)) (h : Rdz enc P w base spare held t cs) : ∃ n, cs = [.int k n] ∧ (Lit.int k n).wf = true := by
  obtain ⟨n, y, h, _⟩ := h
  obtain ⟨a, rfl, _, hw⟩ := DataW.trod_int ht h
  exact ⟨a, rfl, hw⟩
theorem Rdz.bool_ (ht : P.underlying t = some .bool) (h : Rdz enc P w base spare held t cs) : ∃ b, cs = [.bool b] := by
  obtain ⟨n, y, h, _⟩ := h
  obtain ⟨a, rfl, _⟩ := DataW.trod_bool ht h
  exact ⟨a, rfl⟩
theorem Rdz.struct_ {fs : Array Field} (ht : P.underlying t = some (.struct fs)) (h : Rdz enc P w base spare held t cs) :
    cs.length = P.cellsOf t ∧ ∀ (i : Nat) (f : Field), fs[i]? = some f → Rdz enc P w base spare held f.type ((cs.drop f.offset).take (P.cellsOf f.type)) := by
  obtain ⟨n, y, h, hz⟩ := h
  obtain ⟨xs, m, _, rfl, hl, hxl, hf⟩ := DataW.trod_struct ht h
  refine ⟨hl, fun i f hi => ?_⟩
  have hil : i < xs.length := by rw [hxl]; exact (Array.getElem?_eq_some_iff.1 hi).1
  refine ⟨m, xs[i], (hf i f hi).trans (List.getElem?_eq_getElem hil), fun z hzz => hz z ?_⟩
  simp only [DataW.weights, ht]
  refine DataW.weights_mem_each (j := i) (t := f.type) (d := xs[i].1) ?_ ?_ z hzz
  · rw [List.getElem?_map, Array.getElem?_toList, hi]; rfl
  · rw [List.getElem?_map, List.getElem?_eq_getElem hil]; rfl
/-- a slice is nil, or its elements are rows of cells, each of which reads; all of them are within the reach -/
theorem Rdz.slice_ {C : Nat} (ht : P.underlying t = some (.slice e)) (hC : P.cellsOf e = C) (hC0 : 0 < C) (h : Rdz enc P w base spare held t cs) :
    cs = [.slice none 0 0] ∨ ∃ (a : Addr) (len cap : Nat) (rows : List (List Value)), cs = [.slice (some a) len cap] ∧ len ≤ cap ∧ cap ≤ maxLen ∧ rows.length = len ∧ len * P.bytesOf e ≤ reachBytes ∧
      Recs (fun _ => True) w (some a) C rows ∧ ∀ row ∈ rows, row.length = C ∧ Rdz enc P w base spare held e row := by
  obtain ⟨n, y, h, hz⟩ := h
  rcases open_slice ht h with ⟨hcs, _⟩ | ⟨a, len, cap, m, n', D, Pl, hcs, hb, hl, hm, hmm, hx, hi⟩
  · exact .inl hcs
  · right
    rw [hC] at hi
    subst hx
    simp only [DataW.weights, ht] at hz
    have hlm : len ≤ m := by rw [hmm]; split <;> omega
    have hreach : len * P.bytesOf e ≤ reachBytes := by
      have := hz _ (List.mem_cons_self ..)
      simp only [List.length_map, List.length_range] at this
      exact Nat.le_trans (Nat.mul_le_mul_right _ (by omega)) this
    have hch : ∀ i : Fin len, ∃ row : List Value, w.cells? base (a.add (i.1 * C)) C = some row ∧ Rdz enc P w base spare held e row := fun i => by
      obtain ⟨cs', h1, h2⟩ := hi i.1 (by have := i.2; omega)
      refine ⟨cs', h1, n', _, h2, fun z hzz => hz z (List.mem_cons_of_mem _ (List.mem_append_left _ (weightsAll_mem (d := D i.1) ?_ z hzz)))⟩
      exact List.mem_map.2 ⟨i.1, List.mem_range.2 i.2, rfl⟩
    have hf := fun i => Classical.choose_spec (hch i)
    generalize hg : (fun i => Classical.choose (hch i)) = f at *
    have hf : ∀ i : Fin len, w.cells? base (a.add (i.1 * C)) C = some (f i) ∧ Rdz enc P w base spare held e (f i) := fun i => by rw [← hg]; exact hf i
    refine ⟨a, len, cap, List.ofFn f, hcs, hl, hm, by simp, hreach, fun hne => ?_, fun row hrow => ?_⟩
    · have hlen : 0 < len := by
        rcases Nat.eq_zero_or_pos len with h0 | h0
        · subst h0; simp at hne
        · exact h0
      obtain ⟨_, hl0, hc0⟩ := World.cells?_some (hf ⟨0, hlen⟩).1
      have hv : (f ⟨0, hlen⟩)[0]? = some ((f ⟨0, hlen⟩)[0]'(by omega)) := List.getElem?_eq_getElem (by omega)
      have hbl := block_lt_of_cell ((hc0 0 hC0).trans hv)
      simp only [Ints.block_add] at hbl
      refine ⟨a, rfl, trivial, hbl, fun i row hi' j v hj => ?_⟩
      obtain ⟨hil, hir⟩ := List.getElem?_eq_some_iff.1 hi'
      have hil' : i < len := by simpa using hil
      have hir' : f ⟨i, hil'⟩ = row := by rw [← hir]; simp
      obtain ⟨_, hl1, hc1⟩ := World.cells?_some (hf ⟨i, hil'⟩).1
      have hjl := (List.getElem?_eq_some_iff.1 hj).1
      rw [← Ints.add_add, hc1 j (by rw [← hl1, hir']; exact hjl), hir']
      exact hj
    · obtain ⟨i, rfl⟩ := (List.mem_ofFn).1 hrow
      exact ⟨(World.cells?_some (hf i).1).2.1, (hf i).2⟩
/-- the same, with what is known of each -/
theorem rows_of' {α : Type} {f : α → List Value} {Q : α → Prop} {rows : List (List Value)} (h : ∀ row ∈ rows, ∃ d, row = f d ∧ Q d) : ∃ ds : List α, rows = ds.map f ∧ ∀ d ∈ ds, Q d := by
  induction rows with
  | nil => exact ⟨[], rfl, fun d hd => by simp at hd⟩
  | cons r rs ih =>
    obtain ⟨d, rfl, hd⟩ := h _ (List.mem_cons_self ..)
    obtain ⟨ds, rfl, hds⟩ := ih fun row hr => h row (List.mem_cons_of_mem _ hr)
    exact ⟨d :: ds, rfl, fun x hx => by
      rcases List.mem_cons.1 hx with rfl | hx
      · exact hd
      · exact hds x hx⟩
end
end Go.Proofs.YtgakhpdclhlmpaaGreat

/- Histories: how operations, transactions, orders and histories lie in memory. -/
namespace Go.Proofs.YtgakhpdclhlmpaaGreat
set_option linter.unusedVariables false
open Go.RowKit

def i64 (n : Int) : Prop := -9223372036854775808 ≤ n ∧ n ≤ 9223372036854775807
/-- an operation -/
structure HOp where
  read : Bool
  key : Int
  tx : Int
  nth : Int
deriving DecidableEq
def HOp.cells (o : HOp) : List Value := [.bool o.read, .int .i64 o.key, .int .i64 o.tx, .int .i64 o.nth]
def HOp.ok (o : HOp) : Prop := i64 o.key ∧ i64 o.tx ∧ i64 o.nth
/-- a version -/
structure Ver where
  tx : Int
  key : Int
  nth : Int
deriving DecidableEq
def Ver.cells (v : Ver) : List Value := [.int .i64 v.tx, .int .i64 v.key, .int .i64 v.nth]
/-- operations lie there -/
def HOps (F : Nat → Prop) (w : World) (A : Option Addr) (l : List HOp) : Prop := Recs F w A 4 (l.map HOp.cells)
/-- a transaction; its operations from A on -/
structure HTx where
  id : Int
  done : Bool
  ops : List HOp
  A : Option Addr
  c : Nat
def HTx.cells (t : HTx) : List Value := [.int .i64 t.id, .bool t.done, .slice t.A t.ops.length t.c]
/-- so many operations at the most as can be read -/
def fewOps (n : Nat) : Prop := n ≤ 4398046511103
def HTx.lies (F : Nat → Prop) (w : World) (t : HTx) : Prop := HOps F w t.A t.ops ∧ t.ops.length ≤ t.c ∧ fewOps t.ops.length ∧ i64 t.id ∧ ∀ o ∈ t.ops, o.ok
/-- an order -/
structure HOrd where
  key : Int
  txs : List Int
  A : Option Addr
  c : Nat
def HOrd.cells (o : HOrd) : List Value := [.int .i64 o.key, .slice o.A o.txs.length o.c]
def HOrd.lies (F : Nat → Prop) (w : World) (o : HOrd) : Prop := Ints F w o.A o.txs ∧ o.txs.length ≤ o.c ∧ o.txs.length ≤ 17592186044415 ∧ i64 o.key ∧ ∀ n ∈ o.txs, i64 n
/-- a history -/
structure Hist where
  txs : List HTx
  ords : List HOrd
  A : Option Addr
  c : Nat
  B : Option Addr
  d : Nat
def Hist.val (h : Hist) : Value := .agg #[.slice h.A h.txs.length h.c, .slice h.B h.ords.length h.d]
def Hist.cells (h : Hist) : List Value := [.slice h.A h.txs.length h.c, .slice h.B h.ords.length h.d]
structure Hist.lies (F : Nat → Prop) (w : World) (h : Hist) : Prop where
  txs : Recs F w h.A 3 (h.txs.map HTx.cells)
  ords : Recs F w h.B 2 (h.ords.map HOrd.cells)
  tx : ∀ t ∈ h.txs, t.lies F w
  ord : ∀ o ∈ h.ords, o.lies F w
  c : h.txs.length ≤ h.c
  d : h.ords.length ≤ h.d
  few : h.txs.length ≤ 4398046511103
  fewo : h.ords.length ≤ 4398046511103
section
variable {F S : Nat → Prop} {w w' : World}
theorem HOps.upd {A : Option Addr} {l : List HOp} (h : HOps F w A l) (k : Upd S w w') (hn : ∀ i, F i → ¬ S i) : HOps F w' A l := Recs.upd h k hn
theorem HTx.lies.upd {t : HTx} (h : t.lies F w) (k : Upd S w w') (hn : ∀ i, F i → ¬ S i) : t.lies F w' := ⟨HOps.upd h.1 k hn, h.2⟩
theorem HOrd.lies.upd {o : HOrd} (h : o.lies F w) (k : Upd S w w') (hn : ∀ i, F i → ¬ S i) : o.lies F w' := ⟨h.1.upd k hn, h.2⟩
theorem Hist.lies.upd {h : Hist} (H : h.lies F w) (k : Upd S w w') (hn : ∀ i, F i → ¬ S i) : h.lies F w' :=
  ⟨Recs.upd H.txs k hn, Recs.upd H.ords k hn, fun t ht => (H.tx t ht).upd k hn, fun o ho => (H.ord o ho).upd k hn, H.c, H.d, H.few, H.fewo⟩
theorem HOps.at_ {A : Option Addr} {l : List HOp} (h : HOps F w A l) {k : Nat} (hk : k < l.length) : ∃ ad, A = some ad ∧
    w.cell? (ad.add (k * 4)) = some (.bool l[k].read) ∧ w.cell? ⟨(ad.add (k * 4)).block, (ad.add (k * 4)).off + 1, none⟩ = some (.int .i64 l[k].key) ∧
    w.cell? ⟨(ad.add (k * 4)).block, (ad.add (k * 4)).off + 2, none⟩ = some (.int .i64 l[k].tx) ∧ w.cell? ⟨(ad.add (k * 4)).block, (ad.add (k * 4)).off + 3, none⟩ = some (.int .i64 l[k].nth) := by
  have hk' : k < (l.map HOp.cells).length := by simpa using hk
  obtain ⟨ad, e, _, _, hc⟩ := Recs.at_ h hk'
  rw [List.getElem_map] at hc
  exact ⟨ad, e, by simpa using hc 0 _ rfl, by simpa using hc 1 _ rfl, by simpa using hc 2 _ rfl, by simpa using hc 3 _ rfl⟩
theorem Hist.lies.tx_at {h : Hist} (H : h.lies F w) {k : Nat} (hk : k < h.txs.length) : ∃ ad, h.A = some ad ∧
    w.cell? (ad.add (k * 3)) = some (.int .i64 h.txs[k].id) ∧ w.cell? ⟨(ad.add (k * 3)).block, (ad.add (k * 3)).off + 1, none⟩ = some (.bool h.txs[k].done) ∧
    w.cell? ⟨(ad.add (k * 3)).block, (ad.add (k * 3)).off + 2, none⟩ = some (.slice h.txs[k].A h.txs[k].ops.length h.txs[k].c) := by
  have hk' : k < (h.txs.map HTx.cells).length := by simpa using hk
  obtain ⟨ad, e, _, _, hc⟩ := Recs.at_ H.txs hk'
  rw [List.getElem_map] at hc
  exact ⟨ad, e, by simpa using hc 0 _ rfl, by simpa using hc 1 _ rfl, by simpa using hc 2 _ rfl⟩
theorem Hist.lies.ord_at {h : Hist} (H : h.lies F w) {k : Nat} (hk : k < h.ords.length) : ∃ ad, h.B = some ad ∧
    w.cell? (ad.add (k * 2)) = some (.int .i64 h.ords[k].key) ∧ w.cell? ⟨(ad.add (k * 2)).block, (ad.add (k * 2)).off + 1, none⟩ = some (.slice h.ords[k].A h.ords[k].txs.length h.ords[k].c) := by
  have hk' : k < (h.ords.map HOrd.cells).length := by simpa using hk
  obtain ⟨ad, e, _, _, hc⟩ := Recs.at_ H.ords hk'
  rw [List.getElem_map] at hc
  exact ⟨ad, e, by simpa using hc 0 _ rfl, by simpa using hc 1 _ rfl⟩
end
/-- the version that an operation reads -/
def verOf (o : HOp) : Ver := if o.read then ⟨o.tx, o.key, o.nth⟩ else ⟨0, 0, 0⟩
/-- is it an id -/
def idB (n : Int) : Bool := decide (1 ≤ n) && decide (n ≤ 1048575)
/-- is the version right -/
def verB (v : Ver) : Bool := idB v.key && ((v.tx == 0 && v.nth == 0) || (idB v.tx && decide (1 ≤ v.nth) && decide (v.nth ≤ 4095)))
/-- is the operation right -/
def opB (o : HOp) : Bool := if o.read then verB (verOf o) else idB o.key && o.tx == 0 && o.nth == 0
end Go.Proofs.YtgakhpdclhlmpaaGreat

/- How histories that come in read. -/
namespace Go.Proofs.YtgakhpdclhlmpaaGreat
set_option linter.unusedVariables false
open Go.RowKit
theorem cs4 {l : List Value} (h : l.length = 4) : ∃ a b c d, l = [a, b, c, d] :=
  match l, h with
  | [a, b, c, d], _ => ⟨a, b, c, d, rfl⟩
theorem cs3 {l : List Value} (h : l.length = 3) : ∃ a b c, l = [a, b, c] :=
  match l, h with
  | [a, b, c], _ => ⟨a, b, c, rfl⟩
theorem cs2 {l : List Value} (h : l.length = 2) : ∃ a b, l = [a, b] :=
  match l, h with
  | [a, b], _ => ⟨a, b, rfl⟩
theorem cs1 {l : List Value} (h : l.length = 1) : ∃ a, l = [a] :=
  match l, h with
  | [a], _ => ⟨a, rfl⟩
theorem wf_i64 {n : Int} (h : (Lit.int .i64 n).wf = true) : i64 n := by
  unfold i64
  simp [Lit.wf, IntKind.min, IntKind.max, IntKind.signed, IntKind.bits] at h; omega
theorem CHint : Tryz.prog.cellsOf 3 = 1 := by kernel_rfl
theorem CHbool : Tryz.prog.cellsOf 4 = 1 := by kernel_rfl
theorem CHop : Tryz.prog.cellsOf 53 = 4 := by kernel_rfl
theorem BHop : Tryz.prog.bytesOf 53 = 32 := by kernel_rfl
theorem CHops : Tryz.prog.cellsOf 45 = 1 := by kernel_rfl
theorem CHtx : Tryz.prog.cellsOf 47 = 3 := by kernel_rfl
theorem BHtx : Tryz.prog.bytesOf 47 = 40 := by kernel_rfl
theorem CHtxs : Tryz.prog.cellsOf 22 = 1 := by kernel_rfl
theorem CHints : Tryz.prog.cellsOf 48 = 1 := by kernel_rfl
theorem BHint : Tryz.prog.bytesOf 3 = 8 := by kernel_rfl
theorem CHord : Tryz.prog.cellsOf 50 = 2 := by kernel_rfl
theorem BHord : Tryz.prog.bytesOf 50 = 32 := by kernel_rfl
theorem CHords : Tryz.prog.cellsOf 23 = 1 := by kernel_rfl
theorem CHhist : Tryz.prog.cellsOf 25 = 2 := by kernel_rfl
section
variable {H : Type} {enc : TypeId × Value → H} {w : World} {base : Nat} {spare : Nat → Bool} {held : Bool} {row : List Value}
theorem rhi {v : Value} (h : Rdz enc Tryz.prog w base spare held 3 [v]) : ∃ n, v = .int .i64 n ∧ i64 n := by
  obtain ⟨n, e, hw⟩ := Rdz.int_ Tryz.underlying3 h
  cases e
  exact ⟨n, rfl, wf_i64 hw⟩
theorem rhb {v : Value} (h : Rdz enc Tryz.prog w base spare held 4 [v]) : ∃ n, v = .bool n := by
  obtain ⟨n, e⟩ := Rdz.bool_ Tryz.underlying4 h
  cases e
  exact ⟨n, rfl⟩
theorem rhop (h : Rdz enc Tryz.prog w base spare held 53 row) : ∃ o : HOp, row = o.cells ∧ o.ok := by
  obtain ⟨hl, hf⟩ := h.struct_ Tryz.underlying53
  rw [CHop] at hl
  obtain ⟨c0, c1, c2, c3, rfl⟩ := cs4 hl
  have h0 : Rdz enc Tryz.prog w base spare held 4 (([c0, c1, c2, c3].drop 0).take (Tryz.prog.cellsOf 4)) := hf 0 _ rfl
  have h1 : Rdz enc Tryz.prog w base spare held 3 (([c0, c1, c2, c3].drop 1).take (Tryz.prog.cellsOf 3)) := hf 1 _ rfl
  have h2 : Rdz enc Tryz.prog w base spare held 3 (([c0, c1, c2, c3].drop 2).take (Tryz.prog.cellsOf 3)) := hf 2 _ rfl
  have h3 : Rdz enc Tryz.prog w base spare held 3 (([c0, c1, c2, c3].drop 3).take (Tryz.prog.cellsOf 3)) := hf 3 _ rfl
  rw [CHint] at h1 h2 h3
  rw [CHbool] at h0
  obtain ⟨n0, rfl⟩ := rhb h0
  obtain ⟨n1, rfl, b1⟩ := rhi h1
  obtain ⟨n2, rfl, b2⟩ := rhi h2
  obtain ⟨n3, rfl, b3⟩ := rhi h3
  exact ⟨⟨n0, n1, n2, n3⟩, rfl, b1, b2, b3⟩
theorem rhops {v : Value} (h : Rdz enc Tryz.prog w base spare held 45 [v]) : ∃ (A : Option Addr) (c : Nat) (l : List HOp), v = .slice A l.length c ∧ HOps (fun _ => True) w A l ∧ l.length ≤ c ∧ fewOps l.length ∧ ∀ o ∈ l, o.ok := by
  rcases h.slice_ Tryz.underlying45 CHop (by omega) with h | ⟨a, len, cap, rows, hv, hl, hm, hlen, hz, hrec, hrow⟩
  · cases h
    exact ⟨none, 0, [], rfl, fun h => absurd rfl h, by simp, by unfold fewOps; simp, fun e he => by simp at he⟩
  · cases hv
    obtain ⟨l, rfl, hok⟩ := rows_of' (f := HOp.cells) (Q := HOp.ok) fun row hr => rhop (hrow row hr).2
    rw [List.length_map] at hlen
    subst hlen
    rw [BHop] at hz
    unfold reachBytes at hz
    exact ⟨some a, cap, l, rfl, hrec, hl, by unfold fewOps; omega, hok⟩
theorem rhints {v : Value} (h : Rdz enc Tryz.prog w base spare held 48 [v]) : ∃ (A : Option Addr) (c : Nat) (l : List Int), v = .slice A l.length c ∧ Ints (fun _ => True) w A l ∧ l.length ≤ c ∧ l.length ≤ 17592186044415 ∧ ∀ n ∈ l, i64 n := by
  rcases h.slice_ Tryz.underlying48 CHint (by omega) with h | ⟨a, len, cap, rows, hv, hl, hm, hlen, hz, hrec, hrow⟩
  · cases h
    exact ⟨none, 0, [], rfl, fun h => absurd rfl h, by simp, by simp, fun e he => by simp at he⟩
  · cases hv
    obtain ⟨l, rfl, hok⟩ := rows_of' (f := fun n : Int => [Value.int .i64 n]) (Q := i64) fun row hr => by
      obtain ⟨h1, h2⟩ := hrow row hr
      obtain ⟨a, rfl⟩ := cs1 h1
      obtain ⟨n, rfl, hn⟩ := rhi h2
      exact ⟨n, rfl, hn⟩
    rw [List.length_map] at hlen
    subst hlen
    rw [BHint] at hz
    unfold reachBytes at hz
    refine ⟨some a, cap, l, rfl, fun hne => ?_, hl, by omega, hok⟩
    obtain ⟨ad, e, hf, hb, hc⟩ := hrec (by simpa using hne)
    refine ⟨ad, e, hf, hb, fun j v hj => ?_⟩
    have := hc j [.int .i64 v] (by rw [List.getElem?_map, hj]; rfl) 0 (.int .i64 v) rfl
    simpa using this
theorem rhtx (h : Rdz enc Tryz.prog w base spare held 47 row) : ∃ t : HTx, row = t.cells ∧ t.lies (fun _ => True) w := by
  obtain ⟨hl, hf⟩ := h.struct_ Tryz.underlying47
  rw [CHtx] at hl
  obtain ⟨c0, c1, c2, rfl⟩ := cs3 hl
  have h0 : Rdz enc Tryz.prog w base spare held 3 (([c0, c1, c2].drop 0).take (Tryz.prog.cellsOf 3)) := hf 0 _ rfl
  have h1 : Rdz enc Tryz.prog w base spare held 4 (([c0, c1, c2].drop 1).take (Tryz.prog.cellsOf 4)) := hf 1 _ rfl
  have h2 : Rdz enc Tryz.prog w base spare held 45 (([c0, c1, c2].drop 2).take (Tryz.prog.cellsOf 45)) := hf 2 _ rfl
  rw [CHint] at h0
  rw [CHbool] at h1
  rw [CHops] at h2
  obtain ⟨n0, rfl, b0⟩ := rhi h0
  obtain ⟨n1, rfl⟩ := rhb h1
  obtain ⟨A, c, l, rfl, hh, hc, hs, hok⟩ := rhops h2
  exact ⟨⟨n0, n1, l, A, c⟩, rfl, hh, hc, hs, b0, hok⟩
theorem rhord (h : Rdz enc Tryz.prog w base spare held 50 row) : ∃ o : HOrd, row = o.cells ∧ o.lies (fun _ => True) w := by
  obtain ⟨hl, hf⟩ := h.struct_ Tryz.underlying50
  rw [CHord] at hl
  obtain ⟨c0, c1, rfl⟩ := cs2 hl
  have h0 : Rdz enc Tryz.prog w base spare held 3 (([c0, c1].drop 0).take (Tryz.prog.cellsOf 3)) := hf 0 _ rfl
  have h1 : Rdz enc Tryz.prog w base spare held 48 (([c0, c1].drop 1).take (Tryz.prog.cellsOf 48)) := hf 1 _ rfl
  rw [CHint] at h0
  rw [CHints] at h1
  obtain ⟨n0, rfl, b0⟩ := rhi h0
  obtain ⟨A, c, l, rfl, hh, hc, hs, hok⟩ := rhints h1
  exact ⟨⟨n0, l, A, c⟩, rfl, hh, hc, hs, b0, hok⟩
theorem rhist (h : Rdz enc Tryz.prog w base spare held 25 row) : ∃ x : Hist, row = x.cells ∧ x.lies (fun _ => True) w := by
  obtain ⟨hl, hf⟩ := h.struct_ Tryz.underlying25
  rw [CHhist] at hl
  obtain ⟨c0, c1, rfl⟩ := cs2 hl
  have h0 : Rdz enc Tryz.prog w base spare held 22 (([c0, c1].drop 0).take (Tryz.prog.cellsOf 22)) := hf 0 _ rfl
  have h1 : Rdz enc Tryz.prog w base spare held 23 (([c0, c1].drop 1).take (Tryz.prog.cellsOf 23)) := hf 1 _ rfl
  rw [CHtxs] at h0
  rw [CHords] at h1
  clear hl
  have q0 : ∃ (A : Option Addr) (c : Nat) (l : List HTx), c0 = .slice A l.length c ∧ Recs (fun _ => True) w A 3 (l.map HTx.cells) ∧ l.length ≤ c ∧ l.length ≤ 4398046511103 ∧ ∀ t ∈ l, t.lies (fun _ => True) w := by
    have h0' : Rdz enc Tryz.prog w base spare held 22 [c0] := h0
    rcases h0'.slice_ Tryz.underlying22 CHtx (by omega) with h | ⟨a, len, cap, rows, hv, hl, hm, hlen, hz, hrec, hrow⟩
    · cases h
      exact ⟨none, 0, [], rfl, fun h => absurd rfl h, by simp, by simp, fun e he => by simp at he⟩
    · cases hv
      obtain ⟨l, rfl, hok⟩ := rows_of' (f := HTx.cells) (Q := fun t => t.lies (fun _ => True) w) fun row hr => rhtx (hrow row hr).2
      rw [List.length_map] at hlen
      subst hlen
      rw [BHtx] at hz
      unfold reachBytes at hz
      exact ⟨some a, cap, l, rfl, hrec, hl, by omega, hok⟩
  have q1 : ∃ (A : Option Addr) (c : Nat) (l : List HOrd), c1 = .slice A l.length c ∧ Recs (fun _ => True) w A 2 (l.map HOrd.cells) ∧ l.length ≤ c ∧ l.length ≤ 4398046511103 ∧ ∀ t ∈ l, t.lies (fun _ => True) w := by
    have h1' : Rdz enc Tryz.prog w base spare held 23 [c1] := h1
    rcases h1'.slice_ Tryz.underlying23 CHord (by omega) with h | ⟨a, len, cap, rows, hv, hl, hm, hlen, hz, hrec, hrow⟩
    · cases h
      exact ⟨none, 0, [], rfl, fun h => absurd rfl h, by simp, by simp, fun e he => by simp at he⟩
    · cases hv
      obtain ⟨l, rfl, hok⟩ := rows_of' (f := HOrd.cells) (Q := fun t => t.lies (fun _ => True) w) fun row hr => rhord (hrow row hr).2
      rw [List.length_map] at hlen
      subst hlen
      rw [BHord] at hz
      unfold reachBytes at hz
      exact ⟨some a, cap, l, rfl, hrec, hl, by omega, hok⟩
  obtain ⟨A, c, l, rfl, r1, r2, r3, r4⟩ := q0
  obtain ⟨B, d, m, rfl, s1, s2, s3, s4⟩ := q1
  exact ⟨⟨l, m, A, c, B, d⟩, rfl, r1, s1, r4, s4, r2, s2, r3, s3⟩
end
end Go.Proofs.YtgakhpdclhlmpaaGreat

/- Edges: how lists of them lie in memory; when two are one. -/
namespace Go.Proofs.YtgakhpdclhlmpaaGreat
set_option linter.unusedVariables false
open Go.RowKit

/-- an edge -/
structure Edge where
  f : Int
  t : Int
  k : Int
  key : Int
deriving DecidableEq
def Edge.cells (e : Edge) : List Value := [.int .i64 e.f, .int .i64 e.t, .int .i64 e.k, .int .i64 e.key]
/-- a walk lies there -/
def Walk (F : Nat → Prop) (w : World) (A : Option Addr) (l : List Edge) : Prop := Recs F w A 4 (l.map Edge.cells)
theorem edges_len {l : List Edge} : ∀ r ∈ l.map Edge.cells, r.length = 4 := fun r hr => by
  obtain ⟨e, _, rfl⟩ := List.mem_map.1 hr
  rfl
theorem edges_one {l : List Edge} : ∀ v ∈ (l.map Edge.cells).flatten, v.oneCell' = true := fun v hv => by
  obtain ⟨r, hr, h⟩ := List.mem_flatten.1 hv
  obtain ⟨e, _, rfl⟩ := List.mem_map.1 hr
  simp only [Edge.cells, List.mem_cons, List.not_mem_nil, or_false] at h
  rcases h with rfl | rfl | rfl | rfl <;> rfl
theorem slt_edges : SlT Tryz.prog 32 27 4 32 := SlT.mk_ Tryz.underlying32 (z := .agg #[.int .i64 0, .int .i64 0, .int .i64 0, .int .i64 0]) (by kernel_rfl) rfl (by omega)
theorem Walk.at_ {F : Nat → Prop} {w : World} {A : Option Addr} {l : List Edge} (h : Walk F w A l) {k : Nat} (hk : k < l.length) : ∃ ad, A = some ad ∧
    w.cell? (ad.add (k * 4)) = some (.int .i64 l[k].f) ∧ w.cell? ⟨(ad.add (k * 4)).block, (ad.add (k * 4)).off + 1, none⟩ = some (.int .i64 l[k].t) ∧
    w.cell? ⟨(ad.add (k * 4)).block, (ad.add (k * 4)).off + 2, none⟩ = some (.int .i64 l[k].k) ∧ w.cell? ⟨(ad.add (k * 4)).block, (ad.add (k * 4)).off + 3, none⟩ = some (.int .i64 l[k].key) := by
  have hk' : k < (l.map Edge.cells).length := by simpa using hk
  obtain ⟨ad, e, _, _, hc⟩ := Recs.at_ h hk'
  rw [List.getElem_map] at hc
  exact ⟨ad, e, by simpa using hc 0 _ rfl, by simpa using hc 1 _ rfl, by simpa using hc 2 _ rfl, by simpa using hc 3 _ rfl⟩
theorem Walk.upd {F S : Nat → Prop} {w w' : World} {A : Option Addr} {l : List Edge} (h : Walk F w A l) (k : Upd S w w') (hn : ∀ i, F i → ¬ S i) : Walk F w' A l := Recs.upd h k hn

end Go.Proofs.YtgakhpdclhlmpaaGreat

/- How witnesses that come in read. -/
namespace Go.Proofs.YtgakhpdclhlmpaaGreat
set_option linter.unusedVariables false
open Go.RowKit
theorem cs5 {l : List Value} (h : l.length = 5) : ∃ a b c d e, l = [a, b, c, d, e] :=
  match l, h with
  | [a, b, c, d, e], _ => ⟨a, b, c, d, e, rfl⟩
theorem cs7 {l : List Value} (h : l.length = 7) : ∃ a b c d e f g, l = [a, b, c, d, e, f, g] :=
  match l, h with
  | [a, b, c, d, e, f, g], _ => ⟨a, b, c, d, e, f, g, rfl⟩
theorem CHedge : Tryz.prog.cellsOf 27 = 4 := by kernel_rfl
theorem BHedge : Tryz.prog.bytesOf 27 = 32 := by kernel_rfl
theorem CHedges : Tryz.prog.cellsOf 32 = 1 := by kernel_rfl
theorem CHver : Tryz.prog.cellsOf 29 = 3 := by kernel_rfl
theorem CHbad : Tryz.prog.cellsOf 31 = 5 := by kernel_rfl
theorem CHwit : Tryz.prog.cellsOf 34 = 7 := by kernel_rfl
section
variable {H : Type} {enc : TypeId × Value → H} {w : World} {base : Nat} {spare : Nat → Bool} {held : Bool} {row : List Value}
theorem rhedge (h : Rdz enc Tryz.prog w base spare held 27 row) : ∃ e : Edge, row = e.cells ∧ True := by
  obtain ⟨hl, hf⟩ := h.struct_ Tryz.underlying27
  rw [CHedge] at hl
  obtain ⟨c0, c1, c2, c3, rfl⟩ := cs4 hl
  have h0 : Rdz enc Tryz.prog w base spare held 3 (([c0, c1, c2, c3].drop 0).take (Tryz.prog.cellsOf 3)) := hf 0 _ rfl
  have h1 : Rdz enc Tryz.prog w base spare held 3 (([c0, c1, c2, c3].drop 1).take (Tryz.prog.cellsOf 3)) := hf 1 _ rfl
  have h2 : Rdz enc Tryz.prog w base spare held 3 (([c0, c1, c2, c3].drop 2).take (Tryz.prog.cellsOf 3)) := hf 2 _ rfl
  have h3 : Rdz enc Tryz.prog w base spare held 3 (([c0, c1, c2, c3].drop 3).take (Tryz.prog.cellsOf 3)) := hf 3 _ rfl
  rw [CHint] at h0 h1 h2 h3
  obtain ⟨n0, rfl, b0⟩ := rhi h0
  obtain ⟨n1, rfl, b1⟩ := rhi h1
  obtain ⟨n2, rfl, b2⟩ := rhi h2
  obtain ⟨n3, rfl, b3⟩ := rhi h3
  exact ⟨⟨n0, n1, n2, n3⟩, rfl, trivial⟩
theorem rhwalk {v : Value} (h : Rdz enc Tryz.prog w base spare held 32 [v]) : ∃ (A : Option Addr) (c : Nat) (l : List Edge), v = .slice A l.length c ∧ Walk (fun _ => True) w A l ∧ l.length ≤ c ∧ l.length ≤ 4398046511103 := by
  rcases h.slice_ Tryz.underlying32 CHedge (by omega) with h | ⟨a, len, cap, rows, hv, hl, hm, hlen, hz, hrec, hrow⟩
  · cases h
    exact ⟨none, 0, [], rfl, fun h => absurd rfl h, by simp, by simp⟩
  · cases hv
    obtain ⟨l, rfl, hok⟩ := rows_of' (f := Edge.cells) (Q := fun _ => True) fun row hr => rhedge (hrow row hr).2
    rw [List.length_map] at hlen
    subst hlen
    rw [BHedge] at hz
    unfold reachBytes at hz
    exact ⟨some a, cap, l, rfl, hrec, hl, by omega⟩
theorem rhver (h : Rdz enc Tryz.prog w base spare held 29 row) : ∃ a b c : Int, row = [.int .i64 a, .int .i64 b, .int .i64 c] := by
  obtain ⟨hl, hf⟩ := h.struct_ Tryz.underlying29
  rw [CHver] at hl
  obtain ⟨c0, c1, c2, rfl⟩ := cs3 hl
  have h0 : Rdz enc Tryz.prog w base spare held 3 (([c0, c1, c2].drop 0).take (Tryz.prog.cellsOf 3)) := hf 0 _ rfl
  have h1 : Rdz enc Tryz.prog w base spare held 3 (([c0, c1, c2].drop 1).take (Tryz.prog.cellsOf 3)) := hf 1 _ rfl
  have h2 : Rdz enc Tryz.prog w base spare held 3 (([c0, c1, c2].drop 2).take (Tryz.prog.cellsOf 3)) := hf 2 _ rfl
  rw [CHint] at h0 h1 h2
  obtain ⟨n0, rfl, b0⟩ := rhi h0
  obtain ⟨n1, rfl, b1⟩ := rhi h1
  obtain ⟨n2, rfl, b2⟩ := rhi h2
  exact ⟨n0, n1, n2, rfl⟩
theorem rhbad (h : Rdz enc Tryz.prog w base spare held 31 row) : ∃ a b c d e : Int, row = [.int .i64 a, .int .i64 b, .int .i64 c, .int .i64 d, .int .i64 e] := by
  obtain ⟨hl, hf⟩ := h.struct_ Tryz.underlying31
  rw [CHbad] at hl
  obtain ⟨c0, c1, c2, c3, c4, rfl⟩ := cs5 hl
  have h0 : Rdz enc Tryz.prog w base spare held 3 (([c0, c1, c2, c3, c4].drop 0).take (Tryz.prog.cellsOf 3)) := hf 0 _ rfl
  have h1 : Rdz enc Tryz.prog w base spare held 3 (([c0, c1, c2, c3, c4].drop 1).take (Tryz.prog.cellsOf 3)) := hf 1 _ rfl
  have h2 : Rdz enc Tryz.prog w base spare held 29 (([c0, c1, c2, c3, c4].drop 2).take (Tryz.prog.cellsOf 29)) := hf 2 _ rfl
  rw [CHint] at h0 h1
  rw [CHver] at h2
  obtain ⟨n0, rfl, b0⟩ := rhi h0
  obtain ⟨n1, rfl, b1⟩ := rhi h1
  obtain ⟨n2, n3, n4, e⟩ := rhver h2
  cases e
  exact ⟨n0, n1, n2, n3, n4, rfl⟩
theorem rhwit (h : Rdz enc Tryz.prog w base spare held 34 row) : ∃ (p : Int) (X : Option Addr) (xc : Nat) (l : List Edge) (a b c d e : Int), row = [.int .i64 p, .slice X l.length xc, .int .i64 a, .int .i64 b, .int .i64 c, .int .i64 d, .int .i64 e] ∧ Walk (fun _ => True) w X l ∧ l.length ≤ xc ∧ l.length ≤ 4398046511103 := by
  obtain ⟨hl, hf⟩ := h.struct_ Tryz.underlying34
  rw [CHwit] at hl
  obtain ⟨c0, c1, c2, c3, c4, c5, c6, rfl⟩ := cs7 hl
  have h0 : Rdz enc Tryz.prog w base spare held 3 (([c0, c1, c2, c3, c4, c5, c6].drop 0).take (Tryz.prog.cellsOf 3)) := hf 0 _ rfl
  have h1 : Rdz enc Tryz.prog w base spare held 32 (([c0, c1, c2, c3, c4, c5, c6].drop 1).take (Tryz.prog.cellsOf 32)) := hf 1 _ rfl
  have h2 : Rdz enc Tryz.prog w base spare held 31 (([c0, c1, c2, c3, c4, c5, c6].drop 2).take (Tryz.prog.cellsOf 31)) := hf 2 _ rfl
  rw [CHint] at h0
  rw [CHedges] at h1
  rw [CHbad] at h2
  obtain ⟨n0, rfl, b0⟩ := rhi h0
  obtain ⟨X, xc, l, rfl, hw, hc, hs⟩ := rhwalk h1
  obtain ⟨n2, n3, n4, n5, n6, e⟩ := rhbad h2
  cases e
  exact ⟨n0, X, xc, l, n2, n3, n4, n5, n6, rfl, hw, hc, hs⟩
end
end Go.Proofs.YtgakhpdclhlmpaaGreat
