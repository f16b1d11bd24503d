/- What the document tells of histories, in plain words; it is what the program tells. -/
import Derived.Test.YtaicemjckagcaaaMan
import Derived.Test.YtaicemjckagcaaaMav
import Derived.Test.YtaicemjckagcaaaMbb
import Derived.Test.YtaicemjckagcaaaMbh
namespace Go.Proofs.Ytaicemjckagcaaa
set_option linter.unusedVariables false
open Go.RowKit
/-- have two lists the same numbers -/
def permR (a b : List Int) : Bool := a.length == b.length && a.all fun x => a.count x == b.count x
theorem perm_of_count : ∀ (a b : List Int), a.length = b.length → (∀ x ∈ a, a.count x = b.count x) → a.Perm b
  | [], b, hl, _ => by
    have : b = [] := List.eq_nil_of_length_eq_zero (by simpa using hl.symm)
    subst this; exact List.Perm.refl _
  | x :: a, b, hl, h => by
    have hx := h x (List.mem_cons_self ..)
    have hxb : x ∈ b := by
      rw [List.count_cons_self] at hx
      exact List.count_pos_iff.1 (by omega)
    have hp := List.perm_cons_erase hxb
    refine ((perm_of_count a (b.erase x) ?_ fun y hy => ?_).cons x).trans hp.symm
    · have := hp.length_eq; simp only [List.length_cons] at *; omega
    · have h1 := h y (List.mem_cons_of_mem _ hy)
      rw [hp.count_eq] at h1
      simp only [List.count_cons] at h1
      omega
theorem permR_eq (a b : List Int) : permR a b = (sortK a == sortK b) := by
  rw [Bool.eq_iff_iff]
  unfold permR
  simp only [Bool.and_eq_true, beq_iff_eq, List.all_eq_true]
  constructor
  · rintro ⟨h1, h2⟩
    have hp := perm_of_count a b h1 h2
    exact sorted_eq (((sortK_perm a).trans hp).trans (sortK_perm b).symm) (sortK_le a) (sortK_le b)
  · intro h
    have hp : a.Perm b := ((sortK_perm a).symm.trans (by rw [h]; exact sortK_perm b))
    exact ⟨hp.length_eq, fun x _ => hp.count_eq x⟩

/-! keys -/
theorem rise_nodup {l : List Int} (h : l.Pairwise (· < ·)) : l.Nodup := h.imp fun h => Int.ne_of_lt h
/-! is a history right, by the document -/
theorem rise_at {l : List Int} (h : ∀ i, i + 1 < l.length → l.getD i 0 < l.getD (i + 1) 0) : l.Pairwise (· < ·) := by
  have key : ∀ d i : Nat, i + d + 1 < l.length → l.getD i 0 < l.getD (i + d + 1) 0 := by
    intro d
    induction d with
    | zero => intro i hi; exact h i hi
    | succ d ih =>
      intro i hi
      have h1 := ih i (by omega)
      have h2 := h (i + d + 1) (by omega)
      exact Int.lt_trans h1 h2
  rw [List.pairwise_iff_getElem]
  intro i j hi hj hij
  have := key (j - i - 1) i (by omega)
  rw [show i + (j - i - 1) + 1 = j by omega] at this
  simpa [List.getD_eq_getElem?_getD, List.getElem?_eq_getElem hi, List.getElem?_eq_getElem hj] using this
theorem ordOk_at {txs : List HTx} {ords : List HOrd} {i : Nat} (hi : i < ords.length) : ordOk txs ords i = true ↔ (∀ j, j + 1 = i → (ords.map (·.key)).getD j 0 < ords[i].key) ∧ ords[i].txs ≠ [] ∧ permR ords[i].txs (writersOf txs ords[i].key) = true := by
  unfold ordOk
  rw [List.getElem?_eq_getElem hi, permR_eq]
  cases i with
  | zero => simp
  | succ j =>
    have hj : j < ords.length := by omega
    simp only [List.getElem?_eq_getElem hj]
    simp [List.getD_eq_getElem?_getD, List.getElem?_eq_getElem hj]
    grind
end Go.Proofs.Ytaicemjckagcaaa

/- Edges, reads and witnesses by the document, in plain words; for right histories they are what the program tells. -/
namespace Go.Proofs.Ytaicemjckagcaaa
set_option linter.unusedVariables false
open Go.RowKit
section
variable {h : Hist}
theorem right_txOk (hr : rightB h = true) {i : Nat} (hi : i < h.txs.length) : txOk h.txs i = true := by
  unfold rightB at hr
  simp only [Bool.and_eq_true, List.all_eq_true, List.mem_range] at hr
  exact hr.1.1.2 i hi
theorem right_rise (hr : rightB h = true) : (h.txs.map (·.id)).Pairwise (· < ·) := rise_at fun j hj => by
  rw [List.length_map] at hj
  have := right_txOk hr hj
  unfold txOk at this
  rw [List.getElem?_eq_getElem hj] at this
  simp only [Bool.and_eq_true] at this
  have h1 := this.1.1
  simp only [List.getElem?_eq_getElem (show j < h.txs.length by omega), decide_eq_true_eq] at h1
  rw [List.getD_eq_getElem?_getD, List.getD_eq_getElem?_getD, List.getElem?_map, List.getElem?_map, List.getElem?_eq_getElem hj, List.getElem?_eq_getElem (show j < h.txs.length by omega)]
  exact h1
theorem right_find (hr : rightB h = true) {t : HTx} (ht : t ∈ h.txs) : findT h.txs t.id = some t := by
  obtain ⟨k, hk, rfl⟩ := List.mem_iff_getElem.1 ht
  have hp := List.pairwise_iff_getElem.1 (right_rise hr)
  refine findT_some hk (fun j hj => ?_) (by simp)
  have := hp j k (by simp; omega) (by simpa using hk) hj
  simp only [List.getElem_map] at this
  rw [beq_eq_false_iff_ne]; omega
theorem find_id {txs : List HTx} {i : Int} {t : HTx} (hf : findT txs i = some t) : t ∈ txs ∧ t.id = i := by
  refine ⟨findT_mem hf, ?_⟩
  unfold findT at hf
  have := List.find?_some hf
  simpa using this
theorem right_parts (hr : rightB h = true) {t : HTx} (ht : t ∈ h.txs) : txErr t.id t.ops = 0 ∧ neededB h.txs t.id t.ops = true := by
  obtain ⟨k, hk, rfl⟩ := List.mem_iff_getElem.1 ht
  have := right_txOk hr hk
  unfold txOk at this
  rw [List.getElem?_eq_getElem hk] at this
  simp only [Bool.and_eq_true, beq_iff_eq] at this
  exact ⟨this.1.2, this.2⟩
theorem right_id (hr : rightB h = true) {t : HTx} (ht : t ∈ h.txs) : 1 ≤ t.id := by
  have := (right_parts hr ht).1
  unfold txErr at this
  split at this
  · cases this
  · rename_i hid
    unfold idB at hid
    simp at hid
    exact hid.1
end
/-! how often there is a reason for an edge -/
def p2 (f key : Int) (n : Nat) (o : HOp) : Bool := o.read && o.key == key && o.tx == f && o.nth == (n : Int)
def p3 (h : Hist) (id key t : Int) (o : HOp) : Bool := o.read && o.key == key && !(o.tx == id) && lastB h.txs ⟨o.tx, o.key, o.nth⟩ && nextB h.ords key o.tx t
def cntR (h : Hist) (e : Edge) : Nat :=
  match doneT h.txs e.f, doneT h.txs e.t with
  | some a, some b =>
    if e.f = e.t then 0
    else if e.k = 1 then (if nextB h.ords e.key e.f e.t then 1 else 0)
    else if e.k = 2 then b.ops.countP (p2 e.f e.key (writesN a.ops e.key))
    else if e.k = 3 then a.ops.countP (p3 h a.id e.key e.t)
    else 0
  | _, _ => 0
def countR (h : Hist) (e : Edge) : Nat := if rightB h = true then cntR h e else 0
theorem doneT_some {txs : List HTx} {i : Int} {t : HTx} (hd : doneT txs i = some t) : findT txs i = some t ∧ t.done = true := by
  unfold doneT at hd
  split at hd
  · split at hd
    · rename_i u hf hu
      cases hd
      exact ⟨hf, hu⟩
    · cases hd
  · cases hd
/-! bad reads -/
/-! witnesses -/
end Go.Proofs.Ytaicemjckagcaaa

/- The document: the reads that may not be. -/
namespace Go.Proofs.Ytaicemjckagcaaa
set_option linter.unusedVariables false
open Go.RowKit
/-- bad reads lie there -/
def Bads (F : Nat → Prop) (w : World) (A : Option Addr) (l : List HBad) : Prop := Recs F w A 5 (l.map HBad.cells)
theorem Bads.at_ {F : Nat → Prop} {w : World} {A : Option Addr} {l : List HBad} (h : Bads F w A l) {k : Nat} (hk : k < l.length) : ∃ ad, A = some ad ∧
    w.cell? (ad.add (k * 5)) = some (.int .i64 l[k].tx) ∧ w.cell? ⟨(ad.add (k * 5)).block, (ad.add (k * 5)).off + 1, none⟩ = some (.int .i64 l[k].place) ∧
    w.cell? ⟨(ad.add (k * 5)).block, (ad.add (k * 5)).off + 2, none⟩ = some (.int .i64 l[k].of.tx) ∧ w.cell? ⟨(ad.add (k * 5)).block, (ad.add (k * 5)).off + 3, none⟩ = some (.int .i64 l[k].of.key) ∧
    w.cell? ⟨(ad.add (k * 5)).block, (ad.add (k * 5)).off + 4, none⟩ = some (.int .i64 l[k].of.nth) := by
  have hk' : k < (l.map HBad.cells).length := by simpa using hk
  obtain ⟨ad, e, _, _, hc⟩ := Recs.at_ h hk'
  rw [List.getElem_map] at hc
  exact ⟨ad, e, by simpa using hc 0 _ rfl, by simpa using hc 1 _ rfl, by simpa using hc 2 _ rfl, by simpa using hc 3 _ rfl, by simpa using hc 4 _ rfl⟩
theorem Bads.upd {F S : Nat → Prop} {w w' : World} {A : Option Addr} {l : List HBad} (h : Bads F w A l) (k : Upd S w w') (hn : ∀ i, F i → ¬ S i) : Bads F w' A l := Recs.upd h k hn
end Go.Proofs.Ytaicemjckagcaaa

/- Looking at a history: the exported functions, with their values named. -/
namespace Go.Proofs.Ytaicemjckagcaaa
set_option linter.unusedVariables false
open Go.RowKit
section
variable {F G : Nat → Prop} {w : World} {txs : List HTx} {ords : List HOrd} {A B : Option Addr} {c d n1 n2 : Nat}
end
theorem recs_blk {w : World} {g size : Nat} {t : TypeId} {rows : List (List Value)} (hr : ∀ r ∈ rows, r.length = size) (h : Blk w g t rows.flatten) : Recs (fun i => i = g) w (some ⟨g, 0, none⟩) size rows := fun _ => by
  refine ⟨_, rfl, rfl, h.lt, fun i row hi j v hj => ?_⟩
  have e1 : (⟨g, 0, none⟩ : Addr).add (i * size + j) = ⟨g, i * size + j, none⟩ := by unfold Addr.add; split <;> simp_all
  rw [e1, h.cell]
  exact flat_get hr hi hj
theorem ints_blk {w : World} {g : Nat} {t : TypeId} {xs : List Int} (h : Blk w g t (xs.map (Value.int .i64))) : Ints (fun i => i = g) w (some ⟨g, 0, none⟩) xs :=
  Ints.of_row h rfl fun j v hj => by rw [List.getElem?_toArray, List.getElem?_map, hj]; rfl
/-- the history of the chapter's example, at such places -/
def skewH (n : Nat) : Hist :=
  ⟨[⟨1, true, [⟨true, 1, 0, 0⟩, ⟨false, 2, 0, 0⟩], some ⟨n + 1, 0, none⟩, 2⟩, ⟨2, true, [⟨true, 2, 0, 0⟩, ⟨false, 1, 0, 0⟩], some ⟨n + 1 + 1, 0, none⟩, 2⟩],
   [⟨1, [2], some ⟨n + 1 + 1 + 1 + 1, 0, none⟩, 1⟩, ⟨2, [1], some ⟨n + 1 + 1 + 1 + 1 + 1, 0, none⟩, 1⟩], some ⟨n + 1 + 1 + 1, 0, none⟩, 2, some ⟨n + 1 + 1 + 1 + 1 + 1 + 1, 0, none⟩, 2⟩
def e1 : Edge := ⟨1, 2, 3, 1⟩
def e2 : Edge := ⟨2, 1, 3, 2⟩
section
variable (n : Nat)
theorem a1 : acceptB (skewH n) 5 [e1, e2] noBad = true := by kernel_rfl
theorem a2 : acceptB (skewH n) 5 [e1, e2, e1, e2] noBad = true := by kernel_rfl
theorem a3 : acceptB (skewH n) 4 [e1, e2] noBad = false := by kernel_rfl
theorem a4 : acceptB (skewH n) 5 [e1] noBad = false := by kernel_rfl
theorem a5 : acceptB (skewH n) 5 [e1, e2] ⟨2, 0, ⟨1, 5, 1⟩⟩ = false := by kernel_rfl
theorem a9 : (rightB (skewH n) && edgeB (skewH n) ⟨1, 2, 3, 2⟩) = false := by kernel_rfl
end
end Go.Proofs.Ytaicemjckagcaaa
