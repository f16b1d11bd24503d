/- What the program tells of histories, in plain words: needs, keys, writers, right; and of edges, reads and witnesses. -/
import Derived.Test.YtgakhpdclhlmpaaHisI
import Derived.Test.YtgakhpdclhlmpaaIntP
import Derived.Test.YtgakhpdclhlmpaaHisG
import Derived.Test.YtgakhpdclhlmpaaTurnP
namespace Go.Proofs.Ytgakhpdclhlmpaa
set_option linter.unusedVariables false
open Go.RowKit
/-- is it a read of another one's version -/
def needsF (id : Int) (o : HOp) : Bool := o.read && !((verOf o).tx == 0) && !((verOf o).tx == id)
def needsN (id : Int) (l : List HOp) : Nat → List Ver
  | 0 => []
  | k + 1 =>
    match l[k]? with
    | some o => if needsF id o && !(needsN id l k).contains (verOf o) then needsN id l k ++ [verOf o] else needsN id l k
    | none => needsN id l k
def needsL (id : Int) (l : List HOp) : List Ver := needsN id l l.length
def hasB (txs : List HTx) (v : Ver) : Bool :=
  if v.tx = 0 ∧ v.nth = 0 then idB v.key
  else match findT txs v.tx with
    | some t => decide (1 ≤ v.nth) && decide (v.nth ≤ (writesN t.ops v.key : Int))
    | none => false
def neededB (txs : List HTx) (id : Int) (l : List HOp) : Bool := (needsL id l).all (hasB txs)
def keysOf (l : List HOp) (f : HOp → Bool) : List Int := (l.filter f).map (·.key)
/-- the keys that are written, rising, each once -/
def keysW (l : List HOp) : List Int := setK (keysOf l fun o => !o.read)
/-- a set of keys with some more -/
def addK (s : List Int) : List Int → List Int
  | [] => s
  | k :: l => addK (if k ∈ s then s else s ++ [k]) l
/-- the keys that somebody who is done writes -/
def wkeys : List HTx → List Int → List Int
  | [], s => s
  | t :: l, s => wkeys l (if t.done then addK s (keysW t.ops) else s)
/-- the done ones that write a key -/
def writersOf (txs : List HTx) (key : Int) : List Int := (txs.filter fun t => t.done && (keysW t.ops).contains key).map (·.id)
def txOk (txs : List HTx) (i : Nat) : Bool :=
  match txs[i]? with
  | none => true
  | some t => (match i with | 0 => true | j + 1 => (match txs[j]? with | some u => decide (u.id < t.id) | none => true)) && txErr t.id t.ops == 0 && neededB txs t.id t.ops
def ordOk (txs : List HTx) (ords : List HOrd) (i : Nat) : Bool :=
  match ords[i]? with
  | none => true
  | some o => (match i with | 0 => true | j + 1 => (match ords[j]? with | some u => decide (u.key < o.key) | none => true)) && !o.txs.isEmpty && (sortK o.txs == sortK (writersOf txs o.key))
def rightB (h : Hist) : Bool :=
  decide (h.txs.length ≤ 4096) && (List.range h.txs.length).all (txOk h.txs) && (wkeys h.txs []).length == h.ords.length && (List.range h.ords.length).all (ordOk h.txs h.ords)
/-- the transaction of an id, if it is done -/
def doneT (txs : List HTx) (id : Int) : Option HTx := match findT txs id with | some t => if t.done then some t else none | none => none
def lastB (txs : List HTx) (v : Ver) : Bool := if v.tx = 0 then true else match doneT txs v.tx with | some t => v.nth == (writesN t.ops v.key : Int) | none => false
def nextB (ords : List HOrd) (key x y : Int) : Bool := nextI (orderOf ords key) x == some y
def readsB (id : Int) (l : List HOp) (key : Int) (counts : Ver → Bool) : Bool := l.any fun o => o.read && o.key == key && !(o.tx == id) && counts (verOf o)
def edgeB (h : Hist) (e : Edge) : Bool :=
  match doneT h.txs e.f, doneT h.txs e.t with
  | some a, some b =>
    if e.f = e.t then false
    else if e.k = 1 then nextB h.ords e.key e.f e.t
    else if e.k = 2 then readsB b.id b.ops e.key fun v => v.tx == e.f && lastB h.txs v
    else if e.k = 3 then readsB a.id a.ops e.key fun v => lastB h.txs v && nextB h.ords e.key v.tx e.t
    else false
  | _, _ => false
/-- a bad read -/
structure HBad where
  tx : Int
  place : Int
  of : Ver
deriving DecidableEq
def HBad.cells (b : HBad) : List Value := [.int .i64 b.tx, .int .i64 b.place, .int .i64 b.of.tx, .int .i64 b.of.key, .int .i64 b.of.nth]
def badB (txs : List HTx) (p : Int) (b : HBad) : Bool :=
  match doneT txs b.tx with
  | none => false
  | some t =>
    if b.place < 0 then false
    else match t.ops[b.place.toNat]? with
      | none => false
      | some o =>
        if !o.read || !(verOf o == b.of) || o.tx == 0 || o.tx == t.id then false
        else if p = 2 then (match findT txs o.tx with | some u => !u.done | none => true)
        else if p = 3 then decide (o.nth < (writesN (match findT txs o.tx with | some u => u.ops | none => []) o.key : Int))
        else false
/-- are the kinds those of a phenomenon -/
def kindsOk (m p : Int) : Bool := (bits .andNot .i64 m (maskP p) == 0) && (mustP p == 0 || !(bits .and .i64 m (mustP p) == 0))
def noBad : HBad := ⟨0, 0, ⟨0, 0, 0⟩⟩
def acceptB (h : Hist) (p : Int) (l : List Edge) (b : HBad) : Bool :=
  rightB h && (if p = 2 ∨ p = 3 then decide (l.length = 0) && badB h.txs p b
    else !(maskP p == 0) && b == noBad && closedB l && kindsOk (maskOf l) p && l.all (edgeB h))

/-! from any place -/
theorem perm_all {l m : List Edge} (h : l.Perm m) (p : Edge → Bool) : l.all p = m.all p := by
  rw [Bool.eq_iff_iff]; simp only [List.all_eq_true]
  exact ⟨fun k x hx => k x (h.mem_iff.2 hx), fun k x hx => k x (h.mem_iff.1 hx)⟩
theorem acc_rot (h : Hist) (p : Int) (l : List Edge) (b : HBad) {i : Nat} (hi : i < l.length) : acceptB h p (rot l i) b = acceptB h p l b := by
  unfold acceptB
  rw [rot_len l (by omega), closed_rot l hi, perm_mask (rot_perm l i), perm_all (rot_perm l i)]
theorem closed_at {l : List Edge} (h : closedB l = true) {j : Nat} (hj : j < l.length) : (l[j]?.map (·.t)) = (l[(j + 1) % l.length]?.map (·.f)) := by
  unfold closedB at h
  simp only [Bool.and_eq_true, decide_eq_true_eq, List.all_eq_true, List.mem_range] at h
  have := h.2 j hj
  unfold okC at this
  simpa using this
theorem twice_at (l : List Edge) {j : Nat} (hj : j < l.length + l.length) : (l ++ l)[j]? = l[j % l.length]? := by
  by_cases h : j < l.length
  · rw [List.getElem?_append_left h, Nat.mod_eq_of_lt h]
  · rw [List.getElem?_append_right (by omega)]
    congr 1
    rw [Nat.mod_eq_sub_mod (by omega), Nat.mod_eq_of_lt (by omega)]
theorem closed_twice {l : List Edge} (h : closedB l = true) : closedB (l ++ l) = true := by
  have h0 := h
  unfold closedB at h ⊢
  simp only [Bool.and_eq_true, decide_eq_true_eq, List.all_eq_true, List.mem_range] at h ⊢
  rw [List.length_append]
  refine ⟨by omega, fun j hj => ?_⟩
  unfold okC
  rw [beq_iff_eq, List.length_append, twice_at l hj, twice_at l (Nat.mod_lt _ (by omega)), closed_at h0 (Nat.mod_lt _ (by omega))]
  congr 2
  rw [Nat.mod_add_mod]
  have := Nat.mod_mul_left_mod (j + 1) 2 l.length
  rw [show 2 * l.length = l.length + l.length by omega] at this
  exact this.symm
theorem acc_twice (h : Hist) (p : Int) (l : List Edge) (b : HBad) (hl : 0 < l.length) (ha : acceptB h p l b = true) : acceptB h p (l ++ l) b = true := by
  unfold acceptB at *
  have hp : ¬ (p = 2 ∨ p = 3) := fun hp => by
    rw [if_pos hp, decide_eq_false (by omega)] at ha
    simp at ha
  rw [if_neg hp] at ha ⊢
  have hm : maskOf (l ++ l) = maskOf l := by
    unfold maskOf hasK
    simp only [List.take_length, List.any_append, Bool.or_self]
  rw [hm, List.all_append, Bool.and_self]
  simp only [Bool.and_eq_true] at ha ⊢
  exact ⟨ha.1, ⟨⟨ha.2.1.1.1, closed_twice ha.2.1.1.2⟩, ha.2.1.2⟩, ha.2.2⟩
theorem acc_closed {h : Hist} {p : Int} {l : List Edge} {b : HBad} (hl : 0 < l.length) (ha : acceptB h p l b = true) : closedB l = true := by
  unfold acceptB at ha
  have hp : ¬ (p = 2 ∨ p = 3) := fun hp => by
    rw [if_pos hp, decide_eq_false (by omega)] at ha
    simp at ha
  rw [if_neg hp] at ha
  simp only [Bool.and_eq_true] at ha
  exact ha.2.1.1.2
theorem acc_phen {h : Hist} {p : Int} {l : List Edge} {b : HBad} (hl : 0 < l.length) (ha : acceptB h p l b = true) : ¬ (p = 2 ∨ p = 3) := fun hp => by
  unfold acceptB at ha
  rw [if_pos hp, decide_eq_false (by omega)] at ha
  simp at ha
theorem acc_less (h : Hist) (p : Int) (l : List Edge) (b : HBad) {i : Nat} (hi : i < l.length) (ha : acceptB h p l b = true) (hb : acceptB h p ((rot l i).drop 1) b = true) : l[i].f = l[i].t := by
  have hl : 0 < l.length := by omega
  have hc : closedB (rot l i) = true := by rw [closed_rot l hi]; exact acc_closed hl ha
  have hrl := rot_len l (i := i) (by omega)
  have hp := acc_phen hl ha
  have hd : closedB ((rot l i).drop 1) = true := by
    unfold acceptB at hb
    rw [if_neg hp] at hb
    simp only [Bool.and_eq_true] at hb
    exact hb.2.1.1.2
  have h0 : (rot l i)[0]? = some l[i] := by
    rw [rot_at (by omega) hl, Nat.add_zero, Nat.mod_eq_of_lt hi, List.getElem?_eq_getElem hi]
  have hd0 : 0 < ((rot l i).drop 1).length := by
    unfold closedB at hd
    simp only [Bool.and_eq_true, decide_eq_true_eq] at hd
    exact hd.1
  have hn : 2 ≤ l.length := by rw [List.length_drop, hrl] at hd0; omega
  have e1 := closed_at hc (j := 0) (by omega)
  have e2 := closed_at hc (j := l.length - 1) (by omega)
  have e3 := closed_at hd (j := l.length - 2) (by rw [List.length_drop, hrl]; omega)
  rw [hrl, Nat.zero_add, Nat.mod_eq_of_lt (by omega), h0] at e1
  rw [hrl, show l.length - 1 + 1 = l.length by omega, Nat.mod_self, h0] at e2
  rw [List.length_drop, hrl, show l.length - 2 + 1 = l.length - 1 by omega, Nat.mod_self, List.getElem?_drop, List.getElem?_drop, show 1 + (l.length - 2) = l.length - 1 by omega, Nat.add_zero, e2] at e3
  rw [← e3] at e1
  simpa using e1.symm
end Go.Proofs.Ytgakhpdclhlmpaa
