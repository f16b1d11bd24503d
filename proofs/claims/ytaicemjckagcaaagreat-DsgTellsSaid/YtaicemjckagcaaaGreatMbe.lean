/- What the program tells of histories, in plain words: needs, keys, writers, right; and of edges, reads and witnesses. -/
import Derived.Test.YtaicemjckagcaaaGreatMak
import Derived.Test.YtaicemjckagcaaaGreatMas
import Derived.Test.YtaicemjckagcaaaGreatMaz
import Derived.Test.YtaicemjckagcaaaGreatMbc
namespace Go.Proofs.YtaicemjckagcaaaGreat
set_option linter.unusedVariables false
open Go.RowKit
/-- is it a read of another one's version -/
def needsF (id : Int) (o : HOp) : Bool := o.read && !((verOf o).tx == 0) && !((verOf o).tx == id)
def needsN (id : Int) (l : List HOp) : Nat → List Ver
  | 0 => []
  | k + 1 =>
    match l[k]? with
    | some o => if needsF id o && !(needsN id l k).contains (verOf o) then needsN id l k ++ [verOf o] else needsN id l k
    | none => needsN id l k
def needsL (id : Int) (l : List HOp) : List Ver := needsN id l l.length
def hasB (txs : List HTx) (v : Ver) : Bool :=
  if v.tx = 0 ∧ v.nth = 0 then idB v.key
  else match findT txs v.tx with
    | some t => decide (1 ≤ v.nth) && decide (v.nth ≤ (writesN t.ops v.key : Int))
    | none => false
def neededB (txs : List HTx) (id : Int) (l : List HOp) : Bool := (needsL id l).all (hasB txs)
def keysOf (l : List HOp) (f : HOp → Bool) : List Int := (l.filter f).map (·.key)
/-- the keys that are written, rising, each once -/
def keysW (l : List HOp) : List Int := setK (keysOf l fun o => !o.read)
/-- a set of keys with some more -/
def addK (s : List Int) : List Int → List Int
  | [] => s
  | k :: l => addK (if k ∈ s then s else s ++ [k]) l
/-- the keys that somebody who is done writes -/
def wkeys : List HTx → List Int → List Int
  | [], s => s
  | t :: l, s => wkeys l (if t.done then addK s (keysW t.ops) else s)
/-- the done ones that write a key -/
def writersOf (txs : List HTx) (key : Int) : List Int := (txs.filter fun t => t.done && (keysW t.ops).contains key).map (·.id)
def txOk (txs : List HTx) (i : Nat) : Bool :=
  match txs[i]? with
  | none => true
  | some t => (match i with | 0 => true | j + 1 => (match txs[j]? with | some u => decide (u.id < t.id) | none => true)) && txErr t.id t.ops == 0 && neededB txs t.id t.ops
def ordOk (txs : List HTx) (ords : List HOrd) (i : Nat) : Bool :=
  match ords[i]? with
  | none => true
  | some o => (match i with | 0 => true | j + 1 => (match ords[j]? with | some u => decide (u.key < o.key) | none => true)) && !o.txs.isEmpty && (sortK o.txs == sortK (writersOf txs o.key))
def rightB (h : Hist) : Bool :=
  decide (h.txs.length ≤ 4096) && (List.range h.txs.length).all (txOk h.txs) && (wkeys h.txs []).length == h.ords.length && (List.range h.ords.length).all (ordOk h.txs h.ords)
/-- the transaction of an id, if it is done -/
def doneT (txs : List HTx) (id : Int) : Option HTx := match findT txs id with | some t => if t.done then some t else none | none => none
def lastB (txs : List HTx) (v : Ver) : Bool := if v.tx = 0 then true else match doneT txs v.tx with | some t => v.nth == (writesN t.ops v.key : Int) | none => false
def nextB (ords : List HOrd) (key x y : Int) : Bool := nextI (orderOf ords key) x == some y
def readsB (id : Int) (l : List HOp) (key : Int) (counts : Ver → Bool) : Bool := l.any fun o => o.read && o.key == key && !(o.tx == id) && counts (verOf o)
def edgeB (h : Hist) (e : Edge) : Bool :=
  match doneT h.txs e.f, doneT h.txs e.t with
  | some a, some b =>
    if e.f = e.t then false
    else if e.k = 1 then nextB h.ords e.key e.f e.t
    else if e.k = 2 then readsB b.id b.ops e.key fun v => v.tx == e.f && lastB h.txs v
    else if e.k = 3 then readsB a.id a.ops e.key fun v => lastB h.txs v && nextB h.ords e.key v.tx e.t
    else false
  | _, _ => false
/-- a bad read -/
structure HBad where
  tx : Int
  place : Int
  of : Ver
deriving DecidableEq
def HBad.cells (b : HBad) : List Value := [.int .i64 b.tx, .int .i64 b.place, .int .i64 b.of.tx, .int .i64 b.of.key, .int .i64 b.of.nth]
def badB (txs : List HTx) (p : Int) (b : HBad) : Bool :=
  match doneT txs b.tx with
  | none => false
  | some t =>
    if b.place < 0 then false
    else match t.ops[b.place.toNat]? with
      | none => false
      | some o =>
        if !o.read || !(verOf o == b.of) || o.tx == 0 || o.tx == t.id then false
        else if p = 2 then (match findT txs o.tx with | some u => !u.done | none => true)
        else if p = 3 then decide (o.nth < (writesN (match findT txs o.tx with | some u => u.ops | none => []) o.key : Int))
        else false
/-- are the kinds those of a phenomenon -/
def kindsOk (m p : Int) : Bool := (bits .andNot .i64 m (maskP p) == 0) && (mustP p == 0 || !(bits .and .i64 m (mustP p) == 0))
def noBad : HBad := ⟨0, 0, ⟨0, 0, 0⟩⟩
def acceptB (h : Hist) (p : Int) (l : List Edge) (b : HBad) : Bool :=
  rightB h && (if p = 2 ∨ p = 3 then decide (l.length = 0) && badB h.txs p b
    else !(maskP p == 0) && b == noBad && closedB l && kindsOk (maskOf l) p && l.all (edgeB h))

/-! from any place -/
end Go.Proofs.YtaicemjckagcaaaGreat

/- Whether a version is there. -/
namespace Go.Proofs.YtaicemjckagcaaaGreat
set_option linter.unusedVariables false
open Go.RowKit
theorem hasB_zero {txs : List HTx} {v : Ver} (h1 : v.tx = 0) (h2 : v.nth = 0) : hasB txs v = idB v.key := by unfold hasB; rw [if_pos ⟨h1, h2⟩]
theorem hasB_none {txs : List HTx} {v : Ver} (h : ¬ (v.tx = 0 ∧ v.nth = 0)) (hf : findT txs v.tx = none) : hasB txs v = false := by unfold hasB; rw [if_neg h, hf]
theorem hasB_some {txs : List HTx} {v : Ver} {t : HTx} (h : ¬ (v.tx = 0 ∧ v.nth = 0)) (hf : findT txs v.tx = some t) : hasB txs v = (decide (1 ≤ v.nth) && decide (v.nth ≤ (writesN t.ops v.key : Int))) := by unfold hasB; rw [if_neg h, hf]
section
variable (F : Nat → Prop) (w : World) (txs : List HTx) (ords : List HOrd) (A : Option Addr) (c : Nat) (B : Option Addr) (d : Nat) (i : Int)
theorem pfind_none (H : Hist.lies F w ⟨txs, ords, A, c, B, d⟩) (hf : findT txs i = none) : Calls Tryz.prog 218 #[.agg #[.slice A txs.length c, .slice B ords.length d], .int .i64 i] w fun e w' =>
    e = .returned (.tuple #[.agg #[.int .i64 0, .bool false, .slice none 0 0], .bool false]) ∧ Upd No w w' := by
  refine (pfind F w ⟨txs, ords, A, c, B, d⟩ i H).mono ?_
  intro e w' h
  unfold Found at h
  rw [show findT (Hist.txs ⟨txs, ords, A, c, B, d⟩) i = none from hf] at h
  exact h
theorem pfind_some {t : HTx} (H : Hist.lies F w ⟨txs, ords, A, c, B, d⟩) (hf : findT txs i = some t) : Calls Tryz.prog 218 #[.agg #[.slice A txs.length c, .slice B ords.length d], .int .i64 i] w fun e w' =>
    ∃ A' c', e = .returned (.tuple #[.agg #[.int .i64 t.id, .bool t.done, .slice A' t.ops.length c'], .bool true]) ∧ t.ops.length ≤ c' ∧ HOps (fun i => w.heap.size ≤ i) w' A' t.ops ∧ Upd No w w' := by
  refine (pfind F w ⟨txs, ords, A, c, B, d⟩ i H).mono ?_
  intro e w' h
  unfold Found at h
  rw [show findT (Hist.txs ⟨txs, ords, A, c, B, d⟩) i = some t from hf] at h
  obtain ⟨⟨A', c', h1, h2, h3⟩, h4⟩ := h
  exact ⟨A', c', h1, h2, h3, h4⟩
end
theorem findT_mem {txs : List HTx} {i : Int} {t : HTx} (h : findT txs i = some t) : t ∈ txs := List.mem_of_find?_eq_some h
set_option maxRecDepth 100000 in
set_option maxHeartbeats 1000000 in
theorem hhas (F : Nat → Prop) (w : World) (h : Hist) (v : Ver) (H : h.lies F w) : Calls Tryz.prog 181 #[h.val, .agg v.cells.toArray] w fun e w' => e = .returned (.bool (hasB h.txs v)) ∧ Upd No w w' := by
  obtain ⟨txs, ords, A, c, B, d⟩ := h
  obtain ⟨tx, key, nth⟩ := v
  unfold Hist.val Ver.cells
  have uu := ((Upd.refl No w).alloc (.cells #[.slice A txs.length c, .slice B ords.length d] 25)).alloc (.cells #[.int .i64 tx, .int .i64 key, .int .i64 nth] 42)
  by_cases h1 : tx = 0
  · subst h1
    by_cases h2 : nth = 0
    · subst h2
      have hv := Lib.hid (hasB_zero (txs := txs) (v := ⟨0, key, 0⟩) rfl rfl)
      unfold idB at hv
      by_cases b1 : 1 ≤ key
      · by_cases b2 : key ≤ 1048575
        · go_enter Tryz.func181, Tryz.ntmps181
          go_wp2
          go_ret
          exact ⟨by rw [hv.out, decide_eq_true b1, decide_eq_true b2]; rfl, uu⟩
        · go_enter Tryz.func181, Tryz.ntmps181
          go_wp2
          go_ret
          exact ⟨by rw [hv.out, decide_eq_false (show ¬ key ≤ 1048575 by omega), Bool.and_false]; rfl, uu⟩
      · go_enter Tryz.func181, Tryz.ntmps181
        go_wp2
        go_ret
        exact ⟨by rw [hv.out, decide_eq_false (show ¬ 1 ≤ key by omega), Bool.false_and]; rfl, uu⟩
    · have hne : ¬ ((⟨0, key, nth⟩ : Ver).tx = 0 ∧ (⟨0, key, nth⟩ : Ver).nth = 0) := fun e => h2 e.2
      have h2b : (nth == 0) = false := by simpa using h2
      clear h2
      have HH := Lib.hid (H.upd uu (fun _ _ => id))
      have b1 := Blk.new (w.alloc (.cells #[.slice A txs.length c, .slice B ords.length d] 25)) 42 [.int .i64 0, .int .i64 key, .int .i64 nth]
      simp only [World.size_alloc] at b1
      have B1 := Lib.hid b1
      clear b1
      cases hf : findT txs 0 with
      | none =>
        have hv := Lib.hid (hasB_none hne hf)
        have Hf := Lib.hid hf
        clear hne hf
        go_enter Tryz.func181, Tryz.ntmps181
        go_wp2_with fail
        refine (pfind_none F _ txs ords A c B d 0 HH.out Hf.out).mono ?_
        rintro e w1 ⟨rfl, hu1⟩
        have bv := (B1.out.upd hu1 id).alloc (.cells #[.int .i64 0, .bool false, .slice none 0 0] 47)
        have g0 := bv.cell 0
        have g1 := bv.cell 1
        have g2 := bv.cell 2
        simp only [List.getElem?_cons_zero, List.getElem?_cons_succ] at g0 g1 g2
        go_wp2
        go_quiet (fail)
        go_wp2
        go_ret
        exact ⟨by rw [hv.out]; rfl, ((uu.trans hu1).alloc _).drewN _⟩
      | some t =>
        have hv := Lib.hid (hasB_some hne hf)
        have Hf := Lib.hid hf
        have hfew := Lib.hid (H.tx t (findT_mem hf)).2.2.1
        clear hne hf
        by_cases hn1 : 1 ≤ nth
        · go_enter Tryz.func181, Tryz.ntmps181
          go_wp2_with fail
          refine (pfind_some F _ txs ords A c B d 0 HH.out Hf.out).mono ?_
          rintro e w1 ⟨A1, c1, rfl, hc1, hh1, hu1⟩
          have bv := (B1.out.upd hu1 id).alloc (.cells #[.int .i64 t.id, .bool t.done, .slice A1 t.ops.length c1] 47)
          have bt := Blk.new w1 47 [.int .i64 t.id, .bool t.done, .slice A1 t.ops.length c1]
          have hh2 := HOps.upd hh1 ((Upd.refl No w1).alloc (.cells #[.int .i64 t.id, .bool t.done, .slice A1 t.ops.length c1] 47)) (fun _ _ => id)
          have g0 := bv.cell 0
          have g1 := bv.cell 1
          have g2 := bv.cell 2
          have k0 := bt.cell 0
          have k1 := bt.cell 1
          have k2 := bt.cell 2
          simp only [List.getElem?_cons_zero, List.getElem?_cons_succ] at g0 g1 g2 k0 k1 k2
          have U1 := Lib.hid ((uu.trans hu1).alloc (.cells #[.int .i64 t.id, .bool t.done, .slice A1 t.ops.length c1] 47))
          go_wp2
          go_region_held3 (fun w' => w'.cell? ⟨w.heap.size + 1, 0, none⟩ = some (.int .i64 0) ∧ w'.cell? ⟨w.heap.size + 1, 1, none⟩ = some (.int .i64 key) ∧ w'.cell? ⟨w.heap.size + 1, 2, none⟩ = some (.int .i64 nth) ∧
              w'.cell? ⟨w1.heap.size, 0, none⟩ = some (.int .i64 t.id) ∧ w'.cell? ⟨w1.heap.size, 1, none⟩ = some (.bool t.done) ∧ w'.cell? ⟨w1.heap.size, 2, none⟩ = some (.slice A1 t.ops.length c1) ∧ Upd No w w')
            (first | exact ⟨g0, g1, g2, k0, k1, k2, U1.out.drew⟩ | exact ⟨g0, g1, g2, k0, k1, k2, U1.out⟩ | (go_split_ands; refine ⟨?_, ?_, ?_, ?_, ?_, ?_, ?_⟩ <;> first | assumption | (exact hu3.keepNo (by assumption)) | (exact Upd.trans (by assumption) hu3)))
            ((go_at_call 62; refine (pwrites _ _ t.id t.done A1 c1 t.ops key (by exact hh2) hfew.out).mono ?_; rintro e w3 ⟨rfl, hu3⟩))
          go_wp2
          go_ret
          exact ⟨by rw [hv.out, decide_eq_true hn1]; rfl, (by go_split_ands; assumption)⟩
        · go_enter Tryz.func181, Tryz.ntmps181
          go_wp2_with fail
          refine (pfind_some F _ txs ords A c B d 0 HH.out Hf.out).mono ?_
          rintro e w1 ⟨A1, c1, rfl, hc1, hh1, hu1⟩
          have bv := (B1.out.upd hu1 id).alloc (.cells #[.int .i64 t.id, .bool t.done, .slice A1 t.ops.length c1] 47)
          have g0 := bv.cell 0
          have g1 := bv.cell 1
          have g2 := bv.cell 2
          simp only [List.getElem?_cons_zero, List.getElem?_cons_succ] at g0 g1 g2
          have hnb : decide (1 ≤ nth) = false := decide_eq_false (by omega)
          go_wp2
          go_quiet (fail)
          go_wp2
          go_ret
          exact ⟨by rw [hv.out, decide_eq_false (show ¬ 1 ≤ nth by omega), Bool.false_and]; rfl, ((uu.trans hu1).alloc _).drewN _⟩
  · have hne : ¬ ((⟨tx, key, nth⟩ : Ver).tx = 0 ∧ (⟨tx, key, nth⟩ : Ver).nth = 0) := fun e => h1 e.1
    have h1b : (tx == 0) = false := by simpa using h1
    clear h1
    have HH := Lib.hid (H.upd uu (fun _ _ => id))
    have b1 := Blk.new (w.alloc (.cells #[.slice A txs.length c, .slice B ords.length d] 25)) 42 [.int .i64 tx, .int .i64 key, .int .i64 nth]
    simp only [World.size_alloc] at b1
    have B1 := Lib.hid b1
    clear b1
    cases hf : findT txs tx with
    | none =>
      have hv := Lib.hid (hasB_none hne hf)
      have Hf := Lib.hid hf
      clear hne hf
      go_enter Tryz.func181, Tryz.ntmps181
      go_wp2_with fail
      refine (pfind_none F _ txs ords A c B d tx HH.out Hf.out).mono ?_
      rintro e w1 ⟨rfl, hu1⟩
      have bv := (B1.out.upd hu1 id).alloc (.cells #[.int .i64 0, .bool false, .slice none 0 0] 47)
      have g0 := bv.cell 0
      have g1 := bv.cell 1
      have g2 := bv.cell 2
      simp only [List.getElem?_cons_zero, List.getElem?_cons_succ] at g0 g1 g2
      go_wp2
      go_quiet (fail)
      go_wp2
      go_ret
      exact ⟨by rw [hv.out]; rfl, ((uu.trans hu1).alloc _).drewN _⟩
    | some t =>
      have hv := Lib.hid (hasB_some hne hf)
      have Hf := Lib.hid hf
      have hfew := Lib.hid (H.tx t (findT_mem hf)).2.2.1
      clear hne hf
      by_cases hn1 : 1 ≤ nth
      · go_enter Tryz.func181, Tryz.ntmps181
        go_wp2_with fail
        refine (pfind_some F _ txs ords A c B d tx HH.out Hf.out).mono ?_
        rintro e w1 ⟨A1, c1, rfl, hc1, hh1, hu1⟩
        have bv := (B1.out.upd hu1 id).alloc (.cells #[.int .i64 t.id, .bool t.done, .slice A1 t.ops.length c1] 47)
        have bt := Blk.new w1 47 [.int .i64 t.id, .bool t.done, .slice A1 t.ops.length c1]
        have hh2 := HOps.upd hh1 ((Upd.refl No w1).alloc (.cells #[.int .i64 t.id, .bool t.done, .slice A1 t.ops.length c1] 47)) (fun _ _ => id)
        have g0 := bv.cell 0
        have g1 := bv.cell 1
        have g2 := bv.cell 2
        have k0 := bt.cell 0
        have k1 := bt.cell 1
        have k2 := bt.cell 2
        simp only [List.getElem?_cons_zero, List.getElem?_cons_succ] at g0 g1 g2 k0 k1 k2
        have U1 := Lib.hid ((uu.trans hu1).alloc (.cells #[.int .i64 t.id, .bool t.done, .slice A1 t.ops.length c1] 47))
        go_wp2
        go_region_held3 (fun w' => w'.cell? ⟨w.heap.size + 1, 0, none⟩ = some (.int .i64 tx) ∧ w'.cell? ⟨w.heap.size + 1, 1, none⟩ = some (.int .i64 key) ∧ w'.cell? ⟨w.heap.size + 1, 2, none⟩ = some (.int .i64 nth) ∧
            w'.cell? ⟨w1.heap.size, 0, none⟩ = some (.int .i64 t.id) ∧ w'.cell? ⟨w1.heap.size, 1, none⟩ = some (.bool t.done) ∧ w'.cell? ⟨w1.heap.size, 2, none⟩ = some (.slice A1 t.ops.length c1) ∧ Upd No w w')
          (first | exact ⟨g0, g1, g2, k0, k1, k2, U1.out.drew⟩ | exact ⟨g0, g1, g2, k0, k1, k2, U1.out⟩ | (go_split_ands; refine ⟨?_, ?_, ?_, ?_, ?_, ?_, ?_⟩ <;> first | assumption | (exact hu3.keepNo (by assumption)) | (exact Upd.trans (by assumption) hu3)))
          ((go_at_call 62; refine (pwrites _ _ t.id t.done A1 c1 t.ops key (by exact hh2) hfew.out).mono ?_; rintro e w3 ⟨rfl, hu3⟩))
        go_wp2
        go_ret
        exact ⟨by rw [hv.out, decide_eq_true hn1]; rfl, (by go_split_ands; assumption)⟩
      · go_enter Tryz.func181, Tryz.ntmps181
        go_wp2_with fail
        refine (pfind_some F _ txs ords A c B d tx HH.out Hf.out).mono ?_
        rintro e w1 ⟨A1, c1, rfl, hc1, hh1, hu1⟩
        have bv := (B1.out.upd hu1 id).alloc (.cells #[.int .i64 t.id, .bool t.done, .slice A1 t.ops.length c1] 47)
        have g0 := bv.cell 0
        have g1 := bv.cell 1
        have g2 := bv.cell 2
        simp only [List.getElem?_cons_zero, List.getElem?_cons_succ] at g0 g1 g2
        have hnb : decide (1 ≤ nth) = false := decide_eq_false (by omega)
        go_wp2
        go_quiet (fail)
        go_wp2
        go_ret
        exact ⟨by rw [hv.out, decide_eq_false (show ¬ 1 ≤ nth by omega), Bool.false_and]; rfl, ((uu.trans hu1).alloc _).drewN _⟩
end Go.Proofs.YtaicemjckagcaaaGreat
