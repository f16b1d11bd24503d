/- What the document tells of histories, in plain words; it is what the program tells. -/
import Derived.Test.YtaicemjckagcaaaMba
import Derived.Test.YtaicemjckagcaaaMbh
import Derived.Test.YtaicemjckagcaaaMbn
namespace Go.Proofs.Ytaicemjckagcaaa
set_option linter.unusedVariables false
open Go.RowKit
/-- have two lists the same numbers -/
def permR (a b : List Int) : Bool := a.length == b.length && a.all fun x => a.count x == b.count x
theorem perm_of_count : ∀ (a b : List Int), a.length = b.length → (∀ x ∈ a, a.count x = b.count x) → a.Perm b
  | [], b, hl, _ => by
    have : b = [] := List.eq_nil_of_length_eq_zero (by simpa using hl.symm)
    subst this; exact List.Perm.refl _
  | x :: a, b, hl, h => by
    have hx := h x (List.mem_cons_self ..)
    have hxb : x ∈ b := by
      rw [List.count_cons_self] at hx
      exact List.count_pos_iff.1 (by omega)
    have hp := List.perm_cons_erase hxb
    refine ((perm_of_count a (b.erase x) ?_ fun y hy => ?_).cons x).trans hp.symm
    · have := hp.length_eq; simp only [List.length_cons] at *; omega
    · have h1 := h y (List.mem_cons_of_mem _ hy)
      rw [hp.count_eq] at h1
      simp only [List.count_cons] at h1
      omega
theorem permR_eq (a b : List Int) : permR a b = (sortK a == sortK b) := by
  rw [Bool.eq_iff_iff]
  unfold permR
  simp only [Bool.and_eq_true, beq_iff_eq, List.all_eq_true]
  constructor
  · rintro ⟨h1, h2⟩
    have hp := perm_of_count a b h1 h2
    exact sorted_eq (((sortK_perm a).trans hp).trans (sortK_perm b).symm) (sortK_le a) (sortK_le b)
  · intro h
    have hp : a.Perm b := ((sortK_perm a).symm.trans (by rw [h]; exact sortK_perm b))
    exact ⟨hp.length_eq, fun x _ => hp.count_eq x⟩

/-! keys -/
theorem rise_nodup {l : List Int} (h : l.Pairwise (· < ·)) : l.Nodup := h.imp fun h => Int.ne_of_lt h
/-! is a history right, by the document -/
theorem rise_at {l : List Int} (h : ∀ i, i + 1 < l.length → l.getD i 0 < l.getD (i + 1) 0) : l.Pairwise (· < ·) := by
  have key : ∀ d i : Nat, i + d + 1 < l.length → l.getD i 0 < l.getD (i + d + 1) 0 := by
    intro d
    induction d with
    | zero => intro i hi; exact h i hi
    | succ d ih =>
      intro i hi
      have h1 := ih i (by omega)
      have h2 := h (i + d + 1) (by omega)
      exact Int.lt_trans h1 h2
  rw [List.pairwise_iff_getElem]
  intro i j hi hj hij
  have := key (j - i - 1) i (by omega)
  rw [show i + (j - i - 1) + 1 = j by omega] at this
  simpa [List.getD_eq_getElem?_getD, List.getElem?_eq_getElem hi, List.getElem?_eq_getElem hj] using this
theorem ordOk_at {txs : List HTx} {ords : List HOrd} {i : Nat} (hi : i < ords.length) : ordOk txs ords i = true ↔ (∀ j, j + 1 = i → (ords.map (·.key)).getD j 0 < ords[i].key) ∧ ords[i].txs ≠ [] ∧ permR ords[i].txs (writersOf txs ords[i].key) = true := by
  unfold ordOk
  rw [List.getElem?_eq_getElem hi, permR_eq]
  cases i with
  | zero => simp
  | succ j =>
    have hj : j < ords.length := by omega
    simp only [List.getElem?_eq_getElem hj]
    simp [List.getD_eq_getElem?_getD, List.getElem?_eq_getElem hj]
    grind
end Go.Proofs.Ytaicemjckagcaaa

/- Looking at a history: who is done; which version is the last one; who is next. -/
namespace Go.Proofs.Ytaicemjckagcaaa
set_option linter.unusedVariables false
open Go.RowKit
end Go.Proofs.Ytaicemjckagcaaa

/- Edges, reads and witnesses by the document, in plain words; for right histories they are what the program tells. -/
namespace Go.Proofs.Ytaicemjckagcaaa
set_option linter.unusedVariables false
open Go.RowKit
section
variable {h : Hist}
theorem right_txOk (hr : rightB h = true) {i : Nat} (hi : i < h.txs.length) : txOk h.txs i = true := by
  unfold rightB at hr
  simp only [Bool.and_eq_true, List.all_eq_true, List.mem_range] at hr
  exact hr.1.1.2 i hi
theorem right_rise (hr : rightB h = true) : (h.txs.map (·.id)).Pairwise (· < ·) := rise_at fun j hj => by
  rw [List.length_map] at hj
  have := right_txOk hr hj
  unfold txOk at this
  rw [List.getElem?_eq_getElem hj] at this
  simp only [Bool.and_eq_true] at this
  have h1 := this.1.1
  simp only [List.getElem?_eq_getElem (show j < h.txs.length by omega), decide_eq_true_eq] at h1
  rw [List.getD_eq_getElem?_getD, List.getD_eq_getElem?_getD, List.getElem?_map, List.getElem?_map, List.getElem?_eq_getElem hj, List.getElem?_eq_getElem (show j < h.txs.length by omega)]
  exact h1
theorem right_find (hr : rightB h = true) {t : HTx} (ht : t ∈ h.txs) : findT h.txs t.id = some t := by
  obtain ⟨k, hk, rfl⟩ := List.mem_iff_getElem.1 ht
  have hp := List.pairwise_iff_getElem.1 (right_rise hr)
  refine findT_some hk (fun j hj => ?_) (by simp)
  have := hp j k (by simp; omega) (by simpa using hk) hj
  simp only [List.getElem_map] at this
  rw [beq_eq_false_iff_ne]; omega
theorem find_id {txs : List HTx} {i : Int} {t : HTx} (hf : findT txs i = some t) : t ∈ txs ∧ t.id = i := by
  refine ⟨findT_mem hf, ?_⟩
  unfold findT at hf
  have := List.find?_some hf
  simpa using this
theorem right_parts (hr : rightB h = true) {t : HTx} (ht : t ∈ h.txs) : txErr t.id t.ops = 0 ∧ neededB h.txs t.id t.ops = true := by
  obtain ⟨k, hk, rfl⟩ := List.mem_iff_getElem.1 ht
  have := right_txOk hr hk
  unfold txOk at this
  rw [List.getElem?_eq_getElem hk] at this
  simp only [Bool.and_eq_true, beq_iff_eq] at this
  exact ⟨this.1.2, this.2⟩
theorem right_id (hr : rightB h = true) {t : HTx} (ht : t ∈ h.txs) : 1 ≤ t.id := by
  have := (right_parts hr ht).1
  unfold txErr at this
  split at this
  · cases this
  · rename_i hid
    unfold idB at hid
    simp at hid
    exact hid.1
end
/-! how often there is a reason for an edge -/
def p2 (f key : Int) (n : Nat) (o : HOp) : Bool := o.read && o.key == key && o.tx == f && o.nth == (n : Int)
def p3 (h : Hist) (id key t : Int) (o : HOp) : Bool := o.read && o.key == key && !(o.tx == id) && lastB h.txs ⟨o.tx, o.key, o.nth⟩ && nextB h.ords key o.tx t
def cntR (h : Hist) (e : Edge) : Nat :=
  match doneT h.txs e.f, doneT h.txs e.t with
  | some a, some b =>
    if e.f = e.t then 0
    else if e.k = 1 then (if nextB h.ords e.key e.f e.t then 1 else 0)
    else if e.k = 2 then b.ops.countP (p2 e.f e.key (writesN a.ops e.key))
    else if e.k = 3 then a.ops.countP (p3 h a.id e.key e.t)
    else 0
  | _, _ => 0
def countR (h : Hist) (e : Edge) : Nat := if rightB h = true then cntR h e else 0
theorem doneT_some {txs : List HTx} {i : Int} {t : HTx} (hd : doneT txs i = some t) : findT txs i = some t ∧ t.done = true := by
  unfold doneT at hd
  split at hd
  · split at hd
    · rename_i u hf hu
      cases hd
      exact ⟨hf, hu⟩
    · cases hd
  · cases hd
/-! bad reads -/
/-! witnesses -/
end Go.Proofs.Ytaicemjckagcaaa

/- The document: who is next, which version is the last one, which read may not be. -/
namespace Go.Proofs.Ytaicemjckagcaaa
set_option linter.unusedVariables false
open Go.RowKit
end Go.Proofs.Ytaicemjckagcaaa

/- Looking at a history: the last version; the next one; reads that count. -/
namespace Go.Proofs.Ytaicemjckagcaaa
set_option linter.unusedVariables false
open Go.RowKit
end Go.Proofs.Ytaicemjckagcaaa

/- Looking at a history: edges. -/
namespace Go.Proofs.Ytaicemjckagcaaa
set_option linter.unusedVariables false
open Go.RowKit
section
variable (F : Nat → Prop) (w : World) (txs : List HTx) (ords : List HOrd) (A : Option Addr) (c : Nat) (B : Option Addr) (d : Nat) (g ge : Nat) (e : Edge) (v : Ver)
end
section
variable {h : Hist} {e : Edge}
end
end Go.Proofs.Ytaicemjckagcaaa

/- Looking at a history: reads that may not be. -/
namespace Go.Proofs.Ytaicemjckagcaaa
set_option linter.unusedVariables false
open Go.RowKit
section
variable {txs : List HTx} {p : Int} {b : HBad}
end
end Go.Proofs.Ytaicemjckagcaaa

/- Looking at a history: witnesses. -/
namespace Go.Proofs.Ytaicemjckagcaaa
set_option linter.unusedVariables false
open Go.RowKit
section
variable {h : Hist} {p : Int} {l : List Edge} {b : HBad}
end
theorem hrightV {F : Nat → Prop} {w : World} {txs : List HTx} {ords : List HOrd} {A : Option Addr} {c : Nat} {B : Option Addr} {d : Nat} {r : Bool} (H : Hist.lies F w ⟨txs, ords, A, c, B, d⟩) (hr : rightB ⟨txs, ords, A, c, B, d⟩ = r) :
    Calls Try.prog 39 #[.agg #[.slice A txs.length c, .slice B ords.length d]] w fun e w' => e = .returned (.bool r) ∧ Upd No w w' := by subst hr; exact hright F w ⟨txs, ords, A, c, B, d⟩ H
end Go.Proofs.Ytaicemjckagcaaa

/- The document: which version is the last one, which reads may not be. -/
namespace Go.Proofs.Ytaicemjckagcaaa
set_option linter.unusedVariables false
open Go.RowKit
theorem lastR_zero {txs : List HTx} {v : Ver} (h : v.tx = 0) : lastB txs v = true := by unfold lastB; rw [if_pos h]
theorem lastR_none {txs : List HTx} {v : Ver} (h : ¬ v.tx = 0) (hf : findT txs v.tx = none) : lastB txs v = false := by unfold lastB doneT; rw [if_neg h, hf]
theorem lastR_some {txs : List HTx} {v : Ver} {t : HTx} (h : ¬ v.tx = 0) (hf : findT txs v.tx = some t) : lastB txs v = (t.done && v.nth == (writesN t.ops v.key : Int)) := by
  unfold lastB doneT; rw [if_neg h, hf]
  cases hd : t.done <;> simp [hd]
set_option maxRecDepth 100000 in
set_option maxHeartbeats 1000000 in
theorem rLast (F : Nat → Prop) (w : World) (txs : List HTx) (ords : List HOrd) (A : Option Addr) (c : Nat) (B : Option Addr) (d : Nat) (o : HOp) (H : Hist.lies F w ⟨txs, ords, A, c, B, d⟩) :
    Calls Try.prog 42 #[.agg #[.slice A txs.length c, .slice B ords.length d], .agg o.cells.toArray] w fun e w' => e = .returned (.bool (lastB txs ⟨o.tx, o.key, o.nth⟩)) ∧ Upd No w w' := by
  obtain ⟨rd, ky, tx, nt⟩ := o
  unfold HOp.cells
  simp only
  have u0 := ((Upd.refl No w).alloc (.cells #[.slice A txs.length c, .slice B ords.length d] 58)).alloc (.cells #[.bool rd, .int .i64 ky, .int .i64 tx, .int .i64 nt] 66)
  have bH := Lib.hid ((Blk.new w 58 [.slice A txs.length c, .slice B ords.length d]).alloc (.cells #[.bool rd, .int .i64 ky, .int .i64 tx, .int .i64 nt] 66))
  have b1 := Blk.new (w.alloc (.cells #[.slice A txs.length c, .slice B ords.length d] 58)) 66 [.bool rd, .int .i64 ky, .int .i64 tx, .int .i64 nt]
  simp only [World.size_alloc] at b1
  have bX := Lib.hid b1
  have U0 := Lib.hid u0
  clear b1 u0
  have HH := Lib.hid (H.upd U0.out (fun _ _ => id))
  by_cases h0 : tx = 0
  · have HV := Lib.hid (lastR_zero (txs := txs) (v := ⟨tx, ky, nt⟩) h0)
    have hb : (tx == 0) = true := by simpa using h0
    clear h0
    go_enter Try.func42, Try.ntmps42
    go_wp2
    go_ret
    exact ⟨by rw [HV.out]; rfl, U0.out⟩
  · have hb : (tx == 0) = false := by simpa using h0
    cases hf : findT txs tx with
    | none =>
      have HV := Lib.hid (lastR_none (txs := txs) (v := ⟨tx, ky, nt⟩) h0 hf)
      have HF := Lib.hid hf
      clear hf h0
      go_enter Try.func42, Try.ntmps42
      go_wp2_with fail
      refine (rfind_none HH.out HF.out).mono ?_
      rintro e w1 ⟨rfl, hu1⟩
      have uT := hu1.alloc (.cells #[.int .i64 0, .bool false, .slice none 0 0] 64)
      clear hu1
      go_wp2
      refine wp_region_noPanic ?_
      refine wp_region_held_drew (S := (fun w' => Upd No (w1.alloc (.cells #[.int .i64 0, .bool false, .slice none 0 0] 64)) w')) (by kernel_rfl) ?_ (fun hHeld => ?_)
      · (first | exact (Upd.refl No _).drew | exact hHeld.trans hu3)
      refine wpT 0 ⟨some 17, .move (.tmp 6), 4, "ref.go:50", #[], none⟩ ?_ (.inl ⟨by rfl, ?_⟩) ?_
      rotate_left
      · (intro W hSw; (try dsimp only at hSw); go_simp; try (with_reducible rfl))
      try simp only [Act.put]
      try simp only [List.setIfInBounds_toArray]
      try simp only [List.set_cons_succ]
      try simp only [List.set_cons_zero]
      refine wpT 1 ⟨some 18, .move (.tmp 17), 4, "ref.go:50", #[⟨0, .data⟩], none⟩ ?_ (.inl ⟨by rfl, ?_⟩) ?_
      rotate_left
      · (intro W hSw; (try dsimp only at hSw); go_simp; try (with_reducible rfl))
      try simp only [Act.put]
      try simp only [List.setIfInBounds_toArray]
      try simp only [List.set_cons_succ]
      try simp only [List.set_cons_zero]
      refine wpT 2 ⟨some 19, .fieldAddr 64 (.tmp 5) 1, 0, "ref.go:50", #[⟨1, .guard⟩], some (1, true)⟩ undef (.inr ⟨by rfl, rfl⟩) ?_
      try simp only [Act.put]
      try simp only [List.setIfInBounds_toArray]
      try simp only [List.set_cons_succ]
      try simp only [List.set_cons_zero]
      refine wpT 3 ⟨some 20, .load 4 (.tmp 19), 4, "ref.go:50", #[⟨2, .data⟩, ⟨1, .guard⟩], some (1, true)⟩ undef (.inr ⟨by rfl, rfl⟩) ?_
      try simp only [Act.put]
      try simp only [List.setIfInBounds_toArray]
      try simp only [List.set_cons_succ]
      try simp only [List.set_cons_zero]
      refine wpT 4 ⟨some 21, .pick (.tmp 18) (.tmp 20) (.const (.bool false)), 4, "ref.go:50", #[⟨1, .data⟩, ⟨3, .data⟩], none⟩ ?_ (.inl ⟨by rfl, ?_⟩) ?_
      rotate_left
      · (intro W hSw; (try dsimp only at hSw); go_simp; try (with_reducible rfl))
      try simp only [Act.put]
      try simp only [List.setIfInBounds_toArray]
      try simp only [List.set_cons_succ]
      try simp only [List.set_cons_zero]
      refine wpT 5 ⟨some 22, .move (.tmp 21), 4, "ref.go:50", #[⟨4, .data⟩, ⟨1, .chain⟩], none⟩ ?_ (.inl ⟨by rfl, ?_⟩) ?_
      rotate_left
      · (intro W hSw; (try dsimp only at hSw); go_simp; try (with_reducible rfl))
      try simp only [Act.put]
      try simp only [List.setIfInBounds_toArray]
      try simp only [List.set_cons_succ]
      try simp only [List.set_cons_zero]
      refine wpT 6 ⟨some 23, .fieldAddr 66 (.tmp 3) 3, 0, "ref.go:50", #[⟨5, .guard⟩], some (5, true)⟩ undef (.inr ⟨by rfl, rfl⟩) ?_
      try simp only [Act.put]
      try simp only [List.setIfInBounds_toArray]
      try simp only [List.set_cons_succ]
      try simp only [List.set_cons_zero]
      refine wpT 7 ⟨some 24, .load 3 (.tmp 23), 3, "ref.go:50", #[⟨6, .data⟩, ⟨5, .guard⟩], some (5, true)⟩ undef (.inr ⟨by rfl, rfl⟩) ?_
      try simp only [Act.put]
      try simp only [List.setIfInBounds_toArray]
      try simp only [List.set_cons_succ]
      try simp only [List.set_cons_zero]
      refine wpT 8 ⟨some 25, .fieldAddr 64 (.tmp 5) 2, 0, "ref.go:50", #[⟨5, .guard⟩], some (5, true)⟩ undef (.inr ⟨by rfl, rfl⟩) ?_
      try simp only [Act.put]
      try simp only [List.setIfInBounds_toArray]
      try simp only [List.set_cons_succ]
      try simp only [List.set_cons_zero]
      refine wpT 9 ⟨some 26, .load 62 (.tmp 25), 62, "ref.go:50", #[⟨8, .data⟩, ⟨5, .guard⟩], some (5, true)⟩ undef (.inr ⟨by rfl, rfl⟩) ?_
      try simp only [Act.put]
      try simp only [List.setIfInBounds_toArray]
      try simp only [List.set_cons_succ]
      try simp only [List.set_cons_zero]
      refine wpT 10 ⟨some 27, .fieldAddr 66 (.tmp 3) 1, 0, "ref.go:50", #[⟨5, .guard⟩], some (5, true)⟩ undef (.inr ⟨by rfl, rfl⟩) ?_
      try simp only [Act.put]
      try simp only [List.setIfInBounds_toArray]
      try simp only [List.set_cons_succ]
      try simp only [List.set_cons_zero]
      refine wpT 11 ⟨some 28, .load 3 (.tmp 27), 3, "ref.go:50", #[⟨10, .data⟩, ⟨5, .guard⟩], some (5, true)⟩ undef (.inr ⟨by rfl, rfl⟩) ?_
      try simp only [Act.put]
      try simp only [List.setIfInBounds_toArray]
      try simp only [List.set_cons_succ]
      try simp only [List.set_cons_zero]
      refine wpAnyH_ready (rs := [12]) (by kernel_rfl) (by simp) ?_
      refine AllReadyH.cons (o := ⟨some 29, .call { callee := .value (.func 106), args := #[.tmp 26, .tmp 28], argTypes := #[62, 3] }, 3, "ref.go:50", #[⟨9, .data⟩, ⟨11, .data⟩, ⟨5, .chain⟩, ⟨5, .guard⟩], some (5, true)⟩) rfl (fun K hK => ?_) AllReadyH.nil
      go_simp
      refine hK.out _ _ ?_ (fun hHeld => ?_)
      · exact hHeld
      clear hK K
      try simp only [Act.put]
      try simp only [List.setIfInBounds_toArray]
      try simp only [List.set_cons_succ]
      try simp only [List.set_cons_zero]
      refine wpT 13 ⟨some 30, .binOp .eql 3 (.tmp 24) (.tmp 29) 3, 4, "ref.go:50", #[⟨7, .data⟩, ⟨12, .data⟩, ⟨5, .guard⟩], some (5, true)⟩ undef (.inr ⟨by rfl, rfl⟩) ?_
      try simp only [Act.put]
      try simp only [List.setIfInBounds_toArray]
      try simp only [List.set_cons_succ]
      try simp only [List.set_cons_zero]
      refine wpT 14 ⟨some 31, .pick (.tmp 22) (.tmp 30) (.const (.bool false)), 4, "ref.go:50", #[⟨5, .data⟩, ⟨13, .data⟩], none⟩ ?_ (.inl ⟨by rfl, ?_⟩) ?_
      rotate_left
      · (intro W hSw; (try dsimp only at hSw); go_simp; try (with_reducible rfl))
      try simp only [Act.put]
      try simp only [List.setIfInBounds_toArray]
      try simp only [List.set_cons_succ]
      try simp only [List.set_cons_zero]
      refine wpT 15 ⟨some 4, .assign (.tmp 31), 4, "ref.go:50", #[⟨14, .data⟩, ⟨12, .chain⟩, ⟨0, .phase⟩, ⟨1, .phase⟩, ⟨2, .phase⟩, ⟨3, .phase⟩, ⟨4, .phase⟩, ⟨5, .phase⟩, ⟨6, .phase⟩, ⟨7, .phase⟩, ⟨8, .phase⟩, ⟨9, .phase⟩, ⟨10, .phase⟩, ⟨11, .phase⟩, ⟨12, .phase⟩, ⟨13, .phase⟩, ⟨14, .phase⟩], none⟩ ?_ (.inl ⟨by rfl, ?_⟩) ?_
      rotate_left
      · (intro W hSw; (try dsimp only at hSw); go_simp; try (with_reducible rfl))
      try simp only [Act.put]
      try simp only [List.setIfInBounds_toArray]
      try simp only [List.set_cons_succ]
      try simp only [List.set_cons_zero]
      refine wpAnyH_done (by kernel_rfl) (NoPanic.normal ?_) _
      have HU := Lib.hid (U0.out.trans (uT.trans hHeld))
      clear hHeld
      go_wp2
      go_ret
      exact ⟨by rw [HV.out]; rfl, HU.out⟩
    | some t =>
      have HV := Lib.hid (lastR_some (txs := txs) (v := ⟨tx, ky, nt⟩) h0 hf)
      have HF := Lib.hid hf
      have HT := Lib.hid (H.tx t (find_mem hf))
      clear hf h0
      obtain ⟨ti, td, tO, tA, tc⟩ := t
      go_enter Try.func42, Try.ntmps42
      go_wp2_with fail
      refine (rfind_some HH.out HF.out).mono ?_
      rintro e w1 ⟨A1, c1, rfl, hc1, hh1, hu1⟩
      simp only at hc1 hh1 HV
      have bT := Blk.new w1 64 [.int .i64 ti, .bool td, .slice A1 tO.length c1]
      have uT := hu1.alloc (.cells #[.int .i64 ti, .bool td, .slice A1 tO.length c1] 64)
      have t1 : ∀ W, Upd No (w1.alloc (.cells #[.int .i64 ti, .bool td, .slice A1 tO.length c1] 64)) W → W.cell? ⟨w1.heap.size, 1, none⟩ = some (.bool td) := fun W hW => (bT.upd hW id).cell 1
      have t2 : ∀ W, Upd No (w1.alloc (.cells #[.int .i64 ti, .bool td, .slice A1 tO.length c1] 64)) W → W.cell? ⟨w1.heap.size, 2, none⟩ = some (.slice A1 tO.length c1) := fun W hW => (bT.upd hW id).cell 2
      have x1 : ∀ W, Upd No (w1.alloc (.cells #[.int .i64 ti, .bool td, .slice A1 tO.length c1] 64)) W → W.cell? ⟨w.heap.size + 1, 1, none⟩ = some (.int .i64 ky) := fun W hW => (bX.out.upd (uT.trans hW) id).cell 1
      have x3 : ∀ W, Upd No (w1.alloc (.cells #[.int .i64 ti, .bool td, .slice A1 tO.length c1] 64)) W → W.cell? ⟨w.heap.size + 1, 3, none⟩ = some (.int .i64 nt) := fun W hW => (bX.out.upd (uT.trans hW) id).cell 3
      have HW := Lib.hid fun W (hW : Upd No (w1.alloc (.cells #[.int .i64 ti, .bool td, .slice A1 tO.length c1] 64)) W) => rwrites F W A1 c1 tO ky (HOps.upd hh1 (((Upd.refl No _).alloc _).trans hW) (fun _ _ => id)) HT.out.2.2.1
      have UT := Lib.hid uT
      clear bT uT hu1 hh1
      cases td
      · go_wp2
        refine wp_region_noPanic ?_
        refine wp_region_held_drew (S := (fun w' => Upd No (w1.alloc (.cells #[.int .i64 ti, .bool false, .slice A1 tO.length c1] 64)) w')) (by kernel_rfl) ?_ (fun hHeld => ?_)
        · (first | exact (Upd.refl No _).drew | exact hHeld.trans hu3)
        refine wpT 0 ⟨some 17, .move (.tmp 6), 4, "ref.go:50", #[], none⟩ ?_ (.inl ⟨by rfl, ?_⟩) ?_
        rotate_left
        · (intro W hSw; (try dsimp only at hSw); go_simp; try (with_reducible rfl))
        try simp only [Act.put]
        try simp only [List.setIfInBounds_toArray]
        try simp only [List.set_cons_succ]
        try simp only [List.set_cons_zero]
        refine wpT 1 ⟨some 18, .move (.tmp 17), 4, "ref.go:50", #[⟨0, .data⟩], none⟩ ?_ (.inl ⟨by rfl, ?_⟩) ?_
        rotate_left
        · (intro W hSw; (try dsimp only at hSw); go_simp; try (with_reducible rfl))
        try simp only [Act.put]
        try simp only [List.setIfInBounds_toArray]
        try simp only [List.set_cons_succ]
        try simp only [List.set_cons_zero]
        refine wpT 2 ⟨some 19, .fieldAddr 64 (.tmp 5) 1, 0, "ref.go:50", #[⟨1, .guard⟩], some (1, true)⟩ ?_ (.inl ⟨by rfl, ?_⟩) ?_
        rotate_left
        · (intro W hSw; (try dsimp only at hSw); go_simp; try (with_reducible rfl))
        try simp only [Act.put]
        try simp only [List.setIfInBounds_toArray]
        try simp only [List.set_cons_succ]
        try simp only [List.set_cons_zero]
        refine wpT 3 ⟨some 20, .load 4 (.tmp 19), 4, "ref.go:50", #[⟨2, .data⟩, ⟨1, .guard⟩], some (1, true)⟩ ?_ (.inl ⟨by rfl, ?_⟩) ?_
        rotate_left
        · (intro W hSw; (try dsimp only at hSw); go_simp; try (with_reducible rfl))
        try simp only [Act.put]
        try simp only [List.setIfInBounds_toArray]
        try simp only [List.set_cons_succ]
        try simp only [List.set_cons_zero]
        refine wpT 4 ⟨some 21, .pick (.tmp 18) (.tmp 20) (.const (.bool false)), 4, "ref.go:50", #[⟨1, .data⟩, ⟨3, .data⟩], none⟩ ?_ (.inl ⟨by rfl, ?_⟩) ?_
        rotate_left
        · (intro W hSw; (try dsimp only at hSw); go_simp; try (with_reducible rfl))
        try simp only [Act.put]
        try simp only [List.setIfInBounds_toArray]
        try simp only [List.set_cons_succ]
        try simp only [List.set_cons_zero]
        refine wpT 5 ⟨some 22, .move (.tmp 21), 4, "ref.go:50", #[⟨4, .data⟩, ⟨1, .chain⟩], none⟩ ?_ (.inl ⟨by rfl, ?_⟩) ?_
        rotate_left
        · (intro W hSw; (try dsimp only at hSw); go_simp; try (with_reducible rfl))
        try simp only [Act.put]
        try simp only [List.setIfInBounds_toArray]
        try simp only [List.set_cons_succ]
        try simp only [List.set_cons_zero]
        refine wpT 6 ⟨some 23, .fieldAddr 66 (.tmp 3) 3, 0, "ref.go:50", #[⟨5, .guard⟩], some (5, true)⟩ undef (.inr ⟨by rfl, rfl⟩) ?_
        try simp only [Act.put]
        try simp only [List.setIfInBounds_toArray]
        try simp only [List.set_cons_succ]
        try simp only [List.set_cons_zero]
        refine wpT 7 ⟨some 24, .load 3 (.tmp 23), 3, "ref.go:50", #[⟨6, .data⟩, ⟨5, .guard⟩], some (5, true)⟩ undef (.inr ⟨by rfl, rfl⟩) ?_
        try simp only [Act.put]
        try simp only [List.setIfInBounds_toArray]
        try simp only [List.set_cons_succ]
        try simp only [List.set_cons_zero]
        refine wpT 8 ⟨some 25, .fieldAddr 64 (.tmp 5) 2, 0, "ref.go:50", #[⟨5, .guard⟩], some (5, true)⟩ undef (.inr ⟨by rfl, rfl⟩) ?_
        try simp only [Act.put]
        try simp only [List.setIfInBounds_toArray]
        try simp only [List.set_cons_succ]
        try simp only [List.set_cons_zero]
        refine wpT 9 ⟨some 26, .load 62 (.tmp 25), 62, "ref.go:50", #[⟨8, .data⟩, ⟨5, .guard⟩], some (5, true)⟩ undef (.inr ⟨by rfl, rfl⟩) ?_
        try simp only [Act.put]
        try simp only [List.setIfInBounds_toArray]
        try simp only [List.set_cons_succ]
        try simp only [List.set_cons_zero]
        refine wpT 10 ⟨some 27, .fieldAddr 66 (.tmp 3) 1, 0, "ref.go:50", #[⟨5, .guard⟩], some (5, true)⟩ undef (.inr ⟨by rfl, rfl⟩) ?_
        try simp only [Act.put]
        try simp only [List.setIfInBounds_toArray]
        try simp only [List.set_cons_succ]
        try simp only [List.set_cons_zero]
        refine wpT 11 ⟨some 28, .load 3 (.tmp 27), 3, "ref.go:50", #[⟨10, .data⟩, ⟨5, .guard⟩], some (5, true)⟩ undef (.inr ⟨by rfl, rfl⟩) ?_
        try simp only [Act.put]
        try simp only [List.setIfInBounds_toArray]
        try simp only [List.set_cons_succ]
        try simp only [List.set_cons_zero]
        refine wpAnyH_ready (rs := [12]) (by kernel_rfl) (by simp) ?_
        refine AllReadyH.cons (o := ⟨some 29, .call { callee := .value (.func 106), args := #[.tmp 26, .tmp 28], argTypes := #[62, 3] }, 3, "ref.go:50", #[⟨9, .data⟩, ⟨11, .data⟩, ⟨5, .chain⟩, ⟨5, .guard⟩], some (5, true)⟩) rfl (fun K hK => ?_) AllReadyH.nil
        go_simp
        refine hK.out _ _ ?_ (fun hHeld => ?_)
        · exact hHeld
        clear hK K
        try simp only [Act.put]
        try simp only [List.setIfInBounds_toArray]
        try simp only [List.set_cons_succ]
        try simp only [List.set_cons_zero]
        refine wpT 13 ⟨some 30, .binOp .eql 3 (.tmp 24) (.tmp 29) 3, 4, "ref.go:50", #[⟨7, .data⟩, ⟨12, .data⟩, ⟨5, .guard⟩], some (5, true)⟩ undef (.inr ⟨by rfl, rfl⟩) ?_
        try simp only [Act.put]
        try simp only [List.setIfInBounds_toArray]
        try simp only [List.set_cons_succ]
        try simp only [List.set_cons_zero]
        refine wpT 14 ⟨some 31, .pick (.tmp 22) (.tmp 30) (.const (.bool false)), 4, "ref.go:50", #[⟨5, .data⟩, ⟨13, .data⟩], none⟩ ?_ (.inl ⟨by rfl, ?_⟩) ?_
        rotate_left
        · (intro W hSw; (try dsimp only at hSw); go_simp; try (with_reducible rfl))
        try simp only [Act.put]
        try simp only [List.setIfInBounds_toArray]
        try simp only [List.set_cons_succ]
        try simp only [List.set_cons_zero]
        refine wpT 15 ⟨some 4, .assign (.tmp 31), 4, "ref.go:50", #[⟨14, .data⟩, ⟨12, .chain⟩, ⟨0, .phase⟩, ⟨1, .phase⟩, ⟨2, .phase⟩, ⟨3, .phase⟩, ⟨4, .phase⟩, ⟨5, .phase⟩, ⟨6, .phase⟩, ⟨7, .phase⟩, ⟨8, .phase⟩, ⟨9, .phase⟩, ⟨10, .phase⟩, ⟨11, .phase⟩, ⟨12, .phase⟩, ⟨13, .phase⟩, ⟨14, .phase⟩], none⟩ ?_ (.inl ⟨by rfl, ?_⟩) ?_
        rotate_left
        · (intro W hSw; (try dsimp only at hSw); go_simp; try (with_reducible rfl))
        try simp only [Act.put]
        try simp only [List.setIfInBounds_toArray]
        try simp only [List.set_cons_succ]
        try simp only [List.set_cons_zero]
        refine wpAnyH_done (by kernel_rfl) (NoPanic.normal ?_) _
        have HU := Lib.hid (U0.out.trans (UT.out.trans hHeld))
        clear hHeld
        go_wp2
        go_ret
        exact ⟨by rw [HV.out]; rfl, HU.out⟩
      · go_wp2
        refine wp_region_noPanic ?_
        refine wp_region_held_drew (S := (fun w' => Upd No (w1.alloc (.cells #[.int .i64 ti, .bool true, .slice A1 tO.length c1] 64)) w')) (by kernel_rfl) ?_ (fun hHeld => ?_)
        · (first | exact (Upd.refl No _).drew | exact hHeld.trans hu3)
        refine wpT 0 ⟨some 17, .move (.tmp 6), 4, "ref.go:50", #[], none⟩ ?_ (.inl ⟨by rfl, ?_⟩) ?_
        rotate_left
        · (intro W hSw; (try dsimp only at hSw); go_simp; try (with_reducible rfl))
        try simp only [Act.put]
        try simp only [List.setIfInBounds_toArray]
        try simp only [List.set_cons_succ]
        try simp only [List.set_cons_zero]
        refine wpT 1 ⟨some 18, .move (.tmp 17), 4, "ref.go:50", #[⟨0, .data⟩], none⟩ ?_ (.inl ⟨by rfl, ?_⟩) ?_
        rotate_left
        · (intro W hSw; (try dsimp only at hSw); go_simp; try (with_reducible rfl))
        try simp only [Act.put]
        try simp only [List.setIfInBounds_toArray]
        try simp only [List.set_cons_succ]
        try simp only [List.set_cons_zero]
        refine wpT 2 ⟨some 19, .fieldAddr 64 (.tmp 5) 1, 0, "ref.go:50", #[⟨1, .guard⟩], some (1, true)⟩ ?_ (.inl ⟨by rfl, ?_⟩) ?_
        rotate_left
        · (intro W hSw; (try dsimp only at hSw); go_simp; try (with_reducible rfl))
        try simp only [Act.put]
        try simp only [List.setIfInBounds_toArray]
        try simp only [List.set_cons_succ]
        try simp only [List.set_cons_zero]
        refine wpT 3 ⟨some 20, .load 4 (.tmp 19), 4, "ref.go:50", #[⟨2, .data⟩, ⟨1, .guard⟩], some (1, true)⟩ ?_ (.inl ⟨by rfl, ?_⟩) ?_
        rotate_left
        · (intro W hSw; (try dsimp only at hSw); go_simp; try (with_reducible rfl))
        try simp only [Act.put]
        try simp only [List.setIfInBounds_toArray]
        try simp only [List.set_cons_succ]
        try simp only [List.set_cons_zero]
        refine wpT 4 ⟨some 21, .pick (.tmp 18) (.tmp 20) (.const (.bool false)), 4, "ref.go:50", #[⟨1, .data⟩, ⟨3, .data⟩], none⟩ ?_ (.inl ⟨by rfl, ?_⟩) ?_
        rotate_left
        · (intro W hSw; (try dsimp only at hSw); go_simp; try (with_reducible rfl))
        try simp only [Act.put]
        try simp only [List.setIfInBounds_toArray]
        try simp only [List.set_cons_succ]
        try simp only [List.set_cons_zero]
        refine wpT 5 ⟨some 22, .move (.tmp 21), 4, "ref.go:50", #[⟨4, .data⟩, ⟨1, .chain⟩], none⟩ ?_ (.inl ⟨by rfl, ?_⟩) ?_
        rotate_left
        · (intro W hSw; (try dsimp only at hSw); go_simp; try (with_reducible rfl))
        try simp only [Act.put]
        try simp only [List.setIfInBounds_toArray]
        try simp only [List.set_cons_succ]
        try simp only [List.set_cons_zero]
        refine wpT 6 ⟨some 23, .fieldAddr 66 (.tmp 3) 3, 0, "ref.go:50", #[⟨5, .guard⟩], some (5, true)⟩ ?_ (.inl ⟨by rfl, ?_⟩) ?_
        rotate_left
        · (intro W hSw; (try dsimp only at hSw); go_simp; try (with_reducible rfl))
        try simp only [Act.put]
        try simp only [List.setIfInBounds_toArray]
        try simp only [List.set_cons_succ]
        try simp only [List.set_cons_zero]
        refine wpT 7 ⟨some 24, .load 3 (.tmp 23), 3, "ref.go:50", #[⟨6, .data⟩, ⟨5, .guard⟩], some (5, true)⟩ ?_ (.inl ⟨by rfl, ?_⟩) ?_
        rotate_left
        · (intro W hSw; (try dsimp only at hSw); go_simp; try (with_reducible rfl))
        try simp only [Act.put]
        try simp only [List.setIfInBounds_toArray]
        try simp only [List.set_cons_succ]
        try simp only [List.set_cons_zero]
        refine wpT 8 ⟨some 25, .fieldAddr 64 (.tmp 5) 2, 0, "ref.go:50", #[⟨5, .guard⟩], some (5, true)⟩ ?_ (.inl ⟨by rfl, ?_⟩) ?_
        rotate_left
        · (intro W hSw; (try dsimp only at hSw); go_simp; try (with_reducible rfl))
        try simp only [Act.put]
        try simp only [List.setIfInBounds_toArray]
        try simp only [List.set_cons_succ]
        try simp only [List.set_cons_zero]
        refine wpT 9 ⟨some 26, .load 62 (.tmp 25), 62, "ref.go:50", #[⟨8, .data⟩, ⟨5, .guard⟩], some (5, true)⟩ ?_ (.inl ⟨by rfl, ?_⟩) ?_
        rotate_left
        · (intro W hSw; (try dsimp only at hSw); go_simp; try (with_reducible rfl))
        try simp only [Act.put]
        try simp only [List.setIfInBounds_toArray]
        try simp only [List.set_cons_succ]
        try simp only [List.set_cons_zero]
        refine wpT 10 ⟨some 27, .fieldAddr 66 (.tmp 3) 1, 0, "ref.go:50", #[⟨5, .guard⟩], some (5, true)⟩ ?_ (.inl ⟨by rfl, ?_⟩) ?_
        rotate_left
        · (intro W hSw; (try dsimp only at hSw); go_simp; try (with_reducible rfl))
        try simp only [Act.put]
        try simp only [List.setIfInBounds_toArray]
        try simp only [List.set_cons_succ]
        try simp only [List.set_cons_zero]
        refine wpT 11 ⟨some 28, .load 3 (.tmp 27), 3, "ref.go:50", #[⟨10, .data⟩, ⟨5, .guard⟩], some (5, true)⟩ ?_ (.inl ⟨by rfl, ?_⟩) ?_
        rotate_left
        · (intro W hSw; (try dsimp only at hSw); go_simp; try (with_reducible rfl))
        try simp only [Act.put]
        try simp only [List.setIfInBounds_toArray]
        try simp only [List.set_cons_succ]
        try simp only [List.set_cons_zero]
        refine wpAnyH_ready (rs := [12]) (by kernel_rfl) (by simp) ?_
        refine AllReadyH.cons (o := ⟨some 29, .call { callee := .value (.func 106), args := #[.tmp 26, .tmp 28], argTypes := #[62, 3] }, 3, "ref.go:50", #[⟨9, .data⟩, ⟨11, .data⟩, ⟨5, .chain⟩, ⟨5, .guard⟩], some (5, true)⟩) rfl (fun K hK => ?_) AllReadyH.nil
        go_simp
        (first
    | (go_at_call 106; refine (HW.out _ hHeld).mono ?_; rintro e w3 ⟨rfl, hu3⟩))
        try (go_wp2_with fail)
        refine hK.out _ _ ?_ (fun hHeld => ?_)
        · (first | exact (Upd.refl No _).drew | exact hHeld.trans hu3)
        clear hK K
        try simp only [Act.put]
        try simp only [List.setIfInBounds_toArray]
        try simp only [List.set_cons_succ]
        try simp only [List.set_cons_zero]
        refine wpT 13 ⟨some 30, .binOp .eql 3 (.tmp 24) (.tmp 29) 3, 4, "ref.go:50", #[⟨7, .data⟩, ⟨12, .data⟩, ⟨5, .guard⟩], some (5, true)⟩ ?_ (.inl ⟨by rfl, ?_⟩) ?_
        rotate_left
        · (intro W hSw; (try dsimp only at hSw); go_simp; try (with_reducible rfl))
        try simp only [Act.put]
        try simp only [List.setIfInBounds_toArray]
        try simp only [List.set_cons_succ]
        try simp only [List.set_cons_zero]
        refine wpT 14 ⟨some 31, .pick (.tmp 22) (.tmp 30) (.const (.bool false)), 4, "ref.go:50", #[⟨5, .data⟩, ⟨13, .data⟩], none⟩ ?_ (.inl ⟨by rfl, ?_⟩) ?_
        rotate_left
        · (intro W hSw; (try dsimp only at hSw); go_simp; try (with_reducible rfl))
        try simp only [Act.put]
        try simp only [List.setIfInBounds_toArray]
        try simp only [List.set_cons_succ]
        try simp only [List.set_cons_zero]
        refine wpT 15 ⟨some 4, .assign (.tmp 31), 4, "ref.go:50", #[⟨14, .data⟩, ⟨12, .chain⟩, ⟨0, .phase⟩, ⟨1, .phase⟩, ⟨2, .phase⟩, ⟨3, .phase⟩, ⟨4, .phase⟩, ⟨5, .phase⟩, ⟨6, .phase⟩, ⟨7, .phase⟩, ⟨8, .phase⟩, ⟨9, .phase⟩, ⟨10, .phase⟩, ⟨11, .phase⟩, ⟨12, .phase⟩, ⟨13, .phase⟩, ⟨14, .phase⟩], none⟩ ?_ (.inl ⟨by rfl, ?_⟩) ?_
        rotate_left
        · (intro W hSw; (try dsimp only at hSw); go_simp; try (with_reducible rfl))
        try simp only [Act.put]
        try simp only [List.setIfInBounds_toArray]
        try simp only [List.set_cons_succ]
        try simp only [List.set_cons_zero]
        refine wpAnyH_done (by kernel_rfl) (NoPanic.normal ?_) _
        have HU := Lib.hid (U0.out.trans (UT.out.trans hHeld))
        clear hHeld
        go_wp2
        go_ret
        exact ⟨by rw [HV.out]; rfl, HU.out⟩
end Go.Proofs.Ytaicemjckagcaaa

/- Right histories: the document's own steps come to what the program tells. -/
namespace Go.Proofs.Ytaicemjckagcaaa
set_option linter.unusedVariables false
open Go.RowKit
end Go.Proofs.Ytaicemjckagcaaa

/- The document: the reads that may not be. -/
namespace Go.Proofs.Ytaicemjckagcaaa
set_option linter.unusedVariables false
open Go.RowKit
/-- bad reads lie there -/
def Bads (F : Nat → Prop) (w : World) (A : Option Addr) (l : List HBad) : Prop := Recs F w A 5 (l.map HBad.cells)
theorem Bads.at_ {F : Nat → Prop} {w : World} {A : Option Addr} {l : List HBad} (h : Bads F w A l) {k : Nat} (hk : k < l.length) : ∃ ad, A = some ad ∧
    w.cell? (ad.add (k * 5)) = some (.int .i64 l[k].tx) ∧ w.cell? ⟨(ad.add (k * 5)).block, (ad.add (k * 5)).off + 1, none⟩ = some (.int .i64 l[k].place) ∧
    w.cell? ⟨(ad.add (k * 5)).block, (ad.add (k * 5)).off + 2, none⟩ = some (.int .i64 l[k].of.tx) ∧ w.cell? ⟨(ad.add (k * 5)).block, (ad.add (k * 5)).off + 3, none⟩ = some (.int .i64 l[k].of.key) ∧
    w.cell? ⟨(ad.add (k * 5)).block, (ad.add (k * 5)).off + 4, none⟩ = some (.int .i64 l[k].of.nth) := by
  have hk' : k < (l.map HBad.cells).length := by simpa using hk
  obtain ⟨ad, e, _, _, hc⟩ := Recs.at_ h hk'
  rw [List.getElem_map] at hc
  exact ⟨ad, e, by simpa using hc 0 _ rfl, by simpa using hc 1 _ rfl, by simpa using hc 2 _ rfl, by simpa using hc 3 _ rfl, by simpa using hc 4 _ rfl⟩
theorem Bads.upd {F S : Nat → Prop} {w w' : World} {A : Option Addr} {l : List HBad} (h : Bads F w A l) (k : Upd S w w') (hn : ∀ i, F i → ¬ S i) : Bads F w' A l := Recs.upd h k hn
end Go.Proofs.Ytaicemjckagcaaa

/- The document: how often there is a reason for an edge. -/
namespace Go.Proofs.Ytaicemjckagcaaa
set_option linter.unusedVariables false
open Go.RowKit
end Go.Proofs.Ytaicemjckagcaaa

/- The document: kinds of a mask; edges of a mask. -/
namespace Go.Proofs.Ytaicemjckagcaaa
set_option linter.unusedVariables false
open Go.RowKit
end Go.Proofs.Ytaicemjckagcaaa

/- The document: edges of a mask; whether a witness is right. -/
namespace Go.Proofs.Ytaicemjckagcaaa
set_option linter.unusedVariables false
open Go.RowKit
end Go.Proofs.Ytaicemjckagcaaa

/- Looking at a history: the exported functions, with their values named. -/
namespace Go.Proofs.Ytaicemjckagcaaa
set_option linter.unusedVariables false
open Go.RowKit
section
variable {F G : Nat → Prop} {w : World} {txs : List HTx} {ords : List HOrd} {A B : Option Addr} {c d n1 n2 : Nat}
end
theorem recs_blk {w : World} {g size : Nat} {t : TypeId} {rows : List (List Value)} (hr : ∀ r ∈ rows, r.length = size) (h : Blk w g t rows.flatten) : Recs (fun i => i = g) w (some ⟨g, 0, none⟩) size rows := fun _ => by
  refine ⟨_, rfl, rfl, h.lt, fun i row hi j v hj => ?_⟩
  have e1 : (⟨g, 0, none⟩ : Addr).add (i * size + j) = ⟨g, i * size + j, none⟩ := by unfold Addr.add; split <;> simp_all
  rw [e1, h.cell]
  exact flat_get hr hi hj
theorem ints_blk {w : World} {g : Nat} {t : TypeId} {xs : List Int} (h : Blk w g t (xs.map (Value.int .i64))) : Ints (fun i => i = g) w (some ⟨g, 0, none⟩) xs :=
  Ints.of_row h rfl fun j v hj => by rw [List.getElem?_toArray, List.getElem?_map, hj]; rfl
/-- the history of the chapter's example, at such places -/
def skewH (n : Nat) : Hist :=
  ⟨[⟨1, true, [⟨true, 1, 0, 0⟩, ⟨false, 2, 0, 0⟩], some ⟨n + 1, 0, none⟩, 2⟩, ⟨2, true, [⟨true, 2, 0, 0⟩, ⟨false, 1, 0, 0⟩], some ⟨n + 1 + 1, 0, none⟩, 2⟩],
   [⟨1, [2], some ⟨n + 1 + 1 + 1 + 1, 0, none⟩, 1⟩, ⟨2, [1], some ⟨n + 1 + 1 + 1 + 1 + 1, 0, none⟩, 1⟩], some ⟨n + 1 + 1 + 1, 0, none⟩, 2, some ⟨n + 1 + 1 + 1 + 1 + 1 + 1, 0, none⟩, 2⟩
def e1 : Edge := ⟨1, 2, 3, 1⟩
def e2 : Edge := ⟨2, 1, 3, 2⟩
section
variable (n : Nat)
theorem a1 : acceptB (skewH n) 5 [e1, e2] noBad = true := by kernel_rfl
theorem a2 : acceptB (skewH n) 5 [e1, e2, e1, e2] noBad = true := by kernel_rfl
theorem a3 : acceptB (skewH n) 4 [e1, e2] noBad = false := by kernel_rfl
theorem a4 : acceptB (skewH n) 5 [e1] noBad = false := by kernel_rfl
theorem a5 : acceptB (skewH n) 5 [e1, e2] ⟨2, 0, ⟨1, 5, 1⟩⟩ = false := by kernel_rfl
theorem a9 : (rightB (skewH n) && edgeB (skewH n) ⟨1, 2, 3, 2⟩) = false := by kernel_rfl
end
end Go.Proofs.Ytaicemjckagcaaa
