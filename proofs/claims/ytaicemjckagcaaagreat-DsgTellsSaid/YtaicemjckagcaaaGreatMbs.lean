/- Edges of a history, in plain words: each is counted as often as the document counts it. -/
import Derived.Test.YtaicemjckagcaaaGreatMbk
import Derived.Test.YtaicemjckagcaaaGreatMbr
namespace Go.Proofs.YtaicemjckagcaaaGreat
set_option linter.unusedVariables false
open Go.RowKit
section
variable {β : Type} [DecidableEq β]
theorem cnt2_zero (f : HTx → List β) (a : β) : ∀ ts : List HTx, (∀ u ∈ ts, cnt2 (f u) a = 0) → cnt2 (ts.flatMap f) a = 0
  | [], _ => rfl
  | u :: ts, h => by
    rw [List.flatMap_cons, cnt2_append, h u (List.mem_cons_self ..), cnt2_zero f a ts fun x hx => h x (List.mem_cons_of_mem _ hx)]
theorem cnt2_flat (f : HTx → List β) (a : β) : ∀ ts : List HTx, (ts.map (·.id)).Nodup → ∀ t ∈ ts, (∀ u ∈ ts, u.id ≠ t.id → cnt2 (f u) a = 0) → cnt2 (ts.flatMap f) a = cnt2 (f t) a
  | [], _, _, ht, _ => by cases ht
  | u :: ts, hn, t, ht, h => by
    rw [List.map_cons, List.nodup_cons] at hn
    rw [List.flatMap_cons, cnt2_append]
    rcases List.mem_cons.1 ht with rfl | ht
    · rw [cnt2_zero f a ts fun x hx => h x (List.mem_cons_of_mem _ hx) fun e => hn.1 (e ▸ List.mem_map.2 ⟨x, hx, rfl⟩)]
      rfl
    · rw [h u (List.mem_cons_self ..) fun e => hn.1 (e ▸ List.mem_map.2 ⟨t, ht, rfl⟩), cnt2_flat f a ts hn.2 t ht fun x hx => h x (List.mem_cons_of_mem _ hx)]
      omega
end
theorem cnt2_wOps (id key : Int) : ∀ l : List HOp, cnt2 (wOps id l) (id, key) = (l.filter (isW key)).length
  | [] => rfl
  | o :: l => by
    have ih := cnt2_wOps id key l
    unfold wOps at ih ⊢
    by_cases h : isW key o = true
    · have h2 : (!o.read) = true ∧ o.key = key := by unfold isW at h; simpa using h
      rw [List.filter_cons_of_pos (p := fun o : HOp => !o.read) h2.1, List.filter_cons_of_pos h, List.map_cons, List.length_cons, ← ih]
      have := cnt2_append [(id, o.key)] ((l.filter fun o => !o.read).map fun o => (id, o.key)) (id, key)
      rw [List.singleton_append] at this
      rw [this, cnt2_one, if_pos (by rw [h2.2])]; omega
    · rw [List.filter_cons_of_neg h, ← ih]
      by_cases hr : (!o.read) = true
      · rw [List.filter_cons_of_pos (p := fun o : HOp => !o.read) hr, List.map_cons]
        have := cnt2_append [(id, o.key)] ((l.filter fun o => !o.read).map fun o => (id, o.key)) (id, key)
        rw [List.singleton_append] at this
        rw [this, cnt2_one, if_neg (fun e => h (by unfold isW; rw [hr]; simp [(Prod.mk.inj e).2]))]; omega
      · rw [List.filter_cons_of_neg (p := fun o : HOp => !o.read) hr]
theorem cnt2_wOps_ne (id i key : Int) (hne : id ≠ i) (l : List HOp) : cnt2 (wOps id l) (i, key) = 0 := by
  unfold cnt2 wOps
  rw [List.length_eq_zero_iff, List.filter_eq_nil_iff]
  intro x hx
  obtain ⟨o, _, rfl⟩ := List.mem_map.1 hx
  simp [hne]
section
variable {h : Hist}
theorem done_mem (hr : rightB h = true) (i : Int) : i ∈ doneL h.txs ↔ ∃ t, doneT h.txs i = some t := by
  unfold doneL
  rw [List.mem_map]
  constructor
  · rintro ⟨t, ht, rfl⟩
    rw [List.mem_filter] at ht
    refine ⟨t, ?_⟩
    unfold doneT
    rw [right_find hr ht.1]
    simp [ht.2]
  · rintro ⟨t, ht⟩
    have h1 := doneT_some ht
    have h2 := find_id h1.1
    exact ⟨t, List.mem_filter.2 ⟨h2.1, h1.2⟩, h2.2⟩
theorem doneT_mem {i : Int} {t : HTx} (ht : doneT h.txs i = some t) : t ∈ h.txs.filter (·.done) ∧ t.id = i := by
  have h1 := doneT_some ht
  have h2 := find_id h1.1
  exact ⟨List.mem_filter.2 ⟨h2.1, h1.2⟩, h2.2⟩
theorem done_nodup (hr : rightB h = true) : ((h.txs.filter (·.done)).map (·.id)).Nodup := (right_nodup hr).sublist (List.filter_sublist.map _)
theorem writes_cnt (hr : rightB h = true) {i : Int} {t : HTx} (ht : doneT h.txs i = some t) (key : Int) : cnt2 (writesL h.txs) (i, key) = writesN t.ops key := by
  obtain ⟨h1, rfl⟩ := doneT_mem ht
  unfold writesL
  rw [cnt2_flat (fun t => wOps t.id t.ops) (t.id, key) _ (done_nodup hr) t h1 (fun u _ hne => cnt2_wOps_ne _ _ _ hne _), cnt2_wOps]
  unfold writesN wrN
  rw [List.take_length]
/-- is it what was there at first, or an installed version -/
def lastOK (h : Hist) (o : HOp) : Prop := o.tx = 0 ∨ (o.tx ∈ doneL h.txs ∧ (cnt2 (writesL h.txs) (o.tx, o.key) : Int) = o.nth)
instance (o : HOp) : Decidable (lastOK h o) := inferInstanceAs (Decidable (_ ∨ _))
theorem lastOK_iff (hr : rightB h = true) (o : HOp) : lastOK h o ↔ lastB h.txs ⟨o.tx, o.key, o.nth⟩ = true := by
  unfold lastOK lastB
  by_cases h0 : o.tx = 0
  · simp [h0]
  · rw [if_neg h0, done_mem hr]
    cases hd : doneT h.txs o.tx with
    | none => simp [h0]
    | some t =>
      have := writes_cnt hr hd o.key
      rw [this]
      simp [h0]
      exact eq_comm
theorem readE_cnt (ti : Int) (o : HOp) (e : Edge) : cnt2 (readE (doneL h.txs) (writesL h.txs) (nextsL h.ords) ti o) e =
    (if (o.tx ≠ ti ∧ lastOK h o) ∧ o.tx ≠ 0 ∧ e = ⟨o.tx, ti, 2, o.key⟩ then 1 else 0) + if (o.tx ≠ ti ∧ lastOK h o) ∧ (lastW (nextsL h.ords) (o.key, o.tx) ≠ 0 ∧ lastW (nextsL h.ords) (o.key, o.tx) ≠ ti) ∧ e = ⟨ti, lastW (nextsL h.ords) (o.key, o.tx), 3, o.key⟩ then 1 else 0 := by
  unfold readE lastOK
  by_cases h1 : o.tx = ti
  · rw [if_pos h1, if_neg (fun h => h.1.1 h1), if_neg (fun h => h.1.1 h1), cnt2_nil]
  · rw [if_neg h1]
    by_cases h2 : o.tx ≠ 0 ∧ o.tx ∉ doneL h.txs
    · rw [if_pos h2, cnt2_nil, if_neg, if_neg]
      · rintro ⟨⟨_, h3 | h3⟩, _⟩
        · exact h2.1 h3
        · exact h2.2 h3.1
      · rintro ⟨⟨_, h3 | h3⟩, _⟩
        · exact h2.1 h3
        · exact h2.2 h3.1
    · rw [if_neg h2]
      by_cases h3 : o.tx ≠ 0 ∧ (cnt2 (writesL h.txs) (o.tx, o.key) : Int) ≠ o.nth
      · rw [if_pos h3, cnt2_nil, if_neg, if_neg]
        · rintro ⟨⟨_, h4 | h4⟩, _⟩
          · exact h3.1 h4
          · exact h3.2 h4.2
        · rintro ⟨⟨_, h4 | h4⟩, _⟩
          · exact h3.1 h4
          · exact h3.2 h4.2
      · rw [if_neg h3, cnt2_append]
        have hL : o.tx = 0 ∨ (o.tx ∈ doneL h.txs ∧ (cnt2 (writesL h.txs) (o.tx, o.key) : Int) = o.nth) := by
          by_cases h0 : o.tx = 0
          · exact Or.inl h0
          · exact Or.inr ⟨Classical.byContradiction fun hh => h2 ⟨h0, hh⟩, Classical.byContradiction fun hh => h3 ⟨h0, hh⟩⟩
        congr 1
        · by_cases h0 : o.tx ≠ 0
          · rw [if_pos h0, cnt2_one]
            by_cases he : e = ⟨o.tx, ti, 2, o.key⟩
            · rw [if_pos he, if_pos ⟨⟨h1, hL⟩, h0, he⟩]
            · rw [if_neg he, if_neg (fun hh => he hh.2.2)]
          · rw [if_neg h0, cnt2_nil, if_neg (fun hh => h0 hh.2.1)]
        · by_cases h0 : lastW (nextsL h.ords) (o.key, o.tx) ≠ 0 ∧ lastW (nextsL h.ords) (o.key, o.tx) ≠ ti
          · rw [if_pos h0, cnt2_one]
            by_cases he : e = ⟨ti, lastW (nextsL h.ords) (o.key, o.tx), 3, o.key⟩
            · rw [if_pos he, if_pos ⟨⟨h1, hL⟩, h0, he⟩]
            · rw [if_neg he, if_neg (fun hh => he hh.2.2)]
          · rw [if_neg h0, cnt2_nil, if_neg (fun hh => h0 hh.2.1)]
theorem cnt2_ops (f : HOp → List Edge) (e : Edge) (p q : HOp → Bool) : ∀ l : List HOp, (∀ o ∈ l, (if q o = true then cnt2 (f o) e else 0) = if p o = true then 1 else 0) → cnt2 ((l.filter q).flatMap f) e = l.countP p
  | [], _ => rfl
  | o :: l, hh => by
    have ih := cnt2_ops f e p q l fun x hx => hh x (List.mem_cons_of_mem _ hx)
    have h1 := hh o (List.mem_cons_self ..)
    rw [List.countP_cons]
    by_cases hq : q o = true
    · rw [List.filter_cons_of_pos hq, List.flatMap_cons, cnt2_append, ih]
      rw [if_pos hq] at h1
      omega
    · rw [List.filter_cons_of_neg hq, ih]
      rw [if_neg hq] at h1
      omega
theorem cnt2_eq_zero (f : HOp → List Edge) (e : Edge) (q : HOp → Bool) (l : List HOp) (hh : ∀ o ∈ l, q o = true → cnt2 (f o) e = 0) : cnt2 ((l.filter q).flatMap f) e = 0 := by
  rw [cnt2_ops f e (fun _ => false) q l (fun o ho => by
    by_cases hq : q o = true
    · rw [if_pos hq, hh o ho hq]; rfl
    · rw [if_neg hq]; rfl)]
  simp
theorem rdL_zero (cnt : Int → Bool) (LD : List Int) (LW : List (Int × Int)) (LN : List ((Int × Int) × Int)) (e : Edge) (hh : ∀ u ∈ h.txs.filter (·.done), ∀ o ∈ u.ops, cnt2 (readE LD LW LN u.id o) e = 0) : cnt2 (rdL cnt LD LW LN h.txs) e = 0 := by
  unfold rdL
  exact cnt2_zero _ _ _ fun u hu => cnt2_eq_zero _ _ _ _ fun o ho _ => hh u hu o ho
theorem rdL_one (hr : rightB h = true) (cnt : Int → Bool) (LD : List Int) (LW : List (Int × Int)) (LN : List ((Int × Int) × Int)) (e : Edge) {t : HTx} (ht : t ∈ h.txs.filter (·.done)) (hh : ∀ u ∈ h.txs.filter (·.done), u.id ≠ t.id → ∀ o ∈ u.ops, cnt2 (readE LD LW LN u.id o) e = 0)
    (p : HOp → Bool) (hp : ∀ o ∈ t.ops, (if (o.read && cnt o.key) = true then cnt2 (readE LD LW LN t.id o) e else 0) = if p o = true then 1 else 0) : cnt2 (rdL cnt LD LW LN h.txs) e = t.ops.countP p := by
  unfold rdL
  rw [cnt2_flat (fun t => rdO cnt LD LW LN t.id t.ops) e _ (done_nodup hr) t ht (fun u hu hne => cnt2_eq_zero _ _ _ _ fun o ho _ => hh u hu hne o ho)]
  exact cnt2_ops _ _ _ _ _ hp
theorem mem_ww_iff (cnt : Int → Bool) (e : Edge) (hr : rightB h = true) : e ∈ wwL cnt h.ords ↔ e.k = 1 ∧ cnt e.key = true ∧ e.f ≠ 0 ∧ Nx h.ords e.key e.f e.t := by
  rw [mem_wwL]
  constructor
  · rintro ⟨h1, h2, o, ho, hk, i, h3, h4⟩
    refine ⟨h1, h2, fun e0 => ?_, o, ho, hk, i + 1, h3, h4⟩
    obtain ⟨_, _, h5⟩ := right_ord_mem hr ho (List.mem_of_getElem? h3)
    omega
  · rintro ⟨h1, h2, h0, o, ho, hk, i, h3, h4⟩
    refine ⟨h1, h2, o, ho, hk, ?_⟩
    cases i with
    | zero => exact absurd (by simpa using h3.symm) h0
    | succ i => exact ⟨i, h3, h4⟩
theorem find_zero (hr : rightB h = true) {t : HTx} (ht : doneT h.txs 0 = some t) : False := by
  have h1 := find_id (doneT_some ht).1
  have := right_id hr h1.1
  omega
/-- all is counted as the document counts it -/
theorem gCnt_eq (hr : rightB h = true) (cnt : Int → Bool) (e : Edge) : gCnt cnt h.txs h.ords e = if cnt e.key = true then cntR h e else 0 := by
  obtain ⟨ef, et, ek, ey⟩ := e
  unfold gCnt
  have hro := readE_cnt (h := h)
  by_cases k1 : ek = 1
  · subst k1
    rw [rdL_zero (h := h) cnt _ _ _ _ (fun u _ o _ => by rw [hro, if_neg (fun hh => by have := congrArg Edge.k hh.2.2; simp at this), if_neg (fun hh => by have := congrArg Edge.k hh.2.2; simp at this)])]
    unfold memF
    rw [Nat.add_zero]
    by_cases hc : cnt ey = true
    · rw [if_pos hc]
      by_cases hm : (⟨ef, et, 1, ey⟩ : Edge) ∈ wwL cnt h.ords
      · rw [if_pos hm]
        obtain ⟨_, _, h0, hx⟩ := (mem_ww_iff cnt _ hr).1 hm
        simp only at h0 hx
        obtain ⟨⟨t, ht⟩, h2, h3, h4⟩ := Nx.ids hr hx
        obtain ⟨a, ha⟩ := h4.resolve_left h0
        unfold cntR
        simp only [ha, ht, if_neg h3, if_true, (nextB_iff hr ey ef et).2 hx]
      · rw [if_neg hm]
        symm
        unfold cntR
        cases ha : doneT h.txs ef with
        | none => rfl
        | some a =>
          cases hb : doneT h.txs et with
          | none => rfl
          | some b =>
            simp only
            split
            · rfl
            · simp only [if_true]
              rw [if_neg]
              intro hn
              have hx := (nextB_iff hr ey ef et).1 hn
              refine hm ((mem_ww_iff cnt _ hr).2 ⟨rfl, hc, fun e0 => ?_, hx⟩)
              simp only at e0
              subst e0
              exact find_zero hr ha
    · rw [if_neg hc, if_neg (fun hm => hc ((mem_ww_iff cnt _ hr).1 hm).2.1)]
  · have hw : memF (wwL cnt h.ords) ⟨ef, et, ek, ey⟩ = 0 := by
      unfold memF
      rw [if_neg (fun hm => k1 ((mem_ww_iff cnt _ hr).1 hm).1)]
    rw [hw, Nat.zero_add]
    by_cases k2 : ek = 2
    · subst k2
      have hz : ∀ u ∈ h.txs.filter (·.done), u.id ≠ et → ∀ o ∈ u.ops, cnt2 (readE (doneL h.txs) (writesL h.txs) (nextsL h.ords) u.id o) (⟨ef, et, 2, ey⟩ : Edge) = 0 := fun u _ hne o _ => by
        rw [hro, if_neg (fun hh => hne (congrArg Edge.t hh.2.2).symm), if_neg (fun hh => by have := congrArg Edge.k hh.2.2; simp at this)]
      cases hb : doneT h.txs et with
      | none =>
        rw [rdL_zero (h := h) cnt _ _ _ _ (fun u hu o ho => hz u hu (fun e => by
          have := (done_mem hr et).1 (by unfold doneL; exact List.mem_map.2 ⟨u, hu, e⟩)
          rw [hb] at this
          obtain ⟨_, h9⟩ := this
          cases h9) o ho)]
        unfold cntR
        simp only [hb]
        cases doneT h.txs ef <;> simp
      | some b =>
        obtain ⟨hbm, hbi⟩ := doneT_mem hb
        have hz2 : ∀ u ∈ h.txs.filter (·.done), u.id ≠ b.id → ∀ o ∈ u.ops, cnt2 (readE (doneL h.txs) (writesL h.txs) (nextsL h.ords) u.id o) (⟨ef, et, 2, ey⟩ : Edge) = 0 := fun u hu hne => hz u hu (by rw [← hbi]; exact hne)
        cases ha : doneT h.txs ef with
        | none =>
          rw [rdL_zero (h := h) cnt _ _ _ _ (fun u hu o ho => by
            rw [hro, if_neg (c := _ ∧ o.tx ≠ 0 ∧ _), if_neg (fun hh => by have := congrArg Edge.k hh.2.2; simp at this)]
            rintro ⟨⟨_, h3⟩, h4, h5⟩
            rcases h3 with h3 | h3
            · exact h4 h3
            · obtain ⟨_, h6⟩ := (done_mem hr _).1 h3.1
              have e1 := congrArg Edge.f h5
              simp only at e1
              rw [← e1, ha] at h6
              cases h6)]
          unfold cntR
          simp [ha]
        | some a =>
          by_cases hft : ef = et
          · rw [rdL_zero (h := h) cnt _ _ _ _ (fun u hu o ho => by
              rw [hro, if_neg (c := _ ∧ o.tx ≠ 0 ∧ _), if_neg (fun hh => by have := congrArg Edge.k hh.2.2; simp at this)]
              rintro ⟨⟨h3, _⟩, h4, h5⟩
              have e1 := congrArg Edge.f h5
              have e2 := congrArg Edge.t h5
              simp only at e1 e2
              exact h3 (by rw [← e1, ← e2, hft]))]
            unfold cntR
            simp [hb, hft]
          · by_cases hc : cnt ey = true
            · rw [if_pos hc, rdL_one (h := h) hr cnt _ _ _ _ hbm hz2 (p2 ef ey (writesN a.ops ey)) (fun o ho => ?_)]
              · unfold cntR
                simp only [ha, hb, if_neg hft]
                rfl
              · rw [hro, if_neg (c := _ ∧ (_ ∧ _) ∧ _) (fun hh => by have := congrArg Edge.k hh.2.2; simp at this), Nat.add_zero]
                by_cases hp : p2 ef ey (writesN a.ops ey) o = true
                · rw [if_pos hp]
                  unfold p2 at hp
                  simp only [Bool.and_eq_true, beq_iff_eq] at hp
                  obtain ⟨⟨⟨q1, q2⟩, q3⟩, q4⟩ := hp
                  rw [if_pos (by rw [q1, q2, hc]; rfl), if_pos]
                  refine ⟨⟨by rw [q3, hbi]; exact hft, Or.inr ⟨by rw [q3]; exact (done_mem hr _).2 ⟨a, ha⟩, ?_⟩⟩, fun e0 => ?_, by rw [q3, q2, hbi]⟩
                  · rw [q3, q2, writes_cnt hr ha]; exact q4.symm
                  · rw [q3] at e0
                    subst e0
                    exact find_zero hr ha
                · rw [if_neg hp]
                  split
                  · rename_i hrd
                    rw [if_neg]
                    rintro ⟨⟨h3, h4⟩, h5, h6⟩
                    have e1 := congrArg Edge.f h6
                    have e2 := congrArg Edge.key h6
                    simp only at e1 e2
                    apply hp
                    unfold p2
                    rcases h4 with h4 | ⟨h4, h7⟩
                    · exact absurd h4 h5
                    · rw [← e1, ← e2, writes_cnt hr ha] at h7
                      rw [Bool.and_eq_true] at hrd
                      simp [hrd.1, ← e1, ← e2, h7]
                  · rfl
            · rw [if_neg hc, rdL_one (h := h) hr cnt _ _ _ _ hbm hz2 (fun _ => false) (fun o ho => by
                by_cases hq : (o.read && cnt o.key) = true
                · rw [if_pos hq, hro, if_neg, if_neg (fun hh => by have := congrArg Edge.k hh.2.2; simp at this)]
                  · rfl
                  · rintro ⟨_, _, h6⟩
                    have e2 := congrArg Edge.key h6
                    simp only at e2
                    rw [Bool.and_eq_true, ← e2] at hq
                    exact hc hq.2
                · rw [if_neg hq]; rfl)]
              simp
    · by_cases k3 : ek = 3
      · subst k3
        have hz : ∀ u ∈ h.txs.filter (·.done), u.id ≠ ef → ∀ o ∈ u.ops, cnt2 (readE (doneL h.txs) (writesL h.txs) (nextsL h.ords) u.id o) (⟨ef, et, 3, ey⟩ : Edge) = 0 := fun u _ hne o _ => by
          rw [hro, if_neg (c := _ ∧ o.tx ≠ 0 ∧ _) (fun hh => by have := congrArg Edge.k hh.2.2; simp at this), if_neg (fun hh => hne (congrArg Edge.f hh.2.2).symm)]
        cases ha : doneT h.txs ef with
        | none =>
          rw [rdL_zero (h := h) cnt _ _ _ _ (fun u hu o ho => hz u hu (fun e => by
            have := (done_mem hr ef).1 (by unfold doneL; exact List.mem_map.2 ⟨u, hu, e⟩)
            rw [ha] at this
            obtain ⟨_, h9⟩ := this
            cases h9) o ho)]
          unfold cntR
          simp [ha]
        | some a =>
          obtain ⟨ham, hai⟩ := doneT_mem ha
          have hz2 : ∀ u ∈ h.txs.filter (·.done), u.id ≠ a.id → ∀ o ∈ u.ops, cnt2 (readE (doneL h.txs) (writesL h.txs) (nextsL h.ords) u.id o) (⟨ef, et, 3, ey⟩ : Edge) = 0 := fun u hu hne => hz u hu (by rw [← hai]; exact hne)
          cases hb : doneT h.txs et with
          | none =>
            rw [rdL_zero (h := h) cnt _ _ _ _ (fun u hu o ho => by
              rw [hro, if_neg (c := _ ∧ o.tx ≠ 0 ∧ _) (fun hh => by have := congrArg Edge.k hh.2.2; simp at this), if_neg]
              rintro ⟨_, ⟨h3, h4⟩, h5⟩
              have e1 := congrArg Edge.t h5
              simp only at e1
              rcases last_nx hr o.key o.tx with h6 | h6
              · exact h3 h6.1
              · obtain ⟨⟨_, h7⟩, _⟩ := Nx.ids hr h6
                rw [← e1, hb] at h7
                cases h7)]
            unfold cntR
            simp [ha, hb]
          | some b =>
            by_cases hft : ef = et
            · rw [rdL_zero (h := h) cnt _ _ _ _ (fun u hu o ho => by
                rw [hro, if_neg (c := _ ∧ o.tx ≠ 0 ∧ _) (fun hh => by have := congrArg Edge.k hh.2.2; simp at this), if_neg]
                rintro ⟨_, ⟨h3, h4⟩, h5⟩
                have e1 := congrArg Edge.t h5
                have e2 := congrArg Edge.f h5
                simp only at e1 e2
                exact h4 (by rw [← e1, ← e2, hft]))]
              unfold cntR
              simp [hb, hft]
            · by_cases hc : cnt ey = true
              · rw [if_pos hc, rdL_one (h := h) hr cnt _ _ _ _ ham hz2 (p3 h a.id ey et) (fun o ho => ?_)]
                · unfold cntR
                  simp only [ha, hb, if_neg hft]
                  rfl
                · rw [hro, if_neg (c := _ ∧ o.tx ≠ 0 ∧ _) (fun hh => by have := congrArg Edge.k hh.2.2; simp at this), Nat.zero_add]
                  have het : et ≠ 0 := fun e0 => by subst e0; exact find_zero hr hb
                  by_cases hp : p3 h a.id ey et o = true
                  · rw [if_pos hp]
                    unfold p3 at hp
                    simp only [Bool.and_eq_true, beq_iff_eq, Bool.not_eq_true', beq_eq_false_iff_ne] at hp
                    obtain ⟨⟨⟨⟨q1, q2⟩, q3⟩, q4⟩, q5⟩ := hp
                    have hl := (last_iff hr ey o.tx et het).2 ((nextB_iff hr _ _ _).1 q5)
                    rw [if_pos (by rw [q1, q2, hc]; rfl), if_pos]
                    refine ⟨⟨q3, (lastOK_iff hr o).2 q4⟩, ⟨by rw [q2, hl]; exact het, by rw [q2, hl, hai]; exact fun e => hft e.symm⟩, by rw [q2, hl, hai]⟩
                  · rw [if_neg hp]
                    split
                    · rename_i hrd
                      rw [if_neg]
                      rintro ⟨⟨h3, h4⟩, ⟨h5, h6⟩, h7⟩
                      have e1 := congrArg Edge.t h7
                      have e2 := congrArg Edge.key h7
                      simp only at e1 e2
                      apply hp
                      unfold p3
                      rw [Bool.and_eq_true] at hrd
                      have h8 := (lastOK_iff hr o).1 h4
                      have h9 : nextB h.ords ey o.tx et = true := (nextB_iff hr _ _ _).2 ((last_iff hr ey o.tx et het).1 (by rw [e2]; exact e1.symm))
                      simp [hrd.1, ← e2, h3, h9]
                      rw [e2]; exact h8
                    · rfl
              · rw [if_neg hc, rdL_one (h := h) hr cnt _ _ _ _ ham hz2 (fun _ => false) (fun o ho => by
                  by_cases hq : (o.read && cnt o.key) = true
                  · rw [if_pos hq, hro, if_neg (c := _ ∧ o.tx ≠ 0 ∧ _) (fun hh => by have := congrArg Edge.k hh.2.2; simp at this), if_neg]
                    · rfl
                    · rintro ⟨_, _, h6⟩
                      have e2 := congrArg Edge.key h6
                      simp only at e2
                      rw [Bool.and_eq_true, ← e2] at hq
                      exact hc hq.2
                  · rw [if_neg hq]; rfl)]
                simp
      · rw [rdL_zero (h := h) cnt _ _ _ _ (fun u _ o _ => by rw [hro, if_neg (fun hh => k2 (congrArg Edge.k hh.2.2)), if_neg (fun hh => k3 (congrArg Edge.k hh.2.2))])]
        unfold cntR
        cases doneT h.txs ef <;> cases doneT h.txs et <;> simp [k1, k2, k3]
end
end Go.Proofs.YtaicemjckagcaaaGreat

/- Edges of a history, the document's: all edges are walked. -/
namespace Go.Proofs.YtaicemjckagcaaaGreat
set_option linter.unusedVariables false
open Go.RowKit
theorem txK_len : ∀ (txs : List HTx), (∀ t ∈ txs, t.ops.length ≤ 24) → (txK txs).length ≤ 24 * txs.length
  | [], _ => by simp [txK]
  | x :: l, h => by
    have h1 := txK_len l fun t ht => h t (List.mem_cons_of_mem _ ht)
    have h2 := h x (List.mem_cons_self ..)
    unfold txK at h1 ⊢
    rw [List.flatMap_cons, List.length_append, List.length_cons]
    unfold opK at h1 ⊢
    rw [List.length_map]
    omega
theorem allK_len (txs : List HTx) (h : ∀ t ∈ txs, t.ops.length ≤ 24) : (allK txs).length ≤ 24 * txs.length := by
  have h1 := putAll_len (txK txs) []
  have h2 := txK_len txs h
  unfold allK
  simp at h1
  omega
set_option maxRecDepth 100000 in
set_option maxHeartbeats 8000000 in
theorem rEdges16 (F : Nat → Prop) (w : World) (txs : List HTx) (ords : List HOrd) (A : Option Addr) (c : Nat) (B : Option Addr) (d : Nat) (H : Hist.lies F w ⟨txs, ords, A, c, B, d⟩) (n1 : txs.length ≤ 12) (n2 : ∀ t ∈ txs, t.ops.length ≤ 24) :
    Calls Tryz.prog 9 #[.agg #[.slice A txs.length c, .slice B ords.length d]] w (NewHv w (edgesR ⟨txs, ords, A, c, B, d⟩)) := by
  have HH := Lib.hid H
  obtain ⟨z, hz⟩ : ∃ z, w.heap.size = z := ⟨_, rfl⟩
  obtain ⟨wb, hwb⟩ : ∃ wb, w.alloc (.cells #[.slice A txs.length c, .slice B ords.length d] 25) = wb := ⟨_, rfl⟩
  have u1 : Upd No w wb := by rw [← hwb]; exact (Upd.refl No w).alloc _
  have bH : Blk wb z 25 [.slice A txs.length c, .slice B ords.length d] := by rw [← hwb, ← hz]; exact Blk.new w _ _
  have g0 : ∀ W, Upd No wb W → W.cell? ⟨z, 0, none⟩ = some (.slice A txs.length c) := fun W u => by have := (bH.upd u id).cell 0; simpa using this
  have g1 : ∀ W, Upd No wb W → W.cell? ⟨z, 1, none⟩ = some (.slice B ords.length d) := fun W u => by have := (bH.upd u id).cell 1; simpa using this
  have hbz : Upd No wb wb := Upd.refl _ _
  have HU := Lib.hid u1
  have HR := Lib.hid (fun W (u : Upd No w W) => rRightB F W txs ords A c B d (H.upd u (fun _ _ => id)))
  have HKY := Lib.hid (fun W (u : Upd No w W) => rkeys16 F W txs ords A c B d (H.upd u (fun _ _ => id)) (by omega) (fun t ht => by have := n2 t ht; omega))
  have HCT := Lib.hid (fun W (u : Upd No w W) e => rcount16 F W txs ords A c B d e (H.upd u (fun _ _ => id)))
  unfold Edge.cells at HCT
  have HKL := Lib.hid (allK_len txs n2)
  have HZ := Lib.hid hz
  clear bH u1 H
  obtain ⟨ks, hks⟩ : ∃ ks, allK txs = ks := ⟨_, rfl⟩
  rw [hks] at HKY HKL
  have HKS := Lib.hid hks
  have hkl : ks.length ≤ 288 := by have := HKL.out; omega
  cases hr : rightB ⟨txs, ords, A, c, B, d⟩
  · rw [hr] at HR
    have HE := Lib.hid (show edgesR ⟨txs, ords, A, c, B, d⟩ = [] by unfold edgesR; rw [hr]; rfl)
    clear hr hks
    go_enter Tryz.func9, Tryz.ntmps9
    go_wp2_with fail
    refine (HR.out _ HU.out).mono ?_
    rintro e w2 ⟨rfl, hu2⟩
    go_wp2
    go_ret
    exact ⟨none, 0, by rw [HE.out]; rfl, by rw [HE.out]; exact World.ownsRow_nil _ _ _ _, HU.out.trans hu2⟩
  · rw [hr] at HR
    have HE := Lib.hid (show hrA ⟨txs, ords, A, c, B, d⟩ txs = edgesR ⟨txs, ords, A, c, B, d⟩ by unfold edgesR; rw [hr]; rfl)
    obtain ⟨hh, hhh⟩ : ∃ hh, (⟨txs, ords, A, c, B, d⟩ : Hist) = hh := ⟨_, rfl⟩
    have hht : hh.txs = txs := by rw [← hhh]
    rw [hhh] at HE HCT
    rw [hhh]
    have HHT := Lib.hid hht
    clear hr hks hhh hht
    go_enter Tryz.func9, Tryz.ntmps9
    go_wp2_with fail
    refine (HR.out _ HU.out).mono ?_
    rintro e w2 ⟨rfl, hu2⟩
    have hv2 := HU.out.trans hu2
    go_wp2_with fail
    refine (HKY.out _ hv2).mono ?_
    rintro e w3 ⟨AK, cK, rfl, hik, hu3⟩
    have hb3 := hu2.trans hu3
    have HV3 := Lib.hid (hv2.trans hu3)
    have HIK := Lib.hid hik
    have g0 : ∀ W, Upd No w3 W → W.cell? ⟨z, 0, none⟩ = some (.slice A txs.length c) := fun W u => g0 W (hb3.trans u)
    have g1 : ∀ W, Upd No w3 W → W.cell? ⟨z, 1, none⟩ = some (.slice B ords.length d) := fun W u => g1 W (hb3.trans u)
    have hz3 : Upd No w3 w3 := Upd.refl _ _
    clear hik hu2 hu3 hv2 hb3 hbz hwb hz
    go_wp2
    go_loopg [4, 22] txs.length (fun gk s i wr => ∃ (k : Nat) (A5 : Option Addr) (c5 : Nat) (xs : List Hvy), k + gk = txs.length ∧ i = .int .i64 k ∧ s = .slice A5 xs.length c5 ∧ Hid (xs = hrA hh (txs.take k)) ∧ Hid (xs.length ≤ 10368 * k) ∧ Hid (wr.ownsRow w3.heap.size 75 5 (.slice A5 xs.length c5) xs.length (hvyF xs)) ∧ Upd No w3 wr)
    case atStart => exact ⟨0, none, 0, [], by omega, rfl, rfl, Lib.hid rfl, Lib.hid (by simp), Lib.hid (World.ownsRow_nil _ _ _ _), hz3⟩
    case round =>
      obtain ⟨k, A5, c5, xs, hgk, rfl, rfl, hs, hln, hown, hu⟩ := hrel
      by_cases hlt : k < txs.length
      · obtain ⟨ad, hAd, q0, q1, q2⟩ := (HH.out.upd (HV3.out.trans hu) (fun _ _ => id)).tx_at hlt
        simp only at hAd q0 q1 q2
        obtain ⟨⟨xi, xd, xo, xA, xc⟩, hx⟩ : ∃ x, txs[k] = x := ⟨_, rfl⟩
        rw [hx] at q0 q1 q2
        simp only at q0 q1 q2
        subst hAd
        have b1 : (0 : Int) ≤ (k : Int) := Int.natCast_nonneg _
        have b2 : (k : Int) < (txs.length : Int) := by omega
        obtain ⟨wx, hwx⟩ : ∃ wx, wr.alloc (.cells #[.int .i64 xi, .bool xd, .slice xA xo.length xc] 47) = wx := ⟨_, rfl⟩
        have ux : Upd No wr wx := by rw [← hwx]; exact (Upd.refl No wr).alloc _
        have bo : Blk wx wr.heap.size 47 [.int .i64 xi, .bool xd, .slice xA xo.length xc] := by rw [← hwx]; exact Blk.new wr _ _
        have HBO := Lib.hid bo
        have HUX := Lib.hid (hu.trans ux)
        have HOX := Lib.hid (own_upd hown.out ux (fun _ _ => id))
        have HAP := Lib.hid (show ∀ i, Own (.slice A5 xs.length c5) i → i ≠ wr.heap.size from fun i e => by have := (hown.out.lt i e).2; omega)
        have HT := Lib.hid (hrA_succ (h := hh) hlt hx)
        simp only at HT
        have HS := Lib.hid hs.out
        clear hx bo ux hs hown
        obtain ⟨wo, hwo⟩ : ∃ wo, wo = wr := ⟨_, rfl⟩
        subst hwo
        generalize gk = GK at *
        go_wp2
        go_loopg [4, 7] 3 (fun gn s i wr => ∃ (n : Nat) (A6 : Option Addr) (c6 : Nat) (ys : List Hvy), n + gn = 3 ∧ i = .int .i64 ((n : Int) + 1) ∧ s = .slice A6 ys.length c6 ∧ Hid (ys = xs ++ hrN hh xi n) ∧ Hid (ys.length ≤ 10368 * k + 3456 * n) ∧ Hid (wr.ownsRow w3.heap.size 75 5 (.slice A6 ys.length c6) ys.length (hvyF ys)) ∧ Hid (Blk wr wo.heap.size 47 [.int .i64 xi, .bool xd, .slice xA xo.length xc]) ∧ Hid (∀ i, Own (.slice A6 ys.length c6) i → i ≠ wo.heap.size) ∧ Upd No w3 wr)
        case atStart => exact ⟨0, A5, c5, xs, by omega, rfl, rfl, Lib.hid (by simp [hrN]), Lib.hid (by have := hln.out; omega), HOX, HBO, HAP, HUX.out⟩
        case round =>
          clear HOX HBO HAP
          obtain ⟨n, A6, c6, ys, hgn, rfl, rfl, hs2, hl2, ho2, hbo, hap, hu2⟩ := hrel
          by_cases hn3 : n < 3
          · have e1 : (n : Int) + 1 ≤ 3 := by omega
            have e2 : (0 : Int) ≤ (n : Int) := Int.natCast_nonneg _
            generalize gk = GN at *
            go_wp2
            go_loopg [4, 32] ks.length (fun gj s i wr => ∃ (j : Nat) (A7 : Option Addr) (c7 : Nat) (vs : List Hvy), j + gj = ks.length ∧ i = .int .i64 j ∧ s = .slice A7 vs.length c7 ∧ Hid (vs = ys ++ hrK hh xi ((n : Int) + 1) (ks.take j)) ∧ Hid (vs.length ≤ 10368 * k + 3456 * n + 12 * j) ∧ Hid (wr.ownsRow w3.heap.size 75 5 (.slice A7 vs.length c7) vs.length (hvyF vs)) ∧ Hid (Blk wr wo.heap.size 47 [.int .i64 xi, .bool xd, .slice xA xo.length xc]) ∧ Hid (∀ i, Own (.slice A7 vs.length c7) i → i ≠ wo.heap.size) ∧ Upd No w3 wr)
            case atStart => exact ⟨0, A6, c6, ys, by omega, rfl, rfl, Lib.hid (by simp [hrK]), Lib.hid (by have := hl2.out; omega), ho2, hbo, hap, hu2⟩
            case round =>
              obtain ⟨j, A7, c7, vs, hgj, rfl, rfl, hs3, hl3, ho3, hbo3, hap3, hu3⟩ := hrel
              by_cases hltj : j < ks.length
              · obtain ⟨adk, hAk, _, _, pk⟩ := (HIK.out.upd hu3 (fun _ _ => id)).at_ hltj
                obtain ⟨ky, hky⟩ : ∃ ky, ks[j] = ky := ⟨_, rfl⟩
                rw [hky] at pk
                subst hAk
                have c1 : (0 : Int) ≤ (j : Int) := Int.natCast_nonneg _
                have c2 : (j : Int) < (ks.length : Int) := by omega
                have HKT := Lib.hid (hrK_succ (h := hh) (a := xi) (kind := (n : Int) + 1) hltj hky)
                rw [HHT.out] at HKT
                clear hky
                generalize gk = GJ at *
                go_wp2
                go_loopg [4, 39] txs.length (fun gi s i wr => ∃ (m : Nat) (A8 : Option Addr) (c8 : Nat) (us : List Hvy), m + gi = txs.length ∧ i = .int .i64 m ∧ s = .slice A8 us.length c8 ∧ Hid (us = vs ++ hrB hh xi ((n : Int) + 1) ky (txs.take m)) ∧ Hid (us.length ≤ 10368 * k + 3456 * n + 12 * j + m) ∧ Hid (wr.ownsRow w3.heap.size 75 5 (.slice A8 us.length c8) us.length (hvyF us)) ∧ Hid (Blk wr wo.heap.size 47 [.int .i64 xi, .bool xd, .slice xA xo.length xc]) ∧ Hid (∀ i, Own (.slice A8 us.length c8) i → i ≠ wo.heap.size) ∧ Upd No w3 wr)
                case atStart => exact ⟨0, A7, c7, vs, by omega, rfl, rfl, Lib.hid (by simp [hrB]), Lib.hid (by have := hl3.out; omega), ho3, hbo3, hap3, hu3⟩
                case round =>
                  obtain ⟨m, A8, c8, us, hgi, rfl, rfl, hs4, hl4, ho4, hbo4, hap4, hu4⟩ := hrel
                  by_cases hltm : m < txs.length
                  · obtain ⟨ad2, hAd2, r0, r1, r2⟩ := (HH.out.upd (HV3.out.trans hu4) (fun _ _ => id)).tx_at hltm
                    simp only at hAd2 r0 r1 r2
                    obtain rfl : ad = ad2 := Option.some.inj hAd2
                    obtain ⟨⟨yi, yd, yo, yA, yc⟩, hy⟩ : ∃ y, txs[m] = y := ⟨_, rfl⟩
                    rw [hy] at r0 r1 r2
                    simp only at r0 r1 r2
                    have f1 : (0 : Int) ≤ (m : Int) := Int.natCast_nonneg _
                    have f2 : (m : Int) < (txs.length : Int) := by omega
                    obtain ⟨wy, hwy⟩ : ∃ wy, wr.alloc (.cells #[.int .i64 yi, .bool yd, .slice yA yo.length yc] 47) = wy := ⟨_, rfl⟩
                    have uy : Upd No wr wy := by rw [← hwy]; exact (Upd.refl No wr).alloc _
                    have bY : Blk wy wr.heap.size 47 [.int .i64 yi, .bool yd, .slice yA yo.length yc] := by rw [← hwy]; exact Blk.new wr _ _
                    have sy : wy.heap.size = wr.heap.size + 1 := by rw [← hwy]; simp
                    obtain ⟨wz, hwz⟩ : ∃ wz, wy.alloc (.cells #[.int .i64 xi, .int .i64 yi, .int .i64 ((n : Int) + 1), .int .i64 ky] 27) = wz := ⟨_, rfl⟩
                    have uz : Upd No wy wz := by rw [← hwz]; exact (Upd.refl No wy).alloc _
                    have bZ : Blk wz (wr.heap.size + 1) 27 [.int .i64 xi, .int .i64 yi, .int .i64 ((n : Int) + 1), .int .i64 ky] := by rw [← hwz, ← sy]; exact Blk.new wy _ _
                    have x0 : ∀ W, Upd No wr W → W.cell? ⟨wo.heap.size, 0, none⟩ = some (.int .i64 xi) := fun W u => by have := (hbo4.out.upd u id).cell 0; simpa using this
                    have y0 : ∀ W, Upd No wy W → W.cell? ⟨wr.heap.size, 0, none⟩ = some (.int .i64 yi) := fun W u => by have := (bY.upd u id).cell 0; simpa using this
                    have z0 : ∀ W, Upd No wz W → W.cell? ⟨wr.heap.size + 1, 0, none⟩ = some (.int .i64 xi) := fun W u => by have := (bZ.upd u id).cell 0; simpa using this
                    have z1 : ∀ W, Upd No wz W → W.cell? ⟨wr.heap.size + 1, 1, none⟩ = some (.int .i64 yi) := fun W u => by have := (bZ.upd u id).cell 1; simpa using this
                    have z2 : ∀ W, Upd No wz W → W.cell? ⟨wr.heap.size + 1, 2, none⟩ = some (.int .i64 ((n : Int) + 1)) := fun W u => by have := (bZ.upd u id).cell 2; simpa using this
                    have z3 : ∀ W, Upd No wz W → W.cell? ⟨wr.heap.size + 1, 3, none⟩ = some (.int .i64 ky) := fun W u => by have := (bZ.upd u id).cell 3; simpa using this
                    have x0y := x0 wy uy
                    have hyy : Upd No wy wy := Upd.refl _ _
                    have hzz : Upd No wz wz := Upd.refl _ _
                    have huz := hu4.trans (uy.trans uz)
                    have g0z := g0 wz huz
                    have g1z := g1 wz huz
                    have HRZ := Lib.hid (uy.trans uz)
                    have HUZ := Lib.hid huz
                    obtain ⟨N, hN⟩ : ∃ N, cntR hh ⟨xi, yi, (n : Int) + 1, ky⟩ = N := ⟨_, rfl⟩
                    have hct := HCT.out wz (HV3.out.trans huz) ⟨xi, yi, (n : Int) + 1, ky⟩
                    rw [hN] at hct
                    have HC := Lib.hid hct
                    have HBT := Lib.hid (hrB_succ (h := hh) (a := xi) (kind := (n : Int) + 1) (key := ky) hltm hy)
                    simp only at HBT
                    rw [hN] at HBT
                    clear hy bY bZ uy uz hN hct huz x0
                    go_wp2_with fail
                    refine (HC.out).mono ?_
                    rintro e w5 ⟨rfl, hu5⟩
                    have HU5 := Lib.hid (HUZ.out.trans hu5)
                    have HR5 := Lib.hid (HRZ.out.trans hu5)
                    have HO5 := Lib.hid (own_upd ho4.out (HRZ.out.trans hu5) (fun _ _ => id))
                    have HB5 := Lib.hid (hbo4.out.upd (HRZ.out.trans hu5) id)
                    have hsz5 := (HUZ.out.trans hu5).size
                    have hul : us.length ≤ 200000 := by have := hl4.out; have := HKL.out; omega
                    by_cases hN0 : N = 0
                    · have HN := Lib.hid (show us = vs ++ hrB hh xi ((n : Int) + 1) ky (txs.take (m + 1)) by rw [HBT.out, if_neg (by omega), List.append_nil]; exact hs4.out)
                      subst hN0
                      go_wp2
                      go_roundg (gk - 1)
                      case measure => omega
                      case rel => exact ⟨m + 1, A8, c8, us, by omega, by go_num, rfl, HN, Lib.hid (by have := hl4.out; omega), HO5, HB5, hap4, HU5.out⟩
                    · have hNp : (0 : Int) < (N : Int) := by omega
                      have HN := Lib.hid (show us ++ [⟨⟨xi, yi, (n : Int) + 1, ky⟩, (N : Int)⟩] = vs ++ hrB hh xi ((n : Int) + 1) ky (txs.take (m + 1)) by rw [HBT.out, if_pos (by omega), ← List.append_assoc, ← hs4.out])
                      clear hN0
                      go_wp2_with (at_builtin; refine app1s rfl rfl slt_hvy (base := w3.heap.size) (v := .slice A8 us.length c8) (n := us.length) (xs := hvyF us) (cells := [.int .i64 xi, .int .i64 yi, .int .i64 ((n : Int) + 1), .int .i64 ky, .int .i64 (N : Int)]) (by rfl) (by rfl) HO5.out rfl rfl (by omega) (by omega) (by omega) ?_; intro g9 c9 w9 hown9 hu9 hg9 hlt9)
                      go_roundg (gk - 1)
                      case measure => omega
                      case rel =>
                        have hl1 : (us ++ [(⟨⟨xi, yi, (n : Int) + 1, ky⟩, (N : Int)⟩ : Hvy)]).length = us.length + 1 := by simp
                        refine ⟨m + 1, some ⟨g9, 0, none⟩, c9, us ++ [⟨⟨xi, yi, (n : Int) + 1, ky⟩, (N : Int)⟩], by omega, by go_num, by rw [hl1], HN, Lib.hid (by rw [hl1]; have := hl4.out; omega), Lib.hid (by rw [hl1, hvyF_snoc]; exact hown9), Lib.hid (HB5.out.upd hu9 (fun e => hap4.out _ e rfl)), Lib.hid (fun i e => ?_), HU5.out.then_ hu9 (fun i e => Or.inr (HO5.out.lt i e).1)⟩
                        have e2 : g9 = i := by simpa [Own, Value.ownBlock] using e
                        rcases hg9 with h1 | h1
                        · exact hap4.out i (show _ = some i by rw [← e2]; exact h1)
                        · have := HB5.out.lt; omega
                  · obtain rfl : m = txs.length := by omega
                    have HN := Lib.hid (show us = ys ++ hrK hh xi ((n : Int) + 1) (ks.take (j + 1)) by rw [HKT.out, ← List.append_assoc, ← hs3.out]; have := hs4.out; rwa [List.take_length] at this)
                    go_wp2
                    go_roundg (GJ - 1)
                    case measure => omega
                    case rel => exact ⟨j + 1, A8, c8, us, by omega, by go_num, rfl, HN, Lib.hid (by have := hl4.out; omega), ho4, hbo4, hap4, hu4⟩
              · obtain rfl : j = ks.length := by omega
                have HN := Lib.hid (show vs = xs ++ hrN hh xi (n + 1) by
                  have h1 := hs3.out
                  rw [List.take_length] at h1
                  show vs = xs ++ (hrN hh xi n ++ hrK hh xi ((n : Int) + 1) (allK hh.txs))
                  rw [HHT.out, HKS.out, ← List.append_assoc, ← hs2.out]
                  exact h1)
                go_wp2
                go_roundg (GN - 1)
                case measure => omega
                case rel => exact ⟨n + 1, A7, c7, vs, by omega, by go_num, rfl, HN, Lib.hid (by have := hl3.out; have := HKL.out; omega), ho3, hbo3, hap3, hu3⟩
          · obtain rfl : n = 3 := by omega
            have HN := Lib.hid (show ys = hrA hh (txs.take (k + 1)) by rw [HT.out, ← HS.out]; exact hs2.out)
            clear hgn
            go_wp2
            go_roundg (GK - 1)
            case measure => omega
            case rel => exact ⟨k + 1, A6, c6, ys, by omega, by go_num, rfl, HN, Lib.hid (by have := hl2.out; omega), ho2, hu2⟩
      · obtain rfl : k = txs.length := by omega
        have hxs : xs = edgesR hh := by rw [← HE.out]; have := hs.out; rwa [List.take_length] at this
        subst hxs
        go_wp2
        go_ret
        exact ⟨A5, c5, rfl, own_base hown.out HV3.out.size, HV3.out.trans hu⟩
end Go.Proofs.YtaicemjckagcaaaGreat

/- Edges of a history, in plain words: the lists. -/
namespace Go.Proofs.YtaicemjckagcaaaGreat
set_option linter.unusedVariables false
open Go.RowKit
theorem ddF_strict {s : List Edge} (h : s.Pairwise fun a b => ltE a b = true) : ∀ k, k ≤ s.length → ddF s k = s.take k
  | 0, _ => by simp [ddF]
  | k + 1, hk => by
    have ih := ddF_strict h k (by omega)
    rw [ddF_new (by omega), ih, List.take_succ_eq_append_getElem (by omega)]
    cases k with
    | zero => exact Or.inl rfl
    | succ k =>
      right
      rw [Nat.add_sub_cancel, List.getElem?_eq_getElem (by omega), List.getElem?_eq_getElem (by omega)]
      intro e
      have := List.pairwise_iff_getElem.1 h k (k + 1) (by omega) (by omega) (by omega)
      rw [Option.some.inj e, ltE_irr] at this
      cases this
theorem sortE_strict {s : List Edge} (h : s.Pairwise fun a b => ltE a b = true) : sortE s = s := by
  unfold sortE
  refine List.Perm.eq_of_pairwise (le := fun a b => (!ltOf cmpE b a) = true) (fun a b _ _ h1 h2 => ?_) (List.pairwise_mergeSort leE_trans leE_total s) (h.imp fun {a b} hab => ?_) (List.mergeSort_perm _ _)
  · simp only [lt_of_cmp, Bool.not_eq_true'] at h1 h2
    exact ltE_tri h2 h1
  · simp only [lt_of_cmp, Bool.not_eq_true']
    cases hba : ltE b a with
    | false => rfl
    | true => have := ltE_trans hab hba; rw [ltE_irr] at this; cases this
theorem ddE_strict {s : List Edge} (h : s.Pairwise fun a b => ltE a b = true) : ddE s = s := by
  unfold ddE
  rw [sortE_strict h, ddF_strict h _ (Nat.le_refl _), List.take_length]
theorem strict_nodup {s : List Edge} (h : s.Pairwise fun a b => ltE a b = true) : s.Nodup := h.imp fun {a b} hab e => by subst e; rw [ltE_irr] at hab; cases hab
/-- what the list of a count is -/
theorem edsOf {g : Edge → Nat} {l : List Hvy} (h1 : (l.map (·.e)).Pairwise fun a b => ltE a b = true) (h2 : ∀ e, e ∈ l.map (·.e) ↔ g e ≠ 0) (h3 : ∀ x ∈ l, x.n = (g x.e : Int)) : EdsOf g l := fun mc hm => by
  have hp : (mc.map (·.1)).Perm (l.map (·.e)) := (List.perm_ext_iff_of_nodup hm.nd (strict_nodup h1)).2 fun a => by rw [hm.mem, h2]
  rw [ddE_perm hp, ddE_strict h1]
  unfold hvL
  rw [List.map_map]
  conv => rhs; rw [← List.map_id l]
  refine List.map_congr_left fun x hx => ?_
  have := h3 x hx
  obtain ⟨e, n⟩ := x
  simp only at this
  simp [this]
theorem fewOf {g : Edge → Nat} {l : List Edge} (h : ∀ e, g e ≠ 0 → e ∈ l) (hl : l.length ≤ 1000000) : fewG g := fun mc hm => by
  have h1 := hm.nd.length_le_of_subset (l₂ := l) fun a ha => h a ((hm.mem a).1 ha)
  rw [List.length_map] at h1
  omega
section
variable {h : Hist}
theorem mem_hrB {a kind key : Int} {bs : List HTx} {x : Hvy} : x ∈ hrB h a kind key bs ↔ ∃ b ∈ bs, 0 < cntR h ⟨a, b.id, kind, key⟩ ∧ x = ⟨⟨a, b.id, kind, key⟩, (cntR h ⟨a, b.id, kind, key⟩ : Int)⟩ := by
  unfold hrB
  rw [List.mem_flatMap]
  constructor
  · rintro ⟨b, hb, hx⟩
    split at hx
    · rename_i hp; exact ⟨b, hb, hp, by simpa using hx⟩
    · cases hx
  · rintro ⟨b, hb, hp, rfl⟩
    exact ⟨b, hb, by rw [if_pos hp]; simp⟩
theorem mem_hrK {a kind : Int} {ks : List Int} {x : Hvy} : x ∈ hrK h a kind ks ↔ ∃ key ∈ ks, ∃ b ∈ h.txs, 0 < cntR h ⟨a, b.id, kind, key⟩ ∧ x = ⟨⟨a, b.id, kind, key⟩, (cntR h ⟨a, b.id, kind, key⟩ : Int)⟩ := by
  unfold hrK
  rw [List.mem_flatMap]
  simp only [mem_hrB]
theorem hrN3 (a : Int) : hrN h a 3 = hrK h a 1 (allK h.txs) ++ hrK h a 2 (allK h.txs) ++ hrK h a 3 (allK h.txs) := rfl
theorem mem_hrA {ts : List HTx} {x : Hvy} : x ∈ hrA h ts ↔ ∃ t ∈ ts, ∃ kind, (kind = 1 ∨ kind = 2 ∨ kind = 3) ∧ x ∈ hrK h t.id kind (allK h.txs) := by
  unfold hrA
  rw [List.mem_flatMap]
  simp only [hrN3, List.mem_append]
  constructor
  · rintro ⟨t, ht, (h1 | h1) | h1⟩
    · exact ⟨t, ht, 1, Or.inl rfl, h1⟩
    · exact ⟨t, ht, 2, Or.inr (Or.inl rfl), h1⟩
    · exact ⟨t, ht, 3, Or.inr (Or.inr rfl), h1⟩
  · rintro ⟨t, ht, kind, rfl | rfl | rfl, h1⟩
    · exact ⟨t, ht, Or.inl (Or.inl h1)⟩
    · exact ⟨t, ht, Or.inl (Or.inr h1)⟩
    · exact ⟨t, ht, Or.inr h1⟩
theorem hrB_strict {a kind key : Int} : ∀ {bs : List HTx}, (bs.map (·.id)).Pairwise (· < ·) → ((hrB h a kind key bs).map (·.e)).Pairwise fun a b => ltE a b = true
  | [], _ => List.Pairwise.nil
  | b :: bs, hp => by
    rw [List.map_cons, List.pairwise_cons] at hp
    have ih := hrB_strict (a := a) (kind := kind) (key := key) hp.2
    show ((((if 0 < cntR h ⟨a, b.id, kind, key⟩ then [_] else []) : List Hvy) ++ hrB h a kind key bs).map (·.e)).Pairwise _
    rw [List.map_append]
    split
    · refine List.pairwise_cons.2 ⟨fun y hy => ?_, ih⟩
      obtain ⟨x, hx, rfl⟩ := List.mem_map.1 hy
      obtain ⟨u, hu, _, rfl⟩ := mem_hrB.1 hx
      have := hp.1 u.id (List.mem_map.2 ⟨u, hu, rfl⟩)
      exact (ltE_iff _ _).2 (Or.inr ⟨rfl, Or.inr ⟨rfl, Or.inr ⟨rfl, this⟩⟩⟩)
    · exact ih
theorem hrK_strict (hr : (h.txs.map (·.id)).Pairwise (· < ·)) {a kind : Int} : ∀ {ks : List Int}, ks.Pairwise (· < ·) → ((hrK h a kind ks).map (·.e)).Pairwise fun a b => ltE a b = true
  | [], _ => List.Pairwise.nil
  | k :: ks, hp => by
    rw [List.pairwise_cons] at hp
    have ih := hrK_strict hr (a := a) (kind := kind) hp.2
    show ((hrB h a kind k h.txs ++ hrK h a kind ks).map (·.e)).Pairwise _
    rw [List.map_append, List.pairwise_append]
    refine ⟨hrB_strict hr, ih, fun y hy z hz => ?_⟩
    obtain ⟨x, hx, rfl⟩ := List.mem_map.1 hy
    obtain ⟨v, hv, rfl⟩ := List.mem_map.1 hz
    obtain ⟨u, hu, _, rfl⟩ := mem_hrB.1 hx
    obtain ⟨k2, hk2, u2, hu2, _, rfl⟩ := mem_hrK.1 hv
    have := hp.1 k2 hk2
    exact (ltE_iff _ _).2 (Or.inr ⟨rfl, Or.inr ⟨rfl, Or.inl this⟩⟩)
theorem allK_lt (txs : List HTx) : (allK txs).Pairwise (· < ·) := putAll_lt _ _ List.Pairwise.nil
theorem hrA_strict (hr : (h.txs.map (·.id)).Pairwise (· < ·)) : ∀ {ts : List HTx}, (ts.map (·.id)).Pairwise (· < ·) → ((hrA h ts).map (·.e)).Pairwise fun a b => ltE a b = true
  | [], _ => List.Pairwise.nil
  | t :: ts, hp => by
    rw [List.map_cons, List.pairwise_cons] at hp
    have ih := hrA_strict hr hp.2
    show ((hrN h t.id 3 ++ hrA h ts).map (·.e)).Pairwise _
    have hkk := fun kind => hrK_strict hr (a := t.id) (kind := kind) (allK_lt h.txs)
    rw [hrN3, List.map_append, List.map_append, List.map_append, List.pairwise_append, List.pairwise_append, List.pairwise_append]
    refine ⟨⟨⟨hkk 1, hkk 2, fun y hy z hz => ?_⟩, hkk 3, fun y hy z hz => ?_⟩, ih, fun y hy z hz => ?_⟩
    · obtain ⟨x, hx, rfl⟩ := List.mem_map.1 hy
      obtain ⟨v, hv, rfl⟩ := List.mem_map.1 hz
      obtain ⟨k2, _, u, _, _, rfl⟩ := mem_hrK.1 hx
      obtain ⟨k3, _, u3, _, _, rfl⟩ := mem_hrK.1 hv
      exact (ltE_iff _ _).2 (Or.inr ⟨rfl, Or.inl (show (1 : Int) < 2 by decide)⟩)
    · obtain ⟨v, hv, rfl⟩ := List.mem_map.1 hz
      obtain ⟨k3, _, u3, _, _, rfl⟩ := mem_hrK.1 hv
      rcases List.mem_append.1 hy with hy | hy
      · obtain ⟨x, hx, rfl⟩ := List.mem_map.1 hy
        obtain ⟨k2, _, u, _, _, rfl⟩ := mem_hrK.1 hx
        exact (ltE_iff _ _).2 (Or.inr ⟨rfl, Or.inl (show (1 : Int) < 3 by decide)⟩)
      · obtain ⟨x, hx, rfl⟩ := List.mem_map.1 hy
        obtain ⟨k2, _, u, _, _, rfl⟩ := mem_hrK.1 hx
        exact (ltE_iff _ _).2 (Or.inr ⟨rfl, Or.inl (show (2 : Int) < 3 by decide)⟩)
    · obtain ⟨v, hv, rfl⟩ := List.mem_map.1 hz
      obtain ⟨t2, ht2, kind, _, hx2⟩ := mem_hrA.1 hv
      obtain ⟨k3, _, u3, _, _, rfl⟩ := mem_hrK.1 hx2
      have := hp.1 t2.id (List.mem_map.2 ⟨t2, ht2, rfl⟩)
      have hy2 : y.f = t.id := by
        rcases List.mem_append.1 hy with hy | hy
        · rcases List.mem_append.1 hy with hy | hy
          · obtain ⟨x, hx, rfl⟩ := List.mem_map.1 hy
            obtain ⟨k2, _, u, _, _, rfl⟩ := mem_hrK.1 hx
            rfl
          · obtain ⟨x, hx, rfl⟩ := List.mem_map.1 hy
            obtain ⟨k2, _, u, _, _, rfl⟩ := mem_hrK.1 hx
            rfl
        · obtain ⟨x, hx, rfl⟩ := List.mem_map.1 hy
          obtain ⟨k2, _, u, _, _, rfl⟩ := mem_hrK.1 hx
          rfl
      exact (ltE_iff _ _).2 (Or.inl (by rw [hy2]; exact this))
theorem mem_allK (txs : List HTx) (key : Int) : key ∈ allK txs ↔ ∃ t ∈ txs, ∃ o ∈ t.ops, o.key = key := by
  unfold allK txK opK
  rw [mem_putAll, List.mem_flatMap]
  simp only [List.mem_map, List.not_mem_nil, false_or]
/-- an edge with a reason stands between ids, is of a kind, and of a key of an operation -/
theorem cntR_ends (hr : rightB h = true) {e : Edge} (hc : cntR h e ≠ 0) : (∃ a ∈ h.txs, a.id = e.f) ∧ (∃ b ∈ h.txs, b.id = e.t) ∧ (e.k = 1 ∨ e.k = 2 ∨ e.k = 3) ∧ e.key ∈ allK h.txs := by
  unfold cntR at hc
  cases ha : doneT h.txs e.f with
  | none => rw [ha] at hc; exact absurd rfl hc
  | some a =>
    cases hb : doneT h.txs e.t with
    | none => rw [ha, hb] at hc; exact absurd rfl hc
    | some b =>
      rw [ha, hb] at hc
      simp only at hc
      obtain ⟨ha1, ha2⟩ := find_id (doneT_some ha).1
      obtain ⟨hb1, hb2⟩ := find_id (doneT_some hb).1
      refine ⟨⟨a, ha1, ha2⟩, ⟨b, hb1, hb2⟩, ?_⟩
      rw [mem_allK]
      split at hc
      · exact absurd rfl hc
      · split at hc
        · rename_i hk
          refine ⟨Or.inl hk, ?_⟩
          split at hc
          · rename_i hn
            obtain ⟨o, ho, hok, i, hi, hy⟩ := (nextB_iff hr _ _ _).1 hn
            have hw := (right_ord_perm hr ho).mem_iff.1 (List.mem_of_getElem? hy)
            unfold writersOf at hw
            obtain ⟨t, ht, _⟩ := List.mem_map.1 hw
            rw [List.mem_filter, Bool.and_eq_true, List.contains_iff_mem] at ht
            have hk2 := ht.2.2
            unfold keysW at hk2
            rw [mem_setK] at hk2
            unfold keysOf at hk2
            obtain ⟨op, hop, hopk⟩ := List.mem_map.1 hk2
            rw [List.mem_filter] at hop
            exact ⟨t, ht.1, op, hop.1, hopk.trans hok⟩
          · exact absurd rfl hc
        · split at hc
          · rename_i hk
            refine ⟨Or.inr (Or.inl hk), ?_⟩
            obtain ⟨o, ho, hp⟩ := List.countP_pos_iff.1 (Nat.pos_of_ne_zero hc)
            unfold p2 at hp
            simp only [Bool.and_eq_true, beq_iff_eq] at hp
            exact ⟨b, hb1, o, ho, hp.1.1.2⟩
          · split at hc
            · rename_i hk
              refine ⟨Or.inr (Or.inr hk), ?_⟩
              obtain ⟨o, ho, hp⟩ := List.countP_pos_iff.1 (Nat.pos_of_ne_zero hc)
              unfold p3 at hp
              simp only [Bool.and_eq_true, beq_iff_eq] at hp
              exact ⟨a, ha1, o, ho, hp.1.1.1.2⟩
            · exact absurd rfl hc
theorem mem_edgesR (hr : rightB h = true) {x : Hvy} : x ∈ edgesR h ↔ cntR h x.e ≠ 0 ∧ x.n = (cntR h x.e : Int) := by
  unfold edgesR
  rw [if_pos hr, mem_hrA]
  constructor
  · rintro ⟨t, _, kind, _, hx⟩
    obtain ⟨key, _, b, _, h1, rfl⟩ := mem_hrK.1 hx
    exact ⟨by simp only; omega, rfl⟩
  · rintro ⟨h1, h2⟩
    obtain ⟨⟨a, ha, hae⟩, ⟨b, hb, hbe⟩, hk, hkey⟩ := cntR_ends hr h1
    refine ⟨a, ha, x.e.k, hk, mem_hrK.2 ⟨x.e.key, hkey, b, hb, ?_⟩⟩
    obtain ⟨⟨ef, et, ek, ey⟩, n⟩ := x
    simp only at *
    subst hae hbe h2
    exact ⟨by omega, rfl⟩
theorem edgesR_strict : ((edgesR h).map (·.e)).Pairwise fun a b => ltE a b = true := by
  unfold edgesR
  split
  · rename_i hr; exact hrA_strict (right_rise hr) (right_rise hr)
  · exact List.Pairwise.nil
theorem gAll_eq (cnt : Int → Bool) (e : Edge) : gAll cnt h e = if rightB h = true then (if cnt e.key = true then cntR h e else 0) else 0 := by
  unfold gAll
  split
  · rename_i hr; exact gCnt_eq hr cnt e
  · rfl
/-- the lists that are told are the document's -/
theorem edgesR_all : EdsOf (gAll (fun _ => true) h) (edgesR h) := by
  refine edsOf edgesR_strict (fun e => ?_) fun x hx => ?_
  · rw [gAll_eq]
    by_cases hr : rightB h = true
    · rw [if_pos hr, if_pos rfl, List.mem_map]
      constructor
      · rintro ⟨x, hx, rfl⟩; exact ((mem_edgesR hr).1 hx).1
      · intro hc; exact ⟨⟨e, (cntR h e : Int)⟩, (mem_edgesR hr).2 ⟨hc, rfl⟩, rfl⟩
    · rw [if_neg hr]; unfold edgesR; rw [if_neg hr]; simp
  · by_cases hr : rightB h = true
    · rw [gAll_eq, if_pos hr, if_pos rfl]; exact ((mem_edgesR hr).1 hx).2
    · unfold edgesR at hx; rw [if_neg hr] at hx; cases hx
theorem edgesR_of (key : Int) : EdsOf (gAll (fun k => k == key) h) (ofKey key (edgesR h)) := by
  have hsub : ((ofKey key (edgesR h)).map (·.e)).Sublist ((edgesR h).map (·.e)) := List.filter_sublist.map _
  refine edsOf (edgesR_strict.sublist hsub) (fun e => ?_) fun x hx => ?_
  · rw [gAll_eq]
    by_cases hr : rightB h = true
    · rw [if_pos hr, List.mem_map]
      constructor
      · rintro ⟨x, hx, rfl⟩
        unfold ofKey at hx
        rw [List.mem_filter] at hx
        rw [if_pos hx.2]; exact ((mem_edgesR hr).1 hx.1).1
      · intro hc
        by_cases hk : (e.key == key) = true
        · rw [if_pos hk] at hc
          refine ⟨⟨e, (cntR h e : Int)⟩, ?_, rfl⟩
          unfold ofKey
          exact List.mem_filter.2 ⟨(mem_edgesR hr).2 ⟨hc, rfl⟩, hk⟩
        · rw [if_neg hk] at hc; exact absurd rfl hc
    · rw [if_neg hr]; unfold edgesR; rw [if_neg hr]; simp [ofKey]
  · by_cases hr : rightB h = true
    · unfold ofKey at hx
      rw [List.mem_filter] at hx
      rw [gAll_eq, if_pos hr, if_pos hx.2]; exact ((mem_edgesR hr).1 hx.1).2
    · unfold edgesR at hx; rw [if_neg hr] at hx; cases hx
theorem hrB_len (a kind key : Int) : ∀ bs : List HTx, (hrB h a kind key bs).length ≤ bs.length
  | [] => Nat.le_refl _
  | b :: bs => by
    have := hrB_len a kind key bs
    show ((((if 0 < cntR h ⟨a, b.id, kind, key⟩ then [_] else []) : List Hvy) ++ hrB h a kind key bs)).length ≤ _
    rw [List.length_append, List.length_cons]
    split <;> simp <;> omega
theorem hrK_len (a kind : Int) (n : h.txs.length ≤ 12) : ∀ ks : List Int, (hrK h a kind ks).length ≤ 12 * ks.length
  | [] => Nat.le_refl _
  | k :: ks => by
    have h1 := hrK_len a kind n ks
    have h2 := hrB_len (h := h) a kind k h.txs
    show (hrB h a kind k h.txs ++ hrK h a kind ks).length ≤ _
    rw [List.length_append, List.length_cons]; omega
theorem hrA_len (n : h.txs.length ≤ 12) (n2 : (allK h.txs).length ≤ 288) : ∀ ts : List HTx, (hrA h ts).length ≤ 10368 * ts.length
  | [] => Nat.le_refl _
  | t :: ts => by
    have h1 := hrA_len n n2 ts
    have h2 := hrK_len (h := h) t.id 1 n (allK h.txs)
    have h3 := hrK_len (h := h) t.id 2 n (allK h.txs)
    have h4 := hrK_len (h := h) t.id 3 n (allK h.txs)
    show (hrN h t.id 3 ++ hrA h ts).length ≤ _
    rw [hrN3, List.length_append, List.length_append, List.length_append, List.length_cons]; omega
theorem edgesR_len (n : h.txs.length ≤ 12) (n2 : ∀ t ∈ h.txs, t.ops.length ≤ 24) : (edgesR h).length ≤ 200000 := by
  unfold edgesR
  split
  · have h1 := allK_len h.txs n2
    have := hrA_len n (by omega) h.txs
    omega
  · simp
theorem few_all (n : h.txs.length ≤ 12) (n2 : ∀ t ∈ h.txs, t.ops.length ≤ 24) (cnt : Int → Bool) : fewG (gAll cnt h) := by
  refine fewOf (l := (edgesR h).map (·.e)) (fun e hg => ?_) (by rw [List.length_map]; have := edgesR_len n n2; omega)
  rw [gAll_eq] at hg
  by_cases hr : rightB h = true
  · rw [if_pos hr] at hg
    by_cases hc : cnt e.key = true
    · rw [if_pos hc] at hg
      exact List.mem_map.2 ⟨⟨e, (cntR h e : Int)⟩, (mem_edgesR hr).2 ⟨hg, rfl⟩, rfl⟩
    · rw [if_neg hc] at hg; exact absurd rfl hg
  · rw [if_neg hr] at hg; exact absurd rfl hg
theorem count_all (e : Edge) : gAll (fun k => k == e.key) h e = countR h e := by
  rw [gAll_eq]
  unfold countR
  simp
end
end Go.Proofs.YtaicemjckagcaaaGreat
