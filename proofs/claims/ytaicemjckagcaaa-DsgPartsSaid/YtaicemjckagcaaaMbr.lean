/- Edges of a history, in plain words: what is counted is what the document counts. -/
import Derived.Test.YtaicemjckagcaaaMan
import Derived.Test.YtaicemjckagcaaaMav
import Derived.Test.YtaicemjckagcaaaMbb
import Derived.Test.YtaicemjckagcaaaMbi
import Derived.Test.YtaicemjckagcaaaMbq
namespace Go.Proofs.Ytaicemjckagcaaa
set_option linter.unusedVariables false
open Go.RowKit
theorem mem_wwO (key : Int) (e : Edge) : ∀ l : List Int, e ∈ wwO key l ↔ e.k = 1 ∧ e.key = key ∧ ∃ i : Nat, l[i]? = some e.f ∧ l[i + 1]? = some e.t
  | [] => by simp [wwO]
  | [a] => by
    simp [wwO]
  | a :: b :: l => by
    have ih := mem_wwO key e (b :: l)
    show e ∈ [⟨a, b, 1, key⟩] ++ wwO key (b :: l) ↔ _
    rw [List.mem_append, List.mem_singleton, ih]
    constructor
    · rintro (rfl | ⟨h1, h2, i, h3, h4⟩)
      · exact ⟨rfl, rfl, 0, rfl, rfl⟩
      · exact ⟨h1, h2, i + 1, h3, h4⟩
    · rintro ⟨h1, h2, i, h3, h4⟩
      cases i with
      | zero =>
        left
        simp at h3 h4
        obtain ⟨ef, et, ek, ey⟩ := e
        simp only at h1 h2 h3 h4
        subst h1 h2 h3 h4
        rfl
      | succ i => exact Or.inr ⟨h1, h2, i, h3, h4⟩
theorem mem_wwL (cnt : Int → Bool) (ords : List HOrd) (e : Edge) : e ∈ wwL cnt ords ↔ e.k = 1 ∧ cnt e.key = true ∧ ∃ o ∈ ords, o.key = e.key ∧ ∃ i : Nat, o.txs[i]? = some e.f ∧ o.txs[i + 1]? = some e.t := by
  unfold wwL
  rw [List.mem_flatMap]
  constructor
  · rintro ⟨o, ho, h⟩
    unfold wwC at h
    split at h
    · rename_i hc
      obtain ⟨h1, h2, h3⟩ := (mem_wwO _ _ _).1 h
      exact ⟨h1, by rw [h2]; exact hc, o, ho, h2.symm, h3⟩
    · cases h
  · rintro ⟨h1, h2, o, ho, h3, h4⟩
    refine ⟨o, ho, ?_⟩
    unfold wwC
    rw [if_pos (by rw [h3]; exact h2)]
    exact (mem_wwO _ _ _).2 ⟨h1, h3.symm, h4⟩
/-! what was laid last -/
theorem lastW_none (p : Int × Int) : ∀ (L : List ((Int × Int) × Int)) (a : Int), (∀ e ∈ L, e.1 ≠ p) → L.foldl (fun a e => if e.1 = p then e.2 else a) a = a
  | [], _, _ => rfl
  | e :: L, a, h => by
    rw [List.foldl_cons, if_neg (h e (List.mem_cons_self ..))]
    exact lastW_none p L a fun x hx => h x (List.mem_cons_of_mem _ hx)
theorem lastW_all (p : Int × Int) (v : Int) : ∀ (L : List ((Int × Int) × Int)) (a : Int), (∀ e ∈ L, e.1 = p → e.2 = v) → (a = v ∨ ∃ e ∈ L, e.1 = p) → L.foldl (fun a e => if e.1 = p then e.2 else a) a = v
  | [], a, _, h => by
    rcases h with h | ⟨e, he, _⟩
    · exact h
    · cases he
  | e :: L, a, h, h2 => by
    rw [List.foldl_cons]
    refine lastW_all p v L _ (fun x hx => h x (List.mem_cons_of_mem _ hx)) ?_
    by_cases hp : e.1 = p
    · rw [if_pos hp]; exact Or.inl (h e (List.mem_cons_self ..) hp)
    · rw [if_neg hp]
      rcases h2 with h2 | ⟨x, hx, hxp⟩
      · exact Or.inl h2
      · rcases List.mem_cons.1 hx with rfl | hx
        · exact absurd hxp hp
        · exact Or.inr ⟨x, hx, hxp⟩
theorem mem_pairs (key : Int) (e : (Int × Int) × Int) : ∀ (l : List Int) (a : Int), e ∈ pairsL key a l ↔ e.1.1 = key ∧ ∃ i : Nat, (a :: l)[i]? = some e.1.2 ∧ l[i]? = some e.2
  | [], a => by simp [pairsL]
  | x :: l, a => by
    show e ∈ ((key, a), x) :: pairsL key x l ↔ _
    rw [List.mem_cons, mem_pairs key e l x]
    constructor
    · rintro (rfl | ⟨h1, i, h2, h3⟩)
      · exact ⟨rfl, 0, rfl, rfl⟩
      · exact ⟨h1, i + 1, h2, h3⟩
    · rintro ⟨h1, i, h2, h3⟩
      cases i with
      | zero =>
        left
        obtain ⟨⟨e1, e2⟩, e3⟩ := e
        simp at h1 h2 h3
        subst h1 h2 h3
        rfl
      | succ i => exact Or.inr ⟨h1, i, h2, h3⟩
/-- who stands behind whom in the order of a key; 0 stands ahead of all -/
def Nx (ords : List HOrd) (key x y : Int) : Prop := ∃ o ∈ ords, o.key = key ∧ ∃ i : Nat, (0 :: o.txs)[i]? = some x ∧ o.txs[i]? = some y
theorem mem_nexts (ords : List HOrd) (key x y : Int) : ((key, x), y) ∈ nextsL ords ↔ Nx ords key x y := by
  unfold nextsL Nx
  rw [List.mem_flatMap]
  constructor
  · rintro ⟨o, ho, h⟩
    obtain ⟨h1, h2⟩ := (mem_pairs _ _ _ _).1 h
    exact ⟨o, ho, h1.symm, h2⟩
  · rintro ⟨o, ho, h1, h2⟩
    exact ⟨o, ho, (mem_pairs _ _ _ _).2 ⟨h1.symm, h2⟩⟩
section
variable {h : Hist}
theorem right_ordOk (hr : rightB h = true) {i : Nat} (hi : i < h.ords.length) : ordOk h.txs h.ords i = true := by
  unfold rightB at hr
  simp only [Bool.and_eq_true, List.all_eq_true, List.mem_range] at hr
  exact hr.2 i hi
theorem right_ord_key (hr : rightB h = true) : (h.ords.map (·.key)).Pairwise (· < ·) := rise_at fun j hj => by
  rw [List.length_map] at hj
  have := ((ordOk_at hj).1 (right_ordOk hr hj)).1 j rfl
  rw [show (h.ords.map (·.key)).getD (j + 1) 0 = h.ords[j + 1].key by rw [List.getD_eq_getElem?_getD, List.getElem?_map, List.getElem?_eq_getElem hj]; rfl]
  exact this
theorem right_ord_perm (hr : rightB h = true) {o : HOrd} (ho : o ∈ h.ords) : o.txs.Perm (writersOf h.txs o.key) := by
  obtain ⟨j, hj, rfl⟩ := List.mem_iff_getElem.1 ho
  have := ((ordOk_at hj).1 (right_ordOk hr hj)).2.2
  rw [permR_eq, beq_iff_eq] at this
  exact (sortK_perm _).symm.trans (this ▸ sortK_perm _)
theorem right_nodup (hr : rightB h = true) : (h.txs.map (·.id)).Nodup := rise_nodup (right_rise hr)
theorem right_ord_nodup (hr : rightB h = true) {o : HOrd} (ho : o ∈ h.ords) : o.txs.Nodup := by
  refine (right_ord_perm hr ho).nodup_iff.2 ?_
  unfold writersOf
  exact (right_nodup hr).sublist (List.filter_sublist.map _)
theorem right_ord_mem (hr : rightB h = true) {o : HOrd} (ho : o ∈ h.ords) {x : Int} (hx : x ∈ o.txs) : ∃ t, doneT h.txs x = some t ∧ 1 ≤ x := by
  have h1 := (right_ord_perm hr ho).mem_iff.1 hx
  unfold writersOf at h1
  obtain ⟨t, ht, rfl⟩ := List.mem_map.1 h1
  rw [List.mem_filter, Bool.and_eq_true] at ht
  refine ⟨t, ?_, right_id hr ht.1⟩
  unfold doneT
  rw [right_find hr ht.1]
  simp [ht.2.1]
theorem right_ord_one (hr : rightB h = true) {o u : HOrd} (ho : o ∈ h.ords) (hu : u ∈ h.ords) (hk : o.key = u.key) : o = u := by
  obtain ⟨i, hi, rfl⟩ := List.mem_iff_getElem.1 ho
  obtain ⟨j, hj, rfl⟩ := List.mem_iff_getElem.1 hu
  have hp := List.pairwise_iff_getElem.1 (right_ord_key hr)
  rcases Nat.lt_trichotomy i j with h1 | h1 | h1
  · have := hp i j (by simpa using hi) (by simpa using hj) h1
    simp only [List.getElem_map] at this
    omega
  · subst h1; rfl
  · have := hp j i (by simpa using hj) (by simpa using hi) h1
    simp only [List.getElem_map] at this
    omega
theorem nodup_idx {l : List Int} (hn : l.Nodup) {i j : Nat} {x : Int} (h1 : l[i]? = some x) (h2 : l[j]? = some x) : i = j := by
  obtain ⟨hi, e1⟩ := List.getElem?_eq_some_iff.1 h1
  obtain ⟨hj, e2⟩ := List.getElem?_eq_some_iff.1 h2
  exact (List.getElem_inj hn).1 (e1.trans e2.symm)
theorem right_zero_nodup (hr : rightB h = true) {o : HOrd} (ho : o ∈ h.ords) : (0 :: o.txs).Nodup := by
  refine List.nodup_cons.2 ⟨fun hm => ?_, right_ord_nodup hr ho⟩
  obtain ⟨_, _, h1⟩ := right_ord_mem hr ho hm
  omega
theorem Nx.one (hr : rightB h = true) {key x y z : Int} (h1 : Nx h.ords key x y) (h2 : Nx h.ords key x z) : y = z := by
  obtain ⟨o, ho, hk, i, hi, hy⟩ := h1
  obtain ⟨u, hu, hk2, j, hj, hz⟩ := h2
  obtain rfl := right_ord_one hr ho hu (hk.trans hk2.symm)
  obtain rfl := nodup_idx (right_zero_nodup hr ho) hi hj
  rw [hy] at hz
  exact Option.some.inj hz
theorem Nx.ids (hr : rightB h = true) {key x y : Int} (h1 : Nx h.ords key x y) : (∃ t, doneT h.txs y = some t) ∧ 1 ≤ y ∧ x ≠ y ∧ (x = 0 ∨ ∃ t, doneT h.txs x = some t) := by
  obtain ⟨o, ho, hk, i, hi, hy⟩ := h1
  obtain ⟨t, ht, h2⟩ := right_ord_mem hr ho (List.mem_of_getElem? hy)
  refine ⟨⟨t, ht⟩, h2, fun e => ?_, ?_⟩
  · subst e
    have h3 : (0 :: o.txs)[i + 1]? = some x := hy
    have := nodup_idx (right_zero_nodup hr ho) hi h3
    omega
  · cases i with
    | zero => left; simpa using hi.symm
    | succ i =>
      right
      obtain ⟨t2, ht2, _⟩ := right_ord_mem hr ho (List.mem_of_getElem? (show o.txs[i]? = some x from hi))
      exact ⟨t2, ht2⟩
theorem last_nx (hr : rightB h = true) (key x : Int) : (lastW (nextsL h.ords) (key, x) = 0 ∧ ∀ y, ¬ Nx h.ords key x y) ∨ Nx h.ords key x (lastW (nextsL h.ords) (key, x)) := by
  by_cases hx : ∃ y, Nx h.ords key x y
  · obtain ⟨y, hy⟩ := hx
    right
    have : lastW (nextsL h.ords) (key, x) = y := by
      unfold lastW
      refine lastW_all (key, x) y _ 0 (fun e he hp => ?_) (Or.inr ⟨((key, x), y), (mem_nexts _ _ _ _).2 hy, rfl⟩)
      obtain ⟨p, v⟩ := e
      simp only at hp
      subst hp
      exact Nx.one hr ((mem_nexts _ _ _ _).1 he) hy
    rw [this]; exact hy
  · left
    refine ⟨?_, fun y hy => hx ⟨y, hy⟩⟩
    unfold lastW
    refine lastW_none (key, x) _ 0 fun e he hp => hx ⟨e.2, ?_⟩
    obtain ⟨p, v⟩ := e
    simp only at hp
    subst hp
    exact (mem_nexts _ _ _ _).1 he
theorem last_iff (hr : rightB h = true) (key x y : Int) (hy : y ≠ 0) : lastW (nextsL h.ords) (key, x) = y ↔ Nx h.ords key x y := by
  rcases last_nx hr key x with ⟨h1, h2⟩ | h1
  · rw [h1]
    exact ⟨fun e => absurd e.symm hy, fun e => absurd e (h2 y)⟩
  · constructor
    · intro e; rw [← e]; exact h1
    · intro e; exact Nx.one hr h1 e
theorem orderOf_some (hr : rightB h = true) {o : HOrd} (ho : o ∈ h.ords) : orderOf h.ords o.key = o.txs := by
  obtain ⟨k, hk, rfl⟩ := List.mem_iff_getElem.1 ho
  have hp := List.pairwise_iff_getElem.1 (right_ord_key hr)
  have : posO h.ords h.ords[k].key = k := posO_hit hk (fun j hj => by
    have := hp j k (by simp; omega) (by simpa using hk) hj
    simp only [List.getElem_map] at this
    rw [beq_eq_false_iff_ne]; omega) (by simp)
  unfold orderOf
  rw [this, List.getElem?_eq_getElem hk]
theorem orderOf_none {key : Int} (hn : ∀ o ∈ h.ords, o.key ≠ key) : orderOf h.ords key = [] := by
  have : posO h.ords key = h.ords.length := by
    unfold posO
    rw [List.findIdx_eq_length]
    intro o ho
    simpa using hn o ho
  unfold orderOf
  rw [this, List.getElem?_eq_none (Nat.le_refl _)]
theorem nextI_iff {l : List Int} (hn : (0 :: l).Nodup) (x y : Int) : nextI l x = some y ↔ ∃ i : Nat, (0 :: l)[i]? = some x ∧ l[i]? = some y := by
  unfold nextI
  by_cases h0 : x = 0
  · subst h0
    rw [if_pos rfl]
    constructor
    · intro h; exact ⟨0, rfl, h⟩
    · rintro ⟨i, h1, h2⟩
      obtain rfl := nodup_idx hn h1 (show (0 :: l)[0]? = some 0 from rfl)
      exact h2
  · rw [if_neg h0]
    by_cases hm : x ∈ l
    · obtain ⟨k, hk, hx⟩ := List.mem_iff_getElem.1 hm
      have hpos : posI l x < l.length := by
        unfold posI
        rw [List.findIdx_lt_length]
        exact ⟨x, hm, by simp⟩
      have hget : l[posI l x]? = some x := by
        have := List.findIdx_getElem (p := (· == x)) (xs := l) (w := hpos)
        rw [beq_iff_eq] at this
        rw [List.getElem?_eq_getElem hpos]
        exact congrArg some this
      rw [if_pos hpos]
      constructor
      · intro h; exact ⟨posI l x + 1, hget, h⟩
      · rintro ⟨i, h1, h2⟩
        have := nodup_idx hn h1 (show (0 :: l)[posI l x + 1]? = some x from hget)
        rw [← this]; exact h2
    · have hpos : ¬ posI l x < l.length := by
        unfold posI
        rw [List.findIdx_lt_length]
        rintro ⟨z, hz, e⟩
        simp at e
        subst e
        exact hm hz
      rw [if_neg hpos]
      constructor
      · intro h; cases h
      · rintro ⟨i, h1, h2⟩
        cases i with
        | zero => exact absurd (by simpa using h1.symm) h0
        | succ i => exact absurd (List.mem_of_getElem? (show l[i]? = some x from h1)) hm
theorem nextB_iff (hr : rightB h = true) (key x y : Int) : nextB h.ords key x y = true ↔ Nx h.ords key x y := by
  unfold nextB
  rw [beq_iff_eq]
  by_cases hk : ∃ o ∈ h.ords, o.key = key
  · obtain ⟨o, ho, rfl⟩ := hk
    rw [orderOf_some hr ho, nextI_iff (right_zero_nodup hr ho)]
    constructor
    · intro h1; exact ⟨o, ho, rfl, h1⟩
    · rintro ⟨u, hu, hk, h1⟩
      obtain rfl := right_ord_one hr hu ho hk
      exact h1
  · rw [orderOf_none (fun o ho e => hk ⟨o, ho, e⟩)]
    constructor
    · intro h1
      unfold nextI posI at h1
      simp at h1
    · rintro ⟨u, hu, hk2, _⟩
      exact absurd ⟨u, hu, hk2⟩ hk
end
end Go.Proofs.Ytaicemjckagcaaa

/- Edges of a history, in plain words: each is counted as often as the document counts it. -/
namespace Go.Proofs.Ytaicemjckagcaaa
set_option linter.unusedVariables false
open Go.RowKit
section
variable {β : Type} [DecidableEq β]
theorem cnt2_zero (f : HTx → List β) (a : β) : ∀ ts : List HTx, (∀ u ∈ ts, cnt2 (f u) a = 0) → cnt2 (ts.flatMap f) a = 0
  | [], _ => rfl
  | u :: ts, h => by
    rw [List.flatMap_cons, cnt2_append, h u (List.mem_cons_self ..), cnt2_zero f a ts fun x hx => h x (List.mem_cons_of_mem _ hx)]
theorem cnt2_flat (f : HTx → List β) (a : β) : ∀ ts : List HTx, (ts.map (·.id)).Nodup → ∀ t ∈ ts, (∀ u ∈ ts, u.id ≠ t.id → cnt2 (f u) a = 0) → cnt2 (ts.flatMap f) a = cnt2 (f t) a
  | [], _, _, ht, _ => by cases ht
  | u :: ts, hn, t, ht, h => by
    rw [List.map_cons, List.nodup_cons] at hn
    rw [List.flatMap_cons, cnt2_append]
    rcases List.mem_cons.1 ht with rfl | ht
    · rw [cnt2_zero f a ts fun x hx => h x (List.mem_cons_of_mem _ hx) fun e => hn.1 (e ▸ List.mem_map.2 ⟨x, hx, rfl⟩)]
      rfl
    · rw [h u (List.mem_cons_self ..) fun e => hn.1 (e ▸ List.mem_map.2 ⟨t, ht, rfl⟩), cnt2_flat f a ts hn.2 t ht fun x hx => h x (List.mem_cons_of_mem _ hx)]
      omega
end
theorem cnt2_wOps (id key : Int) : ∀ l : List HOp, cnt2 (wOps id l) (id, key) = (l.filter (isW key)).length
  | [] => rfl
  | o :: l => by
    have ih := cnt2_wOps id key l
    unfold wOps at ih ⊢
    by_cases h : isW key o = true
    · have h2 : (!o.read) = true ∧ o.key = key := by unfold isW at h; simpa using h
      rw [List.filter_cons_of_pos (p := fun o : HOp => !o.read) h2.1, List.filter_cons_of_pos h, List.map_cons, List.length_cons, ← ih]
      have := cnt2_append [(id, o.key)] ((l.filter fun o => !o.read).map fun o => (id, o.key)) (id, key)
      rw [List.singleton_append] at this
      rw [this, cnt2_one, if_pos (by rw [h2.2])]; omega
    · rw [List.filter_cons_of_neg h, ← ih]
      by_cases hr : (!o.read) = true
      · rw [List.filter_cons_of_pos (p := fun o : HOp => !o.read) hr, List.map_cons]
        have := cnt2_append [(id, o.key)] ((l.filter fun o => !o.read).map fun o => (id, o.key)) (id, key)
        rw [List.singleton_append] at this
        rw [this, cnt2_one, if_neg (fun e => h (by unfold isW; rw [hr]; simp [(Prod.mk.inj e).2]))]; omega
      · rw [List.filter_cons_of_neg (p := fun o : HOp => !o.read) hr]
theorem cnt2_wOps_ne (id i key : Int) (hne : id ≠ i) (l : List HOp) : cnt2 (wOps id l) (i, key) = 0 := by
  unfold cnt2 wOps
  rw [List.length_eq_zero_iff, List.filter_eq_nil_iff]
  intro x hx
  obtain ⟨o, _, rfl⟩ := List.mem_map.1 hx
  simp [hne]
section
variable {h : Hist}
theorem done_mem (hr : rightB h = true) (i : Int) : i ∈ doneL h.txs ↔ ∃ t, doneT h.txs i = some t := by
  unfold doneL
  rw [List.mem_map]
  constructor
  · rintro ⟨t, ht, rfl⟩
    rw [List.mem_filter] at ht
    refine ⟨t, ?_⟩
    unfold doneT
    rw [right_find hr ht.1]
    simp [ht.2]
  · rintro ⟨t, ht⟩
    have h1 := doneT_some ht
    have h2 := find_id h1.1
    exact ⟨t, List.mem_filter.2 ⟨h2.1, h1.2⟩, h2.2⟩
theorem doneT_mem {i : Int} {t : HTx} (ht : doneT h.txs i = some t) : t ∈ h.txs.filter (·.done) ∧ t.id = i := by
  have h1 := doneT_some ht
  have h2 := find_id h1.1
  exact ⟨List.mem_filter.2 ⟨h2.1, h1.2⟩, h2.2⟩
theorem done_nodup (hr : rightB h = true) : ((h.txs.filter (·.done)).map (·.id)).Nodup := (right_nodup hr).sublist (List.filter_sublist.map _)
theorem writes_cnt (hr : rightB h = true) {i : Int} {t : HTx} (ht : doneT h.txs i = some t) (key : Int) : cnt2 (writesL h.txs) (i, key) = writesN t.ops key := by
  obtain ⟨h1, rfl⟩ := doneT_mem ht
  unfold writesL
  rw [cnt2_flat (fun t => wOps t.id t.ops) (t.id, key) _ (done_nodup hr) t h1 (fun u _ hne => cnt2_wOps_ne _ _ _ hne _), cnt2_wOps]
  unfold writesN wrN
  rw [List.take_length]
/-- is it what was there at first, or an installed version -/
def lastOK (h : Hist) (o : HOp) : Prop := o.tx = 0 ∨ (o.tx ∈ doneL h.txs ∧ (cnt2 (writesL h.txs) (o.tx, o.key) : Int) = o.nth)
instance (o : HOp) : Decidable (lastOK h o) := inferInstanceAs (Decidable (_ ∨ _))
theorem lastOK_iff (hr : rightB h = true) (o : HOp) : lastOK h o ↔ lastB h.txs ⟨o.tx, o.key, o.nth⟩ = true := by
  unfold lastOK lastB
  by_cases h0 : o.tx = 0
  · simp [h0]
  · rw [if_neg h0, done_mem hr]
    cases hd : doneT h.txs o.tx with
    | none => simp [h0]
    | some t =>
      have := writes_cnt hr hd o.key
      rw [this]
      simp [h0]
      exact eq_comm
theorem readE_cnt (ti : Int) (o : HOp) (e : Edge) : cnt2 (readE (doneL h.txs) (writesL h.txs) (nextsL h.ords) ti o) e =
    (if (o.tx ≠ ti ∧ lastOK h o) ∧ o.tx ≠ 0 ∧ e = ⟨o.tx, ti, 2, o.key⟩ then 1 else 0) + if (o.tx ≠ ti ∧ lastOK h o) ∧ (lastW (nextsL h.ords) (o.key, o.tx) ≠ 0 ∧ lastW (nextsL h.ords) (o.key, o.tx) ≠ ti) ∧ e = ⟨ti, lastW (nextsL h.ords) (o.key, o.tx), 3, o.key⟩ then 1 else 0 := by
  unfold readE lastOK
  by_cases h1 : o.tx = ti
  · rw [if_pos h1, if_neg (fun h => h.1.1 h1), if_neg (fun h => h.1.1 h1), cnt2_nil]
  · rw [if_neg h1]
    by_cases h2 : o.tx ≠ 0 ∧ o.tx ∉ doneL h.txs
    · rw [if_pos h2, cnt2_nil, if_neg, if_neg]
      · rintro ⟨⟨_, h3 | h3⟩, _⟩
        · exact h2.1 h3
        · exact h2.2 h3.1
      · rintro ⟨⟨_, h3 | h3⟩, _⟩
        · exact h2.1 h3
        · exact h2.2 h3.1
    · rw [if_neg h2]
      by_cases h3 : o.tx ≠ 0 ∧ (cnt2 (writesL h.txs) (o.tx, o.key) : Int) ≠ o.nth
      · rw [if_pos h3, cnt2_nil, if_neg, if_neg]
        · rintro ⟨⟨_, h4 | h4⟩, _⟩
          · exact h3.1 h4
          · exact h3.2 h4.2
        · rintro ⟨⟨_, h4 | h4⟩, _⟩
          · exact h3.1 h4
          · exact h3.2 h4.2
      · rw [if_neg h3, cnt2_append]
        have hL : o.tx = 0 ∨ (o.tx ∈ doneL h.txs ∧ (cnt2 (writesL h.txs) (o.tx, o.key) : Int) = o.nth) := by
          by_cases h0 : o.tx = 0
          · exact Or.inl h0
          · exact Or.inr ⟨Classical.byContradiction fun hh => h2 ⟨h0, hh⟩, Classical.byContradiction fun hh => h3 ⟨h0, hh⟩⟩
        congr 1
        · by_cases h0 : o.tx ≠ 0
          · rw [if_pos h0, cnt2_one]
            by_cases he : e = ⟨o.tx, ti, 2, o.key⟩
            · rw [if_pos he, if_pos ⟨⟨h1, hL⟩, h0, he⟩]
            · rw [if_neg he, if_neg (fun hh => he hh.2.2)]
          · rw [if_neg h0, cnt2_nil, if_neg (fun hh => h0 hh.2.1)]
        · by_cases h0 : lastW (nextsL h.ords) (o.key, o.tx) ≠ 0 ∧ lastW (nextsL h.ords) (o.key, o.tx) ≠ ti
          · rw [if_pos h0, cnt2_one]
            by_cases he : e = ⟨ti, lastW (nextsL h.ords) (o.key, o.tx), 3, o.key⟩
            · rw [if_pos he, if_pos ⟨⟨h1, hL⟩, h0, he⟩]
            · rw [if_neg he, if_neg (fun hh => he hh.2.2)]
          · rw [if_neg h0, cnt2_nil, if_neg (fun hh => h0 hh.2.1)]
theorem cnt2_ops (f : HOp → List Edge) (e : Edge) (p q : HOp → Bool) : ∀ l : List HOp, (∀ o ∈ l, (if q o = true then cnt2 (f o) e else 0) = if p o = true then 1 else 0) → cnt2 ((l.filter q).flatMap f) e = l.countP p
  | [], _ => rfl
  | o :: l, hh => by
    have ih := cnt2_ops f e p q l fun x hx => hh x (List.mem_cons_of_mem _ hx)
    have h1 := hh o (List.mem_cons_self ..)
    rw [List.countP_cons]
    by_cases hq : q o = true
    · rw [List.filter_cons_of_pos hq, List.flatMap_cons, cnt2_append, ih]
      rw [if_pos hq] at h1
      omega
    · rw [List.filter_cons_of_neg hq, ih]
      rw [if_neg hq] at h1
      omega
theorem cnt2_eq_zero (f : HOp → List Edge) (e : Edge) (q : HOp → Bool) (l : List HOp) (hh : ∀ o ∈ l, q o = true → cnt2 (f o) e = 0) : cnt2 ((l.filter q).flatMap f) e = 0 := by
  rw [cnt2_ops f e (fun _ => false) q l (fun o ho => by
    by_cases hq : q o = true
    · rw [if_pos hq, hh o ho hq]; rfl
    · rw [if_neg hq]; rfl)]
  simp
theorem rdL_zero (cnt : Int → Bool) (LD : List Int) (LW : List (Int × Int)) (LN : List ((Int × Int) × Int)) (e : Edge) (hh : ∀ u ∈ h.txs.filter (·.done), ∀ o ∈ u.ops, cnt2 (readE LD LW LN u.id o) e = 0) : cnt2 (rdL cnt LD LW LN h.txs) e = 0 := by
  unfold rdL
  exact cnt2_zero _ _ _ fun u hu => cnt2_eq_zero _ _ _ _ fun o ho _ => hh u hu o ho
theorem rdL_one (hr : rightB h = true) (cnt : Int → Bool) (LD : List Int) (LW : List (Int × Int)) (LN : List ((Int × Int) × Int)) (e : Edge) {t : HTx} (ht : t ∈ h.txs.filter (·.done)) (hh : ∀ u ∈ h.txs.filter (·.done), u.id ≠ t.id → ∀ o ∈ u.ops, cnt2 (readE LD LW LN u.id o) e = 0)
    (p : HOp → Bool) (hp : ∀ o ∈ t.ops, (if (o.read && cnt o.key) = true then cnt2 (readE LD LW LN t.id o) e else 0) = if p o = true then 1 else 0) : cnt2 (rdL cnt LD LW LN h.txs) e = t.ops.countP p := by
  unfold rdL
  rw [cnt2_flat (fun t => rdO cnt LD LW LN t.id t.ops) e _ (done_nodup hr) t ht (fun u hu hne => cnt2_eq_zero _ _ _ _ fun o ho _ => hh u hu hne o ho)]
  exact cnt2_ops _ _ _ _ _ hp
theorem mem_ww_iff (cnt : Int → Bool) (e : Edge) (hr : rightB h = true) : e ∈ wwL cnt h.ords ↔ e.k = 1 ∧ cnt e.key = true ∧ e.f ≠ 0 ∧ Nx h.ords e.key e.f e.t := by
  rw [mem_wwL]
  constructor
  · rintro ⟨h1, h2, o, ho, hk, i, h3, h4⟩
    refine ⟨h1, h2, fun e0 => ?_, o, ho, hk, i + 1, h3, h4⟩
    obtain ⟨_, _, h5⟩ := right_ord_mem hr ho (List.mem_of_getElem? h3)
    omega
  · rintro ⟨h1, h2, h0, o, ho, hk, i, h3, h4⟩
    refine ⟨h1, h2, o, ho, hk, ?_⟩
    cases i with
    | zero => exact absurd (by simpa using h3.symm) h0
    | succ i => exact ⟨i, h3, h4⟩
theorem find_zero (hr : rightB h = true) {t : HTx} (ht : doneT h.txs 0 = some t) : False := by
  have h1 := find_id (doneT_some ht).1
  have := right_id hr h1.1
  omega
/-- all is counted as the document counts it -/
theorem gCnt_eq (hr : rightB h = true) (cnt : Int → Bool) (e : Edge) : gCnt cnt h.txs h.ords e = if cnt e.key = true then cntR h e else 0 := by
  obtain ⟨ef, et, ek, ey⟩ := e
  unfold gCnt
  have hro := readE_cnt (h := h)
  by_cases k1 : ek = 1
  · subst k1
    rw [rdL_zero (h := h) cnt _ _ _ _ (fun u _ o _ => by rw [hro, if_neg (fun hh => by have := congrArg Edge.k hh.2.2; simp at this), if_neg (fun hh => by have := congrArg Edge.k hh.2.2; simp at this)])]
    unfold memF
    rw [Nat.add_zero]
    by_cases hc : cnt ey = true
    · rw [if_pos hc]
      by_cases hm : (⟨ef, et, 1, ey⟩ : Edge) ∈ wwL cnt h.ords
      · rw [if_pos hm]
        obtain ⟨_, _, h0, hx⟩ := (mem_ww_iff cnt _ hr).1 hm
        simp only at h0 hx
        obtain ⟨⟨t, ht⟩, h2, h3, h4⟩ := Nx.ids hr hx
        obtain ⟨a, ha⟩ := h4.resolve_left h0
        unfold cntR
        simp only [ha, ht, if_neg h3, if_true, (nextB_iff hr ey ef et).2 hx]
      · rw [if_neg hm]
        symm
        unfold cntR
        cases ha : doneT h.txs ef with
        | none => rfl
        | some a =>
          cases hb : doneT h.txs et with
          | none => rfl
          | some b =>
            simp only
            split
            · rfl
            · simp only [if_true]
              rw [if_neg]
              intro hn
              have hx := (nextB_iff hr ey ef et).1 hn
              refine hm ((mem_ww_iff cnt _ hr).2 ⟨rfl, hc, fun e0 => ?_, hx⟩)
              simp only at e0
              subst e0
              exact find_zero hr ha
    · rw [if_neg hc, if_neg (fun hm => hc ((mem_ww_iff cnt _ hr).1 hm).2.1)]
  · have hw : memF (wwL cnt h.ords) ⟨ef, et, ek, ey⟩ = 0 := by
      unfold memF
      rw [if_neg (fun hm => k1 ((mem_ww_iff cnt _ hr).1 hm).1)]
    rw [hw, Nat.zero_add]
    by_cases k2 : ek = 2
    · subst k2
      have hz : ∀ u ∈ h.txs.filter (·.done), u.id ≠ et → ∀ o ∈ u.ops, cnt2 (readE (doneL h.txs) (writesL h.txs) (nextsL h.ords) u.id o) (⟨ef, et, 2, ey⟩ : Edge) = 0 := fun u _ hne o _ => by
        rw [hro, if_neg (fun hh => hne (congrArg Edge.t hh.2.2).symm), if_neg (fun hh => by have := congrArg Edge.k hh.2.2; simp at this)]
      cases hb : doneT h.txs et with
      | none =>
        rw [rdL_zero (h := h) cnt _ _ _ _ (fun u hu o ho => hz u hu (fun e => by
          have := (done_mem hr et).1 (by unfold doneL; exact List.mem_map.2 ⟨u, hu, e⟩)
          rw [hb] at this
          obtain ⟨_, h9⟩ := this
          cases h9) o ho)]
        unfold cntR
        simp only [hb]
        cases doneT h.txs ef <;> simp
      | some b =>
        obtain ⟨hbm, hbi⟩ := doneT_mem hb
        have hz2 : ∀ u ∈ h.txs.filter (·.done), u.id ≠ b.id → ∀ o ∈ u.ops, cnt2 (readE (doneL h.txs) (writesL h.txs) (nextsL h.ords) u.id o) (⟨ef, et, 2, ey⟩ : Edge) = 0 := fun u hu hne => hz u hu (by rw [← hbi]; exact hne)
        cases ha : doneT h.txs ef with
        | none =>
          rw [rdL_zero (h := h) cnt _ _ _ _ (fun u hu o ho => by
            rw [hro, if_neg (c := _ ∧ o.tx ≠ 0 ∧ _), if_neg (fun hh => by have := congrArg Edge.k hh.2.2; simp at this)]
            rintro ⟨⟨_, h3⟩, h4, h5⟩
            rcases h3 with h3 | h3
            · exact h4 h3
            · obtain ⟨_, h6⟩ := (done_mem hr _).1 h3.1
              have e1 := congrArg Edge.f h5
              simp only at e1
              rw [← e1, ha] at h6
              cases h6)]
          unfold cntR
          simp [ha]
        | some a =>
          by_cases hft : ef = et
          · rw [rdL_zero (h := h) cnt _ _ _ _ (fun u hu o ho => by
              rw [hro, if_neg (c := _ ∧ o.tx ≠ 0 ∧ _), if_neg (fun hh => by have := congrArg Edge.k hh.2.2; simp at this)]
              rintro ⟨⟨h3, _⟩, h4, h5⟩
              have e1 := congrArg Edge.f h5
              have e2 := congrArg Edge.t h5
              simp only at e1 e2
              exact h3 (by rw [← e1, ← e2, hft]))]
            unfold cntR
            simp [hb, hft]
          · by_cases hc : cnt ey = true
            · rw [if_pos hc, rdL_one (h := h) hr cnt _ _ _ _ hbm hz2 (p2 ef ey (writesN a.ops ey)) (fun o ho => ?_)]
              · unfold cntR
                simp only [ha, hb, if_neg hft]
                rfl
              · rw [hro, if_neg (c := _ ∧ (_ ∧ _) ∧ _) (fun hh => by have := congrArg Edge.k hh.2.2; simp at this), Nat.add_zero]
                by_cases hp : p2 ef ey (writesN a.ops ey) o = true
                · rw [if_pos hp]
                  unfold p2 at hp
                  simp only [Bool.and_eq_true, beq_iff_eq] at hp
                  obtain ⟨⟨⟨q1, q2⟩, q3⟩, q4⟩ := hp
                  rw [if_pos (by rw [q1, q2, hc]; rfl), if_pos]
                  refine ⟨⟨by rw [q3, hbi]; exact hft, Or.inr ⟨by rw [q3]; exact (done_mem hr _).2 ⟨a, ha⟩, ?_⟩⟩, fun e0 => ?_, by rw [q3, q2, hbi]⟩
                  · rw [q3, q2, writes_cnt hr ha]; exact q4.symm
                  · rw [q3] at e0
                    subst e0
                    exact find_zero hr ha
                · rw [if_neg hp]
                  split
                  · rename_i hrd
                    rw [if_neg]
                    rintro ⟨⟨h3, h4⟩, h5, h6⟩
                    have e1 := congrArg Edge.f h6
                    have e2 := congrArg Edge.key h6
                    simp only at e1 e2
                    apply hp
                    unfold p2
                    rcases h4 with h4 | ⟨h4, h7⟩
                    · exact absurd h4 h5
                    · rw [← e1, ← e2, writes_cnt hr ha] at h7
                      rw [Bool.and_eq_true] at hrd
                      simp [hrd.1, ← e1, ← e2, h7]
                  · rfl
            · rw [if_neg hc, rdL_one (h := h) hr cnt _ _ _ _ hbm hz2 (fun _ => false) (fun o ho => by
                by_cases hq : (o.read && cnt o.key) = true
                · rw [if_pos hq, hro, if_neg, if_neg (fun hh => by have := congrArg Edge.k hh.2.2; simp at this)]
                  · rfl
                  · rintro ⟨_, _, h6⟩
                    have e2 := congrArg Edge.key h6
                    simp only at e2
                    rw [Bool.and_eq_true, ← e2] at hq
                    exact hc hq.2
                · rw [if_neg hq]; rfl)]
              simp
    · by_cases k3 : ek = 3
      · subst k3
        have hz : ∀ u ∈ h.txs.filter (·.done), u.id ≠ ef → ∀ o ∈ u.ops, cnt2 (readE (doneL h.txs) (writesL h.txs) (nextsL h.ords) u.id o) (⟨ef, et, 3, ey⟩ : Edge) = 0 := fun u _ hne o _ => by
          rw [hro, if_neg (c := _ ∧ o.tx ≠ 0 ∧ _) (fun hh => by have := congrArg Edge.k hh.2.2; simp at this), if_neg (fun hh => hne (congrArg Edge.f hh.2.2).symm)]
        cases ha : doneT h.txs ef with
        | none =>
          rw [rdL_zero (h := h) cnt _ _ _ _ (fun u hu o ho => hz u hu (fun e => by
            have := (done_mem hr ef).1 (by unfold doneL; exact List.mem_map.2 ⟨u, hu, e⟩)
            rw [ha] at this
            obtain ⟨_, h9⟩ := this
            cases h9) o ho)]
          unfold cntR
          simp [ha]
        | some a =>
          obtain ⟨ham, hai⟩ := doneT_mem ha
          have hz2 : ∀ u ∈ h.txs.filter (·.done), u.id ≠ a.id → ∀ o ∈ u.ops, cnt2 (readE (doneL h.txs) (writesL h.txs) (nextsL h.ords) u.id o) (⟨ef, et, 3, ey⟩ : Edge) = 0 := fun u hu hne => hz u hu (by rw [← hai]; exact hne)
          cases hb : doneT h.txs et with
          | none =>
            rw [rdL_zero (h := h) cnt _ _ _ _ (fun u hu o ho => by
              rw [hro, if_neg (c := _ ∧ o.tx ≠ 0 ∧ _) (fun hh => by have := congrArg Edge.k hh.2.2; simp at this), if_neg]
              rintro ⟨_, ⟨h3, h4⟩, h5⟩
              have e1 := congrArg Edge.t h5
              simp only at e1
              rcases last_nx hr o.key o.tx with h6 | h6
              · exact h3 h6.1
              · obtain ⟨⟨_, h7⟩, _⟩ := Nx.ids hr h6
                rw [← e1, hb] at h7
                cases h7)]
            unfold cntR
            simp [ha, hb]
          | some b =>
            by_cases hft : ef = et
            · rw [rdL_zero (h := h) cnt _ _ _ _ (fun u hu o ho => by
                rw [hro, if_neg (c := _ ∧ o.tx ≠ 0 ∧ _) (fun hh => by have := congrArg Edge.k hh.2.2; simp at this), if_neg]
                rintro ⟨_, ⟨h3, h4⟩, h5⟩
                have e1 := congrArg Edge.t h5
                have e2 := congrArg Edge.f h5
                simp only at e1 e2
                exact h4 (by rw [← e1, ← e2, hft]))]
              unfold cntR
              simp [hb, hft]
            · by_cases hc : cnt ey = true
              · rw [if_pos hc, rdL_one (h := h) hr cnt _ _ _ _ ham hz2 (p3 h a.id ey et) (fun o ho => ?_)]
                · unfold cntR
                  simp only [ha, hb, if_neg hft]
                  rfl
                · rw [hro, if_neg (c := _ ∧ o.tx ≠ 0 ∧ _) (fun hh => by have := congrArg Edge.k hh.2.2; simp at this), Nat.zero_add]
                  have het : et ≠ 0 := fun e0 => by subst e0; exact find_zero hr hb
                  by_cases hp : p3 h a.id ey et o = true
                  · rw [if_pos hp]
                    unfold p3 at hp
                    simp only [Bool.and_eq_true, beq_iff_eq, Bool.not_eq_true', beq_eq_false_iff_ne] at hp
                    obtain ⟨⟨⟨⟨q1, q2⟩, q3⟩, q4⟩, q5⟩ := hp
                    have hl := (last_iff hr ey o.tx et het).2 ((nextB_iff hr _ _ _).1 q5)
                    rw [if_pos (by rw [q1, q2, hc]; rfl), if_pos]
                    refine ⟨⟨q3, (lastOK_iff hr o).2 q4⟩, ⟨by rw [q2, hl]; exact het, by rw [q2, hl, hai]; exact fun e => hft e.symm⟩, by rw [q2, hl, hai]⟩
                  · rw [if_neg hp]
                    split
                    · rename_i hrd
                      rw [if_neg]
                      rintro ⟨⟨h3, h4⟩, ⟨h5, h6⟩, h7⟩
                      have e1 := congrArg Edge.t h7
                      have e2 := congrArg Edge.key h7
                      simp only at e1 e2
                      apply hp
                      unfold p3
                      rw [Bool.and_eq_true] at hrd
                      have h8 := (lastOK_iff hr o).1 h4
                      have h9 : nextB h.ords ey o.tx et = true := (nextB_iff hr _ _ _).2 ((last_iff hr ey o.tx et het).1 (by rw [e2]; exact e1.symm))
                      simp [hrd.1, ← e2, h3, h9]
                      rw [e2]; exact h8
                    · rfl
              · rw [if_neg hc, rdL_one (h := h) hr cnt _ _ _ _ ham hz2 (fun _ => false) (fun o ho => by
                  by_cases hq : (o.read && cnt o.key) = true
                  · rw [if_pos hq, hro, if_neg (c := _ ∧ o.tx ≠ 0 ∧ _) (fun hh => by have := congrArg Edge.k hh.2.2; simp at this), if_neg]
                    · rfl
                    · rintro ⟨_, _, h6⟩
                      have e2 := congrArg Edge.key h6
                      simp only at e2
                      rw [Bool.and_eq_true, ← e2] at hq
                      exact hc hq.2
                  · rw [if_neg hq]; rfl)]
                simp
      · rw [rdL_zero (h := h) cnt _ _ _ _ (fun u _ o _ => by rw [hro, if_neg (fun hh => k2 (congrArg Edge.k hh.2.2)), if_neg (fun hh => k3 (congrArg Edge.k hh.2.2))])]
        unfold cntR
        cases doneT h.txs ef <;> cases doneT h.txs et <;> simp [k1, k2, k3]
end
end Go.Proofs.Ytaicemjckagcaaa

/- Edges of a history, the document's: all edges are walked. -/
namespace Go.Proofs.Ytaicemjckagcaaa
set_option linter.unusedVariables false
open Go.RowKit
theorem txK_len : ∀ (txs : List HTx), (∀ t ∈ txs, t.ops.length ≤ 24) → (txK txs).length ≤ 24 * txs.length
  | [], _ => by simp [txK]
  | x :: l, h => by
    have h1 := txK_len l fun t ht => h t (List.mem_cons_of_mem _ ht)
    have h2 := h x (List.mem_cons_self ..)
    unfold txK at h1 ⊢
    rw [List.flatMap_cons, List.length_append, List.length_cons]
    unfold opK at h1 ⊢
    rw [List.length_map]
    omega
theorem allK_len (txs : List HTx) (h : ∀ t ∈ txs, t.ops.length ≤ 24) : (allK txs).length ≤ 24 * txs.length := by
  have h1 := putAll_len (txK txs) []
  have h2 := txK_len txs h
  unfold allK
  simp at h1
  omega
end Go.Proofs.Ytaicemjckagcaaa
