/- What the document tells of histories, in plain words; it is what the program tells. -/
import Derived.Test.YtgakhpdclhlmpaaGreatMan
namespace Go.Proofs.YtgakhpdclhlmpaaGreat
set_option linter.unusedVariables false
open Go.RowKit
theorem rise_eq {l m : List Int} (hl : l.Pairwise (· < ·)) (hm : m.Pairwise (· < ·)) (h : ∀ a, a ∈ l ↔ a ∈ m) : l = m :=
  sorted_eq ((List.perm_ext_iff_of_nodup (hl.imp fun h => Int.ne_of_lt h) (hm.imp fun h => Int.ne_of_lt h)).2 h) (hl.imp Int.le_of_lt) (hm.imp Int.le_of_lt)
theorem putL_set (xs : List Int) (n : Int) : putL n (setK xs) = setK (xs ++ [n]) :=
  rise_eq (putL_lt n _ (setK_lt xs)) (setK_lt _) fun a => by rw [mem_putL, mem_setK, mem_setK, List.mem_append, List.mem_singleton]; grind
/-- have two lists the same numbers -/
def permR (a b : List Int) : Bool := a.length == b.length && a.all fun x => a.count x == b.count x
theorem perm_of_count : ∀ (a b : List Int), a.length = b.length → (∀ x ∈ a, a.count x = b.count x) → a.Perm b
  | [], b, hl, _ => by
    have : b = [] := List.eq_nil_of_length_eq_zero (by simpa using hl.symm)
    subst this; exact List.Perm.refl _
  | x :: a, b, hl, h => by
    have hx := h x (List.mem_cons_self ..)
    have hxb : x ∈ b := by
      rw [List.count_cons_self] at hx
      exact List.count_pos_iff.1 (by omega)
    have hp := List.perm_cons_erase hxb
    refine ((perm_of_count a (b.erase x) ?_ fun y hy => ?_).cons x).trans hp.symm
    · have := hp.length_eq; simp only [List.length_cons] at *; omega
    · have h1 := h y (List.mem_cons_of_mem _ hy)
      rw [hp.count_eq] at h1
      simp only [List.count_cons] at h1
      omega
theorem permR_eq (a b : List Int) : permR a b = (sortK a == sortK b) := by
  rw [Bool.eq_iff_iff]
  unfold permR
  simp only [Bool.and_eq_true, beq_iff_eq, List.all_eq_true]
  constructor
  · rintro ⟨h1, h2⟩
    have hp := perm_of_count a b h1 h2
    exact sorted_eq (((sortK_perm a).trans hp).trans (sortK_perm b).symm) (sortK_le a) (sortK_le b)
  · intro h
    have hp : a.Perm b := ((sortK_perm a).symm.trans (by rw [h]; exact sortK_perm b))
    exact ⟨hp.length_eq, fun x _ => hp.count_eq x⟩

/-! keys -/
theorem keysG_set (tch : Bool) : ∀ (l : List HOp) (xs : List Int), keysG tch (setK xs) l = setK (xs ++ keysOf l fun o => tch || !o.read)
  | [], xs => by simp [keysG, keysOf]
  | o :: l, xs => by
    rw [keysG_cons]
    by_cases h : (tch || !o.read) = true
    · rw [if_pos h, putL_set, keysG_set tch l]
      unfold keysOf
      rw [List.filter_cons_of_pos (by exact h)]
      simp
    · rw [if_neg h, keysG_set tch l]
      unfold keysOf
      rw [List.filter_cons_of_neg (by exact h)]
theorem keysG_w (l : List HOp) : keysG false [] l = keysW l := by
  have := keysG_set false l []
  simpa [keysW, show setK [] = [] from rfl] using this
def keysH (s : List Int) : List HTx → List Int
  | [] => s
  | t :: l => keysH (if t.done then putAll s (keysW t.ops) else s) l
theorem mem_keysH (a : Int) : ∀ (l : List HTx) (s : List Int), a ∈ keysH s l ↔ a ∈ s ∨ ∃ t ∈ l, t.done = true ∧ a ∈ keysW t.ops
  | [], s => by simp [keysH]
  | t :: l, s => by
    show a ∈ keysH (if t.done then putAll s (keysW t.ops) else s) l ↔ _
    rw [mem_keysH a l]
    by_cases h : t.done = true
    · rw [if_pos h, mem_putAll]; simp only [List.mem_cons, exists_eq_or_imp, h]; grind
    · rw [if_neg h]; simp only [List.mem_cons, exists_eq_or_imp, h]; grind
theorem keysH_lt : ∀ (l : List HTx) (s : List Int), s.Pairwise (· < ·) → (keysH s l).Pairwise (· < ·)
  | [], _, h => h
  | t :: l, s, h => by
    show (keysH (if t.done then putAll s (keysW t.ops) else s) l).Pairwise (· < ·)
    refine keysH_lt l _ ?_
    split
    · exact putAll_lt _ _ h
    · exact h
theorem mem_addK (a : Int) : ∀ (l s : List Int), a ∈ addK s l ↔ a ∈ s ∨ a ∈ l
  | [], s => by simp [addK]
  | k :: l, s => by
    show a ∈ addK (if k ∈ s then s else s ++ [k]) l ↔ _
    rw [mem_addK a l]
    by_cases h : k ∈ s
    · rw [if_pos h, List.mem_cons]; grind
    · rw [if_neg h, List.mem_cons, List.mem_append, List.mem_singleton]; grind
theorem addK_nodup : ∀ (l s : List Int), s.Nodup → (addK s l).Nodup
  | [], _, h => h
  | k :: l, s, h => by
    show (addK (if k ∈ s then s else s ++ [k]) l).Nodup
    refine addK_nodup l _ ?_
    split
    · exact h
    · rename_i hk
      rw [List.nodup_append]
      exact ⟨h, by simp, fun a ha b hb => by rw [List.mem_singleton] at hb; subst hb; exact fun e => hk (e ▸ ha)⟩
theorem mem_wkeys (a : Int) : ∀ (l : List HTx) (s : List Int), a ∈ wkeys l s ↔ a ∈ s ∨ ∃ t ∈ l, t.done = true ∧ a ∈ keysW t.ops
  | [], s => by simp [wkeys]
  | t :: l, s => by
    show a ∈ wkeys l (if t.done then addK s (keysW t.ops) else s) ↔ _
    rw [mem_wkeys a l]
    by_cases h : t.done = true
    · rw [if_pos h, mem_addK]; simp only [List.mem_cons, exists_eq_or_imp, h]; grind
    · rw [if_neg h]; simp only [List.mem_cons, exists_eq_or_imp, h]; grind
theorem wkeys_nodup : ∀ (l : List HTx) (s : List Int), s.Nodup → (wkeys l s).Nodup
  | [], _, h => h
  | t :: l, s, h => by
    show (wkeys l (if t.done then addK s (keysW t.ops) else s)).Nodup
    refine wkeys_nodup l _ ?_
    split
    · exact addK_nodup _ _ h
    · exact h
theorem rise_nodup {l : List Int} (h : l.Pairwise (· < ·)) : l.Nodup := h.imp fun h => Int.ne_of_lt h
theorem keysH_perm (txs : List HTx) : (keysH [] txs).Perm (wkeys txs []) :=
  (List.perm_ext_iff_of_nodup (rise_nodup (keysH_lt txs [] List.Pairwise.nil)) (wkeys_nodup txs [] List.nodup_nil)).2 fun a => by rw [mem_keysH, mem_wkeys]
theorem keysH_len (txs : List HTx) : (keysH [] txs).length = (wkeys txs []).length := (keysH_perm txs).length_eq
theorem mem_writers (txs : List HTx) (key : Int) : (writersOf txs key) ≠ [] ↔ key ∈ keysH [] txs := by
  rw [mem_keysH]
  unfold writersOf
  rw [Ne, List.map_eq_nil_iff, List.filter_eq_nil_iff]
  simp only [List.contains_eq_mem, Bool.and_eq_true, decide_eq_true_eq]
  constructor
  · intro h
    right
    apply Classical.byContradiction
    intro hn
    exact h fun t ht hd => hn ⟨t, ht, hd⟩
  · rintro (h | ⟨t, ht, hd⟩) hn
    · cases h
    · exact hn t ht hd
theorem mem_keysW (l : List HOp) (key : Int) : key ∈ keysW l ↔ 0 < writesN l key := by
  unfold keysW writesN wrN keysOf
  rw [mem_setK, List.take_length, List.mem_map, List.length_pos_iff, Ne, List.filter_eq_nil_iff]
  unfold isW
  constructor
  · rintro ⟨o, ho, rfl⟩ hn
    rw [List.mem_filter] at ho
    exact hn o ho.1 (by rw [ho.2]; simp)
  · intro h
    apply Classical.byContradiction
    intro hn
    refine h fun o ho hw => hn ⟨o, ?_, ?_⟩
    · rw [List.mem_filter]; grind
    · grind
theorem needsFR_eq (id : Int) (o : HOp) : needsFR id o = needsF id o := by
  unfold needsFR needsF verOf
  cases h : o.read <;> simp
theorem needsS_pre (id : Int) (l : List HOp) : ∀ k, k ≤ l.length → needsS id (needsN id l k) (l.drop k) = needsS id [] l
  | 0, _ => rfl
  | k + 1, hk => by
    rw [← needsS_pre id l k (by omega), List.drop_eq_getElem_cons (show k < l.length by omega), needsS_cons, needsFR_eq]
    congr 1
    show (match l[k]? with | some o => _ | none => _) = _
    rw [List.getElem?_eq_getElem (show k < l.length by omega)]
theorem needsS_eq (id : Int) (l : List HOp) : needsS id [] l = needsL id l := by
  rw [← needsS_pre id l l.length (Nat.le_refl _), List.drop_length]
  rfl
/-! is a history right, by the document -/
def ordR (txs : List HTx) (keys : List Int) (ords : List HOrd) (i : Nat) : Bool :=
  match ords[i]?, keys[i]? with
  | some o, some k => o.key == k && permR o.txs (writersOf txs o.key)
  | _, _ => true
def rightR (h : Hist) : Bool :=
  decide (h.txs.length ≤ 4096) && (List.range h.txs.length).all (txOk h.txs) && h.ords.length == (keysH [] h.txs).length && (List.range h.ords.length).all (ordR h.txs (keysH [] h.txs) h.ords)
theorem rise_at {l : List Int} (h : ∀ i, i + 1 < l.length → l.getD i 0 < l.getD (i + 1) 0) : l.Pairwise (· < ·) := by
  have key : ∀ d i : Nat, i + d + 1 < l.length → l.getD i 0 < l.getD (i + d + 1) 0 := by
    intro d
    induction d with
    | zero => intro i hi; exact h i hi
    | succ d ih =>
      intro i hi
      have h1 := ih i (by omega)
      have h2 := h (i + d + 1) (by omega)
      exact Int.lt_trans h1 h2
  rw [List.pairwise_iff_getElem]
  intro i j hi hj hij
  have := key (j - i - 1) i (by omega)
  rw [show i + (j - i - 1) + 1 = j by omega] at this
  simpa [List.getD_eq_getElem?_getD, List.getElem?_eq_getElem hi, List.getElem?_eq_getElem hj] using this
theorem ordOk_at {txs : List HTx} {ords : List HOrd} {i : Nat} (hi : i < ords.length) : ordOk txs ords i = true ↔ (∀ j, j + 1 = i → (ords.map (·.key)).getD j 0 < ords[i].key) ∧ ords[i].txs ≠ [] ∧ permR ords[i].txs (writersOf txs ords[i].key) = true := by
  unfold ordOk
  rw [List.getElem?_eq_getElem hi, permR_eq]
  cases i with
  | zero => simp
  | succ j =>
    have hj : j < ords.length := by omega
    simp only [List.getElem?_eq_getElem hj]
    simp [List.getD_eq_getElem?_getD, List.getElem?_eq_getElem hj]
    grind
theorem rightR_eq (h : Hist) : rightR h = rightB h := by
  obtain ⟨txs, ords, A, c, B, d⟩ := h
  unfold rightR rightB
  simp only
  rw [keysH_len]
  by_cases hl : ords.length = (wkeys txs []).length
  · rw [show (ords.length == (wkeys txs []).length) = true by simpa using hl, show ((wkeys txs []).length == ords.length) = true by simpa using hl.symm]
    congr 1
    rw [Bool.eq_iff_iff, List.all_eq_true, List.all_eq_true]
    have hk := keysH_len txs
    have hkl := keysH_lt txs [] List.Pairwise.nil
    constructor
    · intro hr i hi
      have hi' : i < ords.length := List.mem_range.1 hi
      have hord : ∀ i (hi : i < ords.length), ords[i].key = (keysH [] txs)[i]'(by omega) ∧ permR ords[i].txs (writersOf txs ords[i].key) = true := fun i hi => by
        have := hr i (List.mem_range.2 hi)
        unfold ordR at this
        rw [List.getElem?_eq_getElem hi, List.getElem?_eq_getElem (show i < (keysH [] txs).length by omega)] at this
        simpa using this
      rw [ordOk_at hi']
      refine ⟨fun j hj => ?_, fun e => ?_, (hord i hi').2⟩
      · have hj' : j < ords.length := by omega
        rw [List.getD_eq_getElem?_getD, List.getElem?_map, List.getElem?_eq_getElem hj']
        simp only [Option.map_some, Option.getD_some]
        rw [(hord i hi').1, (hord j hj').1]
        exact List.pairwise_iff_getElem.1 hkl j i (by omega) (by omega) (by omega)
      · have h1 := (hord i hi').2
        rw [e, permR_eq, beq_iff_eq] at h1
        have h2 := (mem_writers txs ords[i].key).2 (by rw [(hord i hi').1]; exact List.getElem_mem _)
        have h3 := (sortK_perm (writersOf txs ords[i].key)).length_eq
        rw [← h1] at h3
        exact h2 (List.eq_nil_of_length_eq_zero h3.symm)
    · intro hr i hi
      have hi' : i < ords.length := List.mem_range.1 hi
      have hord := fun i (hi : i < ords.length) => (ordOk_at hi).1 (hr i (List.mem_range.2 hi))
      have hrise : (ords.map (·.key)).Pairwise (· < ·) := rise_at fun j hj => by
        rw [List.length_map] at hj
        have := (hord (j + 1) hj).1 j rfl
        rw [show (ords.map (·.key)).getD (j + 1) 0 = ords[j + 1].key by rw [List.getD_eq_getElem?_getD, List.getElem?_map, List.getElem?_eq_getElem hj]; rfl]
        exact this
      have hsub : ∀ k ∈ ords.map (·.key), k ∈ keysH [] txs := fun k hk => by
        obtain ⟨o, ho, rfl⟩ := List.mem_map.1 hk
        obtain ⟨j, hj, rfl⟩ := List.mem_iff_getElem.1 ho
        rw [← mem_writers]
        intro e
        have h1 := (hord j hj).2.2
        rw [e, permR_eq, beq_iff_eq] at h1
        have h3 := (sortK_perm ords[j].txs).length_eq
        rw [h1] at h3
        exact (hord j hj).2.1 (List.eq_nil_of_length_eq_zero h3.symm)
      have heq : ords.map (·.key) = keysH [] txs := by
        refine rise_eq hrise hkl fun a => ⟨hsub a, fun ha => ?_⟩
        apply Classical.byContradiction
        intro hn
        have := (List.nodup_cons.2 ⟨hn, rise_nodup hrise⟩).length_le_of_subset (l₂ := keysH [] txs) fun x hx => by
          rcases List.mem_cons.1 hx with rfl | hx
          · exact ha
          · exact hsub x hx
        rw [List.length_cons, List.length_map] at this
        omega
      unfold ordR
      rw [List.getElem?_eq_getElem hi', List.getElem?_eq_getElem (show i < (keysH [] txs).length by omega)]
      have e1 : (keysH [] txs)[i]'(by omega) = ords[i].key := by simp only [← heq, List.getElem_map]
      simp [e1, (hord i hi').2.2]
  · rw [show (ords.length == (wkeys txs []).length) = false by simpa using hl, show ((wkeys txs []).length == ords.length) = false by simpa using fun e => hl e.symm]
    simp
end Go.Proofs.YtgakhpdclhlmpaaGreat

/- Edges, reads and witnesses by the document, in plain words; for right histories they are what the program tells. -/
namespace Go.Proofs.YtgakhpdclhlmpaaGreat
set_option linter.unusedVariables false
open Go.RowKit
section
variable {h : Hist}
theorem right_txOk (hr : rightB h = true) {i : Nat} (hi : i < h.txs.length) : txOk h.txs i = true := by
  unfold rightB at hr
  simp only [Bool.and_eq_true, List.all_eq_true, List.mem_range] at hr
  exact hr.1.1.2 i hi
theorem right_rise (hr : rightB h = true) : (h.txs.map (·.id)).Pairwise (· < ·) := rise_at fun j hj => by
  rw [List.length_map] at hj
  have := right_txOk hr hj
  unfold txOk at this
  rw [List.getElem?_eq_getElem hj] at this
  simp only [Bool.and_eq_true] at this
  have h1 := this.1.1
  simp only [List.getElem?_eq_getElem (show j < h.txs.length by omega), decide_eq_true_eq] at h1
  rw [List.getD_eq_getElem?_getD, List.getD_eq_getElem?_getD, List.getElem?_map, List.getElem?_map, List.getElem?_eq_getElem hj, List.getElem?_eq_getElem (show j < h.txs.length by omega)]
  exact h1
theorem right_find (hr : rightB h = true) {t : HTx} (ht : t ∈ h.txs) : findT h.txs t.id = some t := by
  obtain ⟨k, hk, rfl⟩ := List.mem_iff_getElem.1 ht
  have hp := List.pairwise_iff_getElem.1 (right_rise hr)
  refine findT_some hk (fun j hj => ?_) (by simp)
  have := hp j k (by simp; omega) (by simpa using hk) hj
  simp only [List.getElem_map] at this
  rw [beq_eq_false_iff_ne]; omega
theorem find_id {txs : List HTx} {i : Int} {t : HTx} (hf : findT txs i = some t) : t ∈ txs ∧ t.id = i := by
  refine ⟨findT_mem hf, ?_⟩
  unfold findT at hf
  have := List.find?_some hf
  simpa using this
theorem right_parts (hr : rightB h = true) {t : HTx} (ht : t ∈ h.txs) : txErr t.id t.ops = 0 ∧ neededB h.txs t.id t.ops = true := by
  obtain ⟨k, hk, rfl⟩ := List.mem_iff_getElem.1 ht
  have := right_txOk hr hk
  unfold txOk at this
  rw [List.getElem?_eq_getElem hk] at this
  simp only [Bool.and_eq_true, beq_iff_eq] at this
  exact ⟨this.1.2, this.2⟩
theorem right_id (hr : rightB h = true) {t : HTx} (ht : t ∈ h.txs) : 1 ≤ t.id := by
  have := (right_parts hr ht).1
  unfold txErr at this
  split at this
  · cases this
  · rename_i hid
    unfold idB at hid
    simp at hid
    exact hid.1
theorem needs_mem (id : Int) (l : List HOp) : ∀ k, k ≤ l.length → ∀ j (hj : j < k) (hl : j < l.length), needsF id l[j] = true → verOf l[j] ∈ needsN id l k
  | 0, _, j, hj, _, _ => by omega
  | k + 1, hk, j, hj, hl, hn => by
    have ih := needs_mem id l k (by omega)
    show verOf l[j] ∈ (match l[k]? with | some o => _ | none => _)
    rw [List.getElem?_eq_getElem (show k < l.length by omega)]
    by_cases e : j = k
    · subst e
      simp only [hn, Bool.true_and]
      by_cases hc : verOf l[j] ∈ needsN id l j
      · simp [hc]
      · simp [hc]
    · have := ih j (by omega) hl hn
      simp only
      split
      · exact List.mem_append_left _ this
      · exact this
theorem right_has (hr : rightB h = true) {t : HTx} (ht : t ∈ h.txs) {o : HOp} (ho : o ∈ t.ops) (hn : needsF t.id o = true) : hasB h.txs (verOf o) = true := by
  have h1 := (right_parts hr ht).2
  unfold neededB at h1
  rw [List.all_eq_true] at h1
  obtain ⟨j, hj, rfl⟩ := List.mem_iff_getElem.1 ho
  exact h1 _ (needs_mem t.id t.ops _ (Nat.le_refl _) j hj hj hn)
theorem right_there (hr : rightB h = true) {t : HTx} (ht : t ∈ h.txs) {o : HOp} (ho : o ∈ t.ops) (hrd : o.read = true) (h0 : o.tx ≠ 0) (h1 : o.tx ≠ t.id) : ∃ u, findT h.txs o.tx = some u := by
  have hv : verOf o = ⟨o.tx, o.key, o.nth⟩ := by unfold verOf; rw [if_pos hrd]
  have := right_has hr ht ho (by unfold needsF; rw [hv]; simp [hrd, h0, h1])
  rw [hv] at this
  cases hf : findT h.txs o.tx with
  | some u => exact ⟨u, rfl⟩
  | none =>
    unfold hasB at this
    simp [h0, hf] at this
end
/-! how often there is a reason for an edge -/
def p2 (f key : Int) (n : Nat) (o : HOp) : Bool := o.read && o.key == key && o.tx == f && o.nth == (n : Int)
def p3 (h : Hist) (id key t : Int) (o : HOp) : Bool := o.read && o.key == key && !(o.tx == id) && lastB h.txs ⟨o.tx, o.key, o.nth⟩ && nextB h.ords key o.tx t
def cntR (h : Hist) (e : Edge) : Nat :=
  match doneT h.txs e.f, doneT h.txs e.t with
  | some a, some b =>
    if e.f = e.t then 0
    else if e.k = 1 then (if nextB h.ords e.key e.f e.t then 1 else 0)
    else if e.k = 2 then b.ops.countP (p2 e.f e.key (writesN a.ops e.key))
    else if e.k = 3 then a.ops.countP (p3 h a.id e.key e.t)
    else 0
  | _, _ => 0
def countR (h : Hist) (e : Edge) : Nat := if rightB h = true then cntR h e else 0
theorem doneT_some {txs : List HTx} {i : Int} {t : HTx} (hd : doneT txs i = some t) : findT txs i = some t ∧ t.done = true := by
  unfold doneT at hd
  split at hd
  · split at hd
    · rename_i u hf hu
      cases hd
      exact ⟨hf, hu⟩
    · cases hd
  · cases hd
theorem countP_any {α : Type} (p : α → Bool) (l : List α) : decide (0 < l.countP p) = l.any p := by
  rw [Bool.eq_iff_iff, decide_eq_true_eq, List.countP_pos_iff, List.any_eq_true]
theorem any_congr {α : Type} {p q : α → Bool} : ∀ {l : List α}, (∀ x ∈ l, p x = q x) → l.any p = l.any q
  | [], _ => rfl
  | a :: l, h => by
    rw [List.any_cons, List.any_cons, h a (List.mem_cons_self ..), any_congr fun x hx => h x (List.mem_cons_of_mem _ hx)]
theorem dec_ite (c : Prop) [Decidable c] (a b : Nat) : decide (0 < (if c then a else b)) = if c then decide (0 < a) else decide (0 < b) := by split <;> rfl
theorem cnt_edge {h : Hist} (hr : rightB h = true) (e : Edge) : decide (0 < cntR h e) = edgeB h e := by
  unfold cntR edgeB
  cases hd1 : doneT h.txs e.f with
  | none => rfl
  | some a =>
    cases hd2 : doneT h.txs e.t with
    | none => rfl
    | some b =>
      simp only [dec_ite]
      have ha := find_id (doneT_some hd1).1
      have hb := find_id (doneT_some hd2).1
      by_cases h0 : e.f = e.t
      · rw [if_pos h0, if_pos h0]; rfl
      · rw [if_neg h0, if_neg h0]
        by_cases h1 : e.k = 1
        · rw [if_pos h1, if_pos h1]
          cases nextB h.ords e.key e.f e.t <;> rfl
        · rw [if_neg h1, if_neg h1]
          by_cases h2 : e.k = 2
          · rw [if_pos h2, if_pos h2, countP_any]
            unfold readsB
            refine any_congr fun o _ => ?_
            unfold p2
            cases hrd : o.read
            · rfl
            · have hv : verOf o = ⟨o.tx, o.key, o.nth⟩ := by unfold verOf; rw [if_pos hrd]
              rw [hv]
              dsimp only
              by_cases hk : o.key = e.key
              · by_cases ht : o.tx = e.f
                · have h3 : (o.tx == b.id) = false := by rw [beq_eq_false_iff_ne, ht, hb.2]; exact h0
                  have hf0 : e.f ≠ 0 := by have := right_id hr ha.1; rw [ha.2] at this; omega
                  have h4 : lastB h.txs ⟨o.tx, o.key, o.nth⟩ = (o.nth == (writesN a.ops e.key : Int)) := by
                    unfold lastB
                    simp only [ht, hd1, if_neg hf0, hk]
                  rw [h3, h4]
                  simp [hk, ht]
                · have : (o.tx == e.f) = false := by rw [beq_eq_false_iff_ne]; exact ht
                  simp [this]
              · have : (o.key == e.key) = false := by rw [beq_eq_false_iff_ne]; exact hk
                simp [this]
          · rw [if_neg h2, if_neg h2]
            by_cases h3 : e.k = 3
            · rw [if_pos h3, if_pos h3, countP_any]
              unfold readsB
              refine any_congr fun o _ => ?_
              unfold p3
              cases hrd : o.read
              · rfl
              · have hv : verOf o = ⟨o.tx, o.key, o.nth⟩ := by unfold verOf; rw [if_pos hrd]
                rw [hv]
                simp [Bool.and_assoc]
            · rw [if_neg h3, if_neg h3]; rfl
/-! bad reads -/
def badO (txs : List HTx) (t : HTx) (p : Int) (o : HOp) : Bool :=
  t.done && o.read && !(o.tx == 0) && !(o.tx == t.id) && (match findT txs o.tx with | none => false | some u => if p = 2 then !u.done else p == 3 && decide (o.nth < (writesN u.ops o.key : Int)))
def badsT (txs : List HTx) (p : Int) (t : HTx) (i : Nat) (acc : List HBad) : List HOp → List HBad
  | [] => acc
  | o :: l => badsT txs p t (i + 1) (if badO txs t p o then acc ++ [⟨t.id, i, verOf o⟩] else acc) l
def badsL (txs : List HTx) (p : Int) (acc : List HBad) : List HTx → List HBad
  | [] => acc
  | t :: l => badsL txs p (badsT txs p t 0 acc t.ops) l
def badsR (h : Hist) (p : Int) : List HBad := if rightB h = true then badsL h.txs p [] h.txs else []
theorem mem_badsT (txs : List HTx) (p : Int) (t : HTx) (b : HBad) : ∀ (l : List HOp) (i : Nat) (acc : List HBad), b ∈ badsT txs p t i acc l ↔ b ∈ acc ∨ ∃ (j : Nat) (o : HOp), l[j]? = some o ∧ badO txs t p o = true ∧ b = ⟨t.id, ((i + j : Nat) : Int), verOf o⟩
  | [], i, acc => by simp [badsT]
  | o :: l, i, acc => by
    show b ∈ badsT txs p t (i + 1) (if badO txs t p o then acc ++ [⟨t.id, i, verOf o⟩] else acc) l ↔ _
    rw [mem_badsT txs p t b l]
    constructor
    · rintro (h | ⟨j, o', h1, h2, h3⟩)
      · by_cases hb : badO txs t p o = true
        · rw [if_pos hb, List.mem_append, List.mem_singleton] at h
          rcases h with h | h
          · exact .inl h
          · exact .inr ⟨0, o, rfl, hb, by simpa using h⟩
        · rw [if_neg hb] at h
          exact .inl h
      · exact .inr ⟨j + 1, o', by simpa using h1, h2, by rw [h3]; congr 2; omega⟩
    · rintro (h | ⟨j, o', h1, h2, h3⟩)
      · left
        split
        · exact List.mem_append_left _ h
        · exact h
      · cases j with
        | zero =>
          simp only [List.getElem?_cons_zero, Option.some.injEq] at h1
          subst h1
          left
          rw [if_pos h2, List.mem_append, List.mem_singleton]
          exact .inr (by simpa using h3)
        | succ j =>
          right
          exact ⟨j, o', by simpa using h1, h2, by rw [h3]; congr 2; omega⟩
theorem mem_badsL (txs : List HTx) (p : Int) (b : HBad) : ∀ (l : List HTx) (acc : List HBad), b ∈ badsL txs p acc l ↔ b ∈ acc ∨ ∃ t ∈ l, ∃ (j : Nat) (o : HOp), t.ops[j]? = some o ∧ badO txs t p o = true ∧ b = ⟨t.id, (j : Int), verOf o⟩
  | [], acc => by simp [badsL]
  | t :: l, acc => by
    show b ∈ badsL txs p (badsT txs p t 0 acc t.ops) l ↔ _
    rw [mem_badsL txs p b l, mem_badsT]
    simp only [Nat.zero_add, List.mem_cons, exists_eq_or_imp]
    grind
theorem bads_bad {h : Hist} (hr : rightB h = true) (p : Int) (b : HBad) : (badsR h p).contains b = badB h.txs p b := by
  unfold badsR
  rw [if_pos hr, Bool.eq_iff_iff, List.contains_eq_mem, decide_eq_true_eq, mem_badsL]
  constructor
  · rintro (h' | ⟨t, ht, j, o, h1, h2, rfl⟩)
    · cases h'
    · have hf := right_find hr ht
      unfold badO at h2
      simp only [Bool.and_eq_true] at h2
      obtain ⟨⟨⟨⟨hd, hrd⟩, h0⟩, hi⟩, hm⟩ := h2
      unfold badB doneT
      simp only [hf, hd, if_true]
      rw [if_neg (by omega)]
      simp only [Int.toNat_natCast, h1]
      simp only [Bool.not_eq_true', beq_eq_false_iff_ne] at h0 hi
      have hv : verOf o = ⟨o.tx, o.key, o.nth⟩ := by unfold verOf; rw [if_pos hrd]
      rw [if_neg (by simp [hrd, h0, hi])]
      cases hu : findT h.txs o.tx with
      | none => rw [hu] at hm; cases hm
      | some u =>
        rw [hu] at hm
        simp only at hm ⊢
        by_cases hp : p = 2
        · rw [if_pos hp] at hm ⊢; exact hm
        · rw [if_neg hp] at hm ⊢
          simp only [Bool.and_eq_true, beq_iff_eq] at hm
          rw [if_pos hm.1]; exact hm.2
  · intro hb
    right
    unfold badB at hb
    cases hd : doneT h.txs b.tx with
    | none => rw [hd] at hb; cases hb
    | some t =>
      rw [hd] at hb
      obtain ⟨hf, hdn⟩ := doneT_some hd
      have ht := find_id hf
      simp only at hb
      split at hb
      · cases hb
      · rename_i hpl
        cases ho : t.ops[b.place.toNat]? with
        | none => rw [ho] at hb; cases hb
        | some o =>
          rw [ho] at hb
          simp only at hb
          split at hb
          · cases hb
          · rename_i hc
            simp only [Bool.or_eq_true, Bool.not_eq_true', beq_iff_eq, not_or, Bool.not_eq_false, beq_eq_false_iff_ne, Classical.not_not] at hc
            obtain ⟨⟨⟨hrd, hv⟩, h0⟩, hi⟩ := hc
            have hmo := List.mem_of_getElem? ho
            obtain ⟨u, hu⟩ := right_there hr ht.1 hmo hrd h0 hi
            refine ⟨t, ht.1, b.place.toNat, o, ho, ?_, ?_⟩
            · unfold badO
              rw [hu] at hb ⊢
              simp only at hb ⊢
              simp only [hdn, hrd, Bool.true_and, Bool.and_eq_true]
              refine ⟨⟨by simpa using h0, by simpa using hi⟩, ?_⟩
              split at hb
              · rename_i hp; rw [if_pos hp]; exact hb
              · rename_i hp
                rw [if_neg hp]
                split at hb
                · rename_i hp3; simp [hp3]; simpa using hb
                · cases hb
            · obtain ⟨bt, bp, bo⟩ := b
              simp only at hv hpl ht ⊢
              rw [ht.2, hv, Int.toNat_of_nonneg (by omega)]
/-! witnesses -/
def bitB (m k : Int) : Bool := decide (1 ≤ k) && decide (k ≤ 3) && !(bits .and .i64 m (if k = 1 then 2 else if k = 2 then 4 else 8) == 0)
def ofM (l : List Edge) (m : Int) : List Edge := l.filter fun e => bitB m e.k
def acceptR (h : Hist) (p : Int) (l : List Edge) (b : HBad) : Bool :=
  rightB h && (if p = 2 ∨ p = 3 then decide (l.length = 0) && (badsR h p).contains b
    else !(maskP p == 0) && b == noBad && closedB l && l.all (fun e => decide (0 < countR h e)) && !(decide ((ofM l (maskP p)).length < l.length)) && (mustP p == 0 || decide (0 < (ofM l (mustP p)).length)))
theorem edge_kind {h : Hist} {e : Edge} (he : edgeB h e = true) : e.k = 1 ∨ e.k = 2 ∨ e.k = 3 := by
  unfold edgeB at he
  split at he
  · split at he
    · cases he
    · split at he
      · exact .inl ‹_›
      · split at he
        · exact .inr (.inl ‹_›)
        · split at he
          · exact .inr (.inr ‹_›)
          · cases he
  · cases he
theorem ofM_all (l : List Edge) (m : Int) : (!(decide ((ofM l m).length < l.length))) = l.all fun e => bitB m e.k := by
  unfold ofM
  rw [Bool.eq_iff_iff, List.all_eq_true, Bool.not_eq_true', decide_eq_false_iff_not]
  have h1 := List.length_filter_le (fun e : Edge => bitB m e.k) l
  constructor
  · intro h
    exact List.length_filter_eq_length_iff.1 (by omega)
  · intro h
    rw [List.length_filter_eq_length_iff.2 h]; omega
theorem ofM_any (l : List Edge) (m : Int) : decide (0 < (ofM l m).length) = l.any fun e => bitB m e.k := by
  unfold ofM
  rw [← countP_any, List.countP_eq_length_filter]
theorem hasK_any (l : List Edge) (k : Int) : hasK l l.length k = l.any fun e => e.k == k := by unfold hasK; rw [List.take_length]
theorem any_or2 {α : Type} (p q : α → Bool) : ∀ l : List α, (l.any fun e => p e || q e) = (l.any p || l.any q)
  | [] => rfl
  | a :: l => by
    rw [List.any_cons, List.any_cons, List.any_cons, any_or2 p q l]
    cases p a <;> cases q a <;> cases l.any p <;> cases l.any q <;> rfl
theorem kinds_acc (l : List Edge) (p : Int) (hp : ¬ maskP p = 0) (hk : ∀ e ∈ l, e.k = 1 ∨ e.k = 2 ∨ e.k = 3) :
    kindsOk (maskOf l) p = ((l.all fun e => bitB (maskP p) e.k) && (mustP p == 0 || l.any fun e => bitB (mustP p) e.k)) := by
  have c1 : ∀ e ∈ l, (e.k == 1 || e.k == 2 || e.k == 3) = true := fun e he => by simpa [or_assoc] using hk e he
  have h123 : p = 1 ∨ p = 4 ∨ p = 5 := by
    unfold maskP at hp
    apply Classical.byContradiction
    intro hn
    simp only [not_or] at hn
    rw [if_neg hn.1, if_neg hn.2.1, if_neg hn.2.2] at hp
    exact hp rfl
  have b2 : ∀ e ∈ l, bitB 2 e.k = !((e.k == 2) || (e.k == 3)) := fun e he => by rcases hk e he with h | h | h <;> rw [h] <;> decide
  have b6 : ∀ e ∈ l, bitB 6 e.k = !(e.k == 3) := fun e he => by rcases hk e he with h | h | h <;> rw [h] <;> decide
  have b14 : ∀ e ∈ l, bitB 14 e.k = true := fun e he => by rcases hk e he with h | h | h <;> rw [h] <;> decide
  have b8 : ∀ e ∈ l, bitB 8 e.k = (e.k == 3) := fun e he => by rcases hk e he with h | h | h <;> rw [h] <;> decide
  have hall : ∀ (p q : Edge → Bool), (∀ e ∈ l, p e = !(q e)) → l.all p = !(l.any q) := fun p q hpq => by
    rw [List.not_any_eq_all_not, Bool.eq_iff_iff, List.all_eq_true, List.all_eq_true]
    exact ⟨fun h e he => by rw [← hpq e he]; exact h e he, fun h e he => by rw [hpq e he]; exact h e he⟩
  unfold kindsOk maskOf
  rw [hasK_any, hasK_any, hasK_any]
  rcases h123 with rfl | rfl | rfl
  · have : (l.all fun e => bitB (maskP 1) e.k) = !((l.any fun e => e.k == 2) || (l.any fun e => e.k == 3)) := by
      rw [hall (fun e => bitB (maskP 1) e.k) (fun e => (e.k == 2) || (e.k == 3)) b2]
      congr 1
      exact any_or2 _ _ l
    rw [this]
    generalize (l.any fun e => bitB (mustP 1) e.k) = d
    generalize (l.any fun e => e.k == 1) = a
    generalize (l.any fun e => e.k == 2) = b
    generalize (l.any fun e => e.k == 3) = c
    cases a <;> cases b <;> cases c <;> cases d <;> decide
  · rw [hall (fun e => bitB (maskP 4) e.k) (fun e => e.k == 3) b6]
    generalize (l.any fun e => bitB (mustP 4) e.k) = d
    generalize (l.any fun e => e.k == 1) = a
    generalize (l.any fun e => e.k == 2) = b
    generalize (l.any fun e => e.k == 3) = c
    cases a <;> cases b <;> cases c <;> cases d <;> decide
  · have h1 : (l.all fun e => bitB (maskP 5) e.k) = true := List.all_eq_true.2 b14
    have h2 : (l.any fun e => bitB (mustP 5) e.k) = l.any fun e => e.k == 3 := any_congr b8
    rw [h1, h2]
    generalize (l.any fun e => e.k == 1) = a
    generalize (l.any fun e => e.k == 2) = b
    generalize (l.any fun e => e.k == 3) = c
    cases a <;> cases b <;> cases c <;> decide
theorem acceptR_eq (h : Hist) (p : Int) (l : List Edge) (b : HBad) : acceptR h p l b = acceptB h p l b := by
  unfold acceptR acceptB
  by_cases hr : rightB h = true
  · rw [hr, Bool.true_and, Bool.true_and]
    by_cases hp : p = 2 ∨ p = 3
    · rw [if_pos hp, if_pos hp, bads_bad hr]
    · rw [if_neg hp, if_neg hp]
      by_cases hm : maskP p = 0
      · rw [hm]; simp
      · have hall : (l.all fun e => decide (0 < countR h e)) = l.all (edgeB h) := by
          congr 1; funext e; unfold countR; rw [if_pos hr, cnt_edge hr]
        rw [hall, ofM_all, ofM_any]
        cases he : l.all (edgeB h)
        · simp
        · rw [kinds_acc l p hm fun e hel => edge_kind (List.all_eq_true.1 he e hel)]
          simp [Bool.and_assoc]
  · have : rightB h = false := by simpa using hr
    rw [this]; rfl
end Go.Proofs.YtgakhpdclhlmpaaGreat

/- The document: who is next, which version is the last one, which read may not be. -/
namespace Go.Proofs.YtgakhpdclhlmpaaGreat
set_option linter.unusedVariables false
open Go.RowKit
theorem idxS_pos (x : Int) : ∀ (l : List Int) (k : Nat), idxS x l k = if posI l x < l.length then ((posI l x + k : Nat) : Int) else -1
  | [], k => by simp [idxS, posI]
  | y :: l, k => by
    rw [idxS_cons, idxS_pos x l (k + 1)]
    unfold posI
    rw [List.findIdx_cons]
    by_cases h : y = x
    · rw [if_pos h, show (y == x) = true by simpa using h]
      simp
    · rw [if_neg h, show (y == x) = false by simpa using h]
      simp only [cond_false, List.length_cons]
      by_cases h2 : l.findIdx (· == x) < l.length
      · rw [if_pos h2, if_pos (by omega)]; congr 1; omega
      · rw [if_neg h2, if_neg (by omega)]
theorem idxS_eq (x : Int) (l : List Int) : idxS x l 0 = if posI l x < l.length then (posI l x : Int) else -1 := by
  rw [idxS_pos]; rfl
set_option maxRecDepth 100000 in
theorem rNext (F : Nat → Prop) (w : World) (A : Option Addr) (c : Nat) (l : List Int) (tx : Int) (h : Ints F w A l) (hl : l.length ≤ 17592186044415) :
    Calls Tryz.prog 45 #[.slice A l.length c, .int .i64 tx] w (Nexted w (nextI l tx)) := by
  have hidx := rindex F w A c l tx h hl
  rw [idxS_eq] at hidx
  by_cases h0 : tx = 0
  · have hn := Lib.hid (show nextI l tx = l[0]? by unfold nextI; rw [if_pos h0])
    have h0b : (tx == 0) = true := by simpa using h0
    obtain ⟨iv, hiv⟩ : ∃ iv, (if posI l tx < l.length then (posI l tx : Int) else -1) = iv := ⟨_, rfl⟩
    rw [hiv] at hidx
    have Hidx := Lib.hid hidx
    clear hidx hiv h0
    by_cases hz : l.length = 0
    · have hn2 := Lib.hid (show nextI l tx = none by rw [hn.out]; exact List.getElem?_eq_none (by omega))
      obtain rfl : l = [] := List.eq_nil_of_length_eq_zero hz
      clear hz
      go_enter Tryz.func45, Tryz.ntmps45
      go_wp2_with fail
      refine (Hidx.out).mono ?_
      rintro e w1 ⟨rfl, hu1⟩
      go_wp2
      go_ret2
      exact ⟨by rw [hn2.out]; rfl, hu1⟩
    · have hp : 0 < l.length := by omega
      have hn2 := Lib.hid (show nextI l tx = some l[0] by rw [hn.out]; exact List.getElem?_eq_getElem hp)
      have hpI : (0 : Int) < (l.length : Int) := by omega
      have hpI2 : ¬ l = [] := fun e => by rw [e] at hp; simp at hp
      have hC : ∀ W, Upd No w W → ∃ ad, A = some ad ∧ W.cell? ad = some (.int .i64 l[0]) := fun W hW => by
        obtain ⟨ad, hA, _, _, hc⟩ := (h.upd hW (fun _ _ => id)).at_ hp
        have ha : ad.add 0 = ad := by unfold Addr.add; simp
        rw [ha] at hc
        exact ⟨ad, hA, hc⟩
      obtain ⟨ad, rfl, _⟩ := hC w (Upd.refl _ _)
      have hc1 : ∀ W, Upd No w W → W.cell? ad = some (.int .i64 l[0]) := fun W hW => by
        obtain ⟨ad', e, hc⟩ := hC W hW
        cases e
        exact hc
      clear hz hC
      go_enter Tryz.func45, Tryz.ntmps45
      go_wp2_with fail
      refine (Hidx.out).mono ?_
      rintro e w1 ⟨rfl, hu1⟩
      go_wp2
      go_ret2
      exact ⟨by rw [hn2.out]; rfl, hu1⟩
  · have hn := Lib.hid (show nextI l tx = if posI l tx < l.length then l[posI l tx + 1]? else none by unfold nextI; rw [if_neg h0])
    have h0b : (tx == 0) = false := by simpa using h0
    clear h0
    by_cases hp : posI l tx < l.length
    · rw [if_pos hp] at hidx
      have Hidx := Lib.hid hidx
      clear hidx
      obtain ⟨k, hk⟩ : ∃ k, posI l tx = k := ⟨_, rfl⟩
      rw [hk] at Hidx hn hp
      clear hk
      have hk0 : (0 : Int) ≤ (k : Int) + 1 := by omega
      by_cases he : k + 1 = l.length
      · have hn2 := Lib.hid (show nextI l tx = none by rw [hn.out, if_pos hp]; exact List.getElem?_eq_none (by omega))
        have heb : (l.length : Int) ≤ (k : Int) + 1 := by omega
        have He := Lib.hid he
        clear he
        go_enter Tryz.func45, Tryz.ntmps45
        go_wp2_with fail
        refine (Hidx.out).mono ?_
        rintro e w1 ⟨rfl, hu1⟩
        go_wp2
        go_ret2
        exact ⟨by rw [hn2.out]; rfl, hu1⟩
      · have hlt : k + 1 < l.length := by omega
        have hn2 := Lib.hid (show nextI l tx = some l[k + 1] by rw [hn.out, if_pos hp]; exact List.getElem?_eq_getElem hlt)
        have heb : ¬ (l.length : Int) ≤ (k : Int) + 1 := by omega
        obtain ⟨ad, hA, _, _, _⟩ := h.at_ hlt
        subst hA
        have hc2 : ∀ W, Upd No w W → W.cell? ⟨ad.block, ad.off + (k + 1), none⟩ = some (.int .i64 l[k + 1]) := fun W hW => by
          obtain ⟨ad', e, _, _, hc⟩ := (h.upd hW (fun _ _ => id)).at_ hlt
          cases e
          rw [← hc]
          congr 1
        have hltI : (k : Int) + 1 < (l.length : Int) := by omega
        clear he
        go_enter Tryz.func45, Tryz.ntmps45
        go_wp2_with fail
        refine (Hidx.out).mono ?_
        rintro e w1 ⟨rfl, hu1⟩
        go_wp2
        go_ret2
        exact ⟨by rw [hn2.out]; rfl, hu1⟩
    · rw [if_neg hp] at hidx
      have Hidx := Lib.hid hidx
      clear hidx
      have hn2 := Lib.hid (show nextI l tx = none by rw [hn.out, if_neg hp])
      clear hp
      go_enter Tryz.func45, Tryz.ntmps45
      go_wp2_with fail
      refine (Hidx.out).mono ?_
      rintro e w1 ⟨rfl, hu1⟩
      go_wp2
      go_ret2
      exact ⟨by rw [hn2.out]; rfl, hu1⟩
end Go.Proofs.YtgakhpdclhlmpaaGreat
