/- What the document tells of histories, in plain words; it is what the program tells. -/
import Derived.Test.YtaicemjckagcaaaGreatMaw
import Derived.Test.YtaicemjckagcaaaGreatMbd
import Derived.Test.YtaicemjckagcaaaGreatMbj
namespace Go.Proofs.YtaicemjckagcaaaGreat
set_option linter.unusedVariables false
open Go.RowKit
theorem rise_eq {l m : List Int} (hl : l.Pairwise (· < ·)) (hm : m.Pairwise (· < ·)) (h : ∀ a, a ∈ l ↔ a ∈ m) : l = m :=
  sorted_eq ((List.perm_ext_iff_of_nodup (hl.imp fun h => Int.ne_of_lt h) (hm.imp fun h => Int.ne_of_lt h)).2 h) (hl.imp Int.le_of_lt) (hm.imp Int.le_of_lt)
theorem putL_set (xs : List Int) (n : Int) : putL n (setK xs) = setK (xs ++ [n]) :=
  rise_eq (putL_lt n _ (setK_lt xs)) (setK_lt _) fun a => by rw [mem_putL, mem_setK, mem_setK, List.mem_append, List.mem_singleton]; grind
/-- have two lists the same numbers -/
def permR (a b : List Int) : Bool := a.length == b.length && a.all fun x => a.count x == b.count x
theorem perm_of_count : ∀ (a b : List Int), a.length = b.length → (∀ x ∈ a, a.count x = b.count x) → a.Perm b
  | [], b, hl, _ => by
    have : b = [] := List.eq_nil_of_length_eq_zero (by simpa using hl.symm)
    subst this; exact List.Perm.refl _
  | x :: a, b, hl, h => by
    have hx := h x (List.mem_cons_self ..)
    have hxb : x ∈ b := by
      rw [List.count_cons_self] at hx
      exact List.count_pos_iff.1 (by omega)
    have hp := List.perm_cons_erase hxb
    refine ((perm_of_count a (b.erase x) ?_ fun y hy => ?_).cons x).trans hp.symm
    · have := hp.length_eq; simp only [List.length_cons] at *; omega
    · have h1 := h y (List.mem_cons_of_mem _ hy)
      rw [hp.count_eq] at h1
      simp only [List.count_cons] at h1
      omega
theorem permR_eq (a b : List Int) : permR a b = (sortK a == sortK b) := by
  rw [Bool.eq_iff_iff]
  unfold permR
  simp only [Bool.and_eq_true, beq_iff_eq, List.all_eq_true]
  constructor
  · rintro ⟨h1, h2⟩
    have hp := perm_of_count a b h1 h2
    exact sorted_eq (((sortK_perm a).trans hp).trans (sortK_perm b).symm) (sortK_le a) (sortK_le b)
  · intro h
    have hp : a.Perm b := ((sortK_perm a).symm.trans (by rw [h]; exact sortK_perm b))
    exact ⟨hp.length_eq, fun x _ => hp.count_eq x⟩

/-! keys -/
theorem keysG_set (tch : Bool) : ∀ (l : List HOp) (xs : List Int), keysG tch (setK xs) l = setK (xs ++ keysOf l fun o => tch || !o.read)
  | [], xs => by simp [keysG, keysOf]
  | o :: l, xs => by
    rw [keysG_cons]
    by_cases h : (tch || !o.read) = true
    · rw [if_pos h, putL_set, keysG_set tch l]
      unfold keysOf
      rw [List.filter_cons_of_pos (by exact h)]
      simp
    · rw [if_neg h, keysG_set tch l]
      unfold keysOf
      rw [List.filter_cons_of_neg (by exact h)]
theorem keysG_w (l : List HOp) : keysG false [] l = keysW l := by
  have := keysG_set false l []
  simpa [keysW, show setK [] = [] from rfl] using this
def keysH (s : List Int) : List HTx → List Int
  | [] => s
  | t :: l => keysH (if t.done then putAll s (keysW t.ops) else s) l
theorem mem_keysH (a : Int) : ∀ (l : List HTx) (s : List Int), a ∈ keysH s l ↔ a ∈ s ∨ ∃ t ∈ l, t.done = true ∧ a ∈ keysW t.ops
  | [], s => by simp [keysH]
  | t :: l, s => by
    show a ∈ keysH (if t.done then putAll s (keysW t.ops) else s) l ↔ _
    rw [mem_keysH a l]
    by_cases h : t.done = true
    · rw [if_pos h, mem_putAll]; simp only [List.mem_cons, exists_eq_or_imp, h]; grind
    · rw [if_neg h]; simp only [List.mem_cons, exists_eq_or_imp, h]; grind
theorem keysH_lt : ∀ (l : List HTx) (s : List Int), s.Pairwise (· < ·) → (keysH s l).Pairwise (· < ·)
  | [], _, h => h
  | t :: l, s, h => by
    show (keysH (if t.done then putAll s (keysW t.ops) else s) l).Pairwise (· < ·)
    refine keysH_lt l _ ?_
    split
    · exact putAll_lt _ _ h
    · exact h
theorem mem_addK (a : Int) : ∀ (l s : List Int), a ∈ addK s l ↔ a ∈ s ∨ a ∈ l
  | [], s => by simp [addK]
  | k :: l, s => by
    show a ∈ addK (if k ∈ s then s else s ++ [k]) l ↔ _
    rw [mem_addK a l]
    by_cases h : k ∈ s
    · rw [if_pos h, List.mem_cons]; grind
    · rw [if_neg h, List.mem_cons, List.mem_append, List.mem_singleton]; grind
theorem addK_nodup : ∀ (l s : List Int), s.Nodup → (addK s l).Nodup
  | [], _, h => h
  | k :: l, s, h => by
    show (addK (if k ∈ s then s else s ++ [k]) l).Nodup
    refine addK_nodup l _ ?_
    split
    · exact h
    · rename_i hk
      rw [List.nodup_append]
      exact ⟨h, by simp, fun a ha b hb => by rw [List.mem_singleton] at hb; subst hb; exact fun e => hk (e ▸ ha)⟩
theorem mem_wkeys (a : Int) : ∀ (l : List HTx) (s : List Int), a ∈ wkeys l s ↔ a ∈ s ∨ ∃ t ∈ l, t.done = true ∧ a ∈ keysW t.ops
  | [], s => by simp [wkeys]
  | t :: l, s => by
    show a ∈ wkeys l (if t.done then addK s (keysW t.ops) else s) ↔ _
    rw [mem_wkeys a l]
    by_cases h : t.done = true
    · rw [if_pos h, mem_addK]; simp only [List.mem_cons, exists_eq_or_imp, h]; grind
    · rw [if_neg h]; simp only [List.mem_cons, exists_eq_or_imp, h]; grind
theorem wkeys_nodup : ∀ (l : List HTx) (s : List Int), s.Nodup → (wkeys l s).Nodup
  | [], _, h => h
  | t :: l, s, h => by
    show (wkeys l (if t.done then addK s (keysW t.ops) else s)).Nodup
    refine wkeys_nodup l _ ?_
    split
    · exact addK_nodup _ _ h
    · exact h
theorem rise_nodup {l : List Int} (h : l.Pairwise (· < ·)) : l.Nodup := h.imp fun h => Int.ne_of_lt h
theorem keysH_perm (txs : List HTx) : (keysH [] txs).Perm (wkeys txs []) :=
  (List.perm_ext_iff_of_nodup (rise_nodup (keysH_lt txs [] List.Pairwise.nil)) (wkeys_nodup txs [] List.nodup_nil)).2 fun a => by rw [mem_keysH, mem_wkeys]
theorem keysH_len (txs : List HTx) : (keysH [] txs).length = (wkeys txs []).length := (keysH_perm txs).length_eq
theorem mem_writers (txs : List HTx) (key : Int) : (writersOf txs key) ≠ [] ↔ key ∈ keysH [] txs := by
  rw [mem_keysH]
  unfold writersOf
  rw [Ne, List.map_eq_nil_iff, List.filter_eq_nil_iff]
  simp only [List.contains_eq_mem, Bool.and_eq_true, decide_eq_true_eq]
  constructor
  · intro h
    right
    apply Classical.byContradiction
    intro hn
    exact h fun t ht hd => hn ⟨t, ht, hd⟩
  · rintro (h | ⟨t, ht, hd⟩) hn
    · cases h
    · exact hn t ht hd
theorem mem_keysW (l : List HOp) (key : Int) : key ∈ keysW l ↔ 0 < writesN l key := by
  unfold keysW writesN wrN keysOf
  rw [mem_setK, List.take_length, List.mem_map, List.length_pos_iff, Ne, List.filter_eq_nil_iff]
  unfold isW
  constructor
  · rintro ⟨o, ho, rfl⟩ hn
    rw [List.mem_filter] at ho
    exact hn o ho.1 (by rw [ho.2]; simp)
  · intro h
    apply Classical.byContradiction
    intro hn
    refine h fun o ho hw => hn ⟨o, ?_, ?_⟩
    · rw [List.mem_filter]; grind
    · grind
theorem needsFR_eq (id : Int) (o : HOp) : needsFR id o = needsF id o := by
  unfold needsFR needsF verOf
  cases h : o.read <;> simp
theorem needsS_pre (id : Int) (l : List HOp) : ∀ k, k ≤ l.length → needsS id (needsN id l k) (l.drop k) = needsS id [] l
  | 0, _ => rfl
  | k + 1, hk => by
    rw [← needsS_pre id l k (by omega), List.drop_eq_getElem_cons (show k < l.length by omega), needsS_cons, needsFR_eq]
    congr 1
    show (match l[k]? with | some o => _ | none => _) = _
    rw [List.getElem?_eq_getElem (show k < l.length by omega)]
theorem needsS_eq (id : Int) (l : List HOp) : needsS id [] l = needsL id l := by
  rw [← needsS_pre id l l.length (Nat.le_refl _), List.drop_length]
  rfl
/-! is a history right, by the document -/
def ordR (txs : List HTx) (keys : List Int) (ords : List HOrd) (i : Nat) : Bool :=
  match ords[i]?, keys[i]? with
  | some o, some k => o.key == k && permR o.txs (writersOf txs o.key)
  | _, _ => true
def rightR (h : Hist) : Bool :=
  decide (h.txs.length ≤ 4096) && (List.range h.txs.length).all (txOk h.txs) && h.ords.length == (keysH [] h.txs).length && (List.range h.ords.length).all (ordR h.txs (keysH [] h.txs) h.ords)
theorem rise_at {l : List Int} (h : ∀ i, i + 1 < l.length → l.getD i 0 < l.getD (i + 1) 0) : l.Pairwise (· < ·) := by
  have key : ∀ d i : Nat, i + d + 1 < l.length → l.getD i 0 < l.getD (i + d + 1) 0 := by
    intro d
    induction d with
    | zero => intro i hi; exact h i hi
    | succ d ih =>
      intro i hi
      have h1 := ih i (by omega)
      have h2 := h (i + d + 1) (by omega)
      exact Int.lt_trans h1 h2
  rw [List.pairwise_iff_getElem]
  intro i j hi hj hij
  have := key (j - i - 1) i (by omega)
  rw [show i + (j - i - 1) + 1 = j by omega] at this
  simpa [List.getD_eq_getElem?_getD, List.getElem?_eq_getElem hi, List.getElem?_eq_getElem hj] using this
theorem ordOk_at {txs : List HTx} {ords : List HOrd} {i : Nat} (hi : i < ords.length) : ordOk txs ords i = true ↔ (∀ j, j + 1 = i → (ords.map (·.key)).getD j 0 < ords[i].key) ∧ ords[i].txs ≠ [] ∧ permR ords[i].txs (writersOf txs ords[i].key) = true := by
  unfold ordOk
  rw [List.getElem?_eq_getElem hi, permR_eq]
  cases i with
  | zero => simp
  | succ j =>
    have hj : j < ords.length := by omega
    simp only [List.getElem?_eq_getElem hj]
    simp [List.getD_eq_getElem?_getD, List.getElem?_eq_getElem hj]
    grind
theorem rightR_eq (h : Hist) : rightR h = rightB h := by
  obtain ⟨txs, ords, A, c, B, d⟩ := h
  unfold rightR rightB
  simp only
  rw [keysH_len]
  by_cases hl : ords.length = (wkeys txs []).length
  · rw [show (ords.length == (wkeys txs []).length) = true by simpa using hl, show ((wkeys txs []).length == ords.length) = true by simpa using hl.symm]
    congr 1
    rw [Bool.eq_iff_iff, List.all_eq_true, List.all_eq_true]
    have hk := keysH_len txs
    have hkl := keysH_lt txs [] List.Pairwise.nil
    constructor
    · intro hr i hi
      have hi' : i < ords.length := List.mem_range.1 hi
      have hordL : ∀ i (hi : i < ords.length), ords[i].key = (keysH [] txs)[i]'(by omega) ∧ permR ords[i].txs (writersOf txs ords[i].key) = true := fun i hi => by
        have := hr i (List.mem_range.2 hi)
        unfold ordR at this
        rw [List.getElem?_eq_getElem hi, List.getElem?_eq_getElem (show i < (keysH [] txs).length by omega)] at this
        simpa using this
      rw [ordOk_at hi']
      refine ⟨fun j hj => ?_, fun e => ?_, (hordL i hi').2⟩
      · have hj' : j < ords.length := by omega
        rw [List.getD_eq_getElem?_getD, List.getElem?_map, List.getElem?_eq_getElem hj']
        simp only [Option.map_some, Option.getD_some]
        rw [(hordL i hi').1, (hordL j hj').1]
        exact List.pairwise_iff_getElem.1 hkl j i (by omega) (by omega) (by omega)
      · have h1 := (hordL i hi').2
        rw [e, permR_eq, beq_iff_eq] at h1
        have h2 := (mem_writers txs ords[i].key).2 (by rw [(hordL i hi').1]; exact List.getElem_mem _)
        have h3 := (sortK_perm (writersOf txs ords[i].key)).length_eq
        rw [← h1] at h3
        exact h2 (List.eq_nil_of_length_eq_zero h3.symm)
    · intro hr i hi
      have hi' : i < ords.length := List.mem_range.1 hi
      have hordL := fun i (hi : i < ords.length) => (ordOk_at hi).1 (hr i (List.mem_range.2 hi))
      have hrise : (ords.map (·.key)).Pairwise (· < ·) := rise_at fun j hj => by
        rw [List.length_map] at hj
        have := (hordL (j + 1) hj).1 j rfl
        rw [show (ords.map (·.key)).getD (j + 1) 0 = ords[j + 1].key by rw [List.getD_eq_getElem?_getD, List.getElem?_map, List.getElem?_eq_getElem hj]; rfl]
        exact this
      have hsub : ∀ k ∈ ords.map (·.key), k ∈ keysH [] txs := fun k hk => by
        obtain ⟨o, ho, rfl⟩ := List.mem_map.1 hk
        obtain ⟨j, hj, rfl⟩ := List.mem_iff_getElem.1 ho
        rw [← mem_writers]
        intro e
        have h1 := (hordL j hj).2.2
        rw [e, permR_eq, beq_iff_eq] at h1
        have h3 := (sortK_perm ords[j].txs).length_eq
        rw [h1] at h3
        exact (hordL j hj).2.1 (List.eq_nil_of_length_eq_zero h3.symm)
      have heq : ords.map (·.key) = keysH [] txs := by
        refine rise_eq hrise hkl fun a => ⟨hsub a, fun ha => ?_⟩
        apply Classical.byContradiction
        intro hn
        have := (List.nodup_cons.2 ⟨hn, rise_nodup hrise⟩).length_le_of_subset (l₂ := keysH [] txs) fun x hx => by
          rcases List.mem_cons.1 hx with rfl | hx
          · exact ha
          · exact hsub x hx
        rw [List.length_cons, List.length_map] at this
        omega
      unfold ordR
      rw [List.getElem?_eq_getElem hi', List.getElem?_eq_getElem (show i < (keysH [] txs).length by omega)]
      have e1 : (keysH [] txs)[i]'(by omega) = ords[i].key := by simp only [← heq, List.getElem_map]
      simp [e1, (hordL i hi').2.2]
  · rw [show (ords.length == (wkeys txs []).length) = false by simpa using hl, show ((wkeys txs []).length == ords.length) = false by simpa using fun e => hl e.symm]
    simp
end Go.Proofs.YtaicemjckagcaaaGreat

/- Edges, reads and witnesses by the document, in plain words; for right histories they are what the program tells. -/
namespace Go.Proofs.YtaicemjckagcaaaGreat
set_option linter.unusedVariables false
open Go.RowKit
section
variable {h : Hist}
theorem right_txOk (hr : rightB h = true) {i : Nat} (hi : i < h.txs.length) : txOk h.txs i = true := by
  unfold rightB at hr
  simp only [Bool.and_eq_true, List.all_eq_true, List.mem_range] at hr
  exact hr.1.1.2 i hi
theorem right_rise (hr : rightB h = true) : (h.txs.map (·.id)).Pairwise (· < ·) := rise_at fun j hj => by
  rw [List.length_map] at hj
  have := right_txOk hr hj
  unfold txOk at this
  rw [List.getElem?_eq_getElem hj] at this
  simp only [Bool.and_eq_true] at this
  have h1 := this.1.1
  simp only [List.getElem?_eq_getElem (show j < h.txs.length by omega), decide_eq_true_eq] at h1
  rw [List.getD_eq_getElem?_getD, List.getD_eq_getElem?_getD, List.getElem?_map, List.getElem?_map, List.getElem?_eq_getElem hj, List.getElem?_eq_getElem (show j < h.txs.length by omega)]
  exact h1
theorem right_find (hr : rightB h = true) {t : HTx} (ht : t ∈ h.txs) : findT h.txs t.id = some t := by
  obtain ⟨k, hk, rfl⟩ := List.mem_iff_getElem.1 ht
  have hp := List.pairwise_iff_getElem.1 (right_rise hr)
  refine findT_some hk (fun j hj => ?_) (by simp)
  have := hp j k (by simp; omega) (by simpa using hk) hj
  simp only [List.getElem_map] at this
  rw [beq_eq_false_iff_ne]; omega
theorem find_id {txs : List HTx} {i : Int} {t : HTx} (hf : findT txs i = some t) : t ∈ txs ∧ t.id = i := by
  refine ⟨findT_mem hf, ?_⟩
  unfold findT at hf
  have := List.find?_some hf
  simpa using this
theorem right_parts (hr : rightB h = true) {t : HTx} (ht : t ∈ h.txs) : txErr t.id t.ops = 0 ∧ neededB h.txs t.id t.ops = true := by
  obtain ⟨k, hk, rfl⟩ := List.mem_iff_getElem.1 ht
  have := right_txOk hr hk
  unfold txOk at this
  rw [List.getElem?_eq_getElem hk] at this
  simp only [Bool.and_eq_true, beq_iff_eq] at this
  exact ⟨this.1.2, this.2⟩
theorem right_id (hr : rightB h = true) {t : HTx} (ht : t ∈ h.txs) : 1 ≤ t.id := by
  have := (right_parts hr ht).1
  unfold txErr at this
  split at this
  · cases this
  · rename_i hid
    unfold idB at hid
    simp at hid
    exact hid.1
end
/-! how often there is a reason for an edge -/
def p2 (f key : Int) (n : Nat) (o : HOp) : Bool := o.read && o.key == key && o.tx == f && o.nth == (n : Int)
def p3 (h : Hist) (id key t : Int) (o : HOp) : Bool := o.read && o.key == key && !(o.tx == id) && lastB h.txs ⟨o.tx, o.key, o.nth⟩ && nextB h.ords key o.tx t
def cntR (h : Hist) (e : Edge) : Nat :=
  match doneT h.txs e.f, doneT h.txs e.t with
  | some a, some b =>
    if e.f = e.t then 0
    else if e.k = 1 then (if nextB h.ords e.key e.f e.t then 1 else 0)
    else if e.k = 2 then b.ops.countP (p2 e.f e.key (writesN a.ops e.key))
    else if e.k = 3 then a.ops.countP (p3 h a.id e.key e.t)
    else 0
  | _, _ => 0
def countR (h : Hist) (e : Edge) : Nat := if rightB h = true then cntR h e else 0
theorem doneT_some {txs : List HTx} {i : Int} {t : HTx} (hd : doneT txs i = some t) : findT txs i = some t ∧ t.done = true := by
  unfold doneT at hd
  split at hd
  · split at hd
    · rename_i u hf hu
      cases hd
      exact ⟨hf, hu⟩
    · cases hd
  · cases hd
/-! bad reads -/
/-! witnesses -/
end Go.Proofs.YtaicemjckagcaaaGreat

/- The document: who is next, which version is the last one, which read may not be. -/
namespace Go.Proofs.YtaicemjckagcaaaGreat
set_option linter.unusedVariables false
open Go.RowKit
theorem idxS_pos (x : Int) : ∀ (l : List Int) (k : Nat), idxS x l k = if posI l x < l.length then ((posI l x + k : Nat) : Int) else -1
  | [], k => by simp [idxS, posI]
  | y :: l, k => by
    rw [idxS_cons, idxS_pos x l (k + 1)]
    unfold posI
    rw [List.findIdx_cons]
    by_cases h : y = x
    · rw [if_pos h, show (y == x) = true by simpa using h]
      simp
    · rw [if_neg h, show (y == x) = false by simpa using h]
      simp only [cond_false, List.length_cons]
      by_cases h2 : l.findIdx (· == x) < l.length
      · rw [if_pos h2, if_pos (by omega)]; congr 1; omega
      · rw [if_neg h2, if_neg (by omega)]
theorem idxS_eq (x : Int) (l : List Int) : idxS x l 0 = if posI l x < l.length then (posI l x : Int) else -1 := by
  rw [idxS_pos]; rfl
set_option maxRecDepth 100000 in
theorem rNext (F : Nat → Prop) (w : World) (A : Option Addr) (c : Nat) (l : List Int) (tx : Int) (h : Ints F w A l) (hl : l.length ≤ 17592186044415) :
    Calls Tryz.prog 104 #[.slice A l.length c, .int .i64 tx] w (Nexted w (nextI l tx)) := by
  have hidx := rindex F w A c l tx h hl
  rw [idxS_eq] at hidx
  by_cases h0 : tx = 0
  · have hn := Lib.hid (show nextI l tx = l[0]? by unfold nextI; rw [if_pos h0])
    have h0b : (tx == 0) = true := by simpa using h0
    obtain ⟨iv, hiv⟩ : ∃ iv, (if posI l tx < l.length then (posI l tx : Int) else -1) = iv := ⟨_, rfl⟩
    rw [hiv] at hidx
    have Hidx := Lib.hid hidx
    clear hidx hiv h0
    by_cases hz : l.length = 0
    · have hn2 := Lib.hid (show nextI l tx = none by rw [hn.out]; exact List.getElem?_eq_none (by omega))
      obtain rfl : l = [] := List.eq_nil_of_length_eq_zero hz
      clear hz
      go_enter Tryz.func104, Tryz.ntmps104
      go_wp2_with fail
      refine (Hidx.out).mono ?_
      rintro e w1 ⟨rfl, hu1⟩
      go_wp2
      go_ret2
      exact ⟨by rw [hn2.out]; rfl, hu1⟩
    · have hp : 0 < l.length := by omega
      have hn2 := Lib.hid (show nextI l tx = some l[0] by rw [hn.out]; exact List.getElem?_eq_getElem hp)
      have hpI : (0 : Int) < (l.length : Int) := by omega
      have hpI2 : ¬ l = [] := fun e => by rw [e] at hp; simp at hp
      have hC : ∀ W, Upd No w W → ∃ ad, A = some ad ∧ W.cell? ad = some (.int .i64 l[0]) := fun W hW => by
        obtain ⟨ad, hA, _, _, hc⟩ := (h.upd hW (fun _ _ => id)).at_ hp
        have ha : ad.add 0 = ad := by unfold Addr.add; simp
        rw [ha] at hc
        exact ⟨ad, hA, hc⟩
      obtain ⟨ad, rfl, _⟩ := hC w (Upd.refl _ _)
      have hc1 : ∀ W, Upd No w W → W.cell? ad = some (.int .i64 l[0]) := fun W hW => by
        obtain ⟨ad', e, hc⟩ := hC W hW
        cases e
        exact hc
      clear hz hC
      go_enter Tryz.func104, Tryz.ntmps104
      go_wp2_with fail
      refine (Hidx.out).mono ?_
      rintro e w1 ⟨rfl, hu1⟩
      go_wp2
      go_ret2
      exact ⟨by rw [hn2.out]; rfl, hu1⟩
  · have hn := Lib.hid (show nextI l tx = if posI l tx < l.length then l[posI l tx + 1]? else none by unfold nextI; rw [if_neg h0])
    have h0b : (tx == 0) = false := by simpa using h0
    clear h0
    by_cases hp : posI l tx < l.length
    · rw [if_pos hp] at hidx
      have Hidx := Lib.hid hidx
      clear hidx
      obtain ⟨k, hk⟩ : ∃ k, posI l tx = k := ⟨_, rfl⟩
      rw [hk] at Hidx hn hp
      clear hk
      have hk0 : (0 : Int) ≤ (k : Int) + 1 := by omega
      by_cases he : k + 1 = l.length
      · have hn2 := Lib.hid (show nextI l tx = none by rw [hn.out, if_pos hp]; exact List.getElem?_eq_none (by omega))
        have heb : (l.length : Int) ≤ (k : Int) + 1 := by omega
        have He := Lib.hid he
        clear he
        go_enter Tryz.func104, Tryz.ntmps104
        go_wp2_with fail
        refine (Hidx.out).mono ?_
        rintro e w1 ⟨rfl, hu1⟩
        go_wp2
        go_ret2
        exact ⟨by rw [hn2.out]; rfl, hu1⟩
      · have hlt : k + 1 < l.length := by omega
        have hn2 := Lib.hid (show nextI l tx = some l[k + 1] by rw [hn.out, if_pos hp]; exact List.getElem?_eq_getElem hlt)
        have heb : ¬ (l.length : Int) ≤ (k : Int) + 1 := by omega
        obtain ⟨ad, hA, _, _, _⟩ := h.at_ hlt
        subst hA
        have hc2 : ∀ W, Upd No w W → W.cell? ⟨ad.block, ad.off + (k + 1), none⟩ = some (.int .i64 l[k + 1]) := fun W hW => by
          obtain ⟨ad', e, _, _, hc⟩ := (h.upd hW (fun _ _ => id)).at_ hlt
          cases e
          rw [← hc]
          congr 1
        have hltI : (k : Int) + 1 < (l.length : Int) := by omega
        clear he
        go_enter Tryz.func104, Tryz.ntmps104
        go_wp2_with fail
        refine (Hidx.out).mono ?_
        rintro e w1 ⟨rfl, hu1⟩
        go_wp2
        go_ret2
        exact ⟨by rw [hn2.out]; rfl, hu1⟩
    · rw [if_neg hp] at hidx
      have Hidx := Lib.hid hidx
      clear hidx
      have hn2 := Lib.hid (show nextI l tx = none by rw [hn.out, if_neg hp])
      clear hp
      go_enter Tryz.func104, Tryz.ntmps104
      go_wp2_with fail
      refine (Hidx.out).mono ?_
      rintro e w1 ⟨rfl, hu1⟩
      go_wp2
      go_ret2
      exact ⟨by rw [hn2.out]; rfl, hu1⟩
end Go.Proofs.YtaicemjckagcaaaGreat

/- Looking at a history: reads that may not be. -/
namespace Go.Proofs.YtaicemjckagcaaaGreat
set_option linter.unusedVariables false
open Go.RowKit
def udone (txs : List HTx) (i : Int) : Bool := match findT txs i with | some u => u.done | none => false
def uops (txs : List HTx) (i : Int) : List HOp := match findT txs i with | some u => u.ops | none => []
section
variable {txs : List HTx} {p : Int} {b : HBad}
end
end Go.Proofs.YtaicemjckagcaaaGreat

/- The document: which version is the last one, which reads may not be. -/
namespace Go.Proofs.YtaicemjckagcaaaGreat
set_option linter.unusedVariables false
open Go.RowKit
theorem lastR_zero {txs : List HTx} {v : Ver} (h : v.tx = 0) : lastB txs v = true := by unfold lastB; rw [if_pos h]
theorem lastR_none {txs : List HTx} {v : Ver} (h : ¬ v.tx = 0) (hf : findT txs v.tx = none) : lastB txs v = false := by unfold lastB doneT; rw [if_neg h, hf]
theorem lastR_some {txs : List HTx} {v : Ver} {t : HTx} (h : ¬ v.tx = 0) (hf : findT txs v.tx = some t) : lastB txs v = (t.done && v.nth == (writesN t.ops v.key : Int)) := by
  unfold lastB doneT; rw [if_neg h, hf]
  cases hd : t.done <;> simp [hd]
set_option maxRecDepth 100000 in
set_option maxHeartbeats 1000000 in
theorem rLast (F : Nat → Prop) (w : World) (txs : List HTx) (ords : List HOrd) (A : Option Addr) (c : Nat) (B : Option Addr) (d : Nat) (o : HOp) (H : Hist.lies F w ⟨txs, ords, A, c, B, d⟩) :
    Calls Tryz.prog 105 #[.agg #[.slice A txs.length c, .slice B ords.length d], .agg o.cells.toArray] w fun e w' => e = .returned (.bool (lastB txs ⟨o.tx, o.key, o.nth⟩)) ∧ Upd No w w' := by
  obtain ⟨rd, ky, tx, nt⟩ := o
  unfold HOp.cells
  simp only
  have u0 := ((Upd.refl No w).alloc (.cells #[.slice A txs.length c, .slice B ords.length d] 25)).alloc (.cells #[.bool rd, .int .i64 ky, .int .i64 tx, .int .i64 nt] 96)
  have bH := Lib.hid ((Blk.new w 25 [.slice A txs.length c, .slice B ords.length d]).alloc (.cells #[.bool rd, .int .i64 ky, .int .i64 tx, .int .i64 nt] 96))
  have b1 := Blk.new (w.alloc (.cells #[.slice A txs.length c, .slice B ords.length d] 25)) 96 [.bool rd, .int .i64 ky, .int .i64 tx, .int .i64 nt]
  simp only [World.size_alloc] at b1
  have bX := Lib.hid b1
  have U0 := Lib.hid u0
  clear b1 u0
  have HH := Lib.hid (H.upd U0.out (fun _ _ => id))
  by_cases h0 : tx = 0
  · have HV := Lib.hid (lastR_zero (txs := txs) (v := ⟨tx, ky, nt⟩) h0)
    have hb : (tx == 0) = true := by simpa using h0
    clear h0
    go_enter Tryz.func105, Tryz.ntmps105
    go_wp2
    go_ret
    exact ⟨by rw [HV.out]; rfl, U0.out⟩
  · have hb : (tx == 0) = false := by simpa using h0
    cases hf : findT txs tx with
    | none =>
      have HV := Lib.hid (lastR_none (txs := txs) (v := ⟨tx, ky, nt⟩) h0 hf)
      have HF := Lib.hid hf
      clear hf h0
      go_enter Tryz.func105, Tryz.ntmps105
      go_wp2_with fail
      refine (rfind_none HH.out HF.out).mono ?_
      rintro e w1 ⟨rfl, hu1⟩
      have uT := hu1.alloc (.cells #[.int .i64 0, .bool false, .slice none 0 0] 47)
      clear hu1
      go_wp2
      refine wp_region_noPanic ?_
      refine wp_region_held_drew (S := (fun w' => Upd No (w1.alloc (.cells #[.int .i64 0, .bool false, .slice none 0 0] 47)) w')) (by kernel_rfl) ?_ (fun hHeld => ?_)
      · (first | exact (Upd.refl No _).drew | exact hHeld.trans hu3)
      refine wpT 0 ⟨some 17, .move (.tmp 6), 4, "ref.go:50", #[], none⟩ ?_ (.inl ⟨by rfl, ?_⟩) ?_
      rotate_left
      · (intro W hSw; (try dsimp only at hSw); go_simp; try (with_reducible rfl))
      try simp only [Act.put]
      try simp only [List.setIfInBounds_toArray]
      try simp only [List.set_cons_succ]
      try simp only [List.set_cons_zero]
      refine wpT 1 ⟨some 18, .move (.tmp 17), 4, "ref.go:50", #[⟨0, .data⟩], none⟩ ?_ (.inl ⟨by rfl, ?_⟩) ?_
      rotate_left
      · (intro W hSw; (try dsimp only at hSw); go_simp; try (with_reducible rfl))
      try simp only [Act.put]
      try simp only [List.setIfInBounds_toArray]
      try simp only [List.set_cons_succ]
      try simp only [List.set_cons_zero]
      refine wpT 2 ⟨some 19, .fieldAddr 47 (.tmp 5) 1, 0, "ref.go:50", #[⟨1, .guard⟩], some (1, true)⟩ undef (.inr ⟨by rfl, rfl⟩) ?_
      try simp only [Act.put]
      try simp only [List.setIfInBounds_toArray]
      try simp only [List.set_cons_succ]
      try simp only [List.set_cons_zero]
      refine wpT 3 ⟨some 20, .load 4 (.tmp 19), 4, "ref.go:50", #[⟨2, .data⟩, ⟨1, .guard⟩], some (1, true)⟩ undef (.inr ⟨by rfl, rfl⟩) ?_
      try simp only [Act.put]
      try simp only [List.setIfInBounds_toArray]
      try simp only [List.set_cons_succ]
      try simp only [List.set_cons_zero]
      refine wpT 4 ⟨some 21, .pick (.tmp 18) (.tmp 20) (.const (.bool false)), 4, "ref.go:50", #[⟨1, .data⟩, ⟨3, .data⟩], none⟩ ?_ (.inl ⟨by rfl, ?_⟩) ?_
      rotate_left
      · (intro W hSw; (try dsimp only at hSw); go_simp; try (with_reducible rfl))
      try simp only [Act.put]
      try simp only [List.setIfInBounds_toArray]
      try simp only [List.set_cons_succ]
      try simp only [List.set_cons_zero]
      refine wpT 5 ⟨some 22, .move (.tmp 21), 4, "ref.go:50", #[⟨4, .data⟩, ⟨1, .chain⟩], none⟩ ?_ (.inl ⟨by rfl, ?_⟩) ?_
      rotate_left
      · (intro W hSw; (try dsimp only at hSw); go_simp; try (with_reducible rfl))
      try simp only [Act.put]
      try simp only [List.setIfInBounds_toArray]
      try simp only [List.set_cons_succ]
      try simp only [List.set_cons_zero]
      refine wpT 6 ⟨some 23, .fieldAddr 96 (.tmp 3) 3, 0, "ref.go:50", #[⟨5, .guard⟩], some (5, true)⟩ undef (.inr ⟨by rfl, rfl⟩) ?_
      try simp only [Act.put]
      try simp only [List.setIfInBounds_toArray]
      try simp only [List.set_cons_succ]
      try simp only [List.set_cons_zero]
      refine wpT 7 ⟨some 24, .load 3 (.tmp 23), 3, "ref.go:50", #[⟨6, .data⟩, ⟨5, .guard⟩], some (5, true)⟩ undef (.inr ⟨by rfl, rfl⟩) ?_
      try simp only [Act.put]
      try simp only [List.setIfInBounds_toArray]
      try simp only [List.set_cons_succ]
      try simp only [List.set_cons_zero]
      refine wpT 8 ⟨some 25, .fieldAddr 47 (.tmp 5) 2, 0, "ref.go:50", #[⟨5, .guard⟩], some (5, true)⟩ undef (.inr ⟨by rfl, rfl⟩) ?_
      try simp only [Act.put]
      try simp only [List.setIfInBounds_toArray]
      try simp only [List.set_cons_succ]
      try simp only [List.set_cons_zero]
      refine wpT 9 ⟨some 26, .load 45 (.tmp 25), 45, "ref.go:50", #[⟨8, .data⟩, ⟨5, .guard⟩], some (5, true)⟩ undef (.inr ⟨by rfl, rfl⟩) ?_
      try simp only [Act.put]
      try simp only [List.setIfInBounds_toArray]
      try simp only [List.set_cons_succ]
      try simp only [List.set_cons_zero]
      refine wpT 10 ⟨some 27, .fieldAddr 96 (.tmp 3) 1, 0, "ref.go:50", #[⟨5, .guard⟩], some (5, true)⟩ undef (.inr ⟨by rfl, rfl⟩) ?_
      try simp only [Act.put]
      try simp only [List.setIfInBounds_toArray]
      try simp only [List.set_cons_succ]
      try simp only [List.set_cons_zero]
      refine wpT 11 ⟨some 28, .load 3 (.tmp 27), 3, "ref.go:50", #[⟨10, .data⟩, ⟨5, .guard⟩], some (5, true)⟩ undef (.inr ⟨by rfl, rfl⟩) ?_
      try simp only [Act.put]
      try simp only [List.setIfInBounds_toArray]
      try simp only [List.set_cons_succ]
      try simp only [List.set_cons_zero]
      refine wpAnyH_ready (rs := [12]) (by kernel_rfl) (by simp) ?_
      refine AllReadyH.cons (o := ⟨some 29, .call { callee := .value (.func 57), args := #[.tmp 26, .tmp 28], argTypes := #[45, 3] }, 3, "ref.go:50", #[⟨9, .data⟩, ⟨11, .data⟩, ⟨5, .chain⟩, ⟨5, .guard⟩], some (5, true)⟩) rfl (fun K hK => ?_) AllReadyH.nil
      go_simp
      refine hK.out _ _ ?_ (fun hHeld => ?_)
      · exact hHeld
      clear hK K
      try simp only [Act.put]
      try simp only [List.setIfInBounds_toArray]
      try simp only [List.set_cons_succ]
      try simp only [List.set_cons_zero]
      refine wpT 13 ⟨some 30, .binOp .eql 3 (.tmp 24) (.tmp 29) 3, 4, "ref.go:50", #[⟨7, .data⟩, ⟨12, .data⟩, ⟨5, .guard⟩], some (5, true)⟩ undef (.inr ⟨by rfl, rfl⟩) ?_
      try simp only [Act.put]
      try simp only [List.setIfInBounds_toArray]
      try simp only [List.set_cons_succ]
      try simp only [List.set_cons_zero]
      refine wpT 14 ⟨some 31, .pick (.tmp 22) (.tmp 30) (.const (.bool false)), 4, "ref.go:50", #[⟨5, .data⟩, ⟨13, .data⟩], none⟩ ?_ (.inl ⟨by rfl, ?_⟩) ?_
      rotate_left
      · (intro W hSw; (try dsimp only at hSw); go_simp; try (with_reducible rfl))
      try simp only [Act.put]
      try simp only [List.setIfInBounds_toArray]
      try simp only [List.set_cons_succ]
      try simp only [List.set_cons_zero]
      refine wpT 15 ⟨some 4, .assign (.tmp 31), 4, "ref.go:50", #[⟨14, .data⟩, ⟨12, .chain⟩, ⟨0, .phase⟩, ⟨1, .phase⟩, ⟨2, .phase⟩, ⟨3, .phase⟩, ⟨4, .phase⟩, ⟨5, .phase⟩, ⟨6, .phase⟩, ⟨7, .phase⟩, ⟨8, .phase⟩, ⟨9, .phase⟩, ⟨10, .phase⟩, ⟨11, .phase⟩, ⟨12, .phase⟩, ⟨13, .phase⟩, ⟨14, .phase⟩], none⟩ ?_ (.inl ⟨by rfl, ?_⟩) ?_
      rotate_left
      · (intro W hSw; (try dsimp only at hSw); go_simp; try (with_reducible rfl))
      try simp only [Act.put]
      try simp only [List.setIfInBounds_toArray]
      try simp only [List.set_cons_succ]
      try simp only [List.set_cons_zero]
      refine wpAnyH_done (by kernel_rfl) (NoPanic.normal ?_) _
      have HU := Lib.hid (U0.out.trans (uT.trans hHeld))
      clear hHeld
      go_wp2
      go_ret
      exact ⟨by rw [HV.out]; rfl, HU.out⟩
    | some t =>
      have HV := Lib.hid (lastR_some (txs := txs) (v := ⟨tx, ky, nt⟩) h0 hf)
      have HF := Lib.hid hf
      have HT := Lib.hid (H.tx t (find_mem hf))
      clear hf h0
      obtain ⟨ti, td, tO, tA, tc⟩ := t
      go_enter Tryz.func105, Tryz.ntmps105
      go_wp2_with fail
      refine (rfind_some HH.out HF.out).mono ?_
      rintro e w1 ⟨A1, c1, rfl, hc1, hh1, hu1⟩
      simp only at hc1 hh1 HV
      have bT := Blk.new w1 47 [.int .i64 ti, .bool td, .slice A1 tO.length c1]
      have uT := hu1.alloc (.cells #[.int .i64 ti, .bool td, .slice A1 tO.length c1] 47)
      have t1 : ∀ W, Upd No (w1.alloc (.cells #[.int .i64 ti, .bool td, .slice A1 tO.length c1] 47)) W → W.cell? ⟨w1.heap.size, 1, none⟩ = some (.bool td) := fun W hW => (bT.upd hW id).cell 1
      have t2 : ∀ W, Upd No (w1.alloc (.cells #[.int .i64 ti, .bool td, .slice A1 tO.length c1] 47)) W → W.cell? ⟨w1.heap.size, 2, none⟩ = some (.slice A1 tO.length c1) := fun W hW => (bT.upd hW id).cell 2
      have x1 : ∀ W, Upd No (w1.alloc (.cells #[.int .i64 ti, .bool td, .slice A1 tO.length c1] 47)) W → W.cell? ⟨w.heap.size + 1, 1, none⟩ = some (.int .i64 ky) := fun W hW => (bX.out.upd (uT.trans hW) id).cell 1
      have x3 : ∀ W, Upd No (w1.alloc (.cells #[.int .i64 ti, .bool td, .slice A1 tO.length c1] 47)) W → W.cell? ⟨w.heap.size + 1, 3, none⟩ = some (.int .i64 nt) := fun W hW => (bX.out.upd (uT.trans hW) id).cell 3
      have HW := Lib.hid fun W (hW : Upd No (w1.alloc (.cells #[.int .i64 ti, .bool td, .slice A1 tO.length c1] 47)) W) => rwrites F W A1 c1 tO ky (HOps.upd hh1 (((Upd.refl No _).alloc _).trans hW) (fun _ _ => id)) HT.out.2.2.1
      have UT := Lib.hid uT
      clear bT uT hu1 hh1
      cases td
      · go_wp2
        refine wp_region_noPanic ?_
        refine wp_region_held_drew (S := (fun w' => Upd No (w1.alloc (.cells #[.int .i64 ti, .bool false, .slice A1 tO.length c1] 47)) w')) (by kernel_rfl) ?_ (fun hHeld => ?_)
        · (first | exact (Upd.refl No _).drew | exact hHeld.trans hu3)
        refine wpT 0 ⟨some 17, .move (.tmp 6), 4, "ref.go:50", #[], none⟩ ?_ (.inl ⟨by rfl, ?_⟩) ?_
        rotate_left
        · (intro W hSw; (try dsimp only at hSw); go_simp; try (with_reducible rfl))
        try simp only [Act.put]
        try simp only [List.setIfInBounds_toArray]
        try simp only [List.set_cons_succ]
        try simp only [List.set_cons_zero]
        refine wpT 1 ⟨some 18, .move (.tmp 17), 4, "ref.go:50", #[⟨0, .data⟩], none⟩ ?_ (.inl ⟨by rfl, ?_⟩) ?_
        rotate_left
        · (intro W hSw; (try dsimp only at hSw); go_simp; try (with_reducible rfl))
        try simp only [Act.put]
        try simp only [List.setIfInBounds_toArray]
        try simp only [List.set_cons_succ]
        try simp only [List.set_cons_zero]
        refine wpT 2 ⟨some 19, .fieldAddr 47 (.tmp 5) 1, 0, "ref.go:50", #[⟨1, .guard⟩], some (1, true)⟩ ?_ (.inl ⟨by rfl, ?_⟩) ?_
        rotate_left
        · (intro W hSw; (try dsimp only at hSw); go_simp; try (with_reducible rfl))
        try simp only [Act.put]
        try simp only [List.setIfInBounds_toArray]
        try simp only [List.set_cons_succ]
        try simp only [List.set_cons_zero]
        refine wpT 3 ⟨some 20, .load 4 (.tmp 19), 4, "ref.go:50", #[⟨2, .data⟩, ⟨1, .guard⟩], some (1, true)⟩ ?_ (.inl ⟨by rfl, ?_⟩) ?_
        rotate_left
        · (intro W hSw; (try dsimp only at hSw); go_simp; try (with_reducible rfl))
        try simp only [Act.put]
        try simp only [List.setIfInBounds_toArray]
        try simp only [List.set_cons_succ]
        try simp only [List.set_cons_zero]
        refine wpT 4 ⟨some 21, .pick (.tmp 18) (.tmp 20) (.const (.bool false)), 4, "ref.go:50", #[⟨1, .data⟩, ⟨3, .data⟩], none⟩ ?_ (.inl ⟨by rfl, ?_⟩) ?_
        rotate_left
        · (intro W hSw; (try dsimp only at hSw); go_simp; try (with_reducible rfl))
        try simp only [Act.put]
        try simp only [List.setIfInBounds_toArray]
        try simp only [List.set_cons_succ]
        try simp only [List.set_cons_zero]
        refine wpT 5 ⟨some 22, .move (.tmp 21), 4, "ref.go:50", #[⟨4, .data⟩, ⟨1, .chain⟩], none⟩ ?_ (.inl ⟨by rfl, ?_⟩) ?_
        rotate_left
        · (intro W hSw; (try dsimp only at hSw); go_simp; try (with_reducible rfl))
        try simp only [Act.put]
        try simp only [List.setIfInBounds_toArray]
        try simp only [List.set_cons_succ]
        try simp only [List.set_cons_zero]
        refine wpT 6 ⟨some 23, .fieldAddr 96 (.tmp 3) 3, 0, "ref.go:50", #[⟨5, .guard⟩], some (5, true)⟩ undef (.inr ⟨by rfl, rfl⟩) ?_
        try simp only [Act.put]
        try simp only [List.setIfInBounds_toArray]
        try simp only [List.set_cons_succ]
        try simp only [List.set_cons_zero]
        refine wpT 7 ⟨some 24, .load 3 (.tmp 23), 3, "ref.go:50", #[⟨6, .data⟩, ⟨5, .guard⟩], some (5, true)⟩ undef (.inr ⟨by rfl, rfl⟩) ?_
        try simp only [Act.put]
        try simp only [List.setIfInBounds_toArray]
        try simp only [List.set_cons_succ]
        try simp only [List.set_cons_zero]
        refine wpT 8 ⟨some 25, .fieldAddr 47 (.tmp 5) 2, 0, "ref.go:50", #[⟨5, .guard⟩], some (5, true)⟩ undef (.inr ⟨by rfl, rfl⟩) ?_
        try simp only [Act.put]
        try simp only [List.setIfInBounds_toArray]
        try simp only [List.set_cons_succ]
        try simp only [List.set_cons_zero]
        refine wpT 9 ⟨some 26, .load 45 (.tmp 25), 45, "ref.go:50", #[⟨8, .data⟩, ⟨5, .guard⟩], some (5, true)⟩ undef (.inr ⟨by rfl, rfl⟩) ?_
        try simp only [Act.put]
        try simp only [List.setIfInBounds_toArray]
        try simp only [List.set_cons_succ]
        try simp only [List.set_cons_zero]
        refine wpT 10 ⟨some 27, .fieldAddr 96 (.tmp 3) 1, 0, "ref.go:50", #[⟨5, .guard⟩], some (5, true)⟩ undef (.inr ⟨by rfl, rfl⟩) ?_
        try simp only [Act.put]
        try simp only [List.setIfInBounds_toArray]
        try simp only [List.set_cons_succ]
        try simp only [List.set_cons_zero]
        refine wpT 11 ⟨some 28, .load 3 (.tmp 27), 3, "ref.go:50", #[⟨10, .data⟩, ⟨5, .guard⟩], some (5, true)⟩ undef (.inr ⟨by rfl, rfl⟩) ?_
        try simp only [Act.put]
        try simp only [List.setIfInBounds_toArray]
        try simp only [List.set_cons_succ]
        try simp only [List.set_cons_zero]
        refine wpAnyH_ready (rs := [12]) (by kernel_rfl) (by simp) ?_
        refine AllReadyH.cons (o := ⟨some 29, .call { callee := .value (.func 57), args := #[.tmp 26, .tmp 28], argTypes := #[45, 3] }, 3, "ref.go:50", #[⟨9, .data⟩, ⟨11, .data⟩, ⟨5, .chain⟩, ⟨5, .guard⟩], some (5, true)⟩) rfl (fun K hK => ?_) AllReadyH.nil
        go_simp
        refine hK.out _ _ ?_ (fun hHeld => ?_)
        · exact hHeld
        clear hK K
        try simp only [Act.put]
        try simp only [List.setIfInBounds_toArray]
        try simp only [List.set_cons_succ]
        try simp only [List.set_cons_zero]
        refine wpT 13 ⟨some 30, .binOp .eql 3 (.tmp 24) (.tmp 29) 3, 4, "ref.go:50", #[⟨7, .data⟩, ⟨12, .data⟩, ⟨5, .guard⟩], some (5, true)⟩ undef (.inr ⟨by rfl, rfl⟩) ?_
        try simp only [Act.put]
        try simp only [List.setIfInBounds_toArray]
        try simp only [List.set_cons_succ]
        try simp only [List.set_cons_zero]
        refine wpT 14 ⟨some 31, .pick (.tmp 22) (.tmp 30) (.const (.bool false)), 4, "ref.go:50", #[⟨5, .data⟩, ⟨13, .data⟩], none⟩ ?_ (.inl ⟨by rfl, ?_⟩) ?_
        rotate_left
        · (intro W hSw; (try dsimp only at hSw); go_simp; try (with_reducible rfl))
        try simp only [Act.put]
        try simp only [List.setIfInBounds_toArray]
        try simp only [List.set_cons_succ]
        try simp only [List.set_cons_zero]
        refine wpT 15 ⟨some 4, .assign (.tmp 31), 4, "ref.go:50", #[⟨14, .data⟩, ⟨12, .chain⟩, ⟨0, .phase⟩, ⟨1, .phase⟩, ⟨2, .phase⟩, ⟨3, .phase⟩, ⟨4, .phase⟩, ⟨5, .phase⟩, ⟨6, .phase⟩, ⟨7, .phase⟩, ⟨8, .phase⟩, ⟨9, .phase⟩, ⟨10, .phase⟩, ⟨11, .phase⟩, ⟨12, .phase⟩, ⟨13, .phase⟩, ⟨14, .phase⟩], none⟩ ?_ (.inl ⟨by rfl, ?_⟩) ?_
        rotate_left
        · (intro W hSw; (try dsimp only at hSw); go_simp; try (with_reducible rfl))
        try simp only [Act.put]
        try simp only [List.setIfInBounds_toArray]
        try simp only [List.set_cons_succ]
        try simp only [List.set_cons_zero]
        refine wpAnyH_done (by kernel_rfl) (NoPanic.normal ?_) _
        have HU := Lib.hid (U0.out.trans (UT.out.trans hHeld))
        clear hHeld
        go_wp2
        go_ret
        exact ⟨by rw [HV.out]; rfl, HU.out⟩
      · go_wp2
        refine wp_region_noPanic ?_
        refine wp_region_held_drew (S := (fun w' => Upd No (w1.alloc (.cells #[.int .i64 ti, .bool true, .slice A1 tO.length c1] 47)) w')) (by kernel_rfl) ?_ (fun hHeld => ?_)
        · (first | exact (Upd.refl No _).drew | exact hHeld.trans hu3)
        refine wpT 0 ⟨some 17, .move (.tmp 6), 4, "ref.go:50", #[], none⟩ ?_ (.inl ⟨by rfl, ?_⟩) ?_
        rotate_left
        · (intro W hSw; (try dsimp only at hSw); go_simp; try (with_reducible rfl))
        try simp only [Act.put]
        try simp only [List.setIfInBounds_toArray]
        try simp only [List.set_cons_succ]
        try simp only [List.set_cons_zero]
        refine wpT 1 ⟨some 18, .move (.tmp 17), 4, "ref.go:50", #[⟨0, .data⟩], none⟩ ?_ (.inl ⟨by rfl, ?_⟩) ?_
        rotate_left
        · (intro W hSw; (try dsimp only at hSw); go_simp; try (with_reducible rfl))
        try simp only [Act.put]
        try simp only [List.setIfInBounds_toArray]
        try simp only [List.set_cons_succ]
        try simp only [List.set_cons_zero]
        refine wpT 2 ⟨some 19, .fieldAddr 47 (.tmp 5) 1, 0, "ref.go:50", #[⟨1, .guard⟩], some (1, true)⟩ ?_ (.inl ⟨by rfl, ?_⟩) ?_
        rotate_left
        · (intro W hSw; (try dsimp only at hSw); go_simp; try (with_reducible rfl))
        try simp only [Act.put]
        try simp only [List.setIfInBounds_toArray]
        try simp only [List.set_cons_succ]
        try simp only [List.set_cons_zero]
        refine wpT 3 ⟨some 20, .load 4 (.tmp 19), 4, "ref.go:50", #[⟨2, .data⟩, ⟨1, .guard⟩], some (1, true)⟩ ?_ (.inl ⟨by rfl, ?_⟩) ?_
        rotate_left
        · (intro W hSw; (try dsimp only at hSw); go_simp; try (with_reducible rfl))
        try simp only [Act.put]
        try simp only [List.setIfInBounds_toArray]
        try simp only [List.set_cons_succ]
        try simp only [List.set_cons_zero]
        refine wpT 4 ⟨some 21, .pick (.tmp 18) (.tmp 20) (.const (.bool false)), 4, "ref.go:50", #[⟨1, .data⟩, ⟨3, .data⟩], none⟩ ?_ (.inl ⟨by rfl, ?_⟩) ?_
        rotate_left
        · (intro W hSw; (try dsimp only at hSw); go_simp; try (with_reducible rfl))
        try simp only [Act.put]
        try simp only [List.setIfInBounds_toArray]
        try simp only [List.set_cons_succ]
        try simp only [List.set_cons_zero]
        refine wpT 5 ⟨some 22, .move (.tmp 21), 4, "ref.go:50", #[⟨4, .data⟩, ⟨1, .chain⟩], none⟩ ?_ (.inl ⟨by rfl, ?_⟩) ?_
        rotate_left
        · (intro W hSw; (try dsimp only at hSw); go_simp; try (with_reducible rfl))
        try simp only [Act.put]
        try simp only [List.setIfInBounds_toArray]
        try simp only [List.set_cons_succ]
        try simp only [List.set_cons_zero]
        refine wpT 6 ⟨some 23, .fieldAddr 96 (.tmp 3) 3, 0, "ref.go:50", #[⟨5, .guard⟩], some (5, true)⟩ ?_ (.inl ⟨by rfl, ?_⟩) ?_
        rotate_left
        · (intro W hSw; (try dsimp only at hSw); go_simp; try (with_reducible rfl))
        try simp only [Act.put]
        try simp only [List.setIfInBounds_toArray]
        try simp only [List.set_cons_succ]
        try simp only [List.set_cons_zero]
        refine wpT 7 ⟨some 24, .load 3 (.tmp 23), 3, "ref.go:50", #[⟨6, .data⟩, ⟨5, .guard⟩], some (5, true)⟩ ?_ (.inl ⟨by rfl, ?_⟩) ?_
        rotate_left
        · (intro W hSw; (try dsimp only at hSw); go_simp; try (with_reducible rfl))
        try simp only [Act.put]
        try simp only [List.setIfInBounds_toArray]
        try simp only [List.set_cons_succ]
        try simp only [List.set_cons_zero]
        refine wpT 8 ⟨some 25, .fieldAddr 47 (.tmp 5) 2, 0, "ref.go:50", #[⟨5, .guard⟩], some (5, true)⟩ ?_ (.inl ⟨by rfl, ?_⟩) ?_
        rotate_left
        · (intro W hSw; (try dsimp only at hSw); go_simp; try (with_reducible rfl))
        try simp only [Act.put]
        try simp only [List.setIfInBounds_toArray]
        try simp only [List.set_cons_succ]
        try simp only [List.set_cons_zero]
        refine wpT 9 ⟨some 26, .load 45 (.tmp 25), 45, "ref.go:50", #[⟨8, .data⟩, ⟨5, .guard⟩], some (5, true)⟩ ?_ (.inl ⟨by rfl, ?_⟩) ?_
        rotate_left
        · (intro W hSw; (try dsimp only at hSw); go_simp; try (with_reducible rfl))
        try simp only [Act.put]
        try simp only [List.setIfInBounds_toArray]
        try simp only [List.set_cons_succ]
        try simp only [List.set_cons_zero]
        refine wpT 10 ⟨some 27, .fieldAddr 96 (.tmp 3) 1, 0, "ref.go:50", #[⟨5, .guard⟩], some (5, true)⟩ ?_ (.inl ⟨by rfl, ?_⟩) ?_
        rotate_left
        · (intro W hSw; (try dsimp only at hSw); go_simp; try (with_reducible rfl))
        try simp only [Act.put]
        try simp only [List.setIfInBounds_toArray]
        try simp only [List.set_cons_succ]
        try simp only [List.set_cons_zero]
        refine wpT 11 ⟨some 28, .load 3 (.tmp 27), 3, "ref.go:50", #[⟨10, .data⟩, ⟨5, .guard⟩], some (5, true)⟩ ?_ (.inl ⟨by rfl, ?_⟩) ?_
        rotate_left
        · (intro W hSw; (try dsimp only at hSw); go_simp; try (with_reducible rfl))
        try simp only [Act.put]
        try simp only [List.setIfInBounds_toArray]
        try simp only [List.set_cons_succ]
        try simp only [List.set_cons_zero]
        refine wpAnyH_ready (rs := [12]) (by kernel_rfl) (by simp) ?_
        refine AllReadyH.cons (o := ⟨some 29, .call { callee := .value (.func 57), args := #[.tmp 26, .tmp 28], argTypes := #[45, 3] }, 3, "ref.go:50", #[⟨9, .data⟩, ⟨11, .data⟩, ⟨5, .chain⟩, ⟨5, .guard⟩], some (5, true)⟩) rfl (fun K hK => ?_) AllReadyH.nil
        go_simp
        (first
    | (go_at_call 57; refine (HW.out _ hHeld).mono ?_; rintro e w3 ⟨rfl, hu3⟩))
        try (go_wp2_with fail)
        refine hK.out _ _ ?_ (fun hHeld => ?_)
        · (first | exact (Upd.refl No _).drew | exact hHeld.trans hu3)
        clear hK K
        try simp only [Act.put]
        try simp only [List.setIfInBounds_toArray]
        try simp only [List.set_cons_succ]
        try simp only [List.set_cons_zero]
        refine wpT 13 ⟨some 30, .binOp .eql 3 (.tmp 24) (.tmp 29) 3, 4, "ref.go:50", #[⟨7, .data⟩, ⟨12, .data⟩, ⟨5, .guard⟩], some (5, true)⟩ ?_ (.inl ⟨by rfl, ?_⟩) ?_
        rotate_left
        · (intro W hSw; (try dsimp only at hSw); go_simp; try (with_reducible rfl))
        try simp only [Act.put]
        try simp only [List.setIfInBounds_toArray]
        try simp only [List.set_cons_succ]
        try simp only [List.set_cons_zero]
        refine wpT 14 ⟨some 31, .pick (.tmp 22) (.tmp 30) (.const (.bool false)), 4, "ref.go:50", #[⟨5, .data⟩, ⟨13, .data⟩], none⟩ ?_ (.inl ⟨by rfl, ?_⟩) ?_
        rotate_left
        · (intro W hSw; (try dsimp only at hSw); go_simp; try (with_reducible rfl))
        try simp only [Act.put]
        try simp only [List.setIfInBounds_toArray]
        try simp only [List.set_cons_succ]
        try simp only [List.set_cons_zero]
        refine wpT 15 ⟨some 4, .assign (.tmp 31), 4, "ref.go:50", #[⟨14, .data⟩, ⟨12, .chain⟩, ⟨0, .phase⟩, ⟨1, .phase⟩, ⟨2, .phase⟩, ⟨3, .phase⟩, ⟨4, .phase⟩, ⟨5, .phase⟩, ⟨6, .phase⟩, ⟨7, .phase⟩, ⟨8, .phase⟩, ⟨9, .phase⟩, ⟨10, .phase⟩, ⟨11, .phase⟩, ⟨12, .phase⟩, ⟨13, .phase⟩, ⟨14, .phase⟩], none⟩ ?_ (.inl ⟨by rfl, ?_⟩) ?_
        rotate_left
        · (intro W hSw; (try dsimp only at hSw); go_simp; try (with_reducible rfl))
        try simp only [Act.put]
        try simp only [List.setIfInBounds_toArray]
        try simp only [List.set_cons_succ]
        try simp only [List.set_cons_zero]
        refine wpAnyH_done (by kernel_rfl) (NoPanic.normal ?_) _
        have HU := Lib.hid (U0.out.trans (UT.out.trans hHeld))
        clear hHeld
        go_wp2
        go_ret
        exact ⟨by rw [HV.out]; rfl, HU.out⟩
end Go.Proofs.YtaicemjckagcaaaGreat

/- Right histories: the document's own steps come to what the program tells. -/
namespace Go.Proofs.YtaicemjckagcaaaGreat
set_option linter.unusedVariables false
open Go.RowKit
theorem keysHG_eq : ∀ (l : List HTx) (s : List Int), keysHG s l = keysH s l
  | [], _ => rfl
  | t :: l, s => by
    rw [keysHG_cons, keysG_w, keysHG_eq l]
    rfl
theorem aheadR_eq (txs : List HTx) (k : Nat) (id : Int) : aheadR txs k id = aheadB txs k id := by
  cases k <;> rfl
theorem txR_eq {txs : List HTx} {k : Nat} (hk : k < txs.length) : txR txs k txs[k] = txOk txs k := by
  rw [txOk_eq hk rfl]
  unfold txR neededB
  rw [aheadR_eq, needsS_eq]
  rfl
theorem txsR_all (txs : List HTx) : ∀ (m k : Nat), k + m = txs.length → (txsR txs (txs.drop k) k = true ↔ ∀ i, k ≤ i → i < txs.length → txOk txs i = true)
  | 0, k, hk => by
    obtain rfl : k = txs.length := by omega
    rw [List.drop_length]
    exact ⟨fun _ i h1 h2 => by omega, fun _ => rfl⟩
  | m + 1, k, hk => by
    have hlt : k < txs.length := by omega
    rw [List.drop_eq_getElem_cons hlt, txsR_cons, Bool.and_eq_true, txsR_all txs m (k + 1) (by omega), txR_eq hlt]
    constructor
    · rintro ⟨h1, h2⟩ i hi hi2
      by_cases e : i = k
      · subst e; exact h1
      · exact h2 i (by omega) hi2
    · intro h
      exact ⟨h k (Nat.le_refl _) hlt, fun i hi hi2 => h i (by omega) hi2⟩
theorem wrS_eq (key : Int) : ∀ (l : List HTx) (acc : List Int), wrS key acc l = acc ++ writersOf l key
  | [], acc => by simp [wrS, writersOf]
  | t :: l, acc => by
    rw [wrS_cons, wrS_eq key l]
    have hc : (keysW t.ops).contains key = decide (0 < writesN t.ops key) := by
      rw [List.contains_eq_mem]
      congr 1
      simp only [mem_keysW]
    unfold writersOf
    rw [List.filter_cons]
    simp only [hc]
    split <;> simp
theorem wrS_w (key : Int) (l : List HTx) : wrS key [] l = writersOf l key := by rw [wrS_eq]; simp
theorem ordsR_all (txs : List HTx) (keys : List Int) (ords : List HOrd) (hl : ords.length = keys.length) : ∀ (m k : Nat), k + m = ords.length → (ordsR txs keys (ords.drop k) k = true ↔ ∀ i, k ≤ i → i < ords.length → ordR txs keys ords i = true)
  | 0, k, hk => by
    obtain rfl : k = ords.length := by omega
    rw [List.drop_length]
    exact ⟨fun _ i h1 h2 => by omega, fun _ => rfl⟩
  | m + 1, k, hk => by
    have hlt : k < ords.length := by omega
    have hlt2 : k < keys.length := by omega
    have hone : (ords[k].key == keys.getD k 0 && (ords[k].txs.length == (wrS ords[k].key [] txs).length && ords[k].txs.all fun x => ords[k].txs.count x == (wrS ords[k].key [] txs).count x)) = ordR txs keys ords k := by
      unfold ordR permR
      rw [List.getElem?_eq_getElem hlt, List.getElem?_eq_getElem hlt2, wrS_w, List.getD_eq_getElem?_getD, List.getElem?_eq_getElem hlt2]
      rfl
    rw [List.drop_eq_getElem_cons hlt, ordsR_cons, hone, Bool.and_eq_true, ordsR_all txs keys ords hl m (k + 1) (by omega)]
    constructor
    · rintro ⟨h1, h2⟩ i hi hi2
      by_cases e : i = k
      · subst e; exact h1
      · exact h2 i (by omega) hi2
    · intro h
      exact ⟨h k (Nat.le_refl _) hlt, fun i hi hi2 => h i (by omega) hi2⟩
theorem rightS_eq (h : Hist) : rightS h.txs h.ords = rightB h := by
  rw [← rightR_eq]
  unfold rightS rightR
  rw [keysHG_eq]
  have h1 : txsR h.txs h.txs 0 = (List.range h.txs.length).all (txOk h.txs) := by
    rw [Bool.eq_iff_iff, List.all_eq_true]
    have := txsR_all h.txs h.txs.length 0 (by omega)
    rw [List.drop_zero] at this
    rw [this]
    exact ⟨fun k i hi => k i (Nat.zero_le _) (List.mem_range.1 hi), fun k i _ hi => k i (List.mem_range.2 hi)⟩
  rw [h1]
  by_cases hl : h.ords.length = (keysH [] h.txs).length
  · have h2 : ordsR h.txs (keysH [] h.txs) h.ords 0 = (List.range h.ords.length).all (ordR h.txs (keysH [] h.txs) h.ords) := by
      rw [Bool.eq_iff_iff, List.all_eq_true]
      have := ordsR_all h.txs (keysH [] h.txs) h.ords hl h.ords.length 0 (by omega)
      rw [List.drop_zero] at this
      rw [this]
      exact ⟨fun k i hi => k i (Nat.zero_le _) (List.mem_range.1 hi), fun k i _ hi => k i (List.mem_range.2 hi)⟩
    rw [h2, Bool.and_assoc, Bool.and_assoc]
  · rw [show (h.ords.length == (keysH [] h.txs).length) = false by simpa using hl]
    simp
theorem rRightB (F : Nat → Prop) (w : World) (txs : List HTx) (ords : List HOrd) (A : Option Addr) (c : Nat) (B : Option Addr) (d : Nat) (H : Hist.lies F w ⟨txs, ords, A, c, B, d⟩) :
    Calls Tryz.prog 30 #[.agg #[.slice A txs.length c, .slice B ords.length d]] w fun e w' => e = .returned (.bool (rightB ⟨txs, ords, A, c, B, d⟩)) ∧ Upd No w w' := by
  have := rRight F w txs ords A c B d H
  rwa [show rightS txs ords = rightB ⟨txs, ords, A, c, B, d⟩ from rightS_eq ⟨txs, ords, A, c, B, d⟩] at this
theorem rRightV {F : Nat → Prop} {w : World} {txs : List HTx} {ords : List HOrd} {A : Option Addr} {c : Nat} {B : Option Addr} {d : Nat} {b : Bool} (H : Hist.lies F w ⟨txs, ords, A, c, B, d⟩) (hb : rightB ⟨txs, ords, A, c, B, d⟩ = b) :
    Calls Tryz.prog 30 #[.agg #[.slice A txs.length c, .slice B ords.length d]] w fun e w' => e = .returned (.bool b) ∧ Upd No w w' := by subst hb; exact rRightB F w txs ords A c B d H
end Go.Proofs.YtaicemjckagcaaaGreat

/- The document: the reads that may not be. -/
namespace Go.Proofs.YtaicemjckagcaaaGreat
set_option linter.unusedVariables false
open Go.RowKit
/-- bad reads lie there -/
def Bads (F : Nat → Prop) (w : World) (A : Option Addr) (l : List HBad) : Prop := Recs F w A 5 (l.map HBad.cells)
theorem Bads.at_ {F : Nat → Prop} {w : World} {A : Option Addr} {l : List HBad} (h : Bads F w A l) {k : Nat} (hk : k < l.length) : ∃ ad, A = some ad ∧
    w.cell? (ad.add (k * 5)) = some (.int .i64 l[k].tx) ∧ w.cell? ⟨(ad.add (k * 5)).block, (ad.add (k * 5)).off + 1, none⟩ = some (.int .i64 l[k].place) ∧
    w.cell? ⟨(ad.add (k * 5)).block, (ad.add (k * 5)).off + 2, none⟩ = some (.int .i64 l[k].of.tx) ∧ w.cell? ⟨(ad.add (k * 5)).block, (ad.add (k * 5)).off + 3, none⟩ = some (.int .i64 l[k].of.key) ∧
    w.cell? ⟨(ad.add (k * 5)).block, (ad.add (k * 5)).off + 4, none⟩ = some (.int .i64 l[k].of.nth) := by
  have hk' : k < (l.map HBad.cells).length := by simpa using hk
  obtain ⟨ad, e, _, _, hc⟩ := Recs.at_ h hk'
  rw [List.getElem_map] at hc
  exact ⟨ad, e, by simpa using hc 0 _ rfl, by simpa using hc 1 _ rfl, by simpa using hc 2 _ rfl, by simpa using hc 3 _ rfl, by simpa using hc 4 _ rfl⟩
theorem Bads.upd {F S : Nat → Prop} {w w' : World} {A : Option Addr} {l : List HBad} (h : Bads F w A l) (k : Upd S w w') (hn : ∀ i, F i → ¬ S i) : Bads F w' A l := Recs.upd h k hn
end Go.Proofs.YtaicemjckagcaaaGreat
