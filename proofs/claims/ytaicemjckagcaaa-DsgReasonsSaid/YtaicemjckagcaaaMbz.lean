/- Edges of a history: the law that the edges are those of all keys. -/
import Derived.Test.YtaicemjckagcaaaMbt
import Derived.Test.YtaicemjckagcaaaMby
namespace Go.Proofs.Ytaicemjckagcaaa
set_option linter.unusedVariables false
open Go.RowKit
theorem edgesR_right {h : Hist} {x : Hvy} (hx : x ∈ edgesR h) : rightB h = true := by
  cases hr : rightB h with
  | true => rfl
  | false => unfold edgesR at hx; rw [if_neg (by rw [hr]; decide)] at hx; cases hx
end Go.Proofs.Ytaicemjckagcaaa

/- Edges of a history: the law that the edges are those of all keys: the walk. -/
namespace Go.Proofs.Ytaicemjckagcaaa
set_option linter.unusedVariables false
open Go.RowKit
end Go.Proofs.Ytaicemjckagcaaa

/- Edges of a history: what the law on reasons asks, the plain part. -/
namespace Go.Proofs.Ytaicemjckagcaaa
set_option linter.unusedVariables false
open Go.RowKit
/-- the counts of those that fit, added up -/
def wsum (p : Hvy → Bool) : Int → List Hvy → Int
  | a, [] => a
  | a, x :: l => if p x then wsum p (a + x.n) l else wsum p a l
theorem wsum_eq (p : Hvy → Bool) : ∀ (l : List Hvy) (a : Int), wsum p a l = a + ((l.filter p).map (·.n)).sum
  | [], a => by simp [wsum]
  | x :: l, a => by
    unfold wsum
    split
    · rename_i h
      rw [wsum_eq p l, List.filter_cons_of_pos h, List.map_cons, List.sum_cons]
      omega
    · rename_i h
      rw [wsum_eq p l, List.filter_cons_of_neg h]
theorem sum_zero {β : Type} : ∀ L : List β, (L.map fun _ => 0).sum = 0
  | [] => rfl
  | _ :: L => by rw [List.map_cons, List.sum_cons, sum_zero L]
theorem sum_plus {β : Type} (f : β → Nat) (p : β → Bool) : ∀ L : List β, (L.map fun x => f x + if p x = true then 1 else 0).sum = (L.map f).sum + L.countP p
  | [] => rfl
  | x :: L => by
    rw [List.map_cons, List.sum_cons, List.map_cons, List.sum_cons, sum_plus f p L, List.countP_cons]
    omega
theorem sum_countP {α β : Type} (L : List β) (q : β → α → Bool) (Q : α → Bool) : ∀ ops : List α, (∀ o ∈ ops, L.countP (fun x => q x o) = if Q o = true then 1 else 0) → ((L.map fun x => ops.countP (q x)).sum) = ops.countP Q
  | [], _ => by
    simp only [List.countP_nil]
    exact sum_zero L
  | o :: ops, h => by
    have ih := sum_countP L q Q ops fun x hx => h x (List.mem_cons_of_mem _ hx)
    have h1 := h o (List.mem_cons_self ..)
    simp only [List.countP_cons]
    rw [sum_plus, ih, h1]
theorem countP_one {α : Type} (p : α → Bool) : ∀ l : List α, (l.Pairwise fun a b => ¬ (p a = true ∧ p b = true)) → (∃ x ∈ l, p x = true) → l.countP p = 1
  | [], _, h => by obtain ⟨_, h, _⟩ := h; cases h
  | a :: l, hp, h => by
    obtain ⟨h1, h2⟩ := List.pairwise_cons.1 hp
    rw [List.countP_cons]
    by_cases ha : p a = true
    · rw [if_pos ha, List.countP_eq_zero.2 fun x hx hpx => h1 x hx ⟨ha, hpx⟩]
    · rw [if_neg ha]
      obtain ⟨x, hx, hpx⟩ := h
      rcases List.mem_cons.1 hx with rfl | hx
      · exact absurd hpx ha
      · rw [countP_one p l h2 ⟨x, hx, hpx⟩]
/-- of the reads of a transaction those of others' installed versions -/
def rdOf (h : Hist) (t : HTx) (o : HOp) : Bool := t.done && o.read && !(o.tx == 0) && !(o.tx == t.id) && lastB h.txs ⟨o.tx, o.key, o.nth⟩
section
variable {h : Hist}
theorem edgesR_nd : (edgesR h).Pairwise fun a b => a.e ≠ b.e := by
  have := edgesR_strict (h := h)
  rw [List.pairwise_map] at this
  refine this.imp fun {a b} hab e => ?_
  rw [e] at hab
  unfold ltE at hab
  simp at hab
theorem doneT_of {t : HTx} (hr : rightB h = true) (ht : t ∈ h.txs) (hd : t.done = true) : doneT h.txs t.id = some t := by
  obtain ⟨u, hu⟩ := (done_mem hr t.id).1 (by
    unfold doneL
    exact List.mem_map.2 ⟨t, List.mem_filter.2 ⟨ht, hd⟩, rfl⟩)
  have h1 := find_id (doneT_some hu).1
  have h2 : u = t := by
    have hn := right_nodup hr
    rw [List.nodup_iff_pairwise_ne, List.pairwise_map] at hn
    obtain ⟨i, hi, rfl⟩ := List.mem_iff_getElem.1 h1.1
    obtain ⟨j, hj, rfl⟩ := List.mem_iff_getElem.1 ht
    rcases Nat.lt_trichotomy i j with h3 | h3 | h3
    · exact absurd h1.2 (List.pairwise_iff_getElem.1 hn i j hi hj h3)
    · subst h3; rfl
    · exact absurd h1.2.symm (List.pairwise_iff_getElem.1 hn j i hj hi h3)
  rw [hu, h2]
theorem cntR2 (hr : rightB h = true) {e : Edge} (hk : e.k = 2) {t : HTx} (ht : t ∈ h.txs) (he : e.t = t.id) : cntR h e = t.ops.countP fun o => rdOf h t o && o.tx == e.f && o.key == e.key := by
  unfold cntR
  by_cases hd : t.done = true
  · rw [he, doneT_of hr ht hd]
    cases ha : doneT h.txs e.f with
    | none =>
      simp only
      symm
      rw [List.countP_eq_zero]
      intro o _ ho
      unfold rdOf at ho
      simp only [Bool.and_eq_true, beq_iff_eq, Bool.not_eq_true', beq_eq_false_iff_ne] at ho
      obtain ⟨⟨⟨⟨⟨_, h0⟩, _⟩, hl⟩, hf⟩, _⟩ := ho
      unfold lastB at hl
      simp only at hl
      rw [if_neg h0, hf, ha] at hl
      cases hl
    | some a =>
      simp only
      have ha1 := find_id (doneT_some ha).1
      by_cases hf : e.f = t.id
      · rw [if_pos hf]
        symm
        rw [List.countP_eq_zero]
        intro o _ ho
        unfold rdOf at ho
        simp only [Bool.and_eq_true, beq_iff_eq, Bool.not_eq_true', beq_eq_false_iff_ne] at ho
        exact ho.1.1.1.2 (ho.1.2.trans hf)
      · rw [if_neg hf, hk, if_neg (by decide), if_pos rfl]
        refine List.countP_congr fun o _ => ?_
        unfold p2 rdOf
        have h0 : e.f ≠ 0 := fun h0 => find_zero hr (h0 ▸ ha)
        simp only [Bool.and_eq_true, beq_iff_eq, Bool.not_eq_true', beq_eq_false_iff_ne]
        constructor
        · rintro ⟨⟨⟨h1, h2⟩, h3⟩, h4⟩
          refine ⟨⟨⟨⟨⟨⟨hd, h1⟩, h3 ▸ h0⟩, h3 ▸ hf⟩, ?_⟩, h3⟩, h2⟩
          unfold lastB
          simp only
          rw [if_neg (h3 ▸ h0), h3, ha]
          simp only [beq_iff_eq]
          rw [h4, h2]
        · rintro ⟨⟨⟨⟨⟨⟨_, h1⟩, _⟩, _⟩, h5⟩, h3⟩, h2⟩
          refine ⟨⟨⟨h1, h2⟩, h3⟩, ?_⟩
          unfold lastB at h5
          simp only at h5
          rw [if_neg (h3 ▸ h0), h3, ha] at h5
          simp only [beq_iff_eq] at h5
          rw [h5, h2]
  · have : doneT h.txs e.t = none := by
      cases hu : doneT h.txs e.t with
      | none => rfl
      | some u =>
        have h1 := doneT_mem hu
        have h2 := doneT_some hu
        have h3 := find_id h2.1
        exfalso
        have hn := right_nodup hr
        rw [List.nodup_iff_pairwise_ne, List.pairwise_map] at hn
        obtain ⟨i, hi, rfl⟩ := List.mem_iff_getElem.1 h3.1
        obtain ⟨j, hj, rfl⟩ := List.mem_iff_getElem.1 ht
        have h4 := h3.2.trans he
        rcases Nat.lt_trichotomy i j with h5 | h5 | h5
        · exact absurd h4 (List.pairwise_iff_getElem.1 hn i j hi hj h5)
        · subst h5; exact hd h2.2
        · exact absurd h4.symm (List.pairwise_iff_getElem.1 hn j i hj hi h5)
    have hz : (t.ops.countP fun o => rdOf h t o && o.tx == e.f && o.key == e.key) = 0 := by
      rw [List.countP_eq_zero]
      intro o _ ho
      unfold rdOf at ho
      rw [Bool.not_eq_true] at hd
      rw [hd] at ho
      simp at ho
    rw [hz, this]
    cases doneT h.txs e.f <;> rfl
theorem isum_nat {β : Type} (f : β → Int) (g : β → Nat) : ∀ l : List β, (∀ x ∈ l, f x = (g x : Int)) → (l.map f).sum = ((l.map g).sum : Nat)
  | [], _ => rfl
  | x :: l, h => by
    rw [List.map_cons, List.sum_cons, List.map_cons, List.sum_cons, isum_nat f g l fun y hy => h y (List.mem_cons_of_mem _ hy), h x (List.mem_cons_self ..)]
    omega
def toT (id : Int) (x : Hvy) : Bool := x.e.k == 2 && x.e.t == id
def atK (key : Int) (x : Hvy) : Bool := x.e.k == 1 && x.e.key == key
/-- the counts of all edges to a transaction are as many as its reads of others' installed versions -/
theorem reads_sum (hr : rightB h = true) {t : HTx} (ht : t ∈ h.txs) : wsum (toT t.id) 0 (edgesR h) = (t.ops.countP (rdOf h t) : Int) := by
  rw [wsum_eq, Int.zero_add]
  refine (isum_nat (fun x : Hvy => x.n) (fun x => t.ops.countP fun o => rdOf h t o && o.tx == x.e.f && o.key == x.e.key) _ ?_).trans ?_
  rotate_left
  · congr 1
    refine sum_countP _ (fun (x : Hvy) o => rdOf h t o && o.tx == x.e.f && o.key == x.e.key) _ _ fun o ho => ?_
    split
    · rename_i hq
      refine countP_one _ _ ?_ ?_
      · refine (List.Pairwise.and_mem.1 (List.Pairwise.filter (toT t.id) (edgesR_nd (h := h)))).imp ?_
        rintro ⟨⟨af, at_, ak, ay⟩, an⟩ ⟨⟨bf, bt, bk, by_⟩, bn⟩ ⟨ha, hb, hne⟩ ⟨h1, h2⟩
        have ha' := (List.mem_filter.1 ha).2
        have hb' := (List.mem_filter.1 hb).2
        unfold toT at ha' hb'
        simp only [Bool.and_eq_true, beq_iff_eq] at ha' hb' h1 h2
        apply hne
        simp only
        rw [ha'.1, ha'.2, hb'.1, hb'.2, ← h1.1.2, ← h1.2, ← h2.1.2, ← h2.2]
      · have h1 : cntR h ⟨o.tx, t.id, 2, o.key⟩ ≠ 0 := by
          rw [cntR2 hr rfl ht rfl]
          exact Nat.ne_of_gt (List.countP_pos_iff.2 ⟨o, ho, by rw [hq]; simp⟩)
        refine ⟨⟨⟨o.tx, t.id, 2, o.key⟩, (cntR h ⟨o.tx, t.id, 2, o.key⟩ : Int)⟩, List.mem_filter.2 ⟨(mem_edgesR hr).2 ⟨h1, rfl⟩, by unfold toT; simp⟩, by rw [hq]; simp⟩
    · rename_i hq
      rw [List.countP_eq_zero]
      intro x _ hx
      simp only [Bool.and_eq_true] at hx
      exact hq hx.1.1
  · intro x hx
    obtain ⟨h1, h2⟩ := List.mem_filter.1 hx
    unfold toT at h2
    simp only [Bool.and_eq_true, beq_iff_eq] at h2
    rw [((mem_edgesR hr).1 h1).2, cntR2 hr h2.1 ht h2.2]
theorem cntR1 (hr : rightB h = true) {e : Edge} (hk : e.k = 1) : cntR h e = if e ∈ wwL (fun _ => true) h.ords then 1 else 0 := by
  have h1 := mem_ww_iff (h := h) (fun _ => true) e hr
  by_cases hm : e ∈ wwL (fun _ => true) h.ords
  · rw [if_pos hm]
    obtain ⟨_, _, h0, hx⟩ := h1.1 hm
    obtain ⟨⟨b, hb⟩, _, hne, ha⟩ := hx.ids hr
    obtain ⟨a, ha⟩ := ha.resolve_left h0
    unfold cntR
    rw [ha, hb]
    simp only
    rw [if_neg hne, if_pos hk, if_pos ((nextB_iff hr _ _ _).2 hx)]
  · rw [if_neg hm]
    unfold cntR
    cases ha : doneT h.txs e.f with
    | none => rfl
    | some a =>
      cases hb : doneT h.txs e.t with
      | none => rfl
      | some b =>
        simp only
        by_cases hft : e.f = e.t
        · rw [if_pos hft]
        · rw [if_neg hft, if_pos hk, if_neg]
          intro hn
          exact hm (h1.2 ⟨hk, rfl, fun h0 => find_zero hr (h0 ▸ ha), (nextB_iff hr _ _ _).1 hn⟩)
theorem wwO_nodup (key : Int) : ∀ l : List Int, l.Nodup → (wwO key l).Nodup
  | [], _ => by simp [wwO]
  | [a], _ => by simp [wwO]
  | a :: b :: l, h => by
    obtain ⟨h1, h2⟩ := List.nodup_cons.1 h
    show (⟨a, b, 1, key⟩ :: wwO key (b :: l)).Nodup
    refine List.nodup_cons.2 ⟨fun hm => ?_, wwO_nodup key _ h2⟩
    obtain ⟨_, _, i, hi, _⟩ := (mem_wwO key _ _).1 hm
    exact h1 (List.mem_of_getElem? hi)
theorem wwO_len (key : Int) : ∀ l : List Int, l ≠ [] → (wwO key l).length + 1 = l.length
  | [], h => absurd rfl h
  | [a], _ => by simp [wwO]
  | a :: b :: l, _ => by
    show (⟨a, b, 1, key⟩ :: wwO key (b :: l)).length + 1 = _
    rw [List.length_cons, wwO_len key (b :: l) (by simp)]
    rfl
theorem mem_ww_key (hr : rightB h = true) {o : HOrd} (ho : o ∈ h.ords) (e : Edge) : (e ∈ wwL (fun _ => true) h.ords ∧ e.key = o.key) ↔ e ∈ wwO o.key o.txs := by
  rw [mem_wwL, mem_wwO]
  constructor
  · rintro ⟨⟨h1, _, u, hu, hk, hi⟩, h2⟩
    obtain rfl := right_ord_one hr ho hu (h2.symm.trans hk.symm)
    exact ⟨h1, h2, hi⟩
  · rintro ⟨h1, h2, hi⟩
    exact ⟨⟨h1, rfl, o, ho, h2.symm, hi⟩, h2⟩
theorem sum_ones {β : Type} (f : β → Int) : ∀ l : List β, (∀ x ∈ l, f x = 1) → (l.map f).sum = (l.length : Int)
  | [], _ => rfl
  | x :: l, h => by
    rw [List.map_cons, List.sum_cons, sum_ones f l fun y hy => h y (List.mem_cons_of_mem _ hy), h x (List.mem_cons_self ..), List.length_cons]
    omega
theorem right_ord_ne (hr : rightB h = true) {o : HOrd} (ho : o ∈ h.ords) : o.txs ≠ [] := by
  obtain ⟨j, hj, rfl⟩ := List.mem_iff_getElem.1 ho
  exact ((ordOk_at hj).1 (right_ordOk hr hj)).2.1
/-- for each key there is one edge of the order less than it is long -/
theorem order_sum (hr : rightB h = true) {o : HOrd} (ho : o ∈ h.ords) : wsum (atK o.key) 1 (edgesR h) = (o.txs.length : Int) := by
  rw [wsum_eq]
  have h1 : ∀ x ∈ (edgesR h).filter (atK o.key), x.e ∈ wwO o.key o.txs ∧ x.n = 1 := by
    intro x hx
    obtain ⟨h1, h2⟩ := List.mem_filter.1 hx
    unfold atK at h2
    simp only [Bool.and_eq_true, beq_iff_eq] at h2
    obtain ⟨h3, h4⟩ := (mem_edgesR hr).1 h1
    rw [cntR1 hr h2.1] at h3 h4
    by_cases hm : x.e ∈ wwL (fun _ => true) h.ords
    · rw [if_pos hm] at h4
      exact ⟨(mem_ww_key hr ho _).1 ⟨hm, h2.2⟩, h4⟩
    · rw [if_neg hm] at h3
      exact absurd rfl h3
  rw [sum_ones _ _ fun x hx => (h1 x hx).2]
  have hp : (((edgesR h).filter (atK o.key)).map (·.e)).Perm (wwO o.key o.txs) := by
    refine (List.perm_ext_iff_of_nodup ?_ (wwO_nodup _ _ (right_ord_nodup hr ho))).2 fun e => ?_
    · rw [List.nodup_iff_pairwise_ne, List.pairwise_map]
      exact List.Pairwise.filter _ edgesR_nd
    · constructor
      · intro hm
        obtain ⟨x, hx, rfl⟩ := List.mem_map.1 hm
        exact (h1 x hx).1
      · intro hm
        obtain ⟨h2, h3⟩ := (mem_ww_key hr ho e).2 hm
        have hk := ((mem_wwO _ _ _).1 hm).1
        have hc := cntR1 hr hk
        rw [if_pos h2] at hc
        refine List.mem_map.2 ⟨⟨e, 1⟩, List.mem_filter.2 ⟨(mem_edgesR hr).2 ⟨by simp only; omega, by simp only; omega⟩, ?_⟩, rfl⟩
        unfold atK
        simp [hk, h3]
  have h2 := hp.length_eq
  rw [List.length_map] at h2
  have h3 := wwO_len o.key o.txs (right_ord_ne hr ho)
  omega
/-- what each edge is -/
theorem edge_ok (hr : rightB h = true) {x : Hvy} (hx : x ∈ edgesR h) : (∃ a, findT h.txs x.e.f = some a ∧ a.done = true) ∧ (∃ b, findT h.txs x.e.t = some b ∧ b.done = true) ∧ x.e.f ≠ x.e.t ∧ 1 ≤ x.n := by
  obtain ⟨h1, h2⟩ := (mem_edgesR hr).1 hx
  have h3 : 1 ≤ x.n := by omega
  unfold cntR at h1
  cases ha : doneT h.txs x.e.f with
  | none => rw [ha] at h1; exact absurd rfl h1
  | some a =>
    cases hb : doneT h.txs x.e.t with
    | none => rw [ha, hb] at h1; exact absurd rfl h1
    | some b =>
      rw [ha, hb] at h1
      simp only at h1
      refine ⟨⟨a, doneT_some ha⟩, ⟨b, doneT_some hb⟩, fun e => ?_, h3⟩
      rw [if_pos e] at h1
      exact absurd rfl h1
theorem cntR_le (n2 : ∀ t ∈ h.txs, t.ops.length ≤ 24) (e : Edge) : cntR h e ≤ 24 := by
  unfold cntR
  cases ha : doneT h.txs e.f with
  | none => simp
  | some a =>
    cases hb : doneT h.txs e.t with
    | none => simp
    | some b =>
      simp only
      have h1 := n2 a (find_id (doneT_some ha).1).1
      have h2 := n2 b (find_id (doneT_some hb).1).1
      split
      · omega
      · split
        · split <;> omega
        · split
          · exact Nat.le_trans List.countP_le_length h2
          · split
            · exact Nat.le_trans List.countP_le_length h1
            · omega
theorem edge_few (n2 : ∀ t ∈ h.txs, t.ops.length ≤ 24) {x : Hvy} (hx : x ∈ edgesR h) : 0 ≤ x.n ∧ x.n ≤ 24 := by
  obtain ⟨_, h2⟩ := (mem_edgesR (edgesR_right hx)).1 hx
  have := cntR_le n2 x.e
  omega
end
theorem wsum_bound (p : Hvy → Bool) : ∀ (l : List Hvy) (a : Int), (∀ x ∈ l, 0 ≤ x.n ∧ x.n ≤ 24) → a ≤ wsum p a l ∧ wsum p a l ≤ a + 24 * (l.length : Int)
  | [], a, _ => by simp [wsum]
  | x :: l, a, h => by
    have h1 := h x (List.mem_cons_self ..)
    unfold wsum
    split
    · have := wsum_bound p l (a + x.n) fun y hy => h y (List.mem_cons_of_mem _ hy)
      rw [List.length_cons]; omega
    · have := wsum_bound p l a fun y hy => h y (List.mem_cons_of_mem _ hy)
      rw [List.length_cons]; omega
theorem wsum_snoc (p : Hvy → Bool) (x : Hvy) : ∀ (l : List Hvy) (a : Int), wsum p a (l ++ [x]) = if p x then wsum p a l + x.n else wsum p a l
  | [], a => by simp [wsum]
  | y :: l, a => by
    show (if p y then wsum p (a + y.n) (l ++ [x]) else wsum p a (l ++ [x])) = if p x then (if p y then wsum p (a + y.n) l else wsum p a l) + x.n else if p y then wsum p (a + y.n) l else wsum p a l
    rw [wsum_snoc p x l, wsum_snoc p x l]
    split <;> split <;> rfl
theorem wsum_take {p : Hvy → Bool} {a : Int} {l : List Hvy} {k : Nat} {x : Hvy} (hk : k < l.length) (hx : l[k] = x) : wsum p a (l.take (k + 1)) = if p x then wsum p a (l.take k) + x.n else wsum p a (l.take k) := by
  subst hx
  rw [List.take_succ_eq_append_getElem hk, wsum_snoc]
theorem countP_take {α : Type} {p : α → Bool} {l : List α} {k : Nat} {x : α} (hk : k < l.length) (hx : l[k] = x) : (l.take (k + 1)).countP p = (l.take k).countP p + if p x = true then 1 else 0 := by
  subst hx
  rw [List.take_succ_eq_append_getElem hk, List.countP_append, List.countP_cons, List.countP_nil]
  omega
end Go.Proofs.Ytaicemjckagcaaa
