/- Orders, in plain words: what is told goes along, hl1 each id once, and none that goes along is ahead of it. -/
import Derived.Test.YtaicemjckagcaaaMbh
import Derived.Test.YtaicemjckagcaaaMbu
namespace Go.Proofs.Ytaicemjckagcaaa
set_option linter.unusedVariables false
open Go.RowKit
theorem idxS_eq (x : Int) : ∀ (l : List Int) (k : Nat), idxS x l k = if x ∈ l then ((k + l.idxOf x : Nat) : Int) else -1
  | [], _ => by simp [idxS]
  | y :: l, k => by
    rw [idxS_cons, idxS_eq x l (k + 1), List.idxOf_cons]
    by_cases h : y = x
    · subst h; simp
    · have h2 : (y == x) = false := by simpa using h
      rw [if_neg h, h2]
      by_cases h3 : x ∈ l
      · rw [if_pos h3, if_pos (List.mem_cons_of_mem _ h3)]; simp; omega
      · rw [if_neg h3, if_neg (by rw [List.mem_cons]; exact fun hh => hh.elim (fun e => h e.symm) h3)]
/-- the order goes along that edge -/
def AlongP (order : List Int) (e : Edge) : Prop := e.f ∈ order → e.t ∈ order → order.idxOf e.f < order.idxOf e.t
theorem along_iff (order : List Int) (e : Edge) : alongE order e = true ↔ AlongP order e := by
  unfold alongE AlongP
  rw [idxS_eq, idxS_eq]
  by_cases h1 : e.f ∈ order <;> by_cases h2 : e.t ∈ order <;> simp [h1, h2]
theorem all_along (order : List Int) (l : List Edge) : l.all (alongE order) = true ↔ ∀ e ∈ l, AlongP order e := by
  rw [List.all_eq_true]
  exact ⟨fun h e he => (along_iff _ _).1 (h e he), fun h e he => (along_iff _ _).2 (h e he)⟩
theorem free_iff (l : List Edge) (L : List Int) (x : Int) : freeE l L x = true ↔ ∀ e ∈ l, e.t = x → e.f ∉ L := by
  unfold freeE
  rw [List.all_eq_true]
  constructor
  · intro h e he h1 h2; have := h e he; simp [h1, h2] at this
  · intro h e he
    have := h e he
    simp only [Bool.not_eq_true', Bool.and_eq_false_iff, decide_eq_false_iff_not]
    by_cases h1 : e.t = x
    · exact Or.inr (this h1)
    · exact Or.inl h1
/-- one by one, the least that is free -/
def Goes (l : List Edge) : List Int → List Int → Prop
  | L, [] => L = []
  | L, x :: p => L.find? (freeE l L) = some x ∧ Goes l (L.erase x) p
theorem goes_of (l : List Edge) : ∀ (n : Nat) (L out a : List Int), n = L.length → ordA l n L out = some a → ∃ p, a = out ++ p ∧ Goes l L p
  | 0, L, out, a, hn, h => by
    have : L = [] := List.eq_nil_of_length_eq_zero hn.symm
    cases h
    exact ⟨[], by simp, this⟩
  | n + 1, L, out, a, hn, h => by
    unfold ordA at h
    cases hf : L.find? (freeE l L) with
    | none => rw [hf] at h; cases h
    | some x =>
      rw [hf] at h
      have hx := List.mem_of_find?_eq_some hf
      obtain ⟨p, hp, hg⟩ := goes_of l n (L.erase x) (out ++ [x]) a (by rw [List.length_erase_of_mem hx]; omega) h
      exact ⟨x :: p, by rw [hp]; simp, hf, hg⟩
theorem goes_perm (l : List Edge) : ∀ (p L : List Int), Goes l L p → p.Perm L
  | [], L, h => by rw [show L = [] from h]
  | x :: p, L, h => by
    have hx := List.mem_of_find?_eq_some h.1
    exact ((goes_perm l p _ h.2).cons x).trans (List.perm_cons_erase hx).symm
theorem goes_along (l : List Edge) : ∀ (p L : List Int), Goes l L p → L.Nodup → ∀ e ∈ l, AlongP p e
  | [], _, _, _, _, _ => fun h => by cases h
  | x :: p, L, h, hd, e, he => by
    intro h1 h2
    have hp := goes_perm l (x :: p) L h
    have hf := (free_iff l L x).1 (List.find?_some h.1) e he
    by_cases et : e.t = x
    · exact absurd (hp.mem_iff.1 h1) (hf et)
    · rw [List.idxOf_cons, List.idxOf_cons]
      have et2 : (x == e.t) = false := by rw [beq_eq_false_iff_ne]; exact fun h => et h.symm
      rw [et2]
      by_cases ef : e.f = x
      · have : (x == e.f) = true := by rw [beq_iff_eq]; exact ef.symm
        rw [this]; simp
      · have ef2 : (x == e.f) = false := by rw [beq_eq_false_iff_ne]; exact fun h => ef h.symm
        rw [ef2]
        have h3 := goes_along l p _ h.2 (hd.erase x) e he ((List.mem_cons.1 h1).resolve_left ef) ((List.mem_cons.1 h2).resolve_left et)
        simpa using h3
/-- what is known of the order that is told -/
theorem ordD_some {ids : List Int} {l : List Edge} {a : List Int} (h : ordD ids l = some a) : Goes l (setK ids) a := by
  obtain ⟨p, hp, hg⟩ := goes_of l _ _ _ _ rfl h
  rw [List.nil_append] at hp
  rw [hp]; exact hg
theorem ordD_mem {ids : List Int} {l : List Edge} {a : List Int} (h : ordD ids l = some a) (x : Int) : x ∈ a ↔ x ∈ ids := by
  rw [(goes_perm _ _ _ (ordD_some h)).mem_iff, mem_setK]
theorem ordD_along {ids : List Int} {l : List Edge} {a : List Int} (h : ordD ids l = some a) : l.all (alongE a) = true := (all_along _ _).2 (goes_along _ _ _ (ordD_some h) (rise_nodup (setK_lt ids)))
end Go.Proofs.Ytaicemjckagcaaa

/- Orders and closed walks, in plain words: there is an order just if no closed walk goes through the ids. -/
namespace Go.Proofs.Ytaicemjckagcaaa
set_option linter.unusedVariables false
open Go.RowKit
/-- the edges whose two ends are both among the ids, as they are asked for -/
def qR (ids : List Int) (l : List Edge) : List Edge := (l.filter fun e => decide (e.f ∈ ids) && decide (e.t ∈ ids)).map fun e => ⟨e.f, e.t, 1, e.key⟩
theorem mem_qR {ids : List Int} {l : List Edge} {a : HArc} (h : a ∈ (qR ids l).map Edge.arc) : ∃ e ∈ l, e.f = a.f ∧ e.t = a.t ∧ a.f ∈ ids ∧ a.t ∈ ids := by
  obtain ⟨x, hx, rfl⟩ := List.mem_map.1 h
  obtain ⟨e, he, rfl⟩ := List.mem_map.1 hx
  rw [List.mem_filter] at he
  simp only [Bool.and_eq_true, decide_eq_true_eq] at he
  exact ⟨e, he.1, rfl, rfl, he.2.1, he.2.2⟩
theorem qR_mem {ids : List Int} {l : List Edge} {e : Edge} (h : e ∈ l) (hf : e.f ∈ ids) (ht : e.t ∈ ids) : (⟨e.f, e.t, 1, e.key⟩ : HArc) ∈ (qR ids l).map Edge.arc := by
  refine List.mem_map.2 ⟨⟨e.f, e.t, 1, e.key⟩, List.mem_map.2 ⟨e, ?_, rfl⟩, rfl⟩
  rw [List.mem_filter]
  simp [h, hf, ht]
theorem along_walk {ids a : List Int} {l : List Edge} (ha : ∀ e ∈ l, AlongP a e) (hm : ∀ x, x ∈ a ↔ x ∈ ids) (lo : Int) : ∀ (c : List HArc) (u v : Int), okW ((qR ids l).map Edge.arc) lo u c v → c ≠ [] → a.idxOf u < a.idxOf v
  | [], _, _, _, hn => absurd rfl hn
  | x :: c, u, v, h, _ => by
    obtain ⟨h1, rfl, _, h4⟩ := h
    obtain ⟨e, he, e1, e2, e3, e4⟩ := mem_qR h1
    have h5 := ha e he (by rw [e1, hm]; exact e3) (by rw [e2, hm]; exact e4)
    rw [e1, e2] at h5
    cases c with
    | nil => rw [← (show x.t = v from h4)]; exact h5
    | cons y c =>
      have := along_walk ha hm lo (y :: c) x.t v h4 (by simp)
      omega
theorem walk_none {ids : List Int} {l : List Edge} {lo u : Int} {c : List HArc} (h : okW ((qR ids l).map Edge.arc) lo u c u) (hn : c ≠ []) : ordD ids l = none := by
  cases ho : ordD ids l with
  | none => rfl
  | some a =>
    have := along_walk ((all_along _ _).1 (ordD_along ho)) (ordD_mem ho) lo c u u h hn
    omega
theorem exists_least (p : Int → Prop) : ∀ (L : List Int), (∃ x ∈ L, p x) → ∃ x ∈ L, p x ∧ ∀ y ∈ L, p y → x ≤ y
  | [], h => by obtain ⟨x, hx, _⟩ := h; cases hx
  | a :: L, h => by
    by_cases hL : ∃ x ∈ L, p x
    · obtain ⟨x, hx, hp, hm⟩ := exists_least p L hL
      by_cases ha : p a ∧ a ≤ x
      · refine ⟨a, List.mem_cons_self .., ha.1, fun y hy hpy => ?_⟩
        rcases List.mem_cons.1 hy with rfl | hy
        · exact Int.le_refl _
        · have := hm y hy hpy; omega
      · refine ⟨x, List.mem_cons_of_mem _ hx, hp, fun y hy hpy => ?_⟩
        rcases List.mem_cons.1 hy with rfl | hy
        · have : ¬ y ≤ x := fun hh => ha ⟨hpy, hh⟩
          omega
        · exact hm y hy hpy
    · obtain ⟨x, hx, hp⟩ := h
      rcases List.mem_cons.1 hx with rfl | hx
      · refine ⟨x, List.mem_cons_self .., hp, fun y hy hpy => ?_⟩
        rcases List.mem_cons.1 hy with rfl | hy
        · exact Int.le_refl _
        · exact absurd ⟨y, hy, hpy⟩ hL
      · exact absurd ⟨x, hx, hp⟩ hL
/-- back and back again -/
def backS (pr : Int → Int) (x : Int) : Nat → Int
  | 0 => x
  | n + 1 => pr (backS pr x n)
theorem back_add (pr : Int → Int) (x : Int) (i : Nat) : ∀ n, backS pr x (i + n) = backS pr (backS pr x i) n
  | 0 => rfl
  | n + 1 => congrArg pr (back_add pr x i n)
theorem nodup_sub : ∀ (a q : List Int), a.Nodup → (∀ x ∈ a, x ∈ q) → a.length ≤ q.length
  | [], _, _, _ => Nat.zero_le _
  | x :: a, q, hd, hs => by
    have hx := hs x (List.mem_cons_self ..)
    have hn := List.nodup_cons.1 hd
    have h1 := nodup_sub a (q.erase x) hn.2 fun y hy => by
      rw [List.mem_erase_of_ne (fun e : y = x => hn.1 (e ▸ hy))]; exact hs y (List.mem_cons_of_mem _ hy)
    rw [List.length_erase_of_mem hx] at h1
    have := List.length_pos_of_mem hx
    rw [List.length_cons]; omega
theorem back_twice (pr : Int → Int) (x : Int) (L : List Int) (h : ∀ n, backS pr x n ∈ L) : ∃ i j, i < j ∧ backS pr x i = backS pr x j := by
  apply Classical.byContradiction
  intro hn
  have hd : ((List.range (L.length + 1)).map (backS pr x)).Nodup := by
    rw [List.nodup_iff_pairwise_ne, List.pairwise_map]
    refine (List.pairwise_lt_range (n := L.length + 1)).imp fun {a b} hab e => hn ⟨a, b, hab, e⟩
  have hs : ∀ y ∈ (List.range (L.length + 1)).map (backS pr x), y ∈ L := fun y hy => by
    obtain ⟨n, _, rfl⟩ := List.mem_map.1 hy
    exact h n
  have := nodup_sub _ L hd hs
  rw [List.length_map, List.length_range] at this
  omega
theorem back_walk {D : List HArc} {pr : Int → Int} {x lo : Int} (h : ∀ n, (⟨backS pr x (n + 1), backS pr x n, 0, 0⟩ : HArc) ∈ D.map (fun a => ⟨a.f, a.t, 0, 0⟩)) (hlo : ∀ n, lo ≤ backS pr x n) : ∀ n, ∃ c, c.length = n ∧ okW D lo (backS pr x n) c x
  | 0 => ⟨[], rfl, rfl⟩
  | n + 1 => by
    obtain ⟨c, hc, hw⟩ := back_walk h hlo n
    obtain ⟨a, ha, e⟩ := List.mem_map.1 (h n)
    have e1 := congrArg HArc.f e
    have e2 := congrArg HArc.t e
    simp only at e1 e2
    exact ⟨a :: c, by simp [hc], ha, e1, hlo _, by rw [e2]; exact hw⟩
theorem none_walk {ids : List Int} {l : List Edge} (h : ordD ids l = none) : ∃ u c, c ≠ [] ∧ okW ((qR ids l).map Edge.arc) u u c u := by
  have key : ∀ (n : Nat) (L out : List Int), n = L.length → (∀ x ∈ L, x ∈ ids) → ordA l n L out = none → ∃ L', L' ≠ [] ∧ (∀ x ∈ L', x ∈ ids) ∧ ∀ x ∈ L', freeE l L' x = false := fun n => by
    induction n with
    | zero => intro L out _ _ h; cases h
    | succ n ih =>
      intro L out hn hs h
      unfold ordA at h
      cases hf : L.find? (freeE l L) with
      | none =>
        refine ⟨L, (fun e => by rw [e] at hn; cases hn), hs, fun x hx => ?_⟩
        rw [List.find?_eq_none] at hf
        simpa using hf x hx
      | some x =>
        rw [hf] at h
        have hx := List.mem_of_find?_eq_some hf
        exact ih _ _ (by rw [List.length_erase_of_mem hx]; omega) (fun y hy => hs y (List.mem_of_mem_erase hy)) h
  obtain ⟨L, hne, hs, hf⟩ := key _ _ _ rfl (fun x hx => (mem_setK ids x).1 hx) h
  have hp : ∀ x : Int, ∃ y : Int, x ∈ L → y ∈ L ∧ ∃ e ∈ l, e.f = y ∧ e.t = x := fun x => by
    by_cases hx : x ∈ L
    · have h1 : ¬ freeE l L x = true := by rw [hf x hx]; simp
      rw [free_iff] at h1
      apply Classical.byContradiction
      intro hn
      refine h1 fun e he h2 h3 => hn ⟨e.f, fun _ => ⟨h3, e, he, rfl, h2⟩⟩
    · exact ⟨0, fun h => absurd h hx⟩
  obtain ⟨pr, hpr⟩ := Classical.axiomOfChoice hp
  obtain ⟨x0, hx0⟩ := List.exists_mem_of_ne_nil L hne
  have hin : ∀ x ∈ L, ∀ n, backS pr x n ∈ L := fun x hx n => by
    induction n with
    | zero => exact hx
    | succ n ih => exact (hpr _ ih).1
  obtain ⟨i, j, hij, he⟩ := back_twice pr x0 L (hin x0 hx0)
  obtain ⟨P, rfl⟩ : ∃ P, j = i + P := ⟨j - i, by omega⟩
  have hper : ∀ n, backS pr x0 (i + P + n) = backS pr x0 (i + n) := fun n => by rw [back_add pr x0 (i + P), ← he, ← back_add]
  obtain ⟨v, hv, ⟨n, hn⟩, hm⟩ := exists_least (fun x => ∃ n, backS pr x0 (i + n) = x) L ⟨backS pr x0 i, hin x0 hx0 i, 0, rfl⟩
  have hvn : ∀ k, backS pr v k = backS pr x0 (i + n + k) := fun k => by rw [back_add, hn]
  have hback : backS pr v P = v := by rw [hvn, show i + n + P = i + P + n by omega, hper, hn]
  obtain ⟨c, hc, hw⟩ := back_walk (D := (qR ids l).map Edge.arc) (pr := pr) (x := v) (lo := v) (fun k => by
    have hk := hin v hv k
    obtain ⟨h1, e, h2, h3, h4⟩ := hpr _ hk
    refine List.mem_map.2 ⟨_, qR_mem h2 (by rw [h3]; exact hs _ h1) (by rw [h4]; exact hs _ hk), ?_⟩
    simp only [h3, h4]
    rfl) (fun k => hm _ (hin v hv k) ⟨n + k, by rw [hvn, Nat.add_assoc]⟩) P
  rw [hback] at hw
  exact ⟨v, c, fun e => by rw [e] at hc; simp at hc; omega, hw⟩
theorem kept_qR (ids : List Int) (l : List Edge) : keptE (qR ids l) 14 = qR ids l := by
  unfold keptE
  rw [List.filter_eq_self]
  intro e he
  obtain ⟨x, _, rfl⟩ := List.mem_map.1 he
  show bitR 14 1 = true
  decide
theorem round_iff (ids : List Int) (l : List Edge) (hl : l.length ≤ 1000) : (docS (qR ids l) 14 0).length = 0 ↔ ordD ids l ≠ none := by
  have hq : (qR ids l).length ≤ 100000 := by unfold qR; rw [List.length_map]; exact Nat.le_trans (List.length_filter_le _ _) (by omega)
  rcases docS_or (qR ids l) 14 0 hq with ⟨h1, h2⟩ | ⟨v, h⟩
  · rw [h1]
    refine ⟨fun _ hn => ?_, fun _ => rfl⟩
    obtain ⟨u, c, hc, hw⟩ := none_walk hn
    rw [kept_qR] at h2
    exact h2 u c hc hw (fun e => by cases e)
  · rw [kept_qR] at h
    constructor
    · intro h0
      exact absurd (by rw [List.eq_nil_of_length_eq_zero h0]; rfl) h.ne
    · intro hs
      exact absurd (walk_none h.w h.ne) hs
end Go.Proofs.Ytaicemjckagcaaa
