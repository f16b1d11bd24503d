/- Who writes each key. -/
import Derived.Test.YtaicemjckagcaaaMal
import Derived.Test.YtaicemjckagcaaaMap
import Derived.Test.YtaicemjckagcaaaMaq
import Derived.Test.YtaicemjckagcaaaMaw
import Derived.Test.YtaicemjckagcaaaMbf
import Derived.Test.YtaicemjckagcaaaMbg
namespace Go.Proofs.Ytaicemjckagcaaa
set_option linter.unusedVariables false
open Go.RowKit
/-- block b is a map of slices of numbers of the call's own, each in a block of its own -/
structure MapSl (w : World) (base b : Nat) (m : List (Int × Value)) (f : Int → List Int) : Prop where
  is : MapIs w b (fun n : Int => Value.int .i64 n) m
  row : ∀ key, ∃ A c, (mget m key).getD (.slice none 0 0) = .slice A (f key).length c ∧ w.ownsRow base 3 1 (.slice A (f key).length c) (f key).length ((f key).map (Value.int .i64))
  apart : ∀ k1 k2, k1 ≠ k2 → ∀ i, Own ((mget m k1).getD (.slice none 0 0)) i → ¬ Own ((mget m k2).getD (.slice none 0 0)) i
theorem MapSl.upd {S : Nat → Prop} {w w' : World} {base b : Nat} {m : List (Int × Value)} {f : Int → List Int} (h : MapSl w base b m f) (k : Upd S w w') (hb : ¬ S b) (hS : ∀ i, base ≤ i → i < w.heap.size → ¬ S i) : MapSl w' base b m f := by
  refine ⟨h.is.upd k hb, fun key => ?_, h.apart⟩
  obtain ⟨A, c, h1, h2⟩ := h.row key
  exact ⟨A, c, h1, own_upd h2 k fun i hi => by have := h2.lt i hi; exact hS i this.1 this.2⟩
theorem MapSl.new {w : World} {base b : Nat} (h : MapIs w b (fun n : Int => Value.int .i64 n) []) : MapSl w base b [] fun _ => [] :=
  ⟨h, fun _ => ⟨none, 0, rfl, World.ownsRow_nil _ _ _ _⟩, fun _ _ _ i hi => by simp [mget_nil, Own, Value.ownBlock] at hi⟩
theorem MapSl.congr {w : World} {base b : Nat} {m : List (Int × Value)} {f g : Int → List Int} (h : MapSl w base b m f) (hfg : ∀ key, f key = g key) : MapSl w base b m g := by
  have : f = g := funext hfg
  rw [← this]; exact h
/-- one more number behind a key's: the slice was appended to, then stored -/
theorem MapSl.put {w w1 w2 : World} {base b : Nat} {m : List (Int × Value)} {f : Int → List Int} {key x : Int} {A A' : Option Addr} {c c' : Nat} (h : MapSl w base b m f)
    (hA : (mget m key).getD (.slice none 0 0) = .slice A (f key).length c) (hb : b < base)
    (hown : w1.ownsRow base 3 1 (.slice A' ((f key).length + 1) c') ((f key).length + 1) ((f key ++ [x]).map (Value.int .i64)))
    (hu1 : Upd (Own (.slice A (f key).length c)) w w1) (hg : ∀ i, Own (.slice A' ((f key).length + 1) c') i → Own (.slice A (f key).length c) i ∨ w.heap.size ≤ i)
    (hm2 : MapIs w2 b (fun n : Int => Value.int .i64 n) (mput m key (.slice A' ((f key).length + 1) c'))) (hu2 : Upd (One b) w1 w2) :
    MapSl w2 base b (mput m key (.slice A' ((f key).length + 1) c')) (fun k => if k = key then f key ++ [x] else f k) := by
  have hB : ∀ i, base ≤ i → ¬ One b i := fun i hi e => by cases e; omega
  refine ⟨hm2, fun k => ?_, fun k1 k2 hne i hi hi2 => ?_⟩
  · by_cases hk : k = key
    · subst hk
      simp only [if_true]
      refine ⟨A', c', by rw [mget_same]; simp, ?_⟩
      have := own_upd hown hu2 fun i hi => hB i (hown.lt i hi).1
      simpa using this
    · simp only [if_neg hk]
      obtain ⟨B, d, h1, h2⟩ := h.row k
      refine ⟨B, d, by rw [mget_other _ _ hk]; exact h1, own_upd (own_upd h2 hu1 fun i hi e => ?_) hu2 fun i hi => hB i (h2.lt i hi).1⟩
      exact h.apart k key hk i (by rw [h1]; exact hi) (by rw [hA]; exact e)
  · by_cases e1 : k1 = key
    · subst e1
      have hne2 : k2 ≠ k1 := fun e => hne e.symm
      rw [mget_same] at hi
      rw [mget_other _ _ hne2] at hi2
      rcases hg i hi with hi | hi
      · exact h.apart k1 k2 hne i (by rw [hA]; exact hi) hi2
      · obtain ⟨B, d, h1, h2⟩ := h.row k2
        rw [h1] at hi2
        have := (h2.lt i hi2).2
        omega
    · rw [mget_other _ _ e1] at hi
      by_cases e2 : k2 = key
      · subst e2
        rw [mget_same] at hi2
        rcases hg i hi2 with hi2 | hi2
        · exact h.apart k1 k2 hne i hi (by rw [hA]; exact hi2)
        · obtain ⟨B, d, h1, h2⟩ := h.row k1
          rw [h1] at hi
          have := (h2.lt i hi).2
          omega
      · rw [mget_other _ _ e2] at hi2
        exact h.apart k1 k2 hne i hi hi2
theorem addK_append (s a b : List Int) : addK s (a ++ b) = addK (addK s a) b := by
  induction a generalizing s with
  | nil => rfl
  | cons x a ih => exact ih _
theorem addK_keys (m : List (Int × Value)) (key : Int) (v : Value) (s ks : List Int) (h : m.map (·.1) = addK s ks) : (mput m key v).map (·.1) = addK s (ks ++ [key]) := by
  rw [mput_keys, addK_append, h]
  rfl
theorem zeroSl (w : World) : (zeroValue 22).run Try.prog w = .ok (.slice none 0 0) w := by kernel_rfl
/-- the map's slices lie neither in that block nor in that slice's -/
def Apart (m : List (Int × Value)) (g : Nat) (v : Value) : Prop := ∀ key i, Own ((mget m key).getD (.slice none 0 0)) i → i ≠ g ∧ ¬ Own v i
theorem Apart.put {m : List (Int × Value)} {g z : Nat} {v old new : Value} {key : Int} (h : Apart m g v) (ho : (mget m key).getD (.slice none 0 0) = old) (hn : ∀ i, Own new i → Own old i ∨ z ≤ i) (hg : g < z) (hv : ∀ i, Own v i → i < z) : Apart (mput m key new) g v := fun k i hi => by
  by_cases e : k = key
  · subst e
    rw [mget_same] at hi
    rcases hn i hi with h1 | h1
    · exact h k i (by rw [ho]; exact h1)
    · exact ⟨by omega, fun h2 => by have := hv i h2; omega⟩
  · rw [mget_other _ _ e] at hi
    exact h k i hi
theorem MapSl.block_lt {w : World} {base b : Nat} {m : List (Int × Value)} {f : Int → List Int} (h : MapSl w base b m f) (key : Int) (i : Nat) (hi : Own ((mget m key).getD (.slice none 0 0)) i) : base ≤ i ∧ i < w.heap.size := by
  obtain ⟨A, c, h1, h2⟩ := h.row key
  rw [h1] at hi
  exact h2.lt i hi
end Go.Proofs.Ytaicemjckagcaaa

/- Whether a history is right. -/
namespace Go.Proofs.Ytaicemjckagcaaa
set_option linter.unusedVariables false
open Go.RowKit
section
variable {h : Hist} {k : Nat}
end
section
variable {txs : List HTx} {k : Nat} {x : HTx}
end
section
variable {txs : List HTx} {ords : List HOrd} {k : Nat} {x : HOrd}
end
section
variable {F : Nat → Prop} {w : World} {i0 : Int} {dn : Bool} {A : Option Addr} {c : Nat} {l : List HOp}
end
end Go.Proofs.Ytaicemjckagcaaa

/- What the document tells of histories, in plain words; it is what the program tells. -/
namespace Go.Proofs.Ytaicemjckagcaaa
set_option linter.unusedVariables false
open Go.RowKit
/-! keys -/
theorem mem_addK (a : Int) : ∀ (l s : List Int), a ∈ addK s l ↔ a ∈ s ∨ a ∈ l
  | [], s => by simp [addK]
  | k :: l, s => by
    show a ∈ addK (if k ∈ s then s else s ++ [k]) l ↔ _
    rw [mem_addK a l]
    by_cases h : k ∈ s
    · rw [if_pos h, List.mem_cons]; grind
    · rw [if_neg h, List.mem_cons, List.mem_append, List.mem_singleton]; grind
theorem addK_nodup : ∀ (l s : List Int), s.Nodup → (addK s l).Nodup
  | [], _, h => h
  | k :: l, s, h => by
    show (addK (if k ∈ s then s else s ++ [k]) l).Nodup
    refine addK_nodup l _ ?_
    split
    · exact h
    · rename_i hk
      rw [List.nodup_append]
      exact ⟨h, by simp, fun a ha b hb => by rw [List.mem_singleton] at hb; subst hb; exact fun e => hk (e ▸ ha)⟩
theorem rise_nodup {l : List Int} (h : l.Pairwise (· < ·)) : l.Nodup := h.imp fun h => Int.ne_of_lt h
/-! is a history right, by the document -/
end Go.Proofs.Ytaicemjckagcaaa

/- Orders: the first order that goes along all edges, in plain words; what is kept while ids are taken one by one. -/
namespace Go.Proofs.Ytaicemjckagcaaa
set_option linter.unusedVariables false
open Go.RowKit
/-- nobody that is left stands ahead of it -/
def freeE (l : List Edge) (left : List Int) (x : Int) : Bool := l.all fun e => !(decide (e.t = x) && decide (e.f ∈ left))
/-- the least that is free goes next -/
def ordA (l : List Edge) : Nat → List Int → List Int → Option (List Int)
  | 0, _, out => some out
  | n + 1, left, out => match left.find? (freeE l left) with
    | none => none
    | some x => ordA l n (left.erase x) (out ++ [x])
def ordD (ids : List Int) (l : List Edge) : Option (List Int) := ordA l (setK ids).length (setK ids) []
/-- how many edges come to it from those that are left -/
def cntF (l : List Edge) (L : List Int) (x : Int) : Nat := (l.filter fun e => decide (e.t = x) && decide (e.f ∈ L)).length
/-- where the edges lead to from one -/
def nextF (l : List Edge) (ids : List Int) (a : Int) : List Int := (l.filter fun e => decide (e.f = a) && (decide (e.f ∈ ids) && decide (e.t ∈ ids))).map (·.t)
theorem free_cnt (l : List Edge) (L : List Int) (x : Int) : freeE l L x = (cntF l L x == 0) := by
  rw [Bool.eq_iff_iff]
  unfold freeE cntF
  simp only [List.all_eq_true, beq_iff_eq, List.length_eq_zero_iff, List.filter_eq_nil_iff]
  grind
theorem cntF_le (l : List Edge) (L : List Int) (x : Int) : cntF l L x ≤ l.length := List.length_filter_le _ _
theorem nextF_le (l : List Edge) (ids : List Int) (x : Int) : (nextF l ids x).length ≤ l.length := by unfold nextF; rw [List.length_map]; exact List.length_filter_le _ _
theorem cntF_cons (e : Edge) (l : List Edge) (L : List Int) (x : Int) : cntF (e :: l) L x = (if e.t = x ∧ e.f ∈ L then 1 else 0) + cntF l L x := by
  unfold cntF
  by_cases h : e.t = x ∧ e.f ∈ L
  · rw [if_pos h, List.filter_cons_of_pos (by simpa using h), List.length_cons]; omega
  · rw [if_neg h, List.filter_cons_of_neg (by simpa using h)]; omega
theorem nextF_cons (e : Edge) (l : List Edge) (ids : List Int) (a : Int) : nextF (e :: l) ids a = (if e.f = a ∧ e.f ∈ ids ∧ e.t ∈ ids then [e.t] else []) ++ nextF l ids a := by
  unfold nextF
  by_cases h : e.f = a ∧ e.f ∈ ids ∧ e.t ∈ ids
  · rw [if_pos h, List.filter_cons_of_pos (by simpa using h)]; rfl
  · rw [if_neg h, List.filter_cons_of_neg (by simpa using h)]; rfl
theorem cnt_split (ids L : List Int) (m x : Int) (hm : m ∈ L) (hd : L.Nodup) (hi : m ∈ ids) (hx : x ∈ ids) : ∀ l : List Edge, cntF l L x = cntF l (L.erase m) x + (nextF l ids m).count x
  | [] => rfl
  | e :: l => by
    have ih := cnt_split ids L m x hm hd hi hx l
    rw [cntF_cons, cntF_cons, nextF_cons, List.count_append, ih]
    have he : e.f ∈ L.erase m ↔ e.f ≠ m ∧ e.f ∈ L := hd.mem_erase_iff
    by_cases h1 : e.t = x
    · subst h1
      by_cases h2 : e.f = m
      · rw [if_pos ⟨rfl, by rw [h2]; exact hm⟩, if_neg (by rw [he]; exact fun h => h.2.1 h2), if_pos ⟨h2, by rw [h2]; exact hi, hx⟩]
        simp; omega
      · rw [if_neg (c := e.f = m ∧ _) (fun h => h2 h.1)]
        by_cases h3 : e.f ∈ L
        · rw [if_pos ⟨rfl, h3⟩, if_pos ⟨rfl, he.2 ⟨h2, h3⟩⟩]; simp; omega
        · rw [if_neg (fun h => h3 h.2), if_neg (fun h => h3 (he.1 h.2).2)]; simp
    · rw [if_neg (fun h => h1 h.1), if_neg (fun h => h1 h.1)]
      split
      · rw [show [e.t].count x = 0 by rw [List.count_singleton]; simp [h1]]; omega
      · simp
theorem next_ids (l : List Edge) (ids : List Int) (a x : Int) (h : x ∈ nextF l ids a) : x ∈ ids := by
  unfold nextF at h
  obtain ⟨e, he, rfl⟩ := List.mem_map.1 h
  rw [List.mem_filter] at he
  simp only [Bool.and_eq_true, decide_eq_true_eq] at he
  exact he.2.2.2
/-- what is kept: who is left, what is still to be taken off the counts, who is ready, and the counts -/
structure TpI (l : List Edge) (ids L nx ys : List Int) (g : Int → Int) : Prop where
  rise : L.Pairwise (· < ·)
  sub : ∀ x ∈ L, x ∈ ids
  cnt : ∀ x ∈ ids, g x = 1 + ((cntF l L x + nx.count x : Nat) : Int)
  heap : ys.Perm (L.filter fun x => cntF l L x + nx.count x == 0)
  gone : ∀ x ∈ ids, x ∉ L → cntF l L x + nx.count x = 0
  nxs : ∀ x ∈ nx, x ∈ ids
theorem TpI.mem {l : List Edge} {ids L nx ys : List Int} {g : Int → Int} (h : TpI l ids L nx ys g) (x : Int) : x ∈ ys ↔ x ∈ L ∧ cntF l L x + nx.count x = 0 := by
  rw [h.heap.mem_iff, List.mem_filter, beq_iff_eq]
theorem TpI.nodup {l : List Edge} {ids L nx ys : List Int} {g : Int → Int} (h : TpI l ids L nx ys g) : ys.Nodup := h.heap.nodup_iff.2 ((rise_nodup h.rise).filter _)
theorem TpI.step {l : List Edge} {ids L nx ys : List Int} {x : Int} {g : Int → Int} (h : TpI l ids L (x :: nx) ys g) :
    TpI l ids L nx (if g x - 1 = 1 then ys ++ [x] else ys) (fun y => if y = x then g x - 1 else g y) := by
  have hx := h.nxs x (List.mem_cons_self ..)
  have hgx := h.cnt x hx
  rw [List.count_cons_self] at hgx
  have hxL : x ∈ L := Classical.byContradiction fun hn => by
    have := h.gone x hx hn
    rw [List.count_cons_self] at this
    omega
  have hco : ∀ y, y ≠ x → (x :: nx).count y = nx.count y := fun y hy => List.count_cons_of_ne (Ne.symm hy)
  have hxn : x ∉ ys := fun hm => by
    have := ((h.mem x).1 hm).2
    rw [List.count_cons_self] at this
    omega
  refine ⟨h.rise, h.sub, fun y hy => ?_, ?_, fun y hy hn => ?_, fun y hy => h.nxs y (List.mem_cons_of_mem _ hy)⟩
  · by_cases e : y = x
    · subst e; rw [if_pos rfl]; omega
    · rw [if_neg e, h.cnt y hy, hco y e]
  · have hnd : (L.filter fun y => cntF l L y + nx.count y == 0).Nodup := (rise_nodup h.rise).filter _
    split
    · rename_i he
      refine (List.perm_ext_iff_of_nodup ?_ hnd).2 fun y => ?_
      · rw [List.nodup_append]
        exact ⟨h.nodup, by simp, fun a ha b hb => by rw [List.mem_singleton] at hb; subst hb; exact fun e => hxn (e ▸ ha)⟩
      · rw [List.mem_append, List.mem_singleton, h.mem, List.mem_filter, beq_iff_eq]
        by_cases e : y = x
        · subst e
          constructor
          · intro _; exact ⟨hxL, by omega⟩
          · intro _; exact Or.inr rfl
        · rw [hco y e]; simp [e]
    · rename_i he
      refine (List.perm_ext_iff_of_nodup h.nodup hnd).2 fun y => ?_
      rw [h.mem, List.mem_filter, beq_iff_eq]
      by_cases e : y = x
      · subst e
        rw [List.count_cons_self]
        constructor
        · rintro ⟨_, h2⟩; omega
        · rintro ⟨_, h2⟩; omega
      · rw [hco y e]
  · have := h.gone y hy hn
    by_cases e : y = x
    · subst e; exact absurd hxL hn
    · rw [hco y e] at this; exact this
theorem least_find {L : List Int} {p : Int → Bool} {m : Int} (hr : L.Pairwise (· < ·)) (hm : m ∈ L) (hp : p m = true) (hl : ∀ y ∈ L, p y = true → m ≤ y) : L.find? p = some m := by
  cases hf : L.find? p with
  | none => rw [List.find?_eq_none] at hf; exact absurd hp (hf m hm)
  | some x =>
    have hx := List.find?_some hf
    have hxm := List.mem_of_find?_eq_some hf
    have h1 := hl x hxm hx
    rw [List.find?_eq_some_iff_append] at hf
    obtain ⟨_, l1, l2, rfl, hl1⟩ := hf
    rcases List.mem_append.1 hm with h2 | h2
    · have := hl1 m h2; rw [hp] at this; simp at this
    · rcases List.mem_cons.1 h2 with rfl | h2
      · rfl
      · have := (List.pairwise_cons.1 (List.pairwise_append.1 hr).2.1).1 m h2
        omega
theorem TpI.find {l : List Edge} {ids L ys : List Int} {g : Int → Int} (h : TpI l ids L [] ys g) {m : Int} (hm : m ∈ ys) (hl : ∀ y ∈ ys, m ≤ y) : L.find? (freeE l L) = some m := by
  have h1 := (h.mem m).1 hm
  refine least_find h.rise h1.1 (by rw [free_cnt]; simpa using h1.2) fun y hy hp => hl y ((h.mem y).2 ⟨hy, by rw [free_cnt] at hp; simpa using hp⟩)
theorem TpI.pop {l : List Edge} {ids L xs ys : List Int} {g : Int → Int} {m : Int} (h : TpI l ids L [] xs g) (hp : (ys ++ [m]).Perm xs) : TpI l ids (L.erase m) (nextF l ids m) ys g := by
  have hmx : m ∈ xs := hp.mem_iff.1 (by simp)
  have hmL := (h.mem m).1 hmx
  have hnd := rise_nodup h.rise
  have hmi := h.sub m hmL.1
  have hs : ∀ x ∈ ids, cntF l L x = cntF l (L.erase m) x + (nextF l ids m).count x := fun x hx => cnt_split ids L m x hmL.1 hnd hmi hx l
  have hyn : (ys ++ [m]).Nodup := hp.nodup_iff.2 h.nodup
  refine ⟨h.rise.sublist List.erase_sublist, fun x hx => h.sub x (List.mem_of_mem_erase hx), fun x hx => ?_, ?_, fun x hx hn => ?_, fun x hx => next_ids l ids m x hx⟩
  · rw [h.cnt x hx, ← hs x hx]; simp
  · refine (List.perm_ext_iff_of_nodup (List.nodup_append.1 hyn).1 ((hnd.erase m).filter _)).2 fun x => ?_
    rw [List.mem_filter, beq_iff_eq, hnd.mem_erase_iff]
    have h1 : x ∈ xs ↔ x ∈ ys ∨ x = m := by rw [← hp.mem_iff, List.mem_append, List.mem_singleton]
    have h2 := h.mem x
    have h3 : m ∉ ys := fun hm => (List.nodup_append.1 hyn).2.2 m hm m (by simp) rfl
    constructor
    · intro hx
      have h4 := h2.1 (h1.2 (Or.inl hx))
      refine ⟨⟨fun e => h3 (e ▸ hx), h4.1⟩, ?_⟩
      rw [← hs x (h.sub x h4.1)]; simpa using h4.2
    · rintro ⟨⟨h4, h5⟩, h6⟩
      rw [← hs x (h.sub x h5)] at h6
      rcases h1.1 (h2.2 ⟨h5, by simpa using h6⟩) with h7 | h7
      · exact h7
      · exact absurd h7 h4
  · rw [← hs x hx]
    rw [hnd.mem_erase_iff] at hn
    by_cases e : x = m
    · subst e; simpa using hmL.2
    · simpa using h.gone x hx (fun h => hn ⟨e, h⟩)
theorem TpI.start {l : List Edge} {ids L xs : List Int} {g : Int → Int} (hL : L.Pairwise (· < ·)) (hm : ∀ x, x ∈ L ↔ x ∈ ids) (hg : ∀ x ∈ ids, g x = 1 + ((cntF l ids x : Nat) : Int)) (hx : xs.Perm (L.filter fun x => g x == 1)) : TpI l ids L [] xs g := by
  have hc : ∀ x, cntF l L x = cntF l ids x := fun x => by unfold cntF; simp only [hm]
  refine ⟨hL, fun x hx => (hm x).1 hx, fun x hx => by rw [hg x hx, hc]; simp, ?_, fun x hx hn => absurd ((hm x).2 hx) hn, fun _ h => by cases h⟩
  have : (L.filter fun x => cntF l L x + ([] : List Int).count x == 0) = L.filter fun x => g x == 1 := List.filter_congr fun x hx => by
    rw [hg x ((hm x).1 hx), hc, Bool.eq_iff_iff, beq_iff_eq, beq_iff_eq, List.count_nil]; omega
  rw [this]; exact hx
theorem TpI.stuck {l : List Edge} {ids L : List Int} {g : Int → Int} (h : TpI l ids L [] [] g) : L.find? (freeE l L) = none := by
  rw [List.find?_eq_none]
  intro x hx hf
  rw [free_cnt] at hf
  have := (h.mem x).2 ⟨hx, by simpa using hf⟩
  cases this
theorem ordA_none {l : List Edge} {L out : List Int} (h : L.find? (freeE l L) = none) (hn : L ≠ []) : ordA l L.length L out = none := by
  cases L with
  | nil => exact absurd rfl hn
  | cons a L => show (match (a :: L).find? (freeE l (a :: L)) with | none => none | some x => _) = none; rw [h]
theorem ordA_some {l : List Edge} {L out : List Int} {m : Int} (h : L.find? (freeE l L) = some m) : ordA l L.length L out = ordA l (L.erase m).length (L.erase m) (out ++ [m]) := by
  have hm := List.mem_of_find?_eq_some h
  cases L with
  | nil => cases hm
  | cons a L =>
    rw [List.length_erase_of_mem hm]
    show (match (a :: L).find? (freeE l (a :: L)) with | none => none | some x => _) = _
    rw [h]
    rfl
theorem cntF_take {l : List Edge} {k : Nat} {e : Edge} (hk : k < l.length) (he : l[k] = e) (L : List Int) (x : Int) : cntF (l.take (k + 1)) L x = cntF (l.take k) L x + if e.t = x ∧ e.f ∈ L then 1 else 0 := by
  subst he
  unfold cntF
  rw [List.take_succ_eq_append_getElem hk, List.filter_append, List.length_append]
  congr 1
  split
  · rename_i h; rw [List.filter_cons_of_pos (by simpa using h)]; rfl
  · rename_i h; rw [List.filter_cons_of_neg (by simpa using h)]; rfl
theorem nextF_take {l : List Edge} {k : Nat} {e : Edge} (hk : k < l.length) (he : l[k] = e) (ids : List Int) (a : Int) : nextF (l.take (k + 1)) ids a = nextF (l.take k) ids a ++ if e.f = a ∧ e.f ∈ ids ∧ e.t ∈ ids then [e.t] else [] := by
  subst he
  unfold nextF
  rw [List.take_succ_eq_append_getElem hk, List.filter_append, List.map_append]
  congr 1
  split
  · rename_i h; rw [List.filter_cons_of_pos (by simpa using h)]; rfl
  · rename_i h; rw [List.filter_cons_of_neg (by simpa using h)]; rfl
/-- what is told of an order: it, or that there is none -/
def toldO (o : Option (List Int)) (none_ : Int) : List Int × Int := match o with
  | some l => (l, 0)
  | none => ([], none_)
end Go.Proofs.Ytaicemjckagcaaa
