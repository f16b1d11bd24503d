/- Caches: which entries were used last; plain laws of lists. -/
import Derived.Test.YtpiigfbdgmjidaaCacheH
import Derived.Test.YtpiigfbdgmjidaaCacheJ
namespace Go.Proofs.Ytpiigfbdgmjidaa
set_option linter.unusedVariables false
open Go.RowKit

/-- the first of each key -/
def firsts : List Ent → List Ent
  | [] => []
  | x :: r => x :: (firsts r).filter fun y => y.key ≠ x.key
theorem firsts_sub : ∀ (r : List Ent) (y : Ent), y ∈ firsts r → y ∈ r
  | [], y, h => by simp [firsts] at h
  | x :: r, y, h => by
    simp only [firsts, List.mem_cons, List.mem_filter] at h
    rcases h with rfl | h
    · simp
    · exact List.mem_cons_of_mem _ (firsts_sub r y h.1)
theorem firsts_nodup : ∀ (r : List Ent), ((firsts r).map Ent.key).Nodup
  | [] => by simp [firsts]
  | x :: r => by
    simp only [firsts, List.map_cons, List.nodup_cons]
    refine ⟨fun h => ?_, ?_⟩
    · obtain ⟨y, hy, hk⟩ := List.mem_map.1 h
      have := (List.mem_filter.1 hy).2
      simp [hk] at this
    · exact (List.filter_sublist.map _).nodup (firsts_nodup r)
theorem firsts_append : ∀ (a b : List Ent), firsts (a ++ b) = firsts a ++ (firsts b).filter fun y => y.key ∉ a.map Ent.key
  | [], b => by
    simp only [List.nil_append, firsts, List.map_nil, List.not_mem_nil, not_false_eq_true, decide_true]
    exact (List.filter_eq_self.2 fun _ _ => rfl).symm
  | x :: a, b => by
    simp only [List.cons_append, firsts]
    rw [firsts_append a b, List.filter_append, List.filter_filter]
    congr 2
    apply List.filter_congr
    intro y _
    simp only [List.map_cons, List.mem_cons, not_or, Bool.decide_and]
theorem firsts_len : ∀ (r : List Ent), (firsts r).length ≤ r.length
  | [] => by simp [firsts]
  | x :: r => by
    simp only [firsts, List.length_cons]
    have h1 := firsts_len r
    have h2 := List.length_filter_le (fun y : Ent => decide (y.key ≠ x.key)) (firsts r)
    omega
theorem filter_len {es : List Ent} (h : (es.map Ent.key).Nodup) (k : Int × Int) : es.length ≤ (es.filter fun y => y.key ≠ k).length + 1 := by
  by_cases hk : k ∈ es.map Ent.key
  · obtain ⟨x, hx, rfl⟩ := List.mem_map.1 hk
    obtain ⟨as_, bs, rfl⟩ := List.append_of_mem hx
    rw [filter_one h]
    simp only [List.length_append, List.length_cons]
    omega
  · rw [filter_all hk]
    omega
/-- one more is put -/
theorem put_firsts (n : Nat) (r : List Ent) (x : Ent) : putE n ((firsts r).take n).reverse x = ((firsts (x :: r)).take n).reverse := by
  have hnd := firsts_nodup r
  have hnt : (((firsts r).take n).map Ent.key).Nodup := ((List.take_sublist n (firsts r)).map _).nodup hnd
  have hlen := filter_len hnt x.key
  have hsplit : (firsts r).filter (fun y => y.key ≠ x.key) = ((firsts r).take n).filter (fun y => y.key ≠ x.key) ++ ((firsts r).drop n).filter (fun y => y.key ≠ x.key) := by
    rw [← List.filter_append, List.take_append_drop]
  unfold putE
  simp only [firsts]
  by_cases h0 : n = 0
  · subst h0
    simp
  · rw [if_neg (by omega), List.filter_reverse]
    generalize hg : ((firsts r).take n).filter (fun y => y.key ≠ x.key) = g at *
    have hgl : g.length ≤ n := by
      rw [← hg]
      exact Nat.le_trans (List.length_filter_le _ _) (by rw [List.length_take]; omega)
    obtain ⟨m, rfl⟩ : ∃ m, n = m + 1 := ⟨n - 1, by omega⟩
    rw [List.take_succ_cons, List.reverse_cons, hsplit]
    congr 1
    by_cases hf : m + 1 ≤ g.length
    · rw [if_pos (by rw [List.length_reverse]; omega), List.take_append_of_le_length (by omega), List.drop_reverse]
      congr 2
      omega
    · rw [if_neg (by rw [List.length_reverse]; omega)]
      congr 1
      by_cases hm : g.length = m
      · rw [List.take_append_of_le_length (by omega), List.take_of_length_le (by omega)]
      · have hd : (firsts r).drop (m + 1) = [] := by
          rw [List.drop_eq_nil_iff]
          rw [List.length_take] at hlen
          omega
        rw [hd]
        simp only [List.filter_nil, List.append_nil]
        rw [List.take_of_length_le (by omega)]
def puts (N : Int) (l : List Ent) : List Ent := l.foldl (putE N) []
theorem puts_snoc (N : Int) (l : List Ent) (x : Ent) : puts N (l ++ [x]) = putE N (puts N l) x := by
  unfold puts; rw [List.foldl_append]; rfl
theorem puts_eq (n : Nat) (l : List Ent) : puts n l = ((firsts l.reverse).take n).reverse := by
  rw [← List.reverse_reverse l]
  generalize l.reverse = r
  rw [List.reverse_reverse]
  induction r with
  | nil => simp [puts, firsts]
  | cons x r ih => rw [List.reverse_cons, puts_snoc, ih, put_firsts]
theorem puts_len (n : Nat) (l : List Ent) : (puts n l).length ≤ n := by
  rw [puts_eq, List.length_reverse, List.length_take]; omega
/-- the next of them, if its key is new -/
theorem firsts_new {r : List Ent} {k : Nat} (hk : k < r.length) (h : r[k].key ∉ (r.take k).map Ent.key) :
    (firsts r)[(firsts (r.take k)).length]? = some r[k] ∧ (firsts (r.take (k + 1))).length = (firsts (r.take k)).length + 1 := by
  constructor
  · conv => lhs; rw [← List.take_append_drop k r]
    rw [firsts_append, List.getElem?_append_right (by rw [List.take_append_drop]; exact Nat.le_refl _), List.take_append_drop, Nat.sub_self, List.drop_eq_getElem_cons hk, firsts, List.filter_cons_of_pos (by simpa using h)]
    rfl
  · rw [List.take_succ_eq_append_getElem hk, firsts_append, List.length_append]
    congr 1
    simp only [firsts, List.filter_nil]
    rw [List.filter_cons_of_pos (by simpa using h)]
    rfl
theorem firsts_old {r : List Ent} {k : Nat} (hk : k < r.length) (h : r[k].key ∈ (r.take k).map Ent.key) : (firsts (r.take (k + 1))).length = (firsts (r.take k)).length := by
  rw [List.take_succ_eq_append_getElem hk, firsts_append, List.length_append]
  simp only [firsts, List.filter_nil]
  rw [List.filter_cons_of_neg (by simpa using h)]
  simp
theorem take_not {l : List Ent} (h : (l.map Ent.key).Nodup) {n j : Nat} {x : Ent} (hx : l[j]? = some x) (hj : n ≤ j) : x.key ∉ (l.take n).map Ent.key := by
  intro hm
  have h2 : l.map Ent.key = (l.take n).map Ent.key ++ (l.drop n).map Ent.key := by rw [← List.map_append, List.take_append_drop]
  rw [h2, List.nodup_append] at h
  have hd : x ∈ l.drop n := by
    have : (l.drop n)[j - n]? = some x := by rw [List.getElem?_drop, show n + (j - n) = j by omega]; exact hx
    exact List.mem_of_getElem? this
  exact h.2.2 _ hm _ (List.mem_map_of_mem hd) rfl
theorem take_mem {l : List Ent} {n j : Nat} {x : Ent} (hx : l[j]? = some x) (hj : j < n) : x ∈ l.take n := by
  have : (l.take n)[j]? = some x := by rw [List.getElem?_take, if_pos hj]; exact hx
  exact List.mem_of_getElem? this
end Go.Proofs.Ytpiigfbdgmjidaa
