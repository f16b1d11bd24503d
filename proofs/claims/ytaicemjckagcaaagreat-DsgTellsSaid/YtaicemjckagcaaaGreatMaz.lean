/- Lists of numbers: sorted by putting one after another, each once. -/
import Derived.Lib.SlicesCompact
import Derived.Test.YtaicemjckagcaaaGreatMay
namespace Go.Proofs.YtaicemjckagcaaaGreat
set_option linter.unusedVariables false
def insK (x : Int) : List Int → List Int
  | [] => [x]
  | y :: l => if x ≤ y then x :: y :: l else y :: insK x l
def sortK : List Int → List Int
  | [] => []
  | x :: l => insK x (sortK l)
theorem insK_perm (x : Int) : ∀ l : List Int, (insK x l).Perm (x :: l)
  | [] => List.Perm.refl _
  | y :: l => by
    unfold insK
    split
    · exact List.Perm.refl _
    · exact ((insK_perm x l).cons y).trans (List.Perm.swap x y l)
theorem sortK_perm : ∀ l : List Int, (sortK l).Perm l
  | [] => List.Perm.refl _
  | x :: l => (insK_perm x _).trans ((sortK_perm l).cons x)
theorem insK_le (x : Int) : ∀ l : List Int, l.Pairwise (· ≤ ·) → (insK x l).Pairwise (· ≤ ·)
  | [], _ => by simp [insK]
  | y :: l, h => by
    rw [List.pairwise_cons] at h
    unfold insK
    split
    · rename_i hxy
      rw [List.pairwise_cons]
      refine ⟨fun a ha => ?_, List.pairwise_cons.2 h⟩
      rcases List.mem_cons.1 ha with rfl | ha
      · exact hxy
      · exact Int.le_trans hxy (h.1 a ha)
    · rename_i hxy
      rw [List.pairwise_cons]
      refine ⟨fun a ha => ?_, insK_le x l h.2⟩
      rcases List.mem_cons.1 ((insK_perm x l).mem_iff.1 ha) with rfl | ha
      · omega
      · exact h.1 a ha
theorem sortK_le : ∀ l : List Int, (sortK l).Pairwise (· ≤ ·)
  | [] => List.Pairwise.nil
  | x :: l => insK_le x _ (sortK_le l)
theorem sortI_le (l : List Int) : (sortI l).Pairwise (· ≤ ·) := by
  have := List.pairwise_mergeSort (le := fun x y : Int => decide (x ≤ y)) (fun a b c h k => by simp only [decide_eq_true_eq] at *; omega) (fun a b => by simp only [Bool.or_eq_true, decide_eq_true_eq]; omega) l
  unfold sortI
  exact this.imp fun h => by simpa using h
theorem sorted_eq {a b : List Int} (h : a.Perm b) (ha : a.Pairwise (· ≤ ·)) (hb : b.Pairwise (· ≤ ·)) : a = b :=
  List.Perm.eq_of_pairwise (le := fun x y => x ≤ y) (fun x y _ _ h1 h2 => Int.le_antisymm h1 h2) ha hb h
theorem sortI_eq (l : List Int) : sortI l = sortK l :=
  sorted_eq (((List.mergeSort_perm _ _)).trans (sortK_perm l).symm) (sortI_le l) (sortK_le l)
/-- of the first k, each once: what is not the one ahead -/
def ddI (l : List Int) : Nat → List Int
  | 0 => []
  | k + 1 => ddI l k ++ (match l[k]? with | none => [] | some x => if k = 0 then [x] else if l[k - 1]? = some x then [] else [x])
theorem ddI_succ (l : List Int) (k : Nat) : ddI l (k + 1) = ddI l k ++ (match l[k]? with | none => [] | some x => if k = 0 then [x] else if l[k - 1]? = some x then [] else [x]) := rfl
theorem compact_upto (l : List Int) : ∀ k, k ≤ l.length → Lib.compactUpTo l.toArray k = ddI l k
  | 0, _ => rfl
  | k + 1, h => by
    rw [Lib.compactUpTo_succ, compact_upto l k (by omega)]
    rw [ddI_succ]
    have hk : l[k]? = some l[k] := List.getElem?_eq_getElem (by omega)
    rw [hk]
    have e1 : l.toArray[k]! = l[k] := by simp [show k < l.length by omega]
    simp only [e1]
    unfold Lib.keeps
    by_cases h0 : k = 0
    · subst h0; simp
    · have hk1 : l[k - 1]? = some l[k - 1] := List.getElem?_eq_getElem (by omega)
      have e2 : l.toArray[k - 1]! = l[k - 1] := by simp [show k - 1 < l.length by omega]
      rw [if_neg h0, hk1]
      simp only [e1, e2, h0, Option.some.injEq]
      by_cases h1 : l[k - 1] = l[k]
      · simp [h1]
      · have h2 : ¬ l[k] = l[k - 1] := fun e => h1 e.symm
        simp [h1, h2]
theorem compact_eq (l : List Int) : Lib.compact l = ddI l l.length := compact_upto l l.length (Nat.le_refl _)
theorem ddI_len (l : List Int) : ∀ k, (ddI l k).length ≤ k
  | 0 => Nat.le_refl _
  | k + 1 => by
    rw [ddI_succ]
    have := ddI_len l k
    rw [List.length_append]
    split
    · simp; omega
    · split
      · simp; omega
      · split <;> simp <;> omega
theorem mem_ddI (l : List Int) (a : Int) : ∀ k, k ≤ l.length → (a ∈ ddI l k ↔ a ∈ l.take k)
  | 0, _ => by simp [ddI]
  | k + 1, h => by
    have ih := mem_ddI l a k (by omega)
    rw [ddI_succ]
    rw [List.getElem?_eq_getElem (show k < l.length by omega), List.take_succ_eq_append_getElem (show k < l.length by omega), List.mem_append, List.mem_append, ih]
    by_cases h0 : k = 0
    · subst h0; simp
    · simp only [if_neg h0]
      by_cases h1 : l[k - 1]? = some l[k]
      · rw [if_pos h1]
        have hm : l[k] ∈ l.take k := by
          rw [List.mem_take_iff_getElem]
          refine ⟨k - 1, by omega, ?_⟩
          rw [List.getElem?_eq_getElem (by omega)] at h1
          simpa using h1
        constructor
        · rintro (h | h)
          · exact .inl h
          · simp at h
        · rintro (h | h)
          · exact .inl h
          · simp only [List.mem_singleton] at h
            subst h
            exact .inl hm
      · rw [if_neg h1]
theorem ddI_lt (l : List Int) (hs : l.Pairwise (· ≤ ·)) : ∀ k, k ≤ l.length → (ddI l k).Pairwise (· < ·)
  | 0, _ => List.Pairwise.nil
  | k + 1, h => by
    have ih := ddI_lt l hs k (by omega)
    rw [ddI_succ]
    rw [List.getElem?_eq_getElem (show k < l.length by omega)]
    by_cases h0 : k = 0
    · subst h0; simp [ddI]
    · simp only [if_neg h0]
      by_cases h1 : l[k - 1]? = some l[k]
      · rw [if_pos h1, List.append_nil]; exact ih
      · rw [if_neg h1, List.pairwise_append]
        refine ⟨ih, by simp, fun a ha b hb => ?_⟩
        simp only [List.mem_singleton] at hb
        subst hb
        rw [mem_ddI l a k (by omega), List.mem_take_iff_getElem] at ha
        obtain ⟨j, hj, rfl⟩ := ha
        have hp := List.pairwise_iff_getElem.1 hs
        have e1 : l[j] ≤ l[k - 1] := by
          by_cases e : j = k - 1
          · subst e; exact Int.le_refl _
          · exact hp j (k - 1) (by omega) (by omega) (by omega)
        have e2 : l[k - 1] ≤ l[k] := hp (k - 1) k (by omega) (by omega) (by omega)
        have e3 : l[k - 1] ≠ l[k] := fun e => h1 (by rw [List.getElem?_eq_getElem (by omega), e])
        omega
/-- numbers, rising, each once -/
def setK (l : List Int) : List Int := ddI (sortK l) (sortK l).length
theorem mem_setK (l : List Int) (a : Int) : a ∈ setK l ↔ a ∈ l := by
  unfold setK
  rw [mem_ddI _ _ _ (Nat.le_refl _), List.take_length]
  exact (sortK_perm l).mem_iff
theorem setK_lt (l : List Int) : (setK l).Pairwise (· < ·) := ddI_lt _ (sortK_le l) _ (Nat.le_refl _)
theorem setK_len (l : List Int) : (setK l).length ≤ l.length := by
  unfold setK
  have := ddI_len (sortK l) (sortK l).length
  rw [(sortK_perm l).length_eq] at this ⊢
  exact this
theorem setK_compact (l : List Int) : Lib.compact (sortI l) = setK l := by rw [sortI_eq, compact_eq]; rfl
end Go.Proofs.YtaicemjckagcaaaGreat
