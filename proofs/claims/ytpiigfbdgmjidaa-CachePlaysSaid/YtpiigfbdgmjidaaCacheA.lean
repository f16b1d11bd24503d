/- A ring of blocks by who is next and who is last: plain laws; no program in sight. -/
import Derived.Test.YtpiigfbdgmjidaaMaps
namespace Go.Proofs.Ytpiigfbdgmjidaa
set_option linter.unusedVariables false

/-- from x through l to z, each next to the one before -/
def Chain (nw od : Nat → Nat) (x : Nat) : List Nat → Nat → Prop
  | [], z => nw x = z ∧ od z = x
  | y :: l, z => nw x = y ∧ od y = x ∧ Chain nw od y l z
def upd1 (f : Nat → Nat) (a v : Nat) : Nat → Nat := fun i => if i = a then v else f i

theorem Chain.snoc {nw od : Nat → Nat} : ∀ {l : List Nat} {x y z : Nat}, Chain nw od x (l ++ [y]) z ↔ Chain nw od x l y ∧ nw y = z ∧ od z = y
  | [], x, y, z => by simp [Chain, and_assoc]
  | a :: l, x, y, z => by
    simp only [List.cons_append, Chain]
    rw [Chain.snoc]
    simp [and_assoc]
theorem Chain.append {nw od : Nat → Nat} : ∀ {l m : List Nat} {x y z : Nat}, Chain nw od x (l ++ y :: m) z ↔ Chain nw od x l y ∧ Chain nw od y m z
  | [], m, x, y, z => by simp [Chain, and_assoc]
  | a :: l, m, x, y, z => by
    simp only [List.cons_append, Chain]
    rw [Chain.append]
    simp [and_assoc]
/-- what is not read may turn -/
theorem Chain.keep {nw od nw' od' : Nat → Nat} : ∀ {l : List Nat} {x z : Nat}, Chain nw od x l z → (∀ i, i = x ∨ i ∈ l → nw' i = nw i) → (∀ i, i ∈ l ∨ i = z → od' i = od i) → Chain nw' od' x l z
  | [], x, z, h, h1, h2 => ⟨(h1 x (.inl rfl)).trans h.1, (h2 z (.inr rfl)).trans h.2⟩
  | a :: l, x, z, h, h1, h2 => ⟨(h1 x (.inl rfl)).trans h.1, (h2 a (.inl (List.mem_cons_self ..))).trans h.2.1,
      Chain.keep h.2.2 (fun i hi => h1 i (by rcases hi with rfl | hi; exact .inr (List.mem_cons_self ..); exact .inr (List.mem_cons_of_mem _ hi)))
        (fun i hi => h2 i (by rcases hi with hi | rfl; exact .inl (List.mem_cons_of_mem _ hi); exact .inr rfl))⟩

/-- one that stands in a ring is taken out -/
theorem ring_out {nw od : Nat → Nat} {r e : Nat} {as_ bs : List Nat} (h : Chain nw od r (as_ ++ e :: bs) r) (hn : (r :: (as_ ++ e :: bs)).Nodup) :
    Chain (upd1 nw (od e) (nw e)) (upd1 od (nw e) (od e)) r (as_ ++ bs) r := by
  obtain ⟨h1, h2⟩ := Chain.append.1 h
  rcases List.eq_nil_or_concat as_ with rfl | ⟨a', o, rfl⟩
  · obtain ⟨e1, e2⟩ := h1
    rw [e2]
    cases bs with
    | nil =>
      obtain ⟨e3, e4⟩ := h2
      rw [e3]
      exact ⟨by simp [upd1], by simp [upd1]⟩
    | cons n b' =>
      obtain ⟨e3, e4, h3⟩ := h2
      rw [e3]
      simp only [List.nil_append, List.nodup_cons, List.mem_cons, not_or] at hn
      refine ⟨by simp [upd1], by simp [upd1], h3.keep (fun i hi => ?_) (fun i hi => ?_)⟩
      · have : i ≠ r := by rcases hi with rfl | hi; exact fun e => hn.1.2.1 e.symm; rintro rfl; exact hn.1.2.2 hi
        simp [upd1, this]
      · have : i ≠ n := by rcases hi with hi | rfl; rintro rfl; exact hn.2.2.1 hi; exact hn.1.2.1
        simp [upd1, this]
  · rw [List.concat_eq_append] at h1 hn ⊢
    obtain ⟨h1, e1, e2⟩ := Chain.snoc.1 h1
    rw [e2]
    simp only [List.append_assoc, List.cons_append, List.nil_append] at hn ⊢
    rw [List.nodup_cons, List.nodup_append] at hn
    obtain ⟨hr, hna, hnb, hnab⟩ := hn
    simp only [List.mem_append, List.mem_cons, not_or] at hr
    cases bs with
    | nil =>
      obtain ⟨e3, e4⟩ := h2
      rw [e3]
      refine Chain.snoc.2 ⟨h1.keep (fun i hi => ?_) (fun i hi => ?_), by simp [upd1], by simp [upd1]⟩
      · have : i ≠ o := by
          rcases hi with rfl | hi
          · exact hr.2.1
          · exact hnab i hi o (List.mem_cons_self ..)
        simp [upd1, this]
      · have : i ≠ r := by
          rcases hi with hi | rfl
          · rintro rfl; exact hr.1 hi
          · exact fun e => hr.2.1 e.symm
        simp [upd1, this]
    | cons n b' =>
      obtain ⟨e3, e4, h3⟩ := h2
      rw [e3]
      simp only [List.nodup_cons, List.mem_cons, not_or] at hnb hr
      have hon : o ≠ n := hnb.1.2.1
      refine Chain.append.2 ⟨h1.keep (fun i hi => ?_) (fun i hi => ?_), ⟨by simp [upd1], by simp [upd1], h3.keep (fun i hi => ?_) (fun i hi => ?_)⟩⟩
      · have : i ≠ o := by
          rcases hi with rfl | hi
          · exact hr.2.1
          · exact hnab i hi o (List.mem_cons_self ..)
        simp [upd1, this]
      · have : i ≠ n := by
          rcases hi with hi | rfl
          · exact hnab i hi n (by simp)
          · exact hon
        simp [upd1, this]
      · have : i ≠ o := by
          rcases hi with rfl | hi
          · exact fun e => hon e.symm
          · rintro rfl; exact hnb.1.2.2 hi
        simp [upd1, this]
      · have : i ≠ n := by
          rcases hi with hi | rfl
          · rintro rfl; exact hnb.2.2.1 hi
          · exact hr.2.2.2.1
        simp [upd1, this]
/-- one is put in, as the newest -/
theorem ring_in {nw od : Nat → Nat} {r e : Nat} {bs : List Nat} (h : Chain nw od r bs r) (hn : (r :: bs).Nodup) (he : e ∉ r :: bs) :
    Chain (upd1 (upd1 nw e r) (od r) e) (upd1 (upd1 od e (od r)) r e) r (bs ++ [e]) r := by
  simp only [List.mem_cons, not_or] at he
  rcases List.eq_nil_or_concat bs with rfl | ⟨a', o, rfl⟩
  · obtain ⟨e1, e2⟩ := h
    rw [e2]
    have : r ≠ e := fun e' => he.1 e'.symm
    refine ⟨by simp [upd1], by simp [upd1, he.1], by simp [upd1, he.1], by simp [upd1]⟩
  · rw [List.concat_eq_append] at h hn he ⊢
    obtain ⟨h1, e1, e2⟩ := Chain.snoc.1 h
    rw [e2]
    simp only [List.mem_append, List.mem_singleton, not_or] at he
    rw [List.nodup_cons, List.nodup_append] at hn
    simp only [List.mem_append, List.mem_singleton, not_or] at hn
    refine Chain.snoc.2 ⟨Chain.snoc.2 ⟨h1.keep (fun i hi => ?_) (fun i hi => ?_), by simp [upd1], by simp [upd1, he.1]⟩, by simp [upd1, he.2.2], by simp [upd1]⟩
    · have a1 : i ≠ e := by rcases hi with rfl | hi; exact fun e' => he.1 e'.symm; rintro rfl; exact he.2.1 hi
      have a2 : i ≠ o := by rcases hi with rfl | hi; exact hn.1.2; exact hn.2.2.2 i hi o rfl
      simp [upd1, a1, a2]
    · have a1 : i ≠ e := by rcases hi with hi | rfl; rintro rfl; exact he.2.1 hi; exact fun e' => he.2.2 e'.symm
      have a2 : i ≠ r := by rcases hi with hi | rfl; rintro rfl; exact hn.1.1 hi; exact fun e' => hn.1.2 e'.symm
      simp [upd1, a1, a2]
end Go.Proofs.Ytpiigfbdgmjidaa
