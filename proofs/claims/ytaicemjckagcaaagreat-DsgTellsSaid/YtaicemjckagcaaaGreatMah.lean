/- Maps that the calls themselves make: what is got behind a put; keys that are structs. -/
import Derived.Laws.StructEq
import Derived.Test.YtaicemjckagcaaaGreatMaf
namespace Go.Proofs.YtaicemjckagcaaaGreat
set_option linter.unusedVariables false
open Go.RowKit

section
variable {α : Type} [DecidableEq α]
theorem look_app (a b : α) (v : Value) : ∀ (m : List (α × Value)) (i : Nat), look a m i = none → (look b (m ++ [(a, v)]) i).map (·.2) = if b = a then some v else (look b m i).map (·.2)
  | [], i, _ => by
    by_cases h : b = a <;> simp [look, h]
  | p :: m, i, h => by
    unfold look at h
    split at h
    · cases h
    · rename_i hne
      have ih := look_app a b v m (i + 1) h
      simp only [List.cons_append, look]
      by_cases hb : b = p.1
      · rw [if_pos hb, if_pos hb, if_neg (by rw [hb]; exact fun e => hne e.symm)]
      · rw [if_neg hb, if_neg hb]
        exact ih
theorem look_mod (a b : α) (v : Value) : ∀ (m : List (α × Value)) (i : Nat) (r : Nat × Value), look a m i = some r → (look b (m.modify (r.1 - i) fun p => (p.1, v)) i).map (·.2) = if b = a then some v else (look b m i).map (·.2)
  | [], i, r, h => by simp [look] at h
  | p :: m, i, r, h => by
    have hl := look_lt a (p :: m) i r h
    unfold look at h
    split at h
    · rename_i hab
      cases h
      simp only [Nat.sub_self, List.modify_zero_cons, look]
      by_cases hb : b = a
      · rw [if_pos (by rw [hb, hab]), if_pos hb]
        rfl
      · rw [if_neg (by rw [← hab]; exact hb), if_neg hb, if_neg (by rw [← hab]; exact hb)]
    · rename_i hne
      have h1 := (look_lt a m (i + 1) r h).1
      have ih := look_mod a b v m (i + 1) r h
      rw [show r.1 - i = (r.1 - (i + 1)) + 1 by omega, List.modify_succ_cons]
      simp only [look]
      by_cases hb : b = p.1
      · rw [if_pos hb, if_pos hb, if_neg (by rw [hb]; exact fun e => hne e.symm)]
      · rw [if_neg hb, if_neg hb]
        exact ih
theorem mget_mput (m : List (α × Value)) (a b : α) (v : Value) : mget (mput m a v) b = if b = a then some v else mget m b := by
  unfold mget mput
  cases h : look a m 0 with
  | none => exact look_app a b v m 0 h
  | some r =>
    have := look_mod a b v m 0 r h
    rw [Nat.sub_zero] at this
    exact this
theorem mget_same (m : List (α × Value)) (a : α) (v : Value) : mget (mput m a v) a = some v := by rw [mget_mput, if_pos rfl]
theorem mget_other (m : List (α × Value)) {a b : α} (v : Value) (h : b ≠ a) : mget (mput m a v) b = mget m b := by rw [mget_mput, if_neg h]
theorem mget_nil (a : α) : mget ([] : List (α × Value)) a = none := rfl
end

theorem KeyBy.agg_ {α : Type} [DecidableEq α] {P : Program} {kt : TypeId} {enc : α → Value} {fs : Array Field} (ht : P.underlying kt = some (.struct fs)) (hagg : ∀ a, ∃ cs, enc a = .agg cs)
    (hc : ∀ (w : World) (e : Bool) (a : α), (Instr.checkKey e 10000 kt (enc a)).run P w = .ok () w) (hb : ∀ a, Instr.sameBits 10000 (enc a) (enc a) = true)
    (heq : ∀ (w : World) (x y : α), (Op.equal kt (enc x) (enc y)).run P w = .ok (decide (x = y)) w) : KeyBy P kt enc := by
  refine ⟨hc, hb, fun w a es m h => ?_⟩
  have h2 := find_asking (a := a) (enc := enc) heq w es m 0 h
  unfold Instr.findKey
  obtain ⟨cs, ha⟩ := hagg a
  cases es with
  | nil =>
    cases m with
    | nil => simp [run_underlying ht, Instr.findNow, look]
    | cons p m => simp at h
  | cons e es =>
    have hn : Instr.findNow (.struct fs) (enc a) (e :: es) 0 = none := by
      unfold Instr.findNow
      rw [ha]
      simp [Instr.sameNow]
    simp [run_underlying ht, hn, h2]
end Go.Proofs.YtaicemjckagcaaaGreat
