/- Walks of edges: closed, and simple, by the document; simple by the program. -/
import Derived.Test.YtebjeapnglmokaaProg
import Derived.Test.YtebjeapnglmokaaMai
import Derived.Test.YtebjeapnglmokaaMao
namespace Go.Proofs.Ytebjeapnglmokaa
set_option linter.unusedVariables false
open Go.RowKit

def simpleB (l : List Edge) : Bool := decide ((l.map (·.f)).Nodup)
theorem nodup_succ {l : List Edge} {k : Nat} (hk : k < l.length) : ((l.take (k + 1)).map (·.f)).Nodup ↔ ((l.take k).map (·.f)).Nodup ∧ l[k].f ∉ (l.take k).map (·.f) := by
  rw [List.take_succ_eq_append_getElem hk, List.map_append, List.nodup_append]
  simp only [List.map_cons, List.map_nil, List.mem_singleton]
  constructor
  · rintro ⟨h1, _, h3⟩
    exact ⟨h1, fun hm => h3 _ hm _ rfl rfl⟩
  · rintro ⟨h1, h2⟩
    exact ⟨h1, by simp, fun a ha b hb e => h2 (by rw [← hb, ← e]; exact ha)⟩
end Go.Proofs.Ytebjeapnglmokaa

/- Walks: simple by the program; the bits of their kinds, by the program and by the document. -/
namespace Go.Proofs.Ytebjeapnglmokaa
set_option linter.unusedVariables false
open Go.RowKit

section
variable {α : Type} [DecidableEq α]
theorem lookNone (a : α) : ∀ (m : List (α × Value)) (i : Nat), look a m i = none ↔ a ∉ m.map (·.1)
  | [], i => by simp [look]
  | p :: m, i => by
    unfold look
    by_cases h : a = p.1
    · simp [h]
    · simp only [List.map_cons, List.mem_cons, h, if_false, false_or]
      exact lookNone a m (i + 1)
theorem mput_keys (m : List (α × Value)) (a : α) (v : Value) : (mput m a v).map (·.1) = if a ∈ m.map (·.1) then m.map (·.1) else m.map (·.1) ++ [a] := by
  unfold mput
  cases h : look a m 0 with
  | none =>
    rw [if_neg ((lookNone a m 0).1 h), List.map_append]
    rfl
  | some r =>
    rw [if_pos (by
      rcases Classical.em (a ∈ m.map (·.1)) with h' | h'
      · exact h'
      · rw [(lookNone a m 0).2 h'] at h; cases h)]
    apply List.ext_getElem?
    intro j
    simp only [List.getElem?_map, List.getElem?_modify]
    cases m[j]? with
    | none => simp
    | some p => by_cases hj : r.1 = j <;> simp [hj]
theorem mput_vals {Q : Value → Prop} {m : List (α × Value)} (hm : ∀ p ∈ m, Q p.2) (a : α) {v : Value} (hv : Q v) : ∀ p ∈ mput m a v, Q p.2 := by
  unfold mput
  cases h : look a m 0 with
  | none =>
    intro p hp
    rcases List.mem_append.1 hp with hp | hp
    · exact hm p hp
    · simp only [List.mem_singleton] at hp
      subst hp
      exact hv
  | some r =>
    intro p hp
    obtain ⟨j, hj⟩ := List.mem_iff_getElem?.1 hp
    simp only [List.getElem?_modify] at hj
    cases hmj : m[j]? with
    | none => rw [hmj] at hj; simp at hj
    | some q =>
      rw [hmj] at hj
      have hq := hm q (List.mem_of_getElem? hmj)
      by_cases hr : r.1 = j
      · simp [hr] at hj
        rw [← hj]; exact hv
      · simp [hr] at hj
        rw [← hj]; exact hq
theorem mget_vals {Q : Value → Prop} {m : List (α × Value)} (hm : ∀ p ∈ m, Q p.2) {z : Value} (hz : Q z) (a : α) : Q ((mget m a).getD z) := by
  unfold mget
  cases h : look a m 0 with
  | none => exact hz
  | some r => exact hm _ (List.mem_of_getElem? (look_lt a m 0 r h).2)
end
def isInt (v : Value) : Prop := ∃ n, v = .int .i64 n
/-- how many froms there are among the first k -/
def tally (l : List Edge) (k : Nat) (ks : List Int) : Prop := (∀ a, a ∈ ks ↔ a ∈ (l.take k).map (·.f)) ∧ ks.length ≤ k ∧ (ks.length = k ↔ ((l.take k).map (·.f)).Nodup)
theorem tally_succ {l : List Edge} {k : Nat} {ks : List Int} (hk : k < l.length) (h : tally l k ks) : tally l (k + 1) (if l[k].f ∈ ks then ks else ks ++ [l[k].f]) := by
  obtain ⟨h1, h2, h3⟩ := h
  have hm : ∀ a, a ∈ (l.take (k + 1)).map (·.f) ↔ a ∈ (l.take k).map (·.f) ∨ a = l[k].f := fun a => by
    rw [List.take_succ_eq_append_getElem hk, List.map_append, List.mem_append]
    simp
  by_cases hi : l[k].f ∈ ks
  · rw [if_pos hi]
    refine ⟨fun a => ?_, by omega, ?_⟩
    · rw [hm, ← h1]
      constructor
      · exact .inl
      · rintro (h | rfl)
        · exact h
        · exact hi
    · rw [nodup_succ hk]
      constructor
      · intro e; omega
      · rintro ⟨_, hn⟩
        exact absurd ((h1 _).1 hi) hn
  · rw [if_neg hi]
    refine ⟨fun a => ?_, by rw [List.length_append]; simp only [List.length_singleton]; omega, ?_⟩
    · rw [hm, List.mem_append, ← h1]
      simp
    · rw [nodup_succ hk, List.length_append, List.length_singleton, ← h3, ← h1]
      constructor
      · intro e; exact ⟨by omega, hi⟩
      · rintro ⟨e, _⟩; omega
theorem kbyint : KeyBy Try.prog 3 (fun n : Int => Value.int .i64 n) := KeyBy.int_ Try.underlying3
theorem zeroI (w : World) : (zeroValue 3).run Try.prog w = .ok (.int .i64 0) w := by kernel_rfl
set_option maxRecDepth 100000 in
theorem wsimple (F : Nat → Prop) (w : World) (A : Option Addr) (c : Nat) (l : List Edge) (h : Walk F w A l) (hl : l.length ≤ 1000000) :
    Calls Try.prog 8 #[.slice A l.length c] w fun e w' => e = .returned (.bool (simpleB l)) ∧ Upd No w w' := by
  have hmm := @run_makeMap Try.prog
  go_enter Try.func8, Try.ntmps8
  go_wp2
  go_loopg [9] l.length (fun gk i wr => ∃ (k : Nat) (m : List (Int × Value)), k + gk = l.length ∧ i = .int .i64 k ∧ MapIs wr w.heap.size (fun n : Int => Value.int .i64 n) m ∧ Hid (∀ p ∈ m, isInt p.2) ∧ Hid (tally l k (m.map (·.1))) ∧ Upd No w wr)
  case atStart => exact ⟨0, [], by omega, rfl, MapIs.new w _, Lib.hid (fun p hp => by simp at hp), Lib.hid ⟨by simp, by simp, by simp⟩, (Upd.refl _ _).alloc _⟩
  case round =>
    obtain ⟨k, m, hgk, rfl, hm, hv, ht, hu⟩ := hrel
    by_cases hlt : k < l.length
    · obtain ⟨ad, rfl, c0, c1, c2, c3⟩ := (h.upd hu (fun _ _ => id)).at_ hlt
      obtain ⟨n, hn⟩ := mget_vals hv.out (z := .int .i64 0) ⟨0, rfl⟩ l[k].f
      have uA := (Upd.refl No wr).alloc (.cells #[.int .i64 l[k].f, .int .i64 l[k].t, .int .i64 l[k].k, .int .i64 l[k].key] 29)
      have hmA := hm.upd uA id
      have hlk := run_look kbyint Try.underlying54 zeroI hmA l[k].f
      rw [hn] at hlk
      have Hn := Lib.hid hn
      have H1 := Lib.hid (fun z : Int => mput_vals hv.out l[k].f (v := .int .i64 z) ⟨_, rfl⟩)
      have H2 := Lib.hid (fun z : Int => (show tally l (k + 1) ((mput m l[k].f (.int .i64 z)).map (·.1)) by rw [mput_keys]; exact tally_succ hlt ht.out))
      have Hm := Lib.hid hmA
      clear hn hmA hmm
      go_wp2_with (at_mapUpdate; refine mapput rfl rfl kbyint Try.underlying54 (a := l[k].f) (val := .int .i64 (wrap64 (n + 1))) (by rfl) (by rfl) (by rfl) Hm.out ?_; intro w3 hm3 hu3)
      go_roundg (gk - 1)
      case measure => omega
      case rel => exact ⟨k + 1, _, by omega, by go_num, hm3, Lib.hid (H1.out _), Lib.hid (H2.out _), (hu.trans uA).then_ hu3 (fun i e => .inr (by have e : i = w.heap.size := e; omega))⟩
    · obtain rfl : k = l.length := by omega
      have hln := fun ty => run_mlen (P := Try.prog) Try.underlying54 hm ty
      have hml : m.length = (m.map (·.1)).length := (List.length_map ..).symm
      have Hs := Lib.hid (show simpleB l = decide ((m.length : Int) = (l.length : Int)) by
        unfold simpleB
        have h3 := ht.out.2.2
        rw [← hml, List.take_length] at h3
        congr 1
        rw [eq_iff_iff, ← h3]
        omega)
      clear hml
      go_wp2
      go_ret
      exact ⟨by rw [Hs.out]; first | rfl | (congr 2), hu⟩

/-- bits as a number -/
def bitsOf (a b c : Bool) : Int := (if a then 2 else 0) + (if b then 4 else 0) + (if c then 8 else 0)
def hasK (l : List Edge) (n : Nat) (k : Int) : Bool := (l.take n).any fun e => e.k == k
def maskOf (l : List Edge) : Int := bitsOf (hasK l l.length 1) (hasK l l.length 2) (hasK l l.length 3)
theorem hasK_succ {l : List Edge} {n : Nat} (hn : n < l.length) (k : Int) : hasK l (n + 1) k = (hasK l n k || l[n].k == k) := by
  unfold hasK
  rw [List.take_succ_eq_append_getElem hn, List.any_append]
  simp
theorem or2 (a b c : Bool) : bits .or .i64 (bitsOf a b c) 2 = bitsOf true b c := by cases a <;> cases b <;> cases c <;> decide
theorem or4 (a b c : Bool) : bits .or .i64 (bitsOf a b c) 4 = bitsOf a true c := by cases a <;> cases b <;> cases c <;> decide
theorem or8 (a b c : Bool) : bits .or .i64 (bitsOf a b c) 8 = bitsOf a b true := by cases a <;> cases b <;> cases c <;> decide
set_option maxRecDepth 100000 in
theorem wmask (F : Nat → Prop) (w : World) (A : Option Addr) (c : Nat) (l : List Edge) (h : Walk F w A l) (hl : l.length ≤ 1000000) :
    Calls Try.prog 7 #[.slice A l.length c] w fun e w' => e = .returned (.int .i64 (maskOf l)) ∧ Upd No w w' := by
  go_enter Try.func7, Try.ntmps7
  go_wp2
  go_loopg [3, 8] l.length (fun gk n i wr => ∃ (k : Nat) (N : Int), k + gk = l.length ∧ i = .int .i64 k ∧ n = .int .i64 N ∧ Hid (N = bitsOf (hasK l k 1) (hasK l k 2) (hasK l k 3)) ∧ Upd No w wr)
  case atStart => exact ⟨0, 0, by omega, rfl, rfl, Lib.hid rfl, Upd.refl _ _⟩
  case round =>
    obtain ⟨k, N, hgk, rfl, rfl, hN, hu⟩ := hrel
    by_cases hlt : k < l.length
    · obtain ⟨ad, rfl, c0, c1, c2, c3⟩ := (h.upd hu (fun _ _ => id)).at_ hlt
      obtain ⟨x, hx⟩ : ∃ x, l[k] = x := ⟨_, rfl⟩
      have hs := fun n => hasK_succ hlt n
      rw [hx] at c0 c1 c2 c3 hs
      by_cases h1 : x.k = 1
      · have H := Lib.hid (show bits .or .i64 N 2 = bitsOf (hasK l (k + 1) 1) (hasK l (k + 1) 2) (hasK l (k + 1) 3) by
          rw [hN.out, hs, hs, hs, h1, or2]; simp)
        obtain ⟨M, hM⟩ : ∃ M, M = bits .or .i64 N 2 := ⟨_, rfl⟩
        rw [← hM] at H
        have hM' := hM.symm
        rw [h1] at c2
        clear hM hs hx h1
        go_wp2
        go_roundg (gk - 1)
        case measure => omega
        case rel => exact ⟨k + 1, M, by omega, by go_num, rfl, H, hu.alloc _⟩
      · by_cases h2 : x.k = 2
        · have H := Lib.hid (show bits .or .i64 N 4 = bitsOf (hasK l (k + 1) 1) (hasK l (k + 1) 2) (hasK l (k + 1) 3) by
            rw [hN.out, hs, hs, hs, h2, or4]; simp)
          obtain ⟨M, hM⟩ : ∃ M, M = bits .or .i64 N 4 := ⟨_, rfl⟩
          rw [← hM] at H
          have hM' := hM.symm
          rw [h2] at c2
          clear hM hs hx h2
          go_wp2
          go_roundg (gk - 1)
          case measure => omega
          case rel => exact ⟨k + 1, M, by omega, by go_num, rfl, H, hu.alloc _⟩
        · by_cases h3 : x.k = 3
          · have H := Lib.hid (show bits .or .i64 N 8 = bitsOf (hasK l (k + 1) 1) (hasK l (k + 1) 2) (hasK l (k + 1) 3) by
              rw [hN.out, hs, hs, hs, h3, or8]; simp)
            obtain ⟨M, hM⟩ : ∃ M, M = bits .or .i64 N 8 := ⟨_, rfl⟩
            rw [← hM] at H
            have hM' := hM.symm
            rw [h3] at c2
            clear hM hs hx h3
            go_wp2
            go_roundg (gk - 1)
            case measure => omega
            case rel => exact ⟨k + 1, M, by omega, by go_num, rfl, H, hu.alloc _⟩
          · have H := Lib.hid (show N = bitsOf (hasK l (k + 1) 1) (hasK l (k + 1) 2) (hasK l (k + 1) 3) by
              rw [hN.out, hs, hs, hs, beq_eq_false_iff_ne.2 h1, beq_eq_false_iff_ne.2 h2, beq_eq_false_iff_ne.2 h3]; simp)
            by_cases h4 : x.k < 1
            · have h4' : decide ((1 : Int) ≤ x.k) = false := decide_eq_false (by omega)
              have h4'' : ¬ (1 : Int) ≤ x.k := by omega
              clear hs hx h1 h2 h3
              go_wp2
              go_roundg (gk - 1)
              case measure => omega
              case rel => exact ⟨k + 1, N, by omega, by go_num, rfl, H, hu.alloc _⟩
            · have h5 : (1 : Int) ≤ x.k := by omega
              have h6 : ¬ x.k ≤ 3 := by omega
              clear hs hx h1 h2 h3 h4
              go_wp2
              go_roundg (gk - 1)
              case measure => omega
              case rel => exact ⟨k + 1, N, by omega, by go_num, rfl, H, hu.alloc _⟩
    · obtain rfl : k = l.length := by omega
      have H := Lib.hid (show N = maskOf l from hN.out)
      go_wp2
      go_ret
      exact ⟨by rw [← H.out]; rfl, hu⟩

end Go.Proofs.Ytebjeapnglmokaa
