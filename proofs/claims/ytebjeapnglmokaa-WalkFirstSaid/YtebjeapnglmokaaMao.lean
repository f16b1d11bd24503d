/- Walks of edges: whether they are closed, and simple; by the program and by the document. -/
import Derived.Test.YtebjeapnglmokaaProg
import Derived.IntWalk
import Derived.Test.YtebjeapnglmokaaMal
namespace Go.Proofs.Ytebjeapnglmokaa
set_option linter.unusedVariables false
open Go.RowKit

/-- the edge at a place leads to where the next one begins -/
def okC (l : List Edge) (i : Nat) : Bool := (l[i]?.map (·.t)) == (l[(i + 1) % l.length]?.map (·.f))
def closedB (l : List Edge) : Bool := decide (0 < l.length) && (List.range l.length).all (okC l)
theorem okC_at {l : List Edge} {k m : Nat} {e f : Edge} (hk : l[k]? = some e) (hm : (k + 1) % l.length = m) (hf : l[m]? = some f) : okC l k = (e.t == f.f) := by
  unfold okC
  rw [hk, hm, hf]
  simp
theorem all_succ {p : Nat → Bool} {k : Nat} : (List.range (k + 1)).all p = ((List.range k).all p && p k) := by
  rw [List.range_succ, List.all_append]
  simp
theorem closed_no {l : List Edge} {k : Nat} (hk : k < l.length) (h : okC l k = false) : closedB l = false := by
  unfold closedB
  rw [Bool.and_eq_false_iff]
  right
  rw [List.all_eq_false]
  exact ⟨k, List.mem_range.2 hk, by simp [h]⟩

set_option maxRecDepth 100000 in
theorem wclosed (F : Nat → Prop) (w : World) (A : Option Addr) (c : Nat) (l : List Edge) (h : Walk F w A l) (hl : l.length ≤ 1000000) :
    Calls Try.prog 6 #[.slice A l.length c] w fun e w' => e = .returned (.bool (closedB l)) ∧ Upd No w w' := by
  go_enter Try.func6, Try.ntmps6
  go_wp2
  go_loopg [7] l.length (fun gk i wr => ∃ k : Nat, k + gk = l.length ∧ i = .int .i64 k ∧ Hid ((List.range k).all (okC l) = true) ∧ Upd No w wr)
  case atStart => exact ⟨0, by omega, rfl, Lib.hid rfl, Upd.refl _ _⟩
  case round =>
    obtain ⟨k, hgk, rfl, hok, hu⟩ := hrel
    by_cases hlt : k < l.length
    · obtain ⟨ad, rfl, c0, c1, c2, c3⟩ := (h.upd hu (fun _ _ => id)).at_ hlt
      have hml : (k + 1) % l.length < l.length := Nat.mod_lt _ (by omega)
      obtain ⟨ad', e1, d0, d1, d2, d3⟩ := (h.upd hu (fun _ _ => id)).at_ hml
      cases e1
      obtain ⟨x, hx⟩ : ∃ x, l[k] = x := ⟨_, rfl⟩
      obtain ⟨y, hy⟩ : ∃ y, l[(k + 1) % l.length] = y := ⟨_, rfl⟩
      rw [hx] at c0 c1 c2 c3
      rw [hy] at d0 d1 d2 d3
      have hat := okC_at (l := l) (k := k) (by rw [List.getElem?_eq_getElem hlt, hx]) rfl (by rw [List.getElem?_eq_getElem hml, hy])
      have hcast : ((k : Int) + 1) % (l.length : Int) = (((k + 1) % l.length : Nat) : Int) := by rw [Int.natCast_emod]; rfl
      have hcast2 : ((k : Int) + 1).tmod (l.length : Int) = (((k + 1) % l.length : Nat) : Int) := by rw [Int.tmod_eq_emod_of_nonneg (by omega)]; exact hcast
      generalize (k + 1) % l.length = m at *
      have b1 : (0 : Int) ≤ (k : Int) := Int.natCast_nonneg _
      have b2 : (k : Int) < (l.length : Int) := by omega
      have b3 : (m : Int) < (l.length : Int) := by omega
      have b4 : (0 : Int) ≤ (m : Int) := Int.natCast_nonneg _
      have b5 : IntKind.i64.wrap ((k : Int) + 1) = (k : Int) + 1 := IntWalk.i64_in _ (by omega)
      have b6 : (0 : Int) ≤ (k : Int) + 1 := by omega
      have hnl : ¬ l = [] := fun e => by rw [e] at hlt; simp at hlt
      have hnz : ¬ (l.length : Int) = 0 := by omega
      have b7 : IntKind.i64.wrap ((m : Int)) = (m : Int) := IntWalk.i64_in _ (by omega)
      have D0 := ((Upd.refl No wr).alloc (.cells #[.int .i64 x.f, .int .i64 x.t, .int .i64 x.k, .int .i64 x.key] 29)).keepNo d0
      clear hx hy
      by_cases he : x.t = y.f
      · have heb : (x.t != y.f) = false := by rw [he]; simp
        have Hok := Lib.hid (show (List.range (k + 1)).all (okC l) = true by rw [all_succ, hok.out, hat, he]; simp)
        clear he hat
        go_wp2
        go_quiet (fail)
        clear hcast hcast2 b5 b7
        go_wp2
        go_roundg (gk - 1)
        case measure => omega
        case rel => exact ⟨k + 1, by omega, by go_num, Hok, (hu.alloc _).drewN _⟩
      · have heb : (x.t != y.f) = true := by rw [bne_iff_ne]; exact he
        have Hok := Lib.hid (closed_no hlt (by rw [hat]; simpa using he))
        clear he hat
        go_wp2
        go_quiet (fail)
        clear hcast hcast2 b5 b7
        go_wp2
        go_ret
        exact ⟨by rw [Hok.out]; rfl, (hu.alloc _).drewN _⟩
    · obtain rfl : k = l.length := by omega
      have Hok := Lib.hid (show closedB l = decide ((0 : Int) < (l.length : Int)) by
        unfold closedB
        rw [hok.out, Bool.and_true]
        congr 1
        simp only [eq_iff_iff]
        omega)
      go_wp2
      all_goals
        go_ret
        exact ⟨by rw [Hok.out]; first | rfl | (congr 2; simp), hu⟩
end Go.Proofs.Ytebjeapnglmokaa

/- The document's own small walks over numbers: where one stands, how often, put among rising ones. -/
namespace Go.Proofs.Ytebjeapnglmokaa
set_option linter.unusedVariables false
open Go.RowKit
def putL (n : Int) : List Int → List Int
  | [] => [n]
  | x :: l => if n ≤ x then n :: (x :: l).filter (fun y => !(y == n)) else x :: putL n l
theorem mem_putL (n a : Int) : ∀ l, a ∈ putL n l ↔ a = n ∨ a ∈ l
  | [] => by simp [putL]
  | x :: l => by
    have ih := mem_putL n a l
    unfold putL
    split
    · rw [List.mem_cons, List.mem_filter]
      by_cases h : a = n <;> simp [h]
    · simp only [List.mem_cons, ih]; grind
theorem putL_lt (n : Int) : ∀ l, l.Pairwise (· < ·) → (putL n l).Pairwise (· < ·)
  | [], _ => by simp [putL]
  | x :: l, h => by
    have h' := List.pairwise_cons.1 h
    unfold putL
    split
    · refine List.pairwise_cons.2 ⟨fun a ha => ?_, h.filter _⟩
      rw [List.mem_filter] at ha
      have h1 : a ≠ n := by simpa using ha.2
      rcases List.mem_cons.1 ha.1 with rfl | h2
      · omega
      · have := h'.1 a h2; omega
    · refine List.pairwise_cons.2 ⟨fun a ha => ?_, putL_lt n l h'.2⟩
      rcases (mem_putL n a l).1 ha with rfl | h2
      · omega
      · exact h'.1 a h2
theorem putL_len (n : Int) (l : List Int) : (putL n l).length ≤ l.length + 1 := by
  induction l with
  | nil => simp [putL]
  | cons x l ih =>
    unfold putL
    split
    · have := List.length_filter_le (fun y => !(y == n)) (x :: l)
      simp only [List.length_cons] at *; omega
    · simp only [List.length_cons] at *; omega
end Go.Proofs.Ytebjeapnglmokaa
