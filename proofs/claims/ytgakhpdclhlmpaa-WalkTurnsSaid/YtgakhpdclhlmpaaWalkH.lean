/- A walk's text: the document's. -/
import Derived.Test.YtgakhpdclhlmpaaNumC
import Derived.Test.YtgakhpdclhlmpaaWalkC
import Derived.Deep.RegionHeld3
namespace Go.Proofs.Ytgakhpdclhlmpaa
set_option linter.unusedVariables false
open Go.RowKit
/-- an edge's numbers are ints -/
def Edge.ok (e : Edge) : Prop := (-9223372036854775808 ≤ e.f ∧ e.f ≤ 9223372036854775807) ∧ (-9223372036854775808 ≤ e.t ∧ e.t ≤ 9223372036854775807) ∧ (-9223372036854775808 ≤ e.key ∧ e.key ≤ 9223372036854775807)
def stepL (e : Edge) : List UInt8 := [32] ++ wordL e.k ++ numL e.key ++ [32] ++ numL e.t
def textF (l : List Edge) : Nat → List UInt8
  | 0 => []
  | k + 1 => match l[k]? with
    | none => textF l k
    | some e => (if k = 0 then numL e.f else textF l k) ++ stepL e
def numS (n : Int) : ByteArray := ⟨(numL n).toArray⟩
def wordS (n : Int) : ByteArray := ⟨(wordL n).toArray⟩
theorem numS_size (n : Int) : (numS n).size ≤ 21 := by
  have := numL_len n
  simpa [numS, ByteArray.size] using this
theorem wordS_size (n : Int) : (wordS n).size ≤ 2 := by
  unfold wordS wordL
  split
  · decide
  · split
    · decide
    · split <;> decide
theorem rnumS (w : World) (n : Int) (h1 : -9223372036854775808 ≤ n) (h2 : n ≤ 9223372036854775807) :
    Calls Try.prog 95 #[.int .i64 n] w fun e w' => e = .returned (.string (numS n)) ∧ Upd No w w' := rnum w n h1 h2
theorem pnumS (w : World) (n : Int) (h1 : -9223372036854775808 ≤ n) (h2 : n ≤ 9223372036854775807) :
    Calls Try.prog 92 #[.int .i64 n] w fun e w' => e = .returned (.string (numS n)) ∧ Upd No w w' := pnum w n h1 h2
theorem rwordS (w : World) (n : Int) :
    Calls Try.prog 96 #[.int .i64 n] w fun e w' => e = .returned (.string (wordS n)) ∧ Upd No w w' := rword w n
theorem pwordS (w : World) (n : Int) :
    Calls Try.prog 93 #[.int .i64 n] w fun e w' => e = .returned (.string (wordS n)) ∧ Upd No w w' := pword w n
theorem textF_len (l : List Edge) (k : Nat) : (textF l k).length ≤ 100 * k := by
  have hw : ∀ n, (wordL n).length ≤ 2 := fun n => by
    have := wordS_size n
    simpa [wordS, ByteArray.size] using this
  induction k with
  | zero => simp [textF]
  | succ k ih =>
    unfold textF
    split
    · omega
    · rename_i e _
      have h1 := numL_len e.f
      have h2 := numL_len e.key
      have h3 := numL_len e.t
      have h4 := hw e.k
      unfold stepL
      split <;> simp <;> omega
set_option maxRecDepth 100000 in
set_option maxHeartbeats 1000000 in
theorem rtext (F : Nat → Prop) (w : World) (A : Option Addr) (c : Nat) (l : List Edge) (h : Walk F w A l) (hl : l.length ≤ 1000000) (hok : ∀ e ∈ l, e.ok) :
    Calls Try.prog 28 #[.slice A l.length c] w fun e w' => e = .returned (.string ⟨(textF l l.length).toArray⟩) ∧ Upd No w w' := by
  go_enter Try.func28, Try.ntmps28
  go_wp2
  go_loopg [3, 8] l.length (fun gk s i wr => ∃ (k : Nat) (sb : ByteArray), k + gk = l.length ∧ i = .int .i64 k ∧ s = .string sb ∧ Hid (sb = ⟨(textF l k).toArray⟩) ∧ sb.size ≤ 100 * k ∧ Upd No w wr)
  case atStart => exact ⟨0, ⟨#[]⟩, by omega, rfl, rfl, Lib.hid rfl, by decide, Upd.refl _ _⟩
  case round =>
    obtain ⟨k, sb, hgk, rfl, rfl, hsb, hsz, hu⟩ := hrel
    by_cases hlt : k < l.length
    · obtain ⟨ad, rfl, c0, c1, c2, c3⟩ := (h.upd hu (fun _ _ => id)).at_ hlt
      obtain ⟨x, hx⟩ : ∃ x, l[k] = x := ⟨_, rfl⟩
      rw [hx] at c0 c1 c2 c3
      have hX : l[k]? = some x := by rw [List.getElem?_eq_getElem hlt, hx]
      have hk := Lib.hid (hok x (by rw [← hx]; exact List.getElem_mem hlt))
      clear hx
      have hnew := (Blk.new wr 89 x.cells)
      have d0 : (wr.alloc (.cells x.cells.toArray 89)).cell? ⟨wr.heap.size, 0, none⟩ = some (.int .i64 x.f) := hnew.cell 0
      have d1 : (wr.alloc (.cells x.cells.toArray 89)).cell? ⟨wr.heap.size, 1, none⟩ = some (.int .i64 x.t) := hnew.cell 1
      have d2 : (wr.alloc (.cells x.cells.toArray 89)).cell? ⟨wr.heap.size, 2, none⟩ = some (.int .i64 x.k) := hnew.cell 2
      have d3 : (wr.alloc (.cells x.cells.toArray 89)).cell? ⟨wr.heap.size, 3, none⟩ = some (.int .i64 x.key) := hnew.cell 3
      have D := Lib.hid (And.intro d0 (And.intro d1 (And.intro d2 d3)))
      clear d0 d1 d2 d3 hnew
      by_cases hk0 : k = 0
      · have hkb : ((k : Int) == 0) = true := by rw [beq_iff_eq]; omega
        have hm := Lib.hid (show textF l (k + 1) = numL x.f ++ stepL x by
          conv => lhs; unfold textF
          rw [hX]
          simp [hk0])
        have n0 := wordS_size x.k
        have n1 := numS_size x.key
        have n2 := numS_size x.t
        have n4 := numS_size x.f
        have n3 : (⟨#[32]⟩ : ByteArray).size = 1 := rfl
        have q1 : ¬ 9223372036854775807 < 1 + (wordS x.k).size := by omega
        have q2 : ¬ 9223372036854775807 < 1 + (wordS x.k).size + (numS x.key).size := by omega
        have q3 : ¬ 9223372036854775807 < 1 + (wordS x.k).size + (numS x.key).size + 1 := by omega
        have q4 : ¬ 9223372036854775807 < 1 + (wordS x.k).size + (numS x.key).size + 1 + (numS x.t).size := by omega
        have q5 : ¬ 9223372036854775807 < (numS x.f).size + (1 + (wordS x.k).size + (numS x.key).size + 1 + (numS x.t).size) := by omega
        clear hX hk0
        go_wp2_with fail
        refine (rnumS _ _ hk.out.1.1 hk.out.1.2).mono ?_
        rintro e w1 ⟨rfl, hu1⟩
        have e0 : Upd No w w1.drew := ((hu.alloc _).trans hu1).drew
        have e1 : w1.drew.cell? ⟨wr.heap.size, 1, none⟩ = some (.int .i64 x.t) := hu1.keepNo D.out.2.1
        have e2 : w1.drew.cell? ⟨wr.heap.size, 2, none⟩ = some (.int .i64 x.k) := hu1.keepNo D.out.2.2.1
        have e3 : w1.drew.cell? ⟨wr.heap.size, 3, none⟩ = some (.int .i64 x.key) := hu1.keepNo D.out.2.2.2
        go_wp2_with fail
        go_region_held3 (fun w' => Upd No w w' ∧ w'.cell? ⟨wr.heap.size, 1, none⟩ = some (.int .i64 x.t) ∧ w'.cell? ⟨wr.heap.size, 2, none⟩ = some (.int .i64 x.k) ∧ w'.cell? ⟨wr.heap.size, 3, none⟩ = some (.int .i64 x.key))
          (first
            | (with_reducible exact ⟨e0, e1, e2, e3⟩)
            | (with_reducible exact ⟨e0.trans hu2, hu2.keepNo e1, hu2.keepNo e2, hu2.keepNo e3⟩)
            | (go_split_ands; with_reducible exact ⟨Upd.trans (by assumption) hu2, hu2.keepNo (by assumption), hu2.keepNo (by assumption), hu2.keepNo (by assumption)⟩))
          (first
            | (go_at_call 96; refine (rwordS _ x.k).mono ?_; rintro e w2 ⟨rfl, hu2⟩; have hU : Upd No w w2 := Upd.trans (by first | assumption | exact e0 | (go_split_ands; assumption)) hu2)
            | (go_at_call 95; refine (rnumS _ _ ?_ ?_).mono ?_; (first | exact hk.out.2.2.1 | exact hk.out.2.1.1); (first | exact hk.out.2.2.2 | exact hk.out.2.1.2); rintro e w2 ⟨rfl, hu2⟩; have hU : Upd No w w2 := Upd.trans (by first | assumption | exact e0 | (go_split_ands; assumption)) hu2))
        have HS : Hid (numS x.f ++ ((⟨#[32]⟩ : ByteArray) ++ wordS x.k ++ numS x.key ++ ⟨#[32]⟩ ++ numS x.t) = ⟨(textF l (k + 1)).toArray⟩) := Lib.hid (by
          rw [hm.out, show (⟨#[32]⟩ : ByteArray) = ⟨[32].toArray⟩ from rfl]
          unfold wordS numS stepL
          simp only [str_app])
        clear q1 q2 q3 q4 q5 e0 e1 e2 e3
        go_wp2
        go_roundg (gk - 1)
        case measure => omega
        case rel => exact ⟨k + 1, _, by omega, by go_num, rfl, HS, by simp only [ByteArray.size_append, n3]; omega, hU⟩
      · have hkb : ((k : Int) == 0) = false := by rw [beq_eq_false_iff_ne]; omega
        have hm := Lib.hid (show textF l (k + 1) = textF l k ++ stepL x by
          conv => lhs; unfold textF
          rw [hX]
          simp [hk0])
        have n0 := wordS_size x.k
        have n1 := numS_size x.key
        have n2 := numS_size x.t
        have n3 : (⟨#[32]⟩ : ByteArray).size = 1 := rfl
        have q1 : ¬ 9223372036854775807 < 1 + (wordS x.k).size := by omega
        have q2 : ¬ 9223372036854775807 < 1 + (wordS x.k).size + (numS x.key).size := by omega
        have q3 : ¬ 9223372036854775807 < 1 + (wordS x.k).size + (numS x.key).size + 1 := by omega
        have q4 : ¬ 9223372036854775807 < 1 + (wordS x.k).size + (numS x.key).size + 1 + (numS x.t).size := by omega
        have q5 : ¬ 9223372036854775807 < sb.size + (1 + (wordS x.k).size + (numS x.key).size + 1 + (numS x.t).size) := by omega
        clear hX hk0
        go_wp2_with fail
        have e0 : Upd No w (wr.alloc (.cells #[.int .i64 x.f, .int .i64 x.t, .int .i64 x.k, .int .i64 x.key] 89)).drew := (hu.alloc _).drew
        have e1 : ((wr.alloc (.cells #[.int .i64 x.f, .int .i64 x.t, .int .i64 x.k, .int .i64 x.key] 89)).drew).cell? ⟨wr.heap.size, 1, none⟩ = some (.int .i64 x.t) := D.out.2.1
        have e2 : ((wr.alloc (.cells #[.int .i64 x.f, .int .i64 x.t, .int .i64 x.k, .int .i64 x.key] 89)).drew).cell? ⟨wr.heap.size, 2, none⟩ = some (.int .i64 x.k) := D.out.2.2.1
        have e3 : ((wr.alloc (.cells #[.int .i64 x.f, .int .i64 x.t, .int .i64 x.k, .int .i64 x.key] 89)).drew).cell? ⟨wr.heap.size, 3, none⟩ = some (.int .i64 x.key) := D.out.2.2.2
        go_region_held3 (fun w' => Upd No w w' ∧ w'.cell? ⟨wr.heap.size, 1, none⟩ = some (.int .i64 x.t) ∧ w'.cell? ⟨wr.heap.size, 2, none⟩ = some (.int .i64 x.k) ∧ w'.cell? ⟨wr.heap.size, 3, none⟩ = some (.int .i64 x.key))
          (first
            | (with_reducible exact ⟨e0, e1, e2, e3⟩)
            | (with_reducible exact ⟨e0.trans hu2, hu2.keepNo e1, hu2.keepNo e2, hu2.keepNo e3⟩)
            | (go_split_ands; with_reducible exact ⟨Upd.trans (by assumption) hu2, hu2.keepNo (by assumption), hu2.keepNo (by assumption), hu2.keepNo (by assumption)⟩))
          (first
            | (go_at_call 96; refine (rwordS _ x.k).mono ?_; rintro e w2 ⟨rfl, hu2⟩; have hU : Upd No w w2 := Upd.trans (by first | assumption | exact e0 | (go_split_ands; assumption)) hu2)
            | (go_at_call 95; refine (rnumS _ _ ?_ ?_).mono ?_; (first | exact hk.out.2.2.1 | exact hk.out.2.1.1); (first | exact hk.out.2.2.2 | exact hk.out.2.1.2); rintro e w2 ⟨rfl, hu2⟩; have hU : Upd No w w2 := Upd.trans (by first | assumption | exact e0 | (go_split_ands; assumption)) hu2))
        have HS : Hid (sb ++ ((⟨#[32]⟩ : ByteArray) ++ wordS x.k ++ numS x.key ++ ⟨#[32]⟩ ++ numS x.t) = ⟨(textF l (k + 1)).toArray⟩) := Lib.hid (by
          rw [hm.out, hsb.out, show (⟨#[32]⟩ : ByteArray) = ⟨[32].toArray⟩ from rfl]
          unfold wordS numS stepL
          simp only [str_app])
        clear q1 q2 q3 q4 q5 e0 e1 e2 e3
        go_wp2
        go_roundg (gk - 1)
        case measure => omega
        case rel => exact ⟨k + 1, _, by omega, by go_num, rfl, HS, by simp only [ByteArray.size_append, n3]; omega, hU⟩
    · obtain rfl : k = l.length := by omega
      go_wp2
      go_ret
      exact ⟨by rw [← hsb.out]; rfl, hu⟩
end Go.Proofs.Ytgakhpdclhlmpaa
