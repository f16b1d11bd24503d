/- Numbers as texts: the document's digits. -/
import Derived.Test.YtebjeapnglmokaaProg
import Derived.IntWalk
import Derived.Lib.SlBytesRow
import Derived.Test.YtebjeapnglmokaaMah
namespace Go.Proofs.Ytebjeapnglmokaa
set_option linter.unusedVariables false
open Go.RowKit

/-- digits, the last ones first found -/
def decF : Nat → Nat → List UInt8
  | 0, _ => []
  | f + 1, u => (if u < 10 then [] else decF f (u / 10)) ++ [UInt8.ofNat (48 + u % 10)]
def decL (u : Nat) : List UInt8 := decF 20 u
/-- what a round leaves to be done -/
def leftD (i u : Nat) : List UInt8 := if i = 0 ∨ 0 < u then decF (20 - i) u else []
theorem decF_step {i u : Nat} (hi : i < 20) (h : i = 0 ∨ 0 < u) : leftD i u = leftD (i + 1) (u / 10) ++ [UInt8.ofNat (48 + u % 10)] := by
  unfold leftD
  rw [if_pos h, show 20 - i = (20 - (i + 1)) + 1 by omega, decF]
  congr 1
  by_cases hu : u < 10
  · rw [if_pos hu, if_neg (by omega)]
  · rw [if_neg hu, if_pos (by omega)]
theorem digit_nat (x : Nat) : ((UInt8.ofNat (48 + x % 10)).toNat : Int) = 48 + (x : Int) % 10 := by
  rw [UInt8.toNat_ofNat']
  omega
theorem conv_str (w : World) (b o : Nat) (l : List UInt8) (cap : Nat) (hc : ∀ (i : Nat) (v : UInt8), l[i]? = some v → w.cell? ⟨b, o + i, none⟩ = some (.int .u8 (v.toNat : Int))) :
    (convert 58 9 (.slice (some ⟨b, o, none⟩) l.length cap)).run Try.prog w = .ok (.string ⟨l.toArray⟩) w := by
  have h := Lib.run_convert_whole (P := Try.prog) w 58 5 9 Try.underlying58 Try.underlying5 Try.underlying9 b o ⟨l.toArray⟩ (fun i hi => by
    have hi' : i < l.length := by simpa [ByteArray.size] using hi
    rw [hc i l[i] (List.getElem?_eq_getElem hi')]
    rfl) cap
  have hs : (⟨l.toArray⟩ : ByteArray).size = l.length := by simp [ByteArray.size]
  rw [hs] at h
  exact h
theorem str_app (a b : List UInt8) : ((⟨a.toArray⟩ : ByteArray) ++ ⟨b.toArray⟩) = ⟨(a ++ b).toArray⟩ := by
  apply ByteArray.ext
  simp
/-- digits of a number that is not less than 0 -/
def numTo (neg : Bool) (u : Nat) : List UInt8 := if neg then 45 :: decL u else decL u

end Go.Proofs.Ytebjeapnglmokaa

/- The program's digits. -/
namespace Go.Proofs.Ytebjeapnglmokaa
set_option linter.unusedVariables false
open Go.RowKit
def rowB (j : Nat) (l : List UInt8) : List Value := List.replicate j (.int .u8 0) ++ l.map fun b => .int .u8 (b.toNat : Int)
theorem rowB_set (m : Nat) (l : List UInt8) (b : UInt8) : (rowB (m + 1) l).set m (.int .u8 (b.toNat : Int)) = rowB m (b :: l) := by
  unfold rowB
  rw [List.replicate_succ', List.append_assoc, List.set_append_right _ _ (by simp)]
  simp
theorem rowB_zero (m : Nat) (l : List UInt8) : (rowB (m + 1) l)[m]? = some (.int .u8 0) := by
  unfold rowB
  rw [List.getElem?_append_left (by simp)]
  simp
theorem rowB_at (j : Nat) (l : List UInt8) (i : Nat) (v : UInt8) (h : l[i]? = some v) : (rowB j l)[j + i]? = some (.int .u8 (v.toNat : Int)) := by
  unfold rowB
  rw [List.getElem?_append_right (by simp)]
  simp [h]
theorem run_tail (w : World) (b m n : Nat) (h : m + n = 20) (hn : 0 < n) :
    (Instr.sliceAt 111 (.pointer (some ⟨b, 0, none⟩)) (some (.int .i64 (m : Int))) none none).run Try.prog w = .ok (.slice (some ⟨b, m, none⟩) n n) w := by
  have ha : Try.prog.arrayLen 111 = 20 := by kernel_rfl
  have he : Try.prog.elem 111 = 5 := by kernel_rfl
  have hs : ∀ w : World, (sizeOf 5).run Try.prog w = .ok 1 w := fun w => by kernel_rfl
  have hu : Try.prog.underlying 111 = some (.array (Try.prog.arrayLen 111) (Try.prog.elem 111)) := by kernel_rfl
  rw [run_sliceAt_array_l w 111 ⟨b, 0, none⟩ hu .i64 (m : Int) (by omega) (by rw [ha]; omega), he, hs]
  have h1 : ¬ 20 = m := by omega
  have h2 : 20 - m = n := by omega
  simp [Result.andThen, slicedAt, ha, h1, h2, Addr.add]
  omega
set_option maxRecDepth 100000 in
set_option maxHeartbeats 1000000 in
theorem digits_body (w : World) (v0 : Nat) (hv : v0 < 18446744073709551616) :
    Calls Try.prog 41 #[.int .u64 (v0 : Int)] w fun e w' => e = .returned (.string ⟨(decL v0).toArray⟩) ∧ Upd No w w' := by
  have Hv := Lib.hid hv
  clear hv
  go_enter Try.func41, Try.ntmps41
  go_wp2
  go_loopg [0, 4] 20 (fun gk v i wr => ∃ (k x j : Nat) (l : List UInt8), k + gk = 20 ∧ k + j = 20 ∧ l.length = k ∧ i = .int .i64 (j : Int) ∧ v = .int .u64 (x : Int) ∧ Blk wr w.heap.size 111 (rowB j l) ∧ Hid (decL v0 = leftD k x ++ l) ∧ Hid (x < 10 ^ (20 - k)) ∧ Hid (x < 18446744073709551616) ∧ Upd No w wr)
  case atStart => exact ⟨0, v0, 20, [], by omega, by omega, rfl, rfl, rfl, Blk.new w 111 (rowB 20 []), Lib.hid (by simp [leftD, decL]), Lib.hid (by have := Hv.out; simp; omega), Lib.hid Hv.out, (Upd.refl _ _).alloc _⟩
  case round =>
    obtain ⟨k, x, j, l, hgk, hkj, hlen, rfl, rfl, hb, hd, hx', hx64', hur⟩ := hrel
    have hx := hx'.out
    have hx64 := hx64'.out
    clear hx' hx64'
    by_cases hk : k = 0 ∨ 0 < x
    · have hk20 : k < 20 := by
        rcases Nat.lt_or_ge k 20 with h | h
        · exact h
        · rw [show 20 - k = 0 by omega] at hx
          omega
      obtain ⟨m, rfl⟩ : ∃ m, j = m + 1 := ⟨j - 1, by omega⟩
      by_cases hk0 : k = 0
      · obtain ⟨dg, hdg⟩ : ∃ dg, dg = UInt8.ofNat (48 + x % 10) := ⟨_, rfl⟩
        have hdi : (48 : Int) + (x : Int) % 10 = (dg.toNat : Int) := by rw [hdg, digit_nat]
        have hc0 : wr.cell? ⟨w.heap.size, m, none⟩ = some (.int .u8 0) := (hb.cell m).trans (rowB_zero m l)
        have hf0 : wr.frozen? ⟨w.heap.size, m, none⟩ = false := hb.free m
        have hb' := hb.set_ m (.int .u8 (dg.toNat : Int))
        rw [rowB_set] at hb'
        have hu' := hur.setCell (p := ⟨w.heap.size, m, none⟩) (.inr (Nat.le_refl _)) (.int .u8 (dg.toNat : Int))
        have hxk : x / 10 < 10 ^ (20 - (k + 1)) := by
          rw [show 20 - k = (20 - (k + 1)) + 1 by omega, Nat.pow_succ] at hx
          omega
        have HD : Hid (decL v0 = leftD (k + 1) (x / 10) ++ (dg :: l)) := Lib.hid (by rw [hd.out, decF_step hk20 hk, hdg, List.append_assoc]; rfl)
        have hx10 : x / 10 < 18446744073709551616 := by omega
        have hdv : IntKind.u64.wrap ((x : Int) / 10) = ((x / 10 : Nat) : Int) := by
          rw [IntKind.wrap_u64]
          omega
        have Hxk := Lib.hid hxk
        have Hx64 := Lib.hid hx10
        have hm1 : ((m + 1 : Nat) : Int) - 1 = (m : Int) := by omega
        have hm20 : (m : Int) < 20 := by omega
        clear hdg hxk hx hx64 hx10
        obtain rfl : m = 19 := by omega
        subst hk0
        clear hk
        go_wp2
        go_roundg (gk - 1)
        case measure => omega
        case rel => exact ⟨0 + 1, x / 10, 19, dg :: l, by omega, by omega, by simp [hlen], rfl, by first | rfl | (rw [hdv]), hb', HD, Hxk, Hx64, hu'⟩
      · have hx0 : (0 : Int) < (x : Int) := by omega
        obtain ⟨dg, hdg⟩ : ∃ dg, dg = UInt8.ofNat (48 + x % 10) := ⟨_, rfl⟩
        have hdi : (48 : Int) + (x : Int) % 10 = (dg.toNat : Int) := by rw [hdg, digit_nat]
        have hc0 : wr.cell? ⟨w.heap.size, m, none⟩ = some (.int .u8 0) := (hb.cell m).trans (rowB_zero m l)
        have hf0 : wr.frozen? ⟨w.heap.size, m, none⟩ = false := hb.free m
        have hb' := hb.set_ m (.int .u8 (dg.toNat : Int))
        rw [rowB_set] at hb'
        have hu' := hur.setCell (p := ⟨w.heap.size, m, none⟩) (.inr (Nat.le_refl _)) (.int .u8 (dg.toNat : Int))
        have hxk : x / 10 < 10 ^ (20 - (k + 1)) := by
          rw [show 20 - k = (20 - (k + 1)) + 1 by omega, Nat.pow_succ] at hx
          omega
        have HD : Hid (decL v0 = leftD (k + 1) (x / 10) ++ (dg :: l)) := Lib.hid (by rw [hd.out, decF_step hk20 hk, hdg, List.append_assoc]; rfl)
        have hx10 : x / 10 < 18446744073709551616 := by omega
        have hdv : IntKind.u64.wrap ((x : Int) / 10) = ((x / 10 : Nat) : Int) := by
          rw [IntKind.wrap_u64]
          omega
        have Hxk := Lib.hid hxk
        have Hx64 := Lib.hid hx10
        have hm1 : ((m + 1 : Nat) : Int) - 1 = (m : Int) := by omega
        have hm20 : (m : Int) < 20 := by omega
        clear hdg hxk hx hx64 hx10
        have hkb : ((m : Int) + 1 == 20) = false := by rw [beq_eq_false_iff_ne]; omega
        clear hk hk0
        go_wp2
        go_roundg (gk - 1)
        case measure => omega
        case rel => exact ⟨k + 1, x / 10, m, dg :: l, by omega, by omega, by simp [hlen], by go_num, by first | rfl | (rw [hdv]), hb', HD, Hxk, Hx64, hu'⟩
    · have hj20 : ((j : Int) == 20) = false := by rw [beq_eq_false_iff_ne]; omega
      have hx0 : ¬ (0 : Int) < (x : Int) := by omega
      have hx1 : x = 0 := by omega
      have hsl := run_tail wr w.heap.size j k (by omega) (by omega)
      have hcv := conv_str wr w.heap.size j l k (fun i v hv => (hb.cell (j + i)).trans (rowB_at j l i v hv))
      rw [hlen] at hcv
      have HF := Lib.hid (show l = decL v0 by
        rw [hd.out]
        unfold leftD
        rw [if_neg hk]
        rfl)
      clear hx hx64 hk hx1
      go_wp2
      go_ret
      exact ⟨by rw [← HF.out]; rfl, hur⟩
end Go.Proofs.Ytebjeapnglmokaa

/- A number's text: the program's, and the document's; a kind's word. -/
namespace Go.Proofs.Ytebjeapnglmokaa
set_option linter.unusedVariables false
open Go.RowKit
/-- a number's text -/
def numL (n : Int) : List UInt8 := numTo (decide (n < 0)) n.natAbs
theorem decF_len (f u : Nat) : (decF f u).length ≤ f := by
  induction f generalizing u with
  | zero => simp [decF]
  | succ f ih =>
    unfold decF
    have := ih (u / 10)
    split <;> simp <;> omega
theorem decL_len (u : Nat) : (decL u).length ≤ 20 := decF_len 20 u
theorem numL_len (n : Int) : (numL n).length ≤ 21 := by
  unfold numL numTo
  have := decL_len n.natAbs
  split <;> simp <;> omega
set_option maxRecDepth 100000 in
set_option maxHeartbeats 1000000 in
theorem pnum (w : World) (n : Int) (h1 : -9223372036854775808 ≤ n) (h2 : n ≤ 9223372036854775807) :
    Calls Try.prog 26 #[.int .i64 n] w fun e w' => e = .returned (.string ⟨(numL n).toArray⟩) ∧ Upd No w w' := by
  obtain ⟨v0, hv0⟩ : ∃ v0, v0 = n.natAbs := ⟨_, rfl⟩
  have hv : v0 < 18446744073709551616 := by omega
  by_cases hn : n < 0
  · have HF := Lib.hid (show numL n = 45 :: decL v0 by unfold numL; rw [decide_eq_true hn, hv0]; rfl)
    have hwn : IntKind.u64.wrap n = 18446744073709551616 - (v0 : Int) := by rw [IntKind.wrap_u64]; omega
    have hwz : IntKind.u64.wrap (-(18446744073709551616 - (v0 : Int))) = (v0 : Int) := by rw [IntKind.wrap_u64]; omega
    have hwz2 : IntKind.u64.wrap (0 - (18446744073709551616 - (v0 : Int))) = (v0 : Int) := by rw [IntKind.wrap_u64]; omega
    have Hv := Lib.hid hv
    clear hv hv0
    go_enter Try.func26, Try.ntmps26
    go_wp2_with fail
    refine (digits_body w v0 Hv.out).mono ?_
    rintro e w2 ⟨rfl, hu⟩
    have hmz : (⟨#[45]⟩ : ByteArray).size = 1 := rfl
    have hl : (decL v0).length ≤ 20 := decL_len v0
    have hls : (⟨(decL v0).toArray⟩ : ByteArray).size ≤ 20 := by simpa [ByteArray.size] using hl
    go_wp2
    go_ret
    exact ⟨by rw [HF.out, show (⟨#[45]⟩ : ByteArray) = ⟨[45].toArray⟩ from rfl, str_app]; rfl, hu⟩
  · have HF := Lib.hid (show numL n = decL v0 by unfold numL; rw [decide_eq_false hn, hv0]; rfl)
    have hnv : n = (v0 : Int) := by omega
    have hwn : IntKind.u64.wrap n = (v0 : Int) := by rw [IntKind.wrap_u64]; omega
    have Hv := Lib.hid hv
    clear hv hv0 hnv
    go_enter Try.func26, Try.ntmps26
    go_wp2_with fail
    refine (digits_body w v0 Hv.out).mono ?_
    rintro e w2 ⟨rfl, hu⟩
    go_wp2
    go_ret
    exact ⟨by rw [HF.out]; rfl, hu⟩
/-- a kind's word -/
def wordL (k : Int) : List UInt8 := if k = 1 then [119, 119] else if k = 2 then [119, 114] else if k = 3 then [114, 119] else [120]
set_option maxRecDepth 100000 in
theorem pword (w : World) (k : Int) :
    Calls Try.prog 27 #[.int .i64 k] w fun e w' => e = .returned (.string ⟨(wordL k).toArray⟩) ∧ Upd No w w' := by
  by_cases h1 : k = 1
  · subst h1
    go_enter Try.func27, Try.ntmps27
    go_wp2
    go_ret
    exact ⟨rfl, Upd.refl _ _⟩
  · by_cases h2 : k = 2
    · subst h2
      go_enter Try.func27, Try.ntmps27
      go_wp2
      go_ret
      exact ⟨rfl, Upd.refl _ _⟩
    · by_cases h3 : k = 3
      · subst h3
        go_enter Try.func27, Try.ntmps27
        go_wp2
        go_ret
        exact ⟨rfl, Upd.refl _ _⟩
      · have H := Lib.hid (show wordL k = [120] by unfold wordL; rw [if_neg h1, if_neg h2, if_neg h3])
        go_enter Try.func27, Try.ntmps27
        go_wp2
        go_ret
        exact ⟨by rw [H.out]; rfl, Upd.refl _ _⟩
end Go.Proofs.Ytebjeapnglmokaa
