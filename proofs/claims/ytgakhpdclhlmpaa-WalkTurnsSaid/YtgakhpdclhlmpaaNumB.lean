/- The program's digits. -/
import Derived.Test.YtgakhpdclhlmpaaNumA
namespace Go.Proofs.Ytgakhpdclhlmpaa
set_option linter.unusedVariables false
open Go.RowKit
def rowB (j : Nat) (l : List UInt8) : List Value := List.replicate j (.int .u8 0) ++ l.map fun b => .int .u8 (b.toNat : Int)
theorem rowB_set (m : Nat) (l : List UInt8) (b : UInt8) : (rowB (m + 1) l).set m (.int .u8 (b.toNat : Int)) = rowB m (b :: l) := by
  unfold rowB
  rw [List.replicate_succ', List.append_assoc, List.set_append_right _ _ (by simp)]
  simp
theorem rowB_zero (m : Nat) (l : List UInt8) : (rowB (m + 1) l)[m]? = some (.int .u8 0) := by
  unfold rowB
  rw [List.getElem?_append_left (by simp)]
  simp
theorem rowB_at (j : Nat) (l : List UInt8) (i : Nat) (v : UInt8) (h : l[i]? = some v) : (rowB j l)[j + i]? = some (.int .u8 (v.toNat : Int)) := by
  unfold rowB
  rw [List.getElem?_append_right (by simp)]
  simp [h]
theorem run_tail (w : World) (b m n : Nat) (h : m + n = 20) (hn : 0 < n) :
    (Instr.sliceAt 248 (.pointer (some ⟨b, 0, none⟩)) (some (.int .i64 (m : Int))) none none).run Try.prog w = .ok (.slice (some ⟨b, m, none⟩) n n) w := by
  have ha : Try.prog.arrayLen 248 = 20 := by kernel_rfl
  have he : Try.prog.elem 248 = 5 := by kernel_rfl
  have hs : ∀ w : World, (sizeOf 5).run Try.prog w = .ok 1 w := fun w => by kernel_rfl
  have hu : Try.prog.underlying 248 = some (.array (Try.prog.arrayLen 248) (Try.prog.elem 248)) := by kernel_rfl
  rw [run_sliceAt_array_l w 248 ⟨b, 0, none⟩ hu .i64 (m : Int) (by omega) (by rw [ha]; omega), he, hs]
  have h1 : ¬ 20 = m := by omega
  have h2 : 20 - m = n := by omega
  simp [Result.andThen, slicedAt, ha, h1, h2, Addr.add]
  omega
set_option maxRecDepth 100000 in
set_option maxHeartbeats 1000000 in
theorem digits_body (w : World) (v0 : Nat) (hv : v0 < 18446744073709551616) :
    Calls Try.prog 154 #[.int .u64 (v0 : Int)] w fun e w' => e = .returned (.string ⟨(decL v0).toArray⟩) ∧ Upd No w w' := by
  have Hv := Lib.hid hv
  clear hv
  go_enter Try.func154, Try.ntmps154
  go_wp2
  go_loopg [0, 4] 20 (fun gk v i wr => ∃ (k x j : Nat) (l : List UInt8), k + gk = 20 ∧ k + j = 20 ∧ l.length = k ∧ i = .int .i64 (j : Int) ∧ v = .int .u64 (x : Int) ∧ Blk wr w.heap.size 248 (rowB j l) ∧ Hid (decL v0 = leftD k x ++ l) ∧ Hid (x < 10 ^ (20 - k)) ∧ Hid (x < 18446744073709551616) ∧ Upd No w wr)
  case atStart => exact ⟨0, v0, 20, [], by omega, by omega, rfl, rfl, rfl, Blk.new w 248 (rowB 20 []), Lib.hid (by simp [leftD, decL]), Lib.hid (by have := Hv.out; simp; omega), Lib.hid Hv.out, (Upd.refl _ _).alloc _⟩
  case round =>
    obtain ⟨k, x, j, l, hgk, hkj, hlen, rfl, rfl, hb, hd, hx', hx64', hur⟩ := hrel
    have hx := hx'.out
    have hx64 := hx64'.out
    clear hx' hx64'
    by_cases hk : k = 0 ∨ 0 < x
    · have hk20 : k < 20 := by
        rcases Nat.lt_or_ge k 20 with h | h
        · exact h
        · rw [show 20 - k = 0 by omega] at hx
          omega
      obtain ⟨m, rfl⟩ : ∃ m, j = m + 1 := ⟨j - 1, by omega⟩
      by_cases hk0 : k = 0
      · obtain ⟨dg, hdg⟩ : ∃ dg, dg = UInt8.ofNat (48 + x % 10) := ⟨_, rfl⟩
        have hdi : (48 : Int) + (x : Int) % 10 = (dg.toNat : Int) := by rw [hdg, digit_nat]
        have hc0 : wr.cell? ⟨w.heap.size, m, none⟩ = some (.int .u8 0) := (hb.cell m).trans (rowB_zero m l)
        have hf0 : wr.frozen? ⟨w.heap.size, m, none⟩ = false := hb.free m
        have hb' := hb.set_ m (.int .u8 (dg.toNat : Int))
        rw [rowB_set] at hb'
        have hu' := hur.setCell (p := ⟨w.heap.size, m, none⟩) (.inr (Nat.le_refl _)) (.int .u8 (dg.toNat : Int))
        have hxk : x / 10 < 10 ^ (20 - (k + 1)) := by
          rw [show 20 - k = (20 - (k + 1)) + 1 by omega, Nat.pow_succ] at hx
          omega
        have HD : Hid (decL v0 = leftD (k + 1) (x / 10) ++ (dg :: l)) := Lib.hid (by rw [hd.out, decF_step hk20 hk, hdg, List.append_assoc]; rfl)
        have hx10 : x / 10 < 18446744073709551616 := by omega
        have hdv : IntKind.u64.wrap ((x : Int) / 10) = ((x / 10 : Nat) : Int) := by
          rw [IntKind.wrap_u64]
          omega
        have Hxk := Lib.hid hxk
        have Hx64 := Lib.hid hx10
        have hm1 : ((m + 1 : Nat) : Int) - 1 = (m : Int) := by omega
        have hm20 : (m : Int) < 20 := by omega
        clear hdg hxk hx hx64 hx10
        obtain rfl : m = 19 := by omega
        subst hk0
        clear hk
        go_wp2
        go_roundg (gk - 1)
        case measure => omega
        case rel => exact ⟨0 + 1, x / 10, 19, dg :: l, by omega, by omega, by simp [hlen], rfl, by first | rfl | (rw [hdv]), hb', HD, Hxk, Hx64, hu'⟩
      · have hx0 : (0 : Int) < (x : Int) := by omega
        obtain ⟨dg, hdg⟩ : ∃ dg, dg = UInt8.ofNat (48 + x % 10) := ⟨_, rfl⟩
        have hdi : (48 : Int) + (x : Int) % 10 = (dg.toNat : Int) := by rw [hdg, digit_nat]
        have hc0 : wr.cell? ⟨w.heap.size, m, none⟩ = some (.int .u8 0) := (hb.cell m).trans (rowB_zero m l)
        have hf0 : wr.frozen? ⟨w.heap.size, m, none⟩ = false := hb.free m
        have hb' := hb.set_ m (.int .u8 (dg.toNat : Int))
        rw [rowB_set] at hb'
        have hu' := hur.setCell (p := ⟨w.heap.size, m, none⟩) (.inr (Nat.le_refl _)) (.int .u8 (dg.toNat : Int))
        have hxk : x / 10 < 10 ^ (20 - (k + 1)) := by
          rw [show 20 - k = (20 - (k + 1)) + 1 by omega, Nat.pow_succ] at hx
          omega
        have HD : Hid (decL v0 = leftD (k + 1) (x / 10) ++ (dg :: l)) := Lib.hid (by rw [hd.out, decF_step hk20 hk, hdg, List.append_assoc]; rfl)
        have hx10 : x / 10 < 18446744073709551616 := by omega
        have hdv : IntKind.u64.wrap ((x : Int) / 10) = ((x / 10 : Nat) : Int) := by
          rw [IntKind.wrap_u64]
          omega
        have Hxk := Lib.hid hxk
        have Hx64 := Lib.hid hx10
        have hm1 : ((m + 1 : Nat) : Int) - 1 = (m : Int) := by omega
        have hm20 : (m : Int) < 20 := by omega
        clear hdg hxk hx hx64 hx10
        have hkb : ((m : Int) + 1 == 20) = false := by rw [beq_eq_false_iff_ne]; omega
        clear hk hk0
        go_wp2
        go_roundg (gk - 1)
        case measure => omega
        case rel => exact ⟨k + 1, x / 10, m, dg :: l, by omega, by omega, by simp [hlen], by go_num, by first | rfl | (rw [hdv]), hb', HD, Hxk, Hx64, hu'⟩
    · have hj20 : ((j : Int) == 20) = false := by rw [beq_eq_false_iff_ne]; omega
      have hx0 : ¬ (0 : Int) < (x : Int) := by omega
      have hx1 : x = 0 := by omega
      have hsl := run_tail wr w.heap.size j k (by omega) (by omega)
      have hcv := conv_str wr w.heap.size j l k (fun i v hv => (hb.cell (j + i)).trans (rowB_at j l i v hv))
      rw [hlen] at hcv
      have HF := Lib.hid (show l = decL v0 by
        rw [hd.out]
        unfold leftD
        rw [if_neg hk]
        rfl)
      clear hx hx64 hk hx1
      go_wp2
      go_ret
      exact ⟨by rw [← HF.out]; rfl, hur⟩
end Go.Proofs.Ytgakhpdclhlmpaa
