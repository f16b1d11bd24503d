/- Numbers as texts: the document's digits. -/
import Derived.Test.YtgakhpdclhlmpaaProg
import Derived.Test.YtgakhpdclhlmpaaBase
import Derived.IntWalk
import Derived.Lib.SlBytesRow
namespace Go.Proofs.Ytgakhpdclhlmpaa
set_option linter.unusedVariables false
open Go.RowKit

/-- digits, the last ones first found -/
def decF : Nat → Nat → List UInt8
  | 0, _ => []
  | f + 1, u => (if u < 10 then [] else decF f (u / 10)) ++ [UInt8.ofNat (48 + u % 10)]
def decL (u : Nat) : List UInt8 := decF 20 u
/-- what a round leaves to be done -/
def leftD (i u : Nat) : List UInt8 := if i = 0 ∨ 0 < u then decF (20 - i) u else []
theorem decF_step {i u : Nat} (hi : i < 20) (h : i = 0 ∨ 0 < u) : leftD i u = leftD (i + 1) (u / 10) ++ [UInt8.ofNat (48 + u % 10)] := by
  unfold leftD
  rw [if_pos h, show 20 - i = (20 - (i + 1)) + 1 by omega, decF]
  congr 1
  by_cases hu : u < 10
  · rw [if_pos hu, if_neg (by omega)]
  · rw [if_neg hu, if_pos (by omega)]
theorem digit_nat (x : Nat) : ((UInt8.ofNat (48 + x % 10)).toNat : Int) = 48 + (x : Int) % 10 := by
  rw [UInt8.toNat_ofNat']
  omega
theorem conv_str (w : World) (b o : Nat) (l : List UInt8) (cap : Nat) (hc : ∀ (i : Nat) (v : UInt8), l[i]? = some v → w.cell? ⟨b, o + i, none⟩ = some (.int .u8 (v.toNat : Int))) :
    (convert 108 9 (.slice (some ⟨b, o, none⟩) l.length cap)).run Try.prog w = .ok (.string ⟨l.toArray⟩) w := by
  have h := Lib.run_convert_whole (P := Try.prog) w 108 5 9 Try.underlying108 Try.underlying5 Try.underlying9 b o ⟨l.toArray⟩ (fun i hi => by
    have hi' : i < l.length := by simpa [ByteArray.size] using hi
    rw [hc i l[i] (List.getElem?_eq_getElem hi')]
    rfl) cap
  have hs : (⟨l.toArray⟩ : ByteArray).size = l.length := by simp [ByteArray.size]
  rw [hs] at h
  exact h
theorem str_app (a b : List UInt8) : ((⟨a.toArray⟩ : ByteArray) ++ ⟨b.toArray⟩) = ⟨(a ++ b).toArray⟩ := by
  apply ByteArray.ext
  simp
/-- digits of a number that is not less than 0 -/
def numTo (neg : Bool) (u : Nat) : List UInt8 := if neg then 45 :: decL u else decL u

set_option maxRecDepth 100000 in
set_option maxHeartbeats 1000000 in
theorem rnum_body (w : World) (n : Int) (v0 : Nat) (neg : Bool) (hv : v0 < 18446744073709551616) (hn1 : neg = false → n = (v0 : Int)) (hn2 : neg = true → n < 0 ∧ n = - (v0 : Int)) (hmin : -9223372036854775808 ≤ n) (hmax : n ≤ 9223372036854775807) :
    Calls Try.prog 95 #[.int .i64 n] w fun e w' => e = .returned (.string ⟨(numTo neg v0).toArray⟩) ∧ Upd No w w' := by
  cases neg
  · obtain rfl := hn1 rfl
    have hnn : ¬ ((v0 : Int) < 0) := by omega
    have hw64 : IntKind.u64.wrap (v0 : Int) = (v0 : Int) := by rw [IntKind.wrap_u64]; omega
    have HH := Lib.hid (show numTo false v0 = decL v0 from rfl)
    have Hv := Lib.hid hv
    clear hn1 hn2 hv hmin
    go_enter Try.func95, Try.ntmps95
    go_wp2
    go_loopg [3, 4, 5] 20 (fun gk v s i wr => ∃ (k x : Nat) (l : List UInt8) (sb : ByteArray), k + gk = 20 ∧ i = .int .i64 k ∧ v = .int .u64 (x : Int) ∧ s = .string sb ∧ Hid (sb = ⟨l.toArray⟩) ∧ sb.size ≤ k ∧ Hid (decL v0 = leftD k x ++ l) ∧ Hid (x < 10 ^ (20 - k)) ∧ Hid (x < 18446744073709551616) ∧ Upd No w wr)
    case atStart => exact ⟨0, v0, [], ⟨#[]⟩, by omega, rfl, rfl, rfl, Lib.hid rfl, by decide, Lib.hid (by simp [leftD, decL]), Lib.hid (by have := Hv.out; simp; omega), Lib.hid Hv.out, Upd.refl _ _⟩
    case round =>
      obtain ⟨k, x, l, sb, hgk, rfl, rfl, rfl, hsb, hsz, hd, hx', hx64', hur⟩ := hrel
      have hx := hx'.out
      have hx64 := hx64'.out
      clear hx' hx64'
      by_cases hk : k = 0 ∨ 0 < x
      · have hk20 : k < 20 := by
          rcases Nat.lt_or_ge k 20 with h | h
          · exact h
          · rw [show 20 - k = 0 by omega] at hx
            omega
        by_cases hk0 : k = 0
        · obtain ⟨dg, hdg⟩ : ∃ dg, dg = UInt8.ofNat (48 + x % 10) := ⟨_, rfl⟩
          have hcv : (convert 108 9 (.slice (some ⟨wr.heap.size, 0, none⟩) 1 1)).run Try.prog (wr.alloc (.cells #[.int .u8 (48 + (x : Int) % 10)] 5)) = .ok (.string ⟨#[dg]⟩) (wr.alloc (.cells #[.int .u8 (48 + (x : Int) % 10)] 5)) :=
            conv_str (wr.alloc (.cells #[.int .u8 (48 + (x : Int) % 10)] 5)) wr.heap.size 0 [dg] 1 (fun i v hv => by
              have hb := (Blk.new wr 5 [.int .u8 (48 + (x : Int) % 10)]).cell (0 + i)
              rw [hb]
              cases i with
              | zero => simp only [List.getElem?_cons_zero, Option.some.injEq] at hv; subst hv; rw [hdg, digit_nat]; rfl
              | succ i => simp at hv)
          have hxk : x / 10 < 10 ^ (20 - (k + 1)) := by
            rw [show 20 - k = (20 - (k + 1)) + 1 by omega, Nat.pow_succ] at hx
            omega
          have HS : Hid ((⟨#[dg]⟩ : ByteArray) ++ sb = ⟨(dg :: l).toArray⟩) := Lib.hid (by rw [hsb.out, show (⟨#[dg]⟩ : ByteArray) = ⟨[dg].toArray⟩ from rfl, str_app]; rfl)
          have HD : Hid (decL v0 = leftD (k + 1) (x / 10) ++ (dg :: l)) := Lib.hid (by rw [hd.out, decF_step hk20 hk, hdg, List.append_assoc]; rfl)
          have hdiv : IntKind.u64.wrap ((x : Int) / 10) = ((x / 10 : Nat) : Int) := by
            have hx19 : x < 18446744073709551616 := hx64
            rw [IntKind.wrap_u64]
            omega
          have hx10 : x / 10 < 18446744073709551616 := by omega
          have hone : (⟨#[dg]⟩ : ByteArray).size = 1 := rfl
          have Hxk := Lib.hid hxk
          have Hx64 := Lib.hid hx10
          clear hdg hxk hx hx64 hx10
          have hkb : ((k : Int) == 0) = true := by rw [beq_iff_eq]; omega
          clear hk hk0
          go_wp2
          go_roundg (gk - 1)
          case measure => omega
          case rel => exact ⟨k + 1, x / 10, dg :: l, _, by omega, by go_num, by first | rfl | (rw [hdiv]) | simp, rfl, HS, by rw [ByteArray.size_append, hone]; omega, HD, Hxk, Hx64, hur.alloc _⟩
        · have hx0 : (0 : Int) < (x : Int) := by omega
          obtain ⟨dg, hdg⟩ : ∃ dg, dg = UInt8.ofNat (48 + x % 10) := ⟨_, rfl⟩
          have hcv : (convert 108 9 (.slice (some ⟨wr.heap.size, 0, none⟩) 1 1)).run Try.prog (wr.alloc (.cells #[.int .u8 (48 + (x : Int) % 10)] 5)) = .ok (.string ⟨#[dg]⟩) (wr.alloc (.cells #[.int .u8 (48 + (x : Int) % 10)] 5)) :=
            conv_str (wr.alloc (.cells #[.int .u8 (48 + (x : Int) % 10)] 5)) wr.heap.size 0 [dg] 1 (fun i v hv => by
              have hb := (Blk.new wr 5 [.int .u8 (48 + (x : Int) % 10)]).cell (0 + i)
              rw [hb]
              cases i with
              | zero => simp only [List.getElem?_cons_zero, Option.some.injEq] at hv; subst hv; rw [hdg, digit_nat]; rfl
              | succ i => simp at hv)
          have hxk : x / 10 < 10 ^ (20 - (k + 1)) := by
            rw [show 20 - k = (20 - (k + 1)) + 1 by omega, Nat.pow_succ] at hx
            omega
          have HS : Hid ((⟨#[dg]⟩ : ByteArray) ++ sb = ⟨(dg :: l).toArray⟩) := Lib.hid (by rw [hsb.out, show (⟨#[dg]⟩ : ByteArray) = ⟨[dg].toArray⟩ from rfl, str_app]; rfl)
          have HD : Hid (decL v0 = leftD (k + 1) (x / 10) ++ (dg :: l)) := Lib.hid (by rw [hd.out, decF_step hk20 hk, hdg, List.append_assoc]; rfl)
          have hdiv : IntKind.u64.wrap ((x : Int) / 10) = ((x / 10 : Nat) : Int) := by
            have hx19 : x < 18446744073709551616 := hx64
            rw [IntKind.wrap_u64]
            omega
          have hx10 : x / 10 < 18446744073709551616 := by omega
          have hone : (⟨#[dg]⟩ : ByteArray).size = 1 := rfl
          have Hxk := Lib.hid hxk
          have Hx64 := Lib.hid hx10
          clear hdg hxk hx hx64 hx10
          have hkb : ((k : Int) == 0) = false := by rw [beq_eq_false_iff_ne]; omega
          clear hk hk0
          go_wp2
          go_roundg (gk - 1)
          case measure => omega
          case rel => exact ⟨k + 1, x / 10, dg :: l, _, by omega, by go_num, by first | rfl | (rw [hdiv]) | simp, rfl, HS, by rw [ByteArray.size_append, hone]; omega, HD, Hxk, Hx64, hur.alloc _⟩
      · have hkb : ((k : Int) == 0) = false := by rw [beq_eq_false_iff_ne]; omega
        have hx0 : ¬ (0 : Int) < (x : Int) := by omega
        have hx1 : x = 0 := by omega
        have HF := Lib.hid (show sb = ⟨(numTo false v0).toArray⟩ by
          rw [HH.out, hd.out, hsb.out]
          unfold leftD
          rw [if_neg hk]
          rfl)
        clear hx hx64 hk hx1
        go_wp2
        go_ret
        exact ⟨by rw [← HF.out]; rfl, hur⟩
  · obtain ⟨hneg, hnv⟩ := hn2 rfl
    have hwn : IntKind.u64.wrap n = 18446744073709551616 - (v0 : Int) := by rw [IntKind.wrap_u64]; omega
    have hwz : IntKind.u64.wrap (-(18446744073709551616 - (v0 : Int))) = (v0 : Int) := by rw [IntKind.wrap_u64]; omega
    have HH := Lib.hid (show numTo true v0 = 45 :: decL v0 from rfl)
    have Hv := Lib.hid hv
    clear hn1 hn2 hv hmin hnv
    go_enter Try.func95, Try.ntmps95
    go_wp2
    go_loopg [3, 4, 5] 20 (fun gk v s i wr => ∃ (k x : Nat) (l : List UInt8) (sb : ByteArray), k + gk = 20 ∧ i = .int .i64 k ∧ v = .int .u64 (x : Int) ∧ s = .string sb ∧ Hid (sb = ⟨l.toArray⟩) ∧ sb.size ≤ k ∧ Hid (decL v0 = leftD k x ++ l) ∧ Hid (x < 10 ^ (20 - k)) ∧ Hid (x < 18446744073709551616) ∧ Upd No w wr)
    case atStart => exact ⟨0, v0, [], ⟨#[]⟩, by omega, rfl, by first | rfl | (rw [hwz]), rfl, Lib.hid rfl, by decide, Lib.hid (by simp [leftD, decL]), Lib.hid (by have := Hv.out; simp; omega), Lib.hid Hv.out, Upd.refl _ _⟩
    case round =>
      obtain ⟨k, x, l, sb, hgk, rfl, rfl, rfl, hsb, hsz, hd, hx', hx64', hur⟩ := hrel
      have hx := hx'.out
      have hx64 := hx64'.out
      clear hx' hx64'
      by_cases hk : k = 0 ∨ 0 < x
      · have hk20 : k < 20 := by
          rcases Nat.lt_or_ge k 20 with h | h
          · exact h
          · rw [show 20 - k = 0 by omega] at hx
            omega
        by_cases hk0 : k = 0
        · obtain ⟨dg, hdg⟩ : ∃ dg, dg = UInt8.ofNat (48 + x % 10) := ⟨_, rfl⟩
          have hcv : (convert 108 9 (.slice (some ⟨wr.heap.size, 0, none⟩) 1 1)).run Try.prog (wr.alloc (.cells #[.int .u8 (48 + (x : Int) % 10)] 5)) = .ok (.string ⟨#[dg]⟩) (wr.alloc (.cells #[.int .u8 (48 + (x : Int) % 10)] 5)) :=
            conv_str (wr.alloc (.cells #[.int .u8 (48 + (x : Int) % 10)] 5)) wr.heap.size 0 [dg] 1 (fun i v hv => by
              have hb := (Blk.new wr 5 [.int .u8 (48 + (x : Int) % 10)]).cell (0 + i)
              rw [hb]
              cases i with
              | zero => simp only [List.getElem?_cons_zero, Option.some.injEq] at hv; subst hv; rw [hdg, digit_nat]; rfl
              | succ i => simp at hv)
          have hxk : x / 10 < 10 ^ (20 - (k + 1)) := by
            rw [show 20 - k = (20 - (k + 1)) + 1 by omega, Nat.pow_succ] at hx
            omega
          have HS : Hid ((⟨#[dg]⟩ : ByteArray) ++ sb = ⟨(dg :: l).toArray⟩) := Lib.hid (by rw [hsb.out, show (⟨#[dg]⟩ : ByteArray) = ⟨[dg].toArray⟩ from rfl, str_app]; rfl)
          have HD : Hid (decL v0 = leftD (k + 1) (x / 10) ++ (dg :: l)) := Lib.hid (by rw [hd.out, decF_step hk20 hk, hdg, List.append_assoc]; rfl)
          have hdiv : IntKind.u64.wrap ((x : Int) / 10) = ((x / 10 : Nat) : Int) := by
            have hx19 : x < 18446744073709551616 := hx64
            rw [IntKind.wrap_u64]
            omega
          have hx10 : x / 10 < 18446744073709551616 := by omega
          have hone : (⟨#[dg]⟩ : ByteArray).size = 1 := rfl
          have Hxk := Lib.hid hxk
          have Hx64 := Lib.hid hx10
          clear hdg hxk hx hx64 hx10
          have hkb : ((k : Int) == 0) = true := by rw [beq_iff_eq]; omega
          clear hk hk0
          go_wp2
          go_roundg (gk - 1)
          case measure => omega
          case rel => exact ⟨k + 1, x / 10, dg :: l, _, by omega, by go_num, by first | rfl | (rw [hdiv]) | simp, rfl, HS, by rw [ByteArray.size_append, hone]; omega, HD, Hxk, Hx64, hur.alloc _⟩
        · have hx0 : (0 : Int) < (x : Int) := by omega
          obtain ⟨dg, hdg⟩ : ∃ dg, dg = UInt8.ofNat (48 + x % 10) := ⟨_, rfl⟩
          have hcv : (convert 108 9 (.slice (some ⟨wr.heap.size, 0, none⟩) 1 1)).run Try.prog (wr.alloc (.cells #[.int .u8 (48 + (x : Int) % 10)] 5)) = .ok (.string ⟨#[dg]⟩) (wr.alloc (.cells #[.int .u8 (48 + (x : Int) % 10)] 5)) :=
            conv_str (wr.alloc (.cells #[.int .u8 (48 + (x : Int) % 10)] 5)) wr.heap.size 0 [dg] 1 (fun i v hv => by
              have hb := (Blk.new wr 5 [.int .u8 (48 + (x : Int) % 10)]).cell (0 + i)
              rw [hb]
              cases i with
              | zero => simp only [List.getElem?_cons_zero, Option.some.injEq] at hv; subst hv; rw [hdg, digit_nat]; rfl
              | succ i => simp at hv)
          have hxk : x / 10 < 10 ^ (20 - (k + 1)) := by
            rw [show 20 - k = (20 - (k + 1)) + 1 by omega, Nat.pow_succ] at hx
            omega
          have HS : Hid ((⟨#[dg]⟩ : ByteArray) ++ sb = ⟨(dg :: l).toArray⟩) := Lib.hid (by rw [hsb.out, show (⟨#[dg]⟩ : ByteArray) = ⟨[dg].toArray⟩ from rfl, str_app]; rfl)
          have HD : Hid (decL v0 = leftD (k + 1) (x / 10) ++ (dg :: l)) := Lib.hid (by rw [hd.out, decF_step hk20 hk, hdg, List.append_assoc]; rfl)
          have hdiv : IntKind.u64.wrap ((x : Int) / 10) = ((x / 10 : Nat) : Int) := by
            have hx19 : x < 18446744073709551616 := hx64
            rw [IntKind.wrap_u64]
            omega
          have hx10 : x / 10 < 18446744073709551616 := by omega
          have hone : (⟨#[dg]⟩ : ByteArray).size = 1 := rfl
          have Hxk := Lib.hid hxk
          have Hx64 := Lib.hid hx10
          clear hdg hxk hx hx64 hx10
          have hkb : ((k : Int) == 0) = false := by rw [beq_eq_false_iff_ne]; omega
          clear hk hk0
          go_wp2
          go_roundg (gk - 1)
          case measure => omega
          case rel => exact ⟨k + 1, x / 10, dg :: l, _, by omega, by go_num, by first | rfl | (rw [hdiv]) | simp, rfl, HS, by rw [ByteArray.size_append, hone]; omega, HD, Hxk, Hx64, hur.alloc _⟩
      · have hkb : ((k : Int) == 0) = false := by rw [beq_eq_false_iff_ne]; omega
        have hx0 : ¬ (0 : Int) < (x : Int) := by omega
        have hx1 : x = 0 := by omega
        have hmz : (⟨#[45]⟩ : ByteArray).size = 1 := rfl
        have HF := Lib.hid (show (⟨#[45]⟩ : ByteArray) ++ sb = ⟨(numTo true v0).toArray⟩ by
          rw [HH.out, hd.out, hsb.out, show (⟨#[45]⟩ : ByteArray) = ⟨[45].toArray⟩ from rfl, str_app]
          unfold leftD
          rw [if_neg hk]
          rfl)
        clear hx hx64 hk hx1
        go_wp2
        go_ret
        exact ⟨by rw [← HF.out]; rfl, hur⟩
end Go.Proofs.Ytgakhpdclhlmpaa
