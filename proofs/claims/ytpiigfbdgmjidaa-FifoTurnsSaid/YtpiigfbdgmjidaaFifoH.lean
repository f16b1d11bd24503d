/- The law that what goes in comes out in turn, walked. -/
import Derived.Test.YtpiigfbdgmjidaaFifoG
namespace Go.Proofs.Ytpiigfbdgmjidaa
open Go.RowKit

theorem within_id {n : Int} (h0 : 0 ≤ n) (h1 : n ≤ 65536) : within n = n := by unfold within; omega

set_option maxRecDepth 100000 in
set_option maxHeartbeats 2000000 in
theorem turns_any (F : Nat → Prop) (w : World) (A : Option Addr) (n c : Nat) (xs : List Int) (m : Int) (hx : Ints F w A xs) (hn : n = xs.length) (hn2 : n ≤ 9223372036854775807) :
    Calls Try.prog 9 #[.slice A n c, .int .i64 m] w fun e w' => e = .returned (.bool true) ∧ Upd No w w' := by
  have hx0 := hx.lt
  clear hx
  subst hn
  go_enter Try.func9, Try.ntmps9
  go_wp2_with fail
  refine (lives08 _).mono ?_
  rintro e w0 ⟨rfl, hu0⟩
  by_cases h1 : 100 < (xs.length : Int)
  · go_wp2
    go_ret
    exact ⟨rfl, hu0⟩
  by_cases h2 : m < 0
  · go_wp2
    go_ret
    exact ⟨rfl, hu0⟩
  by_cases h3 : 200 < m
  · go_wp2
    go_ret
    exact ⟨rfl, hu0⟩
  obtain ⟨m, rfl⟩ := Int.eq_ofNat_of_zero_le (show 0 ≤ m by omega)
  have hx1 := hx0.upd hu0 (fun _ _ => id)
  clear hx0
  go_wp2_with fail
  refine (qnew _ _).mono ?_
  rintro e w1 ⟨gq, rfl, hgq, hq1, hu1⟩
  go_wp2_with fail
  refine (snew _ _).mono ?_
  rintro e w2 ⟨gs, rfl, hgs, hs2, hu2⟩
  rw [within_id (by omega) (by omega)] at hq1 hs2
  have t0 := Two.make hq1 hs2 hgq hgs hu1 hu2
  clear hq1 hs2 hu1 hu2 hgq hgs
  go_wp2
  go_loopg [7] m (fun gk i wr => ∃ (k : Nat) (Fq Fs : Nat → Prop), k + gk = m ∧ i = .int .i64 k ∧ Two w0 wr Fq Fs gq gs ((xs.length : Int) + 1) xs.length [] [])
  case atStart => exact ⟨0, _, _, by omega, rfl, t0⟩
  case round =>
    obtain ⟨k, Fq, Fs, hgk, rfl, t⟩ := hrel
    clear t0
    by_cases hk : k < m
    · go_wp2_with fail
      refine (qpush _ _ _ _ [] k t.q (by omega) (by omega) (by simp <;> omega)).mono ?_
      rintro e w3 ⟨rfl, F3, hF, hq, hu⟩
      have t1 := t.putq hq hu hF
      clear hq hu hF t
      go_wp2_with fail
      refine (qpop _ _ _ _ k [] t1.q).mono ?_
      rintro e w4 ⟨rfl, hq, hu⟩
      have t2 := t1.putq hq hu (fun i hi => .inl hi)
      clear hq hu t1
      go_wp2
      go_roundg (gk - 1)
      case measure => omega
      case rel => exact ⟨k + 1, _, _, by omega, by go_num, t2⟩
    · obtain rfl : k = m := by omega
      go_wp2
      go_loopg [9, 53] xs.length (fun gk j i wr2 => ∃ (k : Nat) (Fq Fs : Nat → Prop), k + gk = xs.length ∧ i = .int .i64 k ∧ Two w0 wr2 Fq Fs gq gs ((xs.length : Int) + 1) xs.length (xs.take k) (xs.take k).reverse)
      case atStart => exact ⟨0, _, _, by omega, rfl, by simpa using t⟩
      case round =>
        obtain ⟨k, Fq, Fs, hgk, rfl, t⟩ := hrel
        by_cases hk : k < xs.length
        · have hx2 := hx1.upd t.upd (fun _ _ => id)
          obtain ⟨ad, ea, _, hl, hc⟩ := hx2.at_ hk
          cases ea
          have hlk : (xs.take k).length = k := by rw [List.length_take]; omega
          have hlk2 : (xs.take k).reverse.length = k := by rw [List.length_reverse]; exact hlk
          have e1 : xs.take k ++ [xs[k]] = xs.take (k + 1) := (List.take_succ_eq_append_getElem hk).symm
          have e2 : xs[k] :: (xs.take k).reverse = (xs.take (k + 1)).reverse := by rw [← e1, List.reverse_append]; rfl
          have E1 := Lib.hid e1
          have E2 := Lib.hid e2
          have L1 := Lib.hid hlk
          have L2 := Lib.hid hlk2
          clear e1 e2 hlk hlk2 hx2 hx1
          go_wp2_with fail
          refine (qpush _ _ _ _ (xs.take k) xs[k] t.q (by omega) (by omega) (by rw [L1.out]; omega)).mono ?_
          rintro e w3 ⟨rfl, F3, hF, hq, hu⟩
          rw [E1.out] at hq
          have t1 := t.putq hq hu hF
          clear hq hu hF t
          go_wp2_with fail
          refine (spush _ _ _ _ (xs.take k).reverse xs[k] t1.s (by omega) (by omega) (by rw [L2.out]; omega)).mono ?_
          rintro e w4 ⟨rfl, F4, hF, hs, hu⟩
          rw [E2.out] at hs
          have t2 := t1.puts hs hu hF
          clear hs hu hF t1
          go_wp2
          go_roundg (gk - 1)
          case measure => omega
          case rel => exact ⟨k + 1, _, _, by omega, by go_num, t2⟩
        · obtain rfl : k = xs.length := by omega
          have t3 : Two w0 wr Fq Fs gq gs ((xs.length : Int) + 1) xs.length xs xs.reverse := by simpa using t
          clear t
          go_wp2
          go_loopg [10, 70] xs.length (fun gk j i wr3 => ∃ (k : Nat) (Fq Fs : Nat → Prop), k + gk = xs.length ∧ i = .int .i64 k ∧ Two w0 wr3 Fq Fs gq gs ((xs.length : Int) + 1) xs.length (xs.drop k) (xs.reverse.drop k))
          case atStart => exact ⟨0, _, _, by omega, rfl, by simpa using t3⟩
          case round =>
            obtain ⟨k, Fq, Fs, hgk, rfl, t⟩ := hrel
            clear t3
            by_cases hk : k < xs.length
            · have hj : xs.length - 1 - k < xs.length := by omega
              have ex := List.drop_eq_getElem_cons hk
              have er := List.drop_eq_getElem_cons (l := xs.reverse) (i := k) (by simpa using hk)
              rw [List.getElem_reverse] at er
              rw [ex, er] at t
              have hlr : (xs.reverse.drop (k + 1)).length ≤ 65536 := by rw [List.length_drop, List.length_reverse]; omega
              clear ex er
              go_wp2_with fail
              refine (qpop _ _ _ _ _ _ t.q).mono ?_
              rintro e w4 ⟨rfl, hq, hu⟩
              have t5 := t.putq hq hu (fun i hi => .inl hi)
              clear hq hu t
              go_wp2_with fail
              refine (spop _ _ _ _ _ _ t5.s hlr).mono ?_
              rintro e w5 ⟨rfl, hs, hu⟩
              have t6 := t5.puts hs hu (fun i hi => .inl hi)
              clear hs hu t5
              have hx3 := hx1.upd t6.upd (fun _ _ => id)
              obtain ⟨ad, ea, _, hl, hc⟩ := hx3.at_ hk
              obtain ⟨ad', ea', _, hl', hc'⟩ := hx3.at_ hj
              cases ea
              cases ea'
              clear hx3 hx1
              have hkI : (k : Int) < (xs.length : Int) := by omega
              go_wp2
              go_roundg (gk - 1)
              case measure => omega
              case rel => exact ⟨k + 1, _, _, by omega, by go_num, t6⟩
            · obtain rfl : k = xs.length := by omega
              have ed : xs.reverse.drop xs.length = [] := List.drop_of_length_le (by simp)
              rw [ed, List.drop_length] at t
              have t4 := t
              clear ed
              clear t
              go_wp2_with fail
              refine (qlen _ _ _ _ [] t4.q).mono ?_
              rintro e w' ⟨rfl, rfl⟩
              go_wp2_with fail
              refine (slen _ _ _ _ [] t4.s).mono ?_
              rintro e w' ⟨rfl, rfl⟩
              go_wp2
              go_ret
              exact ⟨rfl, hu0.trans t4.upd⟩
end Go.Proofs.Ytpiigfbdgmjidaa
