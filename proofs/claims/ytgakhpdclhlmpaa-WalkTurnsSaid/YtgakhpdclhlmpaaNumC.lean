/- A number's text: the program's, and the document's; a kind's word. -/
import Derived.Test.YtgakhpdclhlmpaaNumB
namespace Go.Proofs.Ytgakhpdclhlmpaa
set_option linter.unusedVariables false
open Go.RowKit
/-- a number's text -/
def numL (n : Int) : List UInt8 := numTo (decide (n < 0)) n.natAbs
theorem decF_len (f u : Nat) : (decF f u).length ≤ f := by
  induction f generalizing u with
  | zero => simp [decF]
  | succ f ih =>
    unfold decF
    have := ih (u / 10)
    split <;> simp <;> omega
theorem decL_len (u : Nat) : (decL u).length ≤ 20 := decF_len 20 u
theorem numL_len (n : Int) : (numL n).length ≤ 21 := by
  unfold numL numTo
  have := decL_len n.natAbs
  split <;> simp <;> omega
set_option maxRecDepth 100000 in
theorem rnum (w : World) (n : Int) (h1 : -9223372036854775808 ≤ n) (h2 : n ≤ 9223372036854775807) :
    Calls Try.prog 95 #[.int .i64 n] w fun e w' => e = .returned (.string ⟨(numL n).toArray⟩) ∧ Upd No w w' :=
  rnum_body w n n.natAbs (decide (n < 0)) (by omega) (fun h => by have := of_decide_eq_false h; omega) (fun h => by have := of_decide_eq_true h; omega) h1 h2
set_option maxRecDepth 100000 in
set_option maxHeartbeats 1000000 in
theorem pnum (w : World) (n : Int) (h1 : -9223372036854775808 ≤ n) (h2 : n ≤ 9223372036854775807) :
    Calls Try.prog 92 #[.int .i64 n] w fun e w' => e = .returned (.string ⟨(numL n).toArray⟩) ∧ Upd No w w' := by
  obtain ⟨v0, hv0⟩ : ∃ v0, v0 = n.natAbs := ⟨_, rfl⟩
  have hv : v0 < 18446744073709551616 := by omega
  by_cases hn : n < 0
  · have HF := Lib.hid (show numL n = 45 :: decL v0 by unfold numL; rw [decide_eq_true hn, hv0]; rfl)
    have hwn : IntKind.u64.wrap n = 18446744073709551616 - (v0 : Int) := by rw [IntKind.wrap_u64]; omega
    have hwz : IntKind.u64.wrap (-(18446744073709551616 - (v0 : Int))) = (v0 : Int) := by rw [IntKind.wrap_u64]; omega
    have hwz2 : IntKind.u64.wrap (0 - (18446744073709551616 - (v0 : Int))) = (v0 : Int) := by rw [IntKind.wrap_u64]; omega
    have Hv := Lib.hid hv
    clear hv hv0
    go_enter Try.func92, Try.ntmps92
    go_wp2_with fail
    refine (digits_body w v0 Hv.out).mono ?_
    rintro e w2 ⟨rfl, hu⟩
    have hmz : (⟨#[45]⟩ : ByteArray).size = 1 := rfl
    have hl : (decL v0).length ≤ 20 := decL_len v0
    have hls : (⟨(decL v0).toArray⟩ : ByteArray).size ≤ 20 := by simpa [ByteArray.size] using hl
    go_wp2
    go_ret
    exact ⟨by rw [HF.out, show (⟨#[45]⟩ : ByteArray) = ⟨[45].toArray⟩ from rfl, str_app]; rfl, hu⟩
  · have HF := Lib.hid (show numL n = decL v0 by unfold numL; rw [decide_eq_false hn, hv0]; rfl)
    have hnv : n = (v0 : Int) := by omega
    have hwn : IntKind.u64.wrap n = (v0 : Int) := by rw [IntKind.wrap_u64]; omega
    have Hv := Lib.hid hv
    clear hv hv0 hnv
    go_enter Try.func92, Try.ntmps92
    go_wp2_with fail
    refine (digits_body w v0 Hv.out).mono ?_
    rintro e w2 ⟨rfl, hu⟩
    go_wp2
    go_ret
    exact ⟨by rw [HF.out]; rfl, hu⟩
/-- a kind's word -/
def wordL (k : Int) : List UInt8 := if k = 1 then [119, 119] else if k = 2 then [119, 114] else if k = 3 then [114, 119] else [120]
set_option maxRecDepth 100000 in
theorem rword (w : World) (k : Int) :
    Calls Try.prog 96 #[.int .i64 k] w fun e w' => e = .returned (.string ⟨(wordL k).toArray⟩) ∧ Upd No w w' := by
  by_cases h1 : k = 1
  · subst h1
    go_enter Try.func96, Try.ntmps96
    go_wp2
    go_ret
    exact ⟨rfl, Upd.refl _ _⟩
  · by_cases h2 : k = 2
    · subst h2
      go_enter Try.func96, Try.ntmps96
      go_wp2
      go_ret
      exact ⟨rfl, Upd.refl _ _⟩
    · by_cases h3 : k = 3
      · subst h3
        go_enter Try.func96, Try.ntmps96
        go_wp2
        go_ret
        exact ⟨rfl, Upd.refl _ _⟩
      · have H := Lib.hid (show wordL k = [120] by unfold wordL; rw [if_neg h1, if_neg h2, if_neg h3])
        go_enter Try.func96, Try.ntmps96
        go_wp2
        go_ret
        exact ⟨by rw [H.out]; rfl, Upd.refl _ _⟩
set_option maxRecDepth 100000 in
theorem pword (w : World) (k : Int) :
    Calls Try.prog 93 #[.int .i64 k] w fun e w' => e = .returned (.string ⟨(wordL k).toArray⟩) ∧ Upd No w w' := by
  by_cases h1 : k = 1
  · subst h1
    go_enter Try.func93, Try.ntmps93
    go_wp2
    go_ret
    exact ⟨rfl, Upd.refl _ _⟩
  · by_cases h2 : k = 2
    · subst h2
      go_enter Try.func93, Try.ntmps93
      go_wp2
      go_ret
      exact ⟨rfl, Upd.refl _ _⟩
    · by_cases h3 : k = 3
      · subst h3
        go_enter Try.func93, Try.ntmps93
        go_wp2
        go_ret
        exact ⟨rfl, Upd.refl _ _⟩
      · have H := Lib.hid (show wordL k = [120] by unfold wordL; rw [if_neg h1, if_neg h2, if_neg h3])
        go_enter Try.func93, Try.ntmps93
        go_wp2
        go_ret
        exact ⟨by rw [H.out]; rfl, Upd.refl _ _⟩
end Go.Proofs.Ytgakhpdclhlmpaa
