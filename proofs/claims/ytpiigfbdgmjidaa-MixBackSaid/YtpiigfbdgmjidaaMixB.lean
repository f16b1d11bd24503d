/- Walks of the layers' mix: what is mixed, and unmixed. -/
import Derived.Test.YtpiigfbdgmjidaaProg
import Derived.Test.YtpiigfbdgmjidaaBase
import Derived.Test.YtpiigfbdgmjidaaMixA
namespace Go.Proofs.Ytpiigfbdgmjidaa
open Go.RowKit
theorem STint : SlT Try.prog 23 3 1 8 := SlT.mk_ Try.underlying23 (z := .int .i64 0) (by kernel_rfl) rfl (by omega)
attribute [local go_sem] Bv.xor_ Bv.shr32 Bv.shr29 Bv.shr1 Bv.mulA Bv.mulB Bv.mulv Bv.sub2 Bv.quo2
theorem mix_any (x : BitVec 64) (w : World) :
    Calls Try.prog 11 #[U x] w fun e w' => e = .returned (U (Bv.mix x)) ∧ w = w' := by
  go_enter Try.func11, Try.ntmps11
  go_wp2
  go_ret
  exact ⟨rfl, rfl⟩
theorem fold_any (x : BitVec 64) (n : Nat) (m : Int) (hm : m = n) (hn : n < 64) (w : World) :
    Calls Try.prog 52 #[U x, .int .u64 m] w fun e w' => e = .returned (U (x ^^^ x >>> n)) ∧ w = w' := by
  subst hm
  go_enter Try.func52, Try.ntmps52
  go_wp2
  go_loopg [5, 6] n (fun g y i wr => ∃ k : Nat, k + g = n ∧ y = U (x >>> k) ∧ i = .int .u64 k ∧ w = wr)
  case atStart => exact ⟨0, by omega, by simp, rfl, rfl⟩
  case round =>
    obtain ⟨k, hk, rfl, rfl, rfl⟩ := hrel
    by_cases hlt : k < n
    · go_wp2
      go_roundg (gk - 1)
      case measure => omega
      case rel => exact ⟨k + 1, by omega, by rw [BitVec.shiftRight_add], by go_num, rfl⟩
    · obtain rfl : k = n := by omega
      go_wp2
      go_ret
      exact ⟨rfl, rfl⟩
theorem refmix_any (x : BitVec 64) (w : World) :
    Calls Try.prog 12 #[U x] w fun e w' => e = .returned (U (Bv.mix x)) ∧ w = w' := by
  go_enter Try.func12, Try.ntmps12
  go_wp2_with fail
  refine (fold_any _ 32 32 rfl (by omega) _).mono ?_
  rintro e w' ⟨rfl, rfl⟩
  go_wp2_with fail
  refine (fold_any _ 29 29 rfl (by omega) _).mono ?_
  rintro e w' ⟨rfl, rfl⟩
  go_wp2_with fail
  refine (fold_any _ 32 32 rfl (by omega) _).mono ?_
  rintro e w' ⟨rfl, rfl⟩
  go_wp2_with fail
  go_ret
  exact ⟨rfl, rfl⟩
theorem unfold32 (y : BitVec 64) (w : World) :
    Calls Try.prog 53 #[U y, .int .u64 32] w fun e w' => e = .returned (U (y ^^^ y >>> 32)) ∧ w = w' := by
  go_enter Try.func53, Try.ntmps53
  go_wp2
  go_rounds 2
  go_ret
  exact ⟨rfl, rfl⟩
theorem unfold29 (y : BitVec 64) (w : World) :
    Calls Try.prog 53 #[U y, .int .u64 29] w fun e w' => e = .returned (U (y ^^^ (y ^^^ y >>> 29) >>> 29)) ∧ w = w' := by
  go_enter Try.func53, Try.ntmps53
  go_wp2
  go_rounds 3
  go_ret
  exact ⟨rfl, rfl⟩
theorem inverse_any (a : BitVec 64) (w : World) :
    Calls Try.prog 54 #[U a] w fun e w' => e = .returned (U (Bv.inv a)) ∧ w = w' := by
  go_enter Try.func54, Try.ntmps54
  go_wp2
  go_rounds 6
  go_ret
  exact ⟨rfl, rfl⟩
theorem unmix_any (x : BitVec 64) (w : World) :
    Calls Try.prog 13 #[U x] w fun e w' => e = .returned (U (Bv.unmix x)) ∧ w = w' := by
  go_enter Try.func13, Try.ntmps13
  go_wp2_with fail
  refine (unfold32 _ _).mono ?_
  rintro e w' ⟨rfl, rfl⟩
  go_wp2_with fail
  refine (inverse_any 11562461410679940143#64 _).mono ?_
  rintro e w' ⟨rfl, rfl⟩
  go_wp2_with fail
  refine (unfold29 _ _).mono ?_
  rintro e w' ⟨rfl, rfl⟩
  go_wp2_with fail
  refine (inverse_any 15485907386658061715#64 _).mono ?_
  rintro e w' ⟨rfl, rfl⟩
  go_wp2_with fail
  refine (unfold32 _ _).mono ?_
  rintro e w' ⟨rfl, rfl⟩
  go_wp2_with fail
  go_ret
  exact ⟨rfl, rfl⟩
end Go.Proofs.Ytpiigfbdgmjidaa
