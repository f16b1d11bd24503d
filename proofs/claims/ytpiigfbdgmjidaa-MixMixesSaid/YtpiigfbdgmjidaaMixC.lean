/- Walks of the layers' mix: sums, by and by. -/
import Derived.Test.YtpiigfbdgmjidaaMixB
namespace Go.Proofs.Ytpiigfbdgmjidaa
open Go.RowKit

theorem conv_u (n : Int) : IntKind.u64.wrap n = u (BitVec.ofInt 64 n) := Bv.ofi n
attribute [local go_sem] Bv.xor_ conv_u

theorem sumnew (w : World) : Calls Try.prog 18 #[] w fun e w' => ∃ g, e = .returned (.pointer (some ⟨g, 0, none⟩)) ∧ w.heap.size ≤ g ∧ Blk w' g 84 [U 0#64, .int .i64 0] ∧ Upd No w w' := by
  go_enter Try.func18, Try.ntmps18
  go_wp2
  go_ret
  exact ⟨_, rfl, Nat.le_refl _, Blk.new w 84 _, (Upd.refl _ _).alloc _⟩

theorem sumadd_nil (w : World) (v : Value) : Calls Try.prog 19 #[.pointer none, v] w fun e w' => e = .returned (.tuple #[]) ∧ w = w' := by
  go_enter Try.func19, Try.ntmps19
  go_wp2
  refine bodyPost_ret (results_none rfl _ _ _) rfl ?_
  exact ⟨rfl, rfl⟩

theorem sumadd (F : Nat → Prop) (w : World) (g : Nat) (h : BitVec 64) (k0 : Int) (A : Option Addr) (n c : Nat) (xs : List Int)
    (hb : Blk w g 84 [U h, .int .i64 k0]) (hx : Ints F w A xs) (hn : n = xs.length) (hg : ¬ F g) (hk : 0 ≤ k0) (hk2 : k0 + n ≤ 9223372036854775807) (hkn : n ≤ 9223372036854775807) :
    Calls Try.prog 19 #[.pointer (some ⟨g, 0, none⟩), .slice A n c] w fun e w' => e = .returned (.tuple #[]) ∧ Blk w' g 84 [U (Bv.ints h xs), .int .i64 (k0 + n)] ∧ Upd (One g) w w' := by
  subst hn
  go_enter Try.func19, Try.ntmps19
  go_wp2
  go_loopg [5, 10] xs.length (fun gk x i wr => ∃ k : Nat, k + gk = xs.length ∧ i = .int .i64 k ∧ Blk wr g 84 [U (Bv.ints h (xs.take k)), .int .i64 k0] ∧ Upd (One g) w wr)
  case atStart => exact ⟨0, by omega, rfl, hb, Upd.refl _ _⟩
  case round =>
    obtain ⟨k, hgk, rfl, hbr, hur⟩ := hrel
    have c0 := hbr.cell 0
    have c1 := hbr.cell 1
    have f0 := hbr.free 0
    have f1 := hbr.free 1
    simp only [List.getElem?_cons_zero, List.getElem?_cons_succ] at c0 c1
    by_cases hlt : k < xs.length
    · obtain ⟨ad, rfl, _, hl, hc⟩ := (hx.upd hur (fun i hi e => hg (by rw [← show i = g from e]; exact hi))).at_ hlt
      have Hn := Lib.hid (Bv.ints_take h xs k hlt)
      clear hb hx
      have Hb := Lib.hid hbr
      have Hu := Lib.hid hur
      clear hbr hur
      go_wp2_with fail
      refine (mix_any _ _).mono ?_
      rintro e w' ⟨rfl, rfl⟩
      go_wp2
      go_roundg (gk - 1)
      case measure => omega
      case rel => exact ⟨k + 1, by omega, by go_num, by rw [Hn.out]; exact Hb.out.set_ 0 _, Hu.out.setOne _ _⟩
    · obtain rfl : k = xs.length := by omega
      go_wp2
      refine bodyPost_end (results_none rfl _ _ _) rfl ?_
      exact ⟨rfl, by simpa using hbr.set_ 1 _, hur.setOne _ _⟩

theorem sumlen (w : World) (g : Nat) (h : Value) (k : Int) (hb : Blk w g 84 [h, .int .i64 k]) :
    Calls Try.prog 21 #[.pointer (some ⟨g, 0, none⟩)] w fun e w' => e = .returned (.int .i64 k) ∧ w = w' := by
  have c1 := hb.cell 1
  simp only [List.getElem?_cons_zero, List.getElem?_cons_succ] at c1
  go_enter Try.func21, Try.ntmps21
  go_wp2
  go_ret
  exact ⟨rfl, rfl⟩
theorem sumlen_nil (w : World) :
    Calls Try.prog 21 #[.pointer none] w fun e w' => e = .returned (.int .i64 0) ∧ w = w' := by
  go_enter Try.func21, Try.ntmps21
  go_wp2
  go_ret
  exact ⟨rfl, rfl⟩
attribute [local go_sem] Bv.addv
theorem sumvalue (w : World) (g : Nat) (h : BitVec 64) (k : Int) (hb : Blk w g 84 [U h, .int .i64 k]) :
    Calls Try.prog 20 #[.pointer (some ⟨g, 0, none⟩)] w fun e w' => e = .returned (U (Bv.fin h k)) ∧ ∃ n, w' = w.drewN n := by
  have c0 := hb.cell 0
  have c1 := hb.cell 1
  simp only [List.getElem?_cons_zero, List.getElem?_cons_succ] at c0 c1
  go_enter Try.func20, Try.ntmps20
  go_wp2
  go_quiet ((go_at_call 11; exact Calls.quiet_of_same ((mix_any _ _).mono fun e w' h => ⟨h.1, h.2.symm⟩)))
  go_wp2
  go_ret
  exact ⟨rfl, _, rfl⟩
theorem sumvalue_nil (w : World) :
    Calls Try.prog 20 #[.pointer none] w fun e w' => e = .returned (U (Bv.mix 0#64)) ∧ w = w' := by
  go_enter Try.func20, Try.ntmps20
  go_wp2_with fail
  refine (mix_any 0#64 _).mono ?_
  rintro e w' ⟨rfl, rfl⟩
  go_wp2
  go_ret
  exact ⟨rfl, rfl⟩
end Go.Proofs.Ytpiigfbdgmjidaa
