/- Walks of the layers' mix: many numbers, and texts. -/
import Derived.Test.YtpiigfbdgmjidaaMixC
namespace Go.Proofs.Ytpiigfbdgmjidaa
open Go.RowKit
attribute [local go_sem] Bv.xor_ conv_u Bv.addv

theorem intsum (F : Nat → Prop) (w : World) (A : Option Addr) (n c : Nat) (xs : List Int) (hx : Ints F w A xs) (hn : n = xs.length) (hkn : n ≤ 9223372036854775807) :
    Calls Try.prog 14 #[.slice A n c] w fun e w' => e = .returned (U (Bv.fin (Bv.ints 0#64 xs) n)) ∧ Upd No w w' := by
  have hx' := Lib.hid hx.lt
  clear hx
  have Hn := Lib.hid hn
  clear hn
  go_enter Try.func14, Try.ntmps14
  go_wp2_with fail
  refine (sumnew _).mono ?_
  rintro e w1 ⟨g, rfl, hg, hb, hu⟩
  have Hb := Lib.hid hb
  clear hb
  have Hu := Lib.hid hu
  clear hu
  go_wp2_with fail
  refine (sumadd (fun i => i < w.heap.size) w1 g 0#64 0 A n c xs Hb.out (hx'.out.upd Hu.out (fun _ _ h => h)) Hn.out (by omega) (by omega) (by omega) hkn).mono ?_
  rintro e w2 ⟨rfl, hb2, hu2⟩
  have Hb2 := Lib.hid hb2
  clear hb2
  have Hu2 := Lib.hid hu2
  clear hu2
  go_wp2_with fail
  refine (sumvalue w2 g _ _ Hb2.out).mono ?_
  rintro e w3 ⟨rfl, nq, rfl⟩
  go_wp2
  go_ret
  exact ⟨rfl, (Hu.out.trans_ Hu2.out (fun i hi e => by have : i = g := e; omega)).drewN nq⟩

theorem refints (F : Nat → Prop) (w : World) (A : Option Addr) (n c : Nat) (xs : List Int) (hx : Ints F w A xs) (hn : n = xs.length) (hkn : n ≤ 9223372036854775807) :
    Calls Try.prog 15 #[.slice A n c] w fun e w' => e = .returned (U (Bv.fin (Bv.ints 0#64 xs) n)) ∧ w = w' := by
  subst hn
  go_enter Try.func15, Try.ntmps15
  go_wp2
  go_loopg [3, 5, 8] xs.length (fun gk h x i wr => ∃ k : Nat, k + gk = xs.length ∧ i = .int .i64 k ∧ h = U (Bv.ints 0#64 (xs.take k)) ∧ w = wr)
  case atStart => exact ⟨0, by omega, rfl, rfl, rfl⟩
  case round =>
    obtain ⟨k, hgk, rfl, rfl, rfl⟩ := hrel
    by_cases hlt : k < xs.length
    · obtain ⟨ad, rfl, _, hl, hc⟩ := hx.at_ hlt
      have Hn := Lib.hid (Bv.ints_take 0#64 xs k hlt)
      clear hx
      go_wp2_with fail
      refine (refmix_any _ _).mono ?_
      rintro e w' ⟨rfl, rfl⟩
      go_wp2
      go_roundg (gk - 1)
      case measure => omega
      case rel => exact ⟨k + 1, by omega, by go_num, by rw [Hn.out], rfl⟩
    · obtain rfl : k = xs.length := by omega
      clear hx
      go_wp2_with fail
      refine (refmix_any _ _).mono ?_
      rintro e w' ⟨rfl, rfl⟩
      go_wp2
      go_ret
      exact ⟨by rw [Bv.ofInt_add]; unfold Bv.fin; rw [BitVec.ofInt_natCast]; rfl, rfl⟩

theorem text (w : World) (s : ByteArray) (hs : s.size ≤ 9223372036854775807) :
    Calls Try.prog 16 #[.string s] w fun e w' => e = .returned (U (Bv.fin (Bv.ints 0#64 (bytes s)) s.size)) ∧ Upd No w w' := by
  go_enter Try.func16, Try.ntmps16
  go_wp2_with fail
  refine (sumnew _).mono ?_
  rintro e w1 ⟨g, rfl, hg, hb, hu⟩
  have Hb := Lib.hid hb
  clear hb
  have Hu := Lib.hid hu
  clear hu
  go_wp2
  go_loopg [4, 8] s.size (fun gk j i wr => ∃ k : Nat, k + gk = s.size ∧ i = .int .i64 k ∧ Blk wr g 84 [U (Bv.ints 0#64 ((bytes s).take k)), .int .i64 k] ∧ Upd No w wr)
  case atStart => exact ⟨0, by omega, rfl, Hb.out, Hu.out⟩
  case round =>
    obtain ⟨k, hgk, rfl, hbr, hur⟩ := hrel
    have Hbr := Lib.hid hbr
    have Hur := Lib.hid hur
    clear hbr hur
    by_cases hlt : k < s.size
    · have Hn := Lib.hid (Bv.ints_take 0#64 (bytes s) k (by rw [bytes_len]; exact hlt))
      have Hz := Lib.hid (bytes_at s k hlt)
      have hby := s[k].toNat_lt
      go_wp2_with fail
      refine (sumadd (fun i => i = wr.heap.size) _ g _ _ (some ⟨wr.heap.size, 0, none⟩) 1 1 [(s[k].toNat : Int)] (Hbr.out.alloc _)
        (Ints.of_row (heap_alloc_new wr _) rfl (fun j v hj => by cases j with | zero => simpa using hj | succ j => simp at hj)) rfl
        (fun e => by have := Hbr.out.lt; omega) (by omega) (by omega) (by omega)).mono ?_
      rintro e w2 ⟨rfl, hb2, hu2⟩
      have Hb2 := Lib.hid hb2
      have Hu2 := Lib.hid hu2
      clear hb2 hu2
      go_wp2
      go_roundg (gk - 1)
      case measure => omega
      case rel =>
        refine ⟨k + 1, by omega, by go_num, ?_, (Hur.out.alloc _).trans_ Hu2.out (fun i hi e => by have : i = g := e; omega)⟩
        rw [Hn.out, Hz.out]
        exact Hb2.out
    · obtain rfl : k = s.size := by omega
      go_wp2_with fail
      refine (sumvalue wr g _ _ Hbr.out).mono ?_
      rintro e w3 ⟨rfl, nq, rfl⟩
      go_wp2
      go_ret
      exact ⟨by rw [List.take_of_length_le (by rw [bytes_len]; exact Nat.le_refl _)]; rfl, Hur.out.drewN nq⟩

theorem reftext (w : World) (s : ByteArray) (hs : s.size ≤ 1048576) :
    Calls Try.prog 17 #[.string s] w fun e w' => e = .returned (U (Bv.fin (Bv.ints 0#64 (bytes s)) s.size)) ∧ Upd No w w' := by
  go_enter Try.func17, Try.ntmps17
  go_wp2
  go_loopg [3, 4] s.size (fun gk l i wr => ∃ k : Nat, k + gk = s.size ∧ i = .int .i64 k ∧ wr.ownsRow w.heap.size 3 1 l k (((bytes s).take k).map (Value.int .i64)) ∧ Upd No w wr)
  case atStart => exact ⟨0, by omega, rfl, by simpa using World.ownsRow_nil _ _ _ _, Upd.refl _ _⟩
  case round =>
    obtain ⟨k, hgk, rfl, hor, hur⟩ := hrel
    have Hor := Lib.hid hor
    have Hur := Lib.hid hur
    have hsz := hur.size
    clear hor hur
    by_cases hlt : k < s.size
    · have Hz := Lib.hid (bytes_at s k hlt)
      have hby := s[k].toNat_lt
      go_wp2_with (at_builtin; refine app1 rfl rfl STint rfl rfl Hor.out rfl rfl (by omega) (by omega) (by omega) ?_; intro v' w' hown' hupd _)
      have Hown := Lib.hid hown'
      have Hupd := Lib.hid hupd
      clear hown' hupd
      go_wp2
      go_roundg (gk - 1)
      case measure => omega
      case rel =>
        refine ⟨k + 1, by omega, by go_num, ?_, Hur.out.trans_ Hupd.out ?_⟩
        · rw [List.take_succ_eq_append_getElem (by rw [bytes_len]; exact hlt), Hz.out, List.map_append]
          exact Hown.out
        · intro i hi e
          have := Hor.out.lt i e
          omega
    · obtain rfl : k = s.size := by omega
      obtain ⟨A, c, rfl⟩ := own_slice Hor.out
      have hx := Lib.hid (Ints.of_own Hor.out)
      have hl : s.size = ((bytes s).take s.size).length := by rw [List.take_of_length_le (by rw [bytes_len]; exact Nat.le_refl _), bytes_len]
      have Hl := Lib.hid hl
      clear hl
      go_wp2_with fail
      refine (refints _ _ A s.size c _ hx.out Hl.out (by omega)).mono ?_
      rintro e w' ⟨rfl, rfl⟩
      go_wp2
      go_ret
      exact ⟨by rw [List.take_of_length_le (by rw [bytes_len]; exact Nat.le_refl _)]; rfl, Hur.out⟩
end Go.Proofs.Ytpiigfbdgmjidaa
