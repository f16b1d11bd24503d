/- The three laws of the layers' mix, walked. -/
import Derived.Test.YtpiigfbdgmjidaaMixE
namespace Go.Proofs.Ytpiigfbdgmjidaa
open Go.RowKit

theorem back_any (x y : BitVec 64) (w : World) : Calls Try.prog 4 #[U x, U y] w fun e w' => e = .returned (.bool true) ∧ Upd No w w' := by
  have hxy : (u (Bv.mix x) == u (Bv.mix y)) = (u x == u y) := by rw [u_beq, u_beq, Bv.mix_beq]
  have Hxy := Lib.hid hxy
  clear hxy
  go_enter Try.func4, Try.ntmps4
  go_wp2_with fail
  refine (lives04 _).mono ?_
  rintro e w1 ⟨rfl, hu1⟩
  go_wp2_with fail
  refine (mix_any _ _).mono ?_
  rintro e w' ⟨rfl, rfl⟩
  go_wp2_with fail
  refine (unmix_any _ _).mono ?_
  rintro e w' ⟨he, rfl⟩
  rw [Bv.unmix_mix] at he
  subst he
  go_wp2_with fail
  refine (unmix_any _ _).mono ?_
  rintro e w' ⟨rfl, rfl⟩
  go_wp2_with fail
  refine (mix_any _ _).mono ?_
  rintro e w' ⟨he, rfl⟩
  rw [Bv.mix_unmix] at he
  subst he
  go_wp2_with fail
  refine (mix_any _ _).mono ?_
  rintro e w' ⟨rfl, rfl⟩
  go_wp2_with fail
  refine (mix_any _ _).mono ?_
  rintro e w' ⟨rfl, rfl⟩
  go_wp2
  go_ret
  exact ⟨congrArg (fun b => Ending.returned (Value.bool b)) (by rw [Hxy.out]; exact beq_self_eq_true _), hu1⟩

theorem mixes_any (F : Nat → Prop) (x : BitVec 64) (A : Option Addr) (n c : Nat) (xs : List Int) (s : ByteArray) (w : World) (hx : Ints F w A xs) (hn : n = xs.length) (hkn : n ≤ 9223372036854775807) (hs : s.size ≤ 9223372036854775807) :
    Calls Try.prog 3 #[U x, .slice A n c, .string s] w fun e w' => e = .returned (.bool true) ∧ Upd No w w' := by
  have hx' := hx.lt
  subst hn
  go_enter Try.func3, Try.ntmps3
  by_cases h1 : 200 < (xs.length : Int)
  · go_wp2_with fail
    refine (lives04 _).mono ?_
    rintro e w1 ⟨rfl, hu1⟩
    go_wp2
    go_ret
    exact ⟨rfl, hu1⟩
  · by_cases h2 : 200 < (s.size : Int)
    · go_wp2_with fail
      refine (lives04 _).mono ?_
      rintro e w1 ⟨rfl, hu1⟩
      go_wp2
      go_ret
      exact ⟨rfl, hu1⟩
    · go_wp2_with fail
      refine (mix_any _ _).mono ?_
      rintro e w' ⟨rfl, rfl⟩
      go_wp2_with fail
      refine (refmix_any _ _).mono ?_
      rintro e w' ⟨rfl, rfl⟩
      go_wp2_with fail
      refine (unmix_any _ _).mono ?_
      rintro e w' ⟨rfl, rfl⟩
      go_wp2_with fail
      refine (refmix_any _ _).mono ?_
      rintro e w' ⟨he, rfl⟩
      rw [Bv.mix_unmix] at he
      subst he
      go_wp2_with fail
      refine (intsum _ _ A _ c xs hx' rfl hkn).mono ?_
      rintro e w1 ⟨rfl, hu1⟩
      go_wp2_with fail
      refine (refints _ _ A _ c xs (hx'.upd hu1 (fun _ _ h => h)) rfl hkn).mono ?_
      rintro e w' ⟨rfl, rfl⟩
      go_wp2_with fail
      refine (text _ _ hs).mono ?_
      rintro e w2 ⟨rfl, hu2⟩
      go_wp2_with fail
      refine (reftext _ _ (by omega)).mono ?_
      rintro e w3 ⟨rfl, hu3⟩
      go_wp2_with fail
      refine (lives04 _).mono ?_
      rintro e w4 ⟨rfl, hu4⟩
      go_wp2
      go_ret
      exact ⟨rfl, ((hu1.trans hu2).trans hu3).trans hu4⟩
theorem parts_any (F : Nat → Prop) (A : Option Addr) (n c : Nat) (xs : List Int) (a b : Int) (w : World) (hx : Ints F w A xs) (hn : n = xs.length) (hc : n ≤ c) (hkn : n ≤ 9223372036854775807) :
    Calls Try.prog 5 #[.slice A n c, .int .i64 a, .int .i64 b] w fun e w' => e = .returned (.bool true) ∧ Upd No w w' := by
  have hx' := hx.lt
  subst hn
  go_enter Try.func5, Try.ntmps5
  go_wp2_with fail
  refine (lives04 _).mono ?_
  rintro e w1 ⟨rfl, hu1⟩
  by_cases h1 : (xs.length : Int) > 300
  · go_wp2
    go_ret
    exact ⟨rfl, hu1⟩
  by_cases h2 : a < 0
  · go_wp2
    go_ret
    exact ⟨rfl, hu1⟩
  by_cases h3 : b < a
  · go_wp2
    go_ret
    exact ⟨rfl, hu1⟩
  by_cases h4 : b > (xs.length : Int)
  · go_wp2
    go_ret
    exact ⟨rfl, hu1⟩
  obtain ⟨i, rfl⟩ := Int.eq_ofNat_of_zero_le (show 0 ≤ a by omega)
  obtain ⟨j, rfl⟩ := Int.eq_ofNat_of_zero_le (show 0 ≤ b by omega)
  have k1 := fun W => run_cut_h W STint A xs.length c i (by omega)
  have k2 := fun W => run_cut_lh W STint A xs.length c i j (by omega) (by omega)
  have k3 := fun W => run_cut_l W STint A xs.length c j (by omega)
  have a1 : Ints (fun i => i < w.heap.size) w (cutA A c 0 1) (xs.take i) := (hx'.cut (i := 0) hc).take
  have a2 : Ints (fun i => i < w.heap.size) w (cutA A c i 1) ((xs.drop i).take (j - i)) := (hx'.cut hc).take
  have a3 : Ints (fun i => i < w.heap.size) w (cutA A c j 1) (xs.drop j) := hx'.cut hc
  have E1 := Lib.hid (show i = (xs.take i).length by rw [List.length_take]; omega)
  have E2 := Lib.hid (show j - i = ((xs.drop i).take (j - i)).length by rw [List.length_take, List.length_drop]; omega)
  have E3 := Lib.hid (show xs.length - j = (xs.drop j).length by rw [List.length_drop])
  go_wp2_with fail
  refine (sumnew _).mono ?_
  rintro e w2 ⟨g, rfl, hg, hb2, hu2⟩
  have hz1 := hu1.size
  have hgl : ¬ g < w.heap.size := by omega
  go_wp2_with fail
  refine (sumadd _ w2 g _ 0 _ i _ _ hb2 ((a1.upd hu1 (fun _ _ h => h)).upd hu2 (fun _ _ h => h)) E1.out hgl (by omega) (by omega) (by omega)).mono ?_
  rintro e w3 ⟨rfl, hb3, hu3⟩
  go_wp2_with fail
  refine (sumvalue w3 g _ _ hb3).mono ?_
  rintro e w4 ⟨rfl, nq, rfl⟩
  have u3 : Upd No w w3 := (hu1.trans hu2).then_ hu3 (fun i t => .inr (by have : i = g := t; omega))
  clear hu1 hu2 hu3 hb2 a1
  go_wp2_with fail
  refine (sumadd _ _ g _ _ _ (j - i) _ _ (hb3.drewN nq) ((a2.upd u3 (fun _ _ h => h)).drewN nq) E2.out hgl (by omega) (by omega) (by omega)).mono ?_
  rintro e w5 ⟨rfl, hb5, hu5⟩
  have u5 : Upd No w w5 := (u3.drewN nq).then_ hu5 (fun i t => .inr (by have : i = g := t; omega))
  clear u3 hu5 hb3 a2
  go_wp2_with fail
  refine (sumadd _ _ g _ _ _ (xs.length - j) _ _ hb5 (a3.upd u5 (fun _ _ h => h)) E3.out hgl (by omega) (by omega) (by omega)).mono ?_
  rintro e w6 ⟨rfl, hb6, hu6⟩
  have u6 : Upd No w w6 := u5.then_ hu6 (fun i t => .inr (by have : i = g := t; omega))
  clear u5 hu6 hb5 a3
  have a1 : Ints (fun i => i < w.heap.size) w (cutA A c 0 1) (xs.take i) := (hx'.cut (i := 0) hc).take
  go_wp2_with fail
  refine (intsum _ _ _ i c _ (a1.upd u6 (fun _ _ h => h)) E1.out (by omega)).mono ?_
  rintro e w7 ⟨rfl, hu7⟩
  have hb7 := hb6.upd hu7 id
  have hk : (0 : Int) + (i : Nat) + ((j - i : Nat) : Int) + ((xs.length - j : Nat) : Int) = (xs.length : Int) := by omega
  rw [hk] at hb7
  rw [← Bv.ints_append, ← Bv.ints_append, show (xs.take i ++ ((xs.drop i).take (j - i) ++ xs.drop j)) = xs from by
    rw [show xs.drop j = (xs.drop i).drop (j - i) by rw [List.drop_drop]; congr 1; omega, List.take_append_drop, List.take_append_drop]] at hb7
  have u7 := u6.trans hu7
  clear u6 hu7 a1 k1 k2 k3 hk hb6
  go_wp2_with fail
  refine (sumvalue _ g _ _ hb7).mono ?_
  rintro e w8 ⟨rfl, nq2, rfl⟩
  go_wp2_with fail
  refine (intsum _ _ A xs.length c _ ((hx'.upd u7 (fun _ _ h => h)).drewN nq2) rfl (by omega)).mono ?_
  rintro e w9 ⟨rfl, hu9⟩
  have hb9 := (hb7.drewN nq2).upd hu9 id
  have u9 := (u7.drewN nq2).trans hu9
  clear u7 hu9 hb7
  go_wp2_with fail
  refine (sumlen _ g _ _ hb9).mono ?_
  rintro e w10 ⟨rfl, rfl⟩
  go_wp2
  go_ret
  exact ⟨rfl, u9⟩
end Go.Proofs.Ytpiigfbdgmjidaa
