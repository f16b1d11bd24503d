/- The law's own asking for some answers: each of them is given. -/
import Derived.Test.YtpiigfbdgmjidaaMixD
namespace Go.Proofs.Ytpiigfbdgmjidaa
open Go.RowKit

theorem uval {x : BitVec 64} {n : Int} (h : u x = n) : U x = .int .u64 n := congrArg _ h
theorem mix0 : U (Bv.mix 0#64) = .int .u64 0 := uval (by decide +kernel)
theorem fin0 : U (Bv.fin (Bv.ints 0#64 []) (0 : Nat)) = .int .u64 0 := uval (by decide +kernel)
theorem mix7 : U (Bv.mix (Bv.unmix 7#64)) = .int .u64 7 := uval (by rw [Bv.mix_unmix]; decide +kernel)
set_option maxHeartbeats 2000000 in
theorem lives04 (w : World) : Calls Try.prog 10 #[] w fun e w' => e = .returned (.bool true) ∧ Upd No w w' := by
  go_enter Try.func10, Try.ntmps10
  go_wp2_with fail
  refine (sumnew _).mono ?_
  rintro e w1 ⟨g, rfl, hg, hb1, hu1⟩
  have hl1 := hb1.lt
  go_wp2_with fail
  refine (sumadd (fun i => i = w1.heap.size) _ g _ 0 _ 2 2 [1, 2] (hb1.alloc _) (lit_ints [1, 2] 3) rfl (fun e => by omega) (by omega) (by omega) (by omega)).mono ?_
  rintro e w2 ⟨rfl, hb2, hu⟩
  have hu2 := (hu1.alloc _).then_ hu (fun i t => .inr (by have : i = g := t; omega))
  have hl2 := hb2.lt
  clear hu hu1 hb1
  go_wp2_with fail
  refine (sumadd (fun i => i = w2.heap.size) _ g _ _ none 0 0 [] hb2 Ints.nil_ rfl (fun e => by omega) (by omega) (by omega) (by omega)).mono ?_
  rintro e w3 ⟨rfl, hb3, hu⟩
  have hu3 := hu2.then_ hu (fun i t => .inr (by have : i = g := t; omega))
  have hl3 := hb3.lt
  clear hu hu2 hb2
  go_wp2_with fail
  refine (sumadd (fun i => i = w3.heap.size) _ g _ _ _ 1 1 [3] (hb3.alloc _) (lit_ints [3] 3) rfl (fun e => by omega) (by omega) (by omega) (by omega)).mono ?_
  rintro e w4 ⟨rfl, hb4, hu⟩
  have hu4 := (hu3.alloc _).then_ hu (fun i t => .inr (by have : i = g := t; omega))
  have hl4 := hb4.lt
  clear hu hu3 hb3
  go_wp2_with fail
  refine (sumadd_nil _ _).mono ?_
  rintro e w5 ⟨rfl, rfl⟩
  go_wp2_with fail
  refine (mix_any 0#64 _).mono ?_
  rintro e w5 ⟨he, rfl⟩
  rw [mix0] at he
  subst he
  go_wp2_with fail
  refine (intsum (fun _ => True) _ none 0 0 [] Ints.nil_ rfl (by omega)).mono ?_
  rintro e w5 ⟨he, hu⟩
  rw [fin0] at he
  subst he
  have hu5 := (hu4.alloc (.cells #[.int .i64 5] 3)).trans hu
  have hb5 := (hb4.alloc _).upd hu id
  clear hu hu4 hb4
  go_wp2_with fail
  refine (unmix_any 7#64 _).mono ?_
  rintro e w6 ⟨rfl, rfl⟩
  go_wp2_with fail
  refine (mix_any _ _).mono ?_
  rintro e w6 ⟨he, rfl⟩
  rw [mix7] at he
  subst he
  go_wp2_with fail
  refine (mix_any 1#64 _).mono ?_
  rintro e w6 ⟨rfl, rfl⟩
  go_wp2_with fail
  refine (refmix_any 1#64 _).mono ?_
  rintro e w6 ⟨rfl, rfl⟩
  go_wp2_with fail
  refine (sumlen _ g _ _ hb5).mono ?_
  rintro e w6 ⟨rfl, rfl⟩
  go_wp2_with fail
  refine (sumvalue _ g _ _ hb5).mono ?_
  rintro e w6 ⟨he, nq, rfl⟩
  rw [show U (Bv.fin (Bv.ints (Bv.ints (Bv.ints 0#64 [1, 2]) []) [3]) (0 + ((2 : Nat) : Int) + ((0 : Nat) : Int) + ((1 : Nat) : Int))) = U (Bv.fin (Bv.ints 0#64 [1, 2, 3]) ((3 : Nat) : Int)) from rfl] at he
  subst he
  go_wp2_with fail
  refine (refints _ _ _ 3 3 [1, 2, 3] (lit_ints [1, 2, 3] 3) rfl (by omega)).mono ?_
  rintro e w6 ⟨rfl, rfl⟩
  go_wp2_with fail
  refine (sumlen_nil _).mono ?_
  rintro e w6 ⟨rfl, rfl⟩
  go_wp2_with fail
  refine (sumvalue_nil _).mono ?_
  rintro e w6 ⟨he, rfl⟩
  rw [mix0] at he
  subst he
  go_wp2_with fail
  refine (text _ _ (by decide)).mono ?_
  rintro e w6 ⟨rfl, hu6⟩
  go_wp2_with fail
  refine (refints _ _ _ 1 1 [97] (lit_ints [97] 3) rfl (by omega)).mono ?_
  rintro e w7 ⟨rfl, rfl⟩
  go_wp2
  go_ret
  refine ⟨congrArg (fun b => Ending.returned (Value.bool b)) (?_ : (u _ == u _) = true), (((hu5.drewN nq).alloc _).trans hu6).alloc _⟩
  decide +kernel
end Go.Proofs.Ytpiigfbdgmjidaa
