/- Operations and versions: which are right, by the program and by the document. -/
import Derived.Test.YtgakhpdclhlmpaaHis
namespace Go.Proofs.Ytgakhpdclhlmpaa
set_option linter.unusedVariables false
open Go.RowKit
def errI (b : Bool) : Int := if b then 0 else 1
theorem pid (w : World) (n : Int) : Calls Try.prog 302 #[.int .i64 n] w fun e w' => e = .returned (.bool (idB n)) ∧ w = w' := by
  unfold idB
  by_cases h1 : 1 ≤ n
  · by_cases h2 : n ≤ 1048575
    · go_enter Try.func302, Try.ntmps302
      go_wp2
      go_ret
      exact ⟨by rw [decide_eq_true h1, decide_eq_true h2]; rfl, rfl⟩
    · go_enter Try.func302, Try.ntmps302
      go_wp2
      go_ret
      exact ⟨by rw [decide_eq_false (show ¬ n ≤ 1048575 by omega)]; rfl, rfl⟩
  · go_enter Try.func302, Try.ntmps302
    go_wp2
    go_ret
    exact ⟨by rw [decide_eq_false (show ¬ 1 ≤ n by omega), Bool.false_and]; rfl, rfl⟩
theorem rid (w : World) (n : Int) : Calls Try.prog 215 #[.int .i64 n] w fun e w' => e = .returned (.bool (idB n)) ∧ w = w' := by
  unfold idB
  by_cases h1 : 1 ≤ n
  · by_cases h2 : n ≤ 1048575
    · go_enter Try.func215, Try.ntmps215
      go_wp2
      go_ret
      exact ⟨by rw [decide_eq_true h1, decide_eq_true h2]; rfl, rfl⟩
    · go_enter Try.func215, Try.ntmps215
      go_wp2
      go_ret
      exact ⟨by rw [decide_eq_false (show ¬ n ≤ 1048575 by omega)]; rfl, rfl⟩
  · go_enter Try.func215, Try.ntmps215
    go_wp2
    go_ret
    exact ⟨by rw [decide_eq_false (show ¬ 1 ≤ n by omega), Bool.false_and]; rfl, rfl⟩
theorem pidV {w : World} {n : Int} {b : Bool} (h : idB n = b) : Calls Try.prog 302 #[.int .i64 n] w fun e w' => e = .returned (.bool b) ∧ w = w' := by subst h; exact pid w n
theorem ridV {w : World} {n : Int} {b : Bool} (h : idB n = b) : Calls Try.prog 215 #[.int .i64 n] w fun e w' => e = .returned (.bool b) ∧ w = w' := by subst h; exact rid w n
/-- a number, and an error that tells whether it is right -/
def Numbered (w : World) (b : Bool) (e : Ending) (w' : World) : Prop := ∃ x, e = .returned (.tuple #[.int .u64 x, .int .i64 (errI b)]) ∧ Upd No w w'
theorem bne_of {b : Bool} (h : ¬ b = true) : b = false := by simpa using h
set_option maxRecDepth 100000 in
set_option maxHeartbeats 1000000 in
theorem pver (w : World) (v : Ver) : Calls Try.prog 273 #[.agg v.cells.toArray] w (Numbered w (verB v)) := by
  unfold Ver.cells
  have i0 : idB 0 = false := by decide
  by_cases ht : v.tx = 0
  · by_cases hn : v.nth = 0
    · by_cases hk : idB v.key = true
      · have hv := Lib.hid (show verB v = true by unfold verB; rw [hk, ht, hn]; rfl)
        rw [ht, hn]
        clear ht hn i0
        have Hk := Lib.hid hk
        clear hk
        go_enter Try.func273, Try.ntmps273
        go_wp2_with fail
        refine (pidV Hk.out).mono ?_
        rintro e w1 ⟨rfl, rfl⟩
        go_wp2
        go_ret2
        exact ⟨_, by rw [hv.out]; rfl, (Upd.refl _ _).alloc _⟩
      · have hv := Lib.hid (show verB v = false by unfold verB; rw [bne_of hk]; rfl)
        rw [ht, hn]
        clear ht hn i0
        have Hk := Lib.hid (bne_of hk)
        clear hk
        go_enter Try.func273, Try.ntmps273
        go_wp2_with fail
        refine (pidV Hk.out).mono ?_
        rintro e w1 ⟨rfl, rfl⟩
        go_wp2
        go_ret2
        exact ⟨_, by rw [hv.out]; rfl, (Upd.refl _ _).alloc _⟩
    · have hv := Lib.hid (show verB v = false by
        have : (v.nth == 0) = false := by simpa using hn
        unfold verB; rw [ht, this, i0]; simp)
      rw [ht]
      clear ht
      have Hi := Lib.hid i0
      clear i0
      have hnb : (v.nth == 0) = false := by simpa using hn
      have Hn := Lib.hid hn
      clear hn
      go_enter Try.func273, Try.ntmps273
      go_wp2_with fail
      refine (pidV Hi.out).mono ?_
      rintro e w1 ⟨rfl, rfl⟩
      go_wp2
      go_ret2
      exact ⟨_, by rw [hv.out]; rfl, (Upd.refl _ _).alloc _⟩
  · have htb : (v.tx == 0) = false := by simpa using ht
    have Ht := Lib.hid ht
    clear ht i0
    by_cases hi : idB v.tx = true
    · have Hi := Lib.hid hi
      clear hi
      by_cases h1 : v.nth < 1
      · have hv := Lib.hid (show verB v = false by
          unfold verB; rw [htb, Hi.out, decide_eq_false (show ¬ 1 ≤ v.nth by omega)]; simp)
        go_enter Try.func273, Try.ntmps273
        go_wp2_with fail
        refine (pidV Hi.out).mono ?_
        rintro e w1 ⟨rfl, rfl⟩
        go_wp2
        go_ret2
        exact ⟨_, by rw [hv.out]; rfl, (Upd.refl _ _).alloc _⟩
      · by_cases h2 : 4095 < v.nth
        · have hv := Lib.hid (show verB v = false by
            unfold verB; rw [htb, Hi.out, decide_eq_false (show ¬ v.nth ≤ 4095 by omega)]; simp)
          go_enter Try.func273, Try.ntmps273
          go_wp2_with fail
          refine (pidV Hi.out).mono ?_
          rintro e w1 ⟨rfl, rfl⟩
          go_wp2
          go_ret2
          exact ⟨_, by rw [hv.out]; rfl, (Upd.refl _ _).alloc _⟩
        · by_cases hk : idB v.key = true
          · have hv := Lib.hid (show verB v = true by
              unfold verB; rw [htb, Hi.out, hk, decide_eq_true (show v.nth ≤ 4095 by omega), decide_eq_true (show 1 ≤ v.nth by omega)]; rfl)
            have Hk := Lib.hid hk
            clear hk
            go_enter Try.func273, Try.ntmps273
            go_wp2_with fail
            refine (pidV Hi.out).mono ?_
            rintro e w1 ⟨rfl, rfl⟩
            go_wp2_with fail
            refine (pidV Hk.out).mono ?_
            rintro e w1 ⟨rfl, rfl⟩
            go_wp2
            go_ret2
            exact ⟨_, by rw [hv.out]; rfl, (Upd.refl _ _).alloc _⟩
          · have hv := Lib.hid (show verB v = false by unfold verB; rw [bne_of hk]; rfl)
            have Hk := Lib.hid (bne_of hk)
            clear hk
            go_enter Try.func273, Try.ntmps273
            go_wp2_with fail
            refine (pidV Hi.out).mono ?_
            rintro e w1 ⟨rfl, rfl⟩
            go_wp2_with fail
            refine (pidV Hk.out).mono ?_
            rintro e w1 ⟨rfl, rfl⟩
            go_wp2
            go_ret2
            exact ⟨_, by rw [hv.out]; rfl, (Upd.refl _ _).alloc _⟩
    · have hv := Lib.hid (show verB v = false by unfold verB; rw [htb, bne_of hi]; simp)
      have Hi := Lib.hid (bne_of hi)
      clear hi
      go_enter Try.func273, Try.ntmps273
      go_wp2_with fail
      refine (pidV Hi.out).mono ?_
      rintro e w1 ⟨rfl, rfl⟩
      go_wp2
      go_ret2
      exact ⟨_, by rw [hv.out]; rfl, (Upd.refl _ _).alloc _⟩
end Go.Proofs.Ytgakhpdclhlmpaa
