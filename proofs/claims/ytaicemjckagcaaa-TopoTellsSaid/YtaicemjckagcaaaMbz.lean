/- Orders: the laws that orders are told as the document says, and that none is ahead of the one that is told. -/
import Derived.Test.YtaicemjckagcaaaMbs
import Derived.Test.YtaicemjckagcaaaMbw
import Derived.Test.YtaicemjckagcaaaMby
namespace Go.Proofs.Ytaicemjckagcaaa
set_option linter.unusedVariables false
open Go.RowKit
theorem ints_row {w : World} {A : Option Addr} {len cap : Nat} {zs : List Int} (h : (A = none ∧ len = 0 ∧ cap = 0 ∧ zs = []) ∨ ∃ x, A = some x ∧ len ≤ cap ∧ cap ≤ maxLen ∧ zs.length = cap ∧ (∀ i, i < zs.length → w.cell? (x.add i) = some (.int .i64 (zs.getD i 0))) ∧ ∀ n ∈ zs, (Lit.int .i64 n).wf = true) : ∃ l : List Int, Ints (fun _ => True) w A l ∧ l.length = len := by
  rcases h with ⟨rfl, rfl, rfl, rfl⟩ | ⟨ad, rfl, hl, hm, hz, hcell, _⟩
  · exact ⟨[], Ints.nil_, rfl⟩
  · exact ⟨zs.take len, (Ints.of_cells hcell).take, by rw [List.length_take]; omega⟩
theorem told_len (ids : List Int) (l : List Edge) (n : ids.length ≤ 1000) : (toldO (ordD ids l) 16).1.length ≤ 1000 := by
  cases h : ordD ids l with
  | none => simp [toldO]
  | some a =>
    have := (goes_perm _ _ _ (ordD_some h)).length_eq
    have := setK_len ids
    show a.length ≤ 1000
    omega
def Live29 : Prop := ∀ w, Calls Try.prog 11 #[] w fun e w' => e = .returned (.bool true) ∧ Upd No w w'
set_option maxRecDepth 100000 in
set_option maxHeartbeats 4000000 in
theorem tells29 (F G H : Nat → Prop) (w : World) (A B C : Option Addr) (a b c : Nat) (ids order : List Int) (l : List Edge) (hi : Ints F w A ids) (ho : Ints G w B order) (hl : Walk H w C l) (L : Hid Live29) :
    Calls Try.prog 3 #[.slice A ids.length a, .slice B order.length b, .slice C l.length c] w fun e w' => e = .returned (.bool true) ∧ Upd No w w' := by
  by_cases h1 : 30 < ids.length
  · have i1 : (30 : Int) < (ids.length : Int) := by omega
    go_enter Try.func3, Try.ntmps3
    go_wp2_with fail
    refine (L.out _).mono ?_
    rintro e w1 ⟨rfl, hu1⟩
    go_wp2
    go_ret
    exact ⟨rfl, hu1⟩
  · have i1 : ¬ (30 : Int) < (ids.length : Int) := by omega
    by_cases h2 : 30 < order.length
    · have i2 : (30 : Int) < (order.length : Int) := by omega
      go_enter Try.func3, Try.ntmps3
      go_wp2_with fail
      refine (L.out _).mono ?_
      rintro e w1 ⟨rfl, hu1⟩
      go_wp2
      go_ret
      exact ⟨rfl, hu1⟩
    · have i2 : ¬ (30 : Int) < (order.length : Int) := by omega
      by_cases h3 : 60 < l.length
      · have i3 : (60 : Int) < (l.length : Int) := by omega
        go_enter Try.func3, Try.ntmps3
        go_wp2_with fail
        refine (L.out _).mono ?_
        rintro e w1 ⟨rfl, hu1⟩
        go_wp2
        go_ret
        exact ⟨rfl, hu1⟩
      · have i3 : ¬ (60 : Int) < (l.length : Int) := by omega
        have H1 := Lib.hid (tOrder F H w A C a c ids l hi hl (by omega) (by omega))
        have H2 := Lib.hid (fun W (u : Upd No w W) => rOrder F H W A C a c ids l (hi.upd u (fun _ _ => id)) (hl.upd u (fun _ _ => id)) (by omega) (by omega))
        have H3 := Lib.hid (fun W (u : Upd No w W) => alongV (w := W) (c := b) (d := c) (ho.upd u (fun _ _ => id)) (hl.upd u (fun _ _ => id)) (by omega) (by omega) rfl rfl rfl)
        have H4 := Lib.hid (fun W (u : Upd No w W) => rAlong G H W B C b c order l (ho.upd u (fun _ _ => id)) (hl.upd u (fun _ _ => id)) (by omega) (by omega))
        have hln := told_len ids l (by omega)
        obtain ⟨⟨xs, q⟩, hq⟩ : ∃ o, toldO (ordD ids l) 16 = o := ⟨_, rfl⟩
        obtain ⟨v, hv⟩ : ∃ v, l.all (alongE order) = v := ⟨_, rfl⟩
        rw [hq] at H1 H2 hln
        rw [hv] at H3 H4
        simp only at hln
        clear hq hv h1 h2 h3 hi ho hl
        go_enter Try.func3, Try.ntmps3
        go_wp2_with fail
        refine (H1.out).mono ?_
        rintro e w1 ⟨A1, c1, rfl, ho1, hu1⟩
        have HO1 := Lib.hid ho1
        clear ho1
        go_wp2_with fail
        refine (H2.out w1 hu1).mono ?_
        rintro e w2 ⟨A2, c2, rfl, ho2, hu2⟩
        have HS := Lib.hid (samei w2 _ _ A1 A2 c1 c2 xs xs ((Ints.of_own HO1.out).upd hu2 (fun _ _ => id)) (Ints.of_own ho2) (by omega) (by omega))
        rw [show (xs == xs) = true from by simp] at HS
        have hv2 := hu1.trans hu2
        clear ho2
        go_wp2_with fail
        refine (HS.out).mono ?_
        rintro e w3 ⟨rfl, hu3⟩
        have hv3 := hv2.trans hu3
        go_wp2_with fail
        refine (H3.out w3 hv3).mono ?_
        rintro e w4 ⟨rfl, hu4⟩
        have hv4 := hv3.trans hu4
        go_wp2_with fail
        refine (H4.out w4 hv4).mono ?_
        rintro e w5 ⟨rfl, hu5⟩
        have hv5 := hv4.trans hu5
        go_wp2_with fail
        refine (L.out w5).mono ?_
        rintro e w6 ⟨rfl, hu6⟩
        go_wp2
        go_ret
        exact ⟨rfl, hv5.trans hu6⟩
end Go.Proofs.Ytaicemjckagcaaa

/- Orders: the law that none is ahead of the one that is told. -/
namespace Go.Proofs.Ytaicemjckagcaaa
set_option linter.unusedVariables false
open Go.RowKit
end Go.Proofs.Ytaicemjckagcaaa

/- Orders: the law that there is an order just if no closed walk goes through the ids. -/
namespace Go.Proofs.Ytaicemjckagcaaa
set_option linter.unusedVariables false
open Go.RowKit
end Go.Proofs.Ytaicemjckagcaaa
