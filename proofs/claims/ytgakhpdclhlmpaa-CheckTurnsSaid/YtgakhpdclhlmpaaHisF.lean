/- The kinds of a phenomenon; who is next in an order. -/
import Derived.Test.YtgakhpdclhlmpaaLayIndexI
import Derived.Test.YtgakhpdclhlmpaaIntS
import Derived.Test.YtgakhpdclhlmpaaHisE
namespace Go.Proofs.Ytgakhpdclhlmpaa
set_option linter.unusedVariables false
open Go.RowKit
def maskP (p : Int) : Int := if p = 1 then 2 else if p = 4 then 6 else if p = 5 then 14 else 0
def mustP (p : Int) : Int := if p = 5 then 8 else 0
theorem pmasks (w : World) (p : Int) : Calls Try.prog 136 #[.int .i64 p] w fun e w' => e = .returned (.tuple #[.int .i64 (maskP p), .int .i64 (mustP p)]) ∧ w = w' := by
  by_cases h1 : p = 1
  · subst h1
    go_enter Try.func136, Try.ntmps136
    go_wp2
    go_ret2
    exact ⟨rfl, rfl⟩
  · by_cases h4 : p = 4
    · subst h4
      go_enter Try.func136, Try.ntmps136
      go_wp2
      go_ret2
      exact ⟨rfl, rfl⟩
    · by_cases h5 : p = 5
      · subst h5
        go_enter Try.func136, Try.ntmps136
        go_wp2
        go_ret2
        exact ⟨rfl, rfl⟩
      · have b1 : (p == 1) = false := by simpa using h1
        have b4 : (p == 4) = false := by simpa using h4
        have b5 : (p == 5) = false := by simpa using h5
        have hm := Lib.hid (show maskP p = 0 by unfold maskP; rw [if_neg h1, if_neg h4, if_neg h5])
        have hu := Lib.hid (show mustP p = 0 by unfold mustP; rw [if_neg h5])
        clear h1 h4 h5
        go_enter Try.func136, Try.ntmps136
        go_wp2
        go_ret2
        exact ⟨by rw [hm.out, hu.out]; rfl, rfl⟩
/-- where a number stands first -/
def posI (l : List Int) (x : Int) : Nat := l.findIdx (· == x)
theorem idx_of_pos (l : List Int) (x : Int) : Lib.idxOf l x = if posI l x < l.length then (posI l x : Int) else -1 := by
  by_cases h : posI l x < l.length
  · rw [if_pos h]
    have h1 := Lib.idxOf_hit l l.length (posI l x) x h (Nat.le_refl _) (by
      rw [List.getD_eq_getElem?_getD, List.getElem?_eq_getElem h]
      have := List.findIdx_getElem (p := (· == x)) (xs := l) (w := h)
      rw [beq_iff_eq] at this
      exact this) (fun j hj => by
      have hjl : j < l.length := Nat.lt_trans hj h
      rw [List.getD_eq_getElem?_getD, List.getElem?_eq_getElem hjl]
      have := List.not_of_lt_findIdx (p := (· == x)) (xs := l) hj
      simpa using this)
    rwa [List.take_length] at h1
  · rw [if_neg h]
    have h1 := Lib.idxOf_miss l l.length x (fun j hj => by
      rw [List.getD_eq_getElem?_getD, List.getElem?_eq_getElem hj]
      have hlt : j < l.findIdx (· == x) := Nat.lt_of_lt_of_le hj (Nat.le_of_not_lt h)
      have := List.not_of_lt_findIdx (p := (· == x)) (xs := l) hlt
      simpa using this)
    rwa [List.take_length] at h1
theorem iindex (F : Nat → Prop) (w : World) (A : Option Addr) (c : Nat) (l : List Int) (x : Int) (h : Ints F w A l) (hl : l.length ≤ 17592186044415) :
    Calls Try.prog 194 #[.slice A l.length c, .int .i64 x] w fun e w' => e = .returned (.int .i64 (if posI l x < l.length then (posI l x : Int) else -1)) ∧ w = w' := by
  rw [← idx_of_pos]
  by_cases h0 : l = []
  · subst h0
    refine Calls.mono (AnyG.slices_Index_int_empty indexI_lay A c x w) ?_
    rintro e w' ⟨rfl, rfl⟩
    exact ⟨rfl, rfl⟩
  · obtain ⟨b, o, rfl, hc⟩ := h.cells_ h0
    refine Calls.mono (AnyG.slices_Index_int indexI_lay b o l.length c l x w (Nat.le_refl _) (by omega) hc) ?_
    rintro e w' ⟨rfl, rfl⟩
    rw [List.take_length]
    exact ⟨rfl, rfl⟩
/-- the one behind another one; of 0 the first -/
def nextI (l : List Int) (tx : Int) : Option Int := if tx = 0 then l[0]? else if posI l tx < l.length then l[posI l tx + 1]? else none
def Nexted (w : World) (o : Option Int) (e : Ending) (w' : World) : Prop := e = .returned (match o with | some x => .tuple #[.int .i64 x, .bool true] | none => .tuple #[.int .i64 0, .bool false]) ∧ Upd No w w'
theorem onext (F : Nat → Prop) (w : World) (A : Option Addr) (c : Nat) (l : List Int) (tx : Int) (h : Ints F w A l) (hl : l.length ≤ 17592186044415) :
    Calls Try.prog 237 #[.slice A l.length c, .int .i64 tx] w (Nexted w (nextI l tx)) := by
  by_cases h0 : tx = 0
  · have hn := Lib.hid (show nextI l tx = l[0]? by unfold nextI; rw [if_pos h0])
    by_cases hz : l.length = 0
    · have hn2 := Lib.hid (show nextI l tx = none by rw [hn.out]; exact List.getElem?_eq_none (by omega))
      have hzb : ((0 : Int) == (l.length : Int)) = true := by rw [beq_iff_eq]; omega
      have h0b : (tx != 0) = false := by rw [h0]; rfl
      have Hz := Lib.hid hz
      clear hz h0
      go_enter Try.func237, Try.ntmps237
      go_wp2
      go_ret2
      exact ⟨by rw [hn2.out]; rfl, Upd.refl _ _⟩
    · have hp : 0 < l.length := by omega
      have hn2 := Lib.hid (show nextI l tx = some l[0] by rw [hn.out]; exact List.getElem?_eq_getElem hp)
      have hzb : ((0 : Int) == (l.length : Int)) = false := by rw [beq_eq_false_iff_ne]; omega
      have h0b : (tx != 0) = false := by rw [h0]; rfl
      obtain ⟨ad, hA, _, _, hc⟩ := h.at_ hp
      have ha : ad.add 0 = ad := by unfold Addr.add; simp
      rw [ha] at hc
      subst hA
      have hpI : (0 : Int) < (l.length : Int) := by omega
      clear hz h0 ha
      go_enter Try.func237, Try.ntmps237
      go_wp2
      go_ret2
      exact ⟨by rw [hn2.out]; rfl, Upd.refl _ _⟩
  · have h0b : (tx != 0) = true := by simpa using h0
    have hn := Lib.hid (show nextI l tx = if posI l tx < l.length then l[posI l tx + 1]? else none by unfold nextI; rw [if_neg h0])
    clear h0
    have hidx := iindex F w A c l tx h hl
    by_cases hp : posI l tx < l.length
    · rw [if_pos hp] at hidx
      have Hidx := Lib.hid hidx
      clear hidx
      obtain ⟨k, hk⟩ : ∃ k, posI l tx = k := ⟨_, rfl⟩
      rw [hk] at Hidx hn hp
      clear hk
      have hkb : ((k : Int) + 1 == 0) = false := by rw [beq_eq_false_iff_ne]; omega
      have hk0 : (0 : Int) ≤ (k : Int) + 1 := by omega
      by_cases he : k + 1 = l.length
      · have hn2 := Lib.hid (show nextI l tx = none by rw [hn.out, if_pos hp]; exact List.getElem?_eq_none (by omega))
        have heb : ((k : Int) + 1 == (l.length : Int)) = true := by rw [beq_iff_eq]; omega
        have He := Lib.hid he
        clear he
        go_enter Try.func237, Try.ntmps237
        go_wp2_with fail
        refine (Hidx.out).mono ?_
        rintro e w1 ⟨rfl, rfl⟩
        go_wp2
        go_ret2
        exact ⟨by rw [hn2.out]; rfl, Upd.refl _ _⟩
      · have hlt : k + 1 < l.length := by omega
        have hn2 := Lib.hid (show nextI l tx = some l[k + 1] by rw [hn.out, if_pos hp]; exact List.getElem?_eq_getElem hlt)
        have heb : ((k : Int) + 1 == (l.length : Int)) = false := by rw [beq_eq_false_iff_ne]; omega
        obtain ⟨ad, hA, _, _, hc⟩ := h.at_ hlt
        subst hA
        have hc2 : w.cell? ⟨ad.block, ad.off + (k + 1), none⟩ = some (.int .i64 l[k + 1]) := by
          rw [← hc]
          congr 1
        have hltI : (k : Int) + 1 < (l.length : Int) := by omega
        clear he
        go_enter Try.func237, Try.ntmps237
        go_wp2_with fail
        refine (Hidx.out).mono ?_
        rintro e w1 ⟨rfl, rfl⟩
        go_wp2
        go_ret2
        exact ⟨by rw [hn2.out]; rfl, Upd.refl _ _⟩
    · rw [if_neg hp] at hidx
      have Hidx := Lib.hid hidx
      clear hidx
      have hn2 := Lib.hid (show nextI l tx = none by rw [hn.out, if_neg hp])
      clear hp
      go_enter Try.func237, Try.ntmps237
      go_wp2_with fail
      refine (Hidx.out).mono ?_
      rintro e w1 ⟨rfl, rfl⟩
      go_wp2
      go_ret2
      exact ⟨by rw [hn2.out]; rfl, Upd.refl _ _⟩
end Go.Proofs.Ytgakhpdclhlmpaa
