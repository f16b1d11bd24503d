/- How many writes of a key there are; whether a history is light. -/
import Derived.Test.YtgakhpdclhlmpaaHisB
namespace Go.Proofs.Ytgakhpdclhlmpaa
set_option linter.unusedVariables false
open Go.RowKit
def isW (key : Int) (o : HOp) : Bool := !o.read && o.key == key
/-- among the first k -/
def wrN (l : List HOp) (key : Int) (k : Nat) : Nat := ((l.take k).filter (isW key)).length
def writesN (l : List HOp) (key : Int) : Nat := wrN l key l.length
theorem wrN_succ {l : List HOp} {key : Int} {k : Nat} (hk : k < l.length) : wrN l key (k + 1) = wrN l key k + if isW key l[k] = true then 1 else 0 := by
  unfold wrN
  rw [List.take_succ_eq_append_getElem hk, List.filter_append, List.length_append]
  by_cases h : isW key l[k] = true
  · rw [if_pos h, List.filter_cons_of_pos h]; rfl
  · rw [if_neg h, List.filter_cons_of_neg h]; rfl
theorem wrN_yes {l : List HOp} {key : Int} {k : Nat} {x : HOp} (hk : k < l.length) (hx : l[k] = x) (h : isW key x = true) : wrN l key (k + 1) = wrN l key k + 1 := by
  subst hx; rw [wrN_succ hk, if_pos h]
theorem wrN_no {l : List HOp} {key : Int} {k : Nat} {x : HOp} (hk : k < l.length) (hx : l[k] = x) (h : isW key x = false) : wrN l key (k + 1) = wrN l key k := by
  subst hx; rw [wrN_succ hk, if_neg (by rw [h]; decide), Nat.add_zero]
theorem wrN_le (l : List HOp) (key : Int) (k : Nat) : wrN l key k ≤ k := by
  unfold wrN
  have h1 := List.length_filter_le (isW key) (l.take k)
  have h2 := List.length_take_le k l
  omega
set_option maxRecDepth 100000 in
theorem rwrites (F : Nat → Prop) (w : World) (A : Option Addr) (c : Nat) (l : List HOp) (key : Int) (h : HOps F w A l) (hl : fewOps l.length) :
    Calls Try.prog 261 #[.slice A l.length c, .int .i64 key] w fun e w' => e = .returned (.int .i64 ((writesN l key : Nat) : Int)) ∧ Upd No w w' := by
  unfold fewOps at hl
  go_enter Try.func261, Try.ntmps261
  go_wp2
  go_loopg [5, 10] l.length (fun gk n i wr => ∃ k : Nat, k + gk = l.length ∧ i = .int .i64 k ∧ n = .int .i64 ((wrN l key k : Nat) : Int) ∧ Upd No w wr)
  case atStart => exact ⟨0, by omega, rfl, rfl, Upd.refl _ _⟩
  case round =>
    obtain ⟨k, hgk, rfl, rfl, hu⟩ := hrel
    by_cases hlt : k < l.length
    · obtain ⟨ad, hAd, c0, c1, c2, c3⟩ := (h.upd hu (fun _ _ => id)).at_ hlt
      obtain ⟨x, hx⟩ : ∃ x, l[k] = x := ⟨_, rfl⟩
      rw [hx] at c0 c1 c2 c3
      have hw := wrN_le l key k
      obtain ⟨r, ky, tx, nt⟩ := x
      have X := Lib.hid hx
      clear hx
      subst hAd
      cases r
      · by_cases hk : ky = key
        · have hkb : (ky == key) = true := by simpa using hk
          have HS := Lib.hid (wrN_yes (key := key) hlt X.out (by unfold isW; rw [hkb]; rfl))
          clear hk
          go_wp2
          go_roundg (gk - 1)
          case measure => omega
          case rel => exact ⟨k + 1, by omega, by go_num, by rw [HS.out]; go_num, hu.alloc _⟩
        · have hkb : (ky == key) = false := by simpa using hk
          have HS := Lib.hid (wrN_no (key := key) hlt X.out (by unfold isW; rw [hkb]; rfl))
          clear hk
          go_wp2
          go_roundg (gk - 1)
          case measure => omega
          case rel => exact ⟨k + 1, by omega, by go_num, by rw [HS.out], hu.alloc _⟩
      · have HS := Lib.hid (wrN_no (key := key) hlt X.out rfl)
        go_wp2
        go_roundg (gk - 1)
        case measure => omega
        case rel => exact ⟨k + 1, by omega, by go_num, by rw [HS.out], hu.alloc _⟩
    · obtain rfl : k = l.length := by omega
      go_wp2
      go_ret
      exact ⟨rfl, hu⟩
set_option maxRecDepth 100000 in
theorem pwrites (F : Nat → Prop) (w : World) (i0 : Int) (dn : Bool) (A : Option Addr) (c : Nat) (l : List HOp) (key : Int) (h : HOps F w A l) (hl : fewOps l.length) :
    Calls Try.prog 184 #[.agg #[.int .i64 i0, .bool dn, .slice A l.length c], .int .i64 key] w fun e w' => e = .returned (.int .i64 ((writesN l key : Nat) : Int)) ∧ Upd No w w' := by
  unfold fewOps at hl
  go_enter Try.func184, Try.ntmps184
  go_wp2
  go_loopg [5, 11] l.length (fun gk n i wr => ∃ k : Nat, k + gk = l.length ∧ i = .int .i64 k ∧ n = .int .i64 ((wrN l key k : Nat) : Int) ∧ Upd No w wr)
  case atStart => exact ⟨0, by omega, rfl, rfl, (Upd.refl _ _).alloc _⟩
  case round =>
    obtain ⟨k, hgk, rfl, rfl, hu⟩ := hrel
    by_cases hlt : k < l.length
    · obtain ⟨ad, hAd, c0, c1, c2, c3⟩ := (h.upd hu (fun _ _ => id)).at_ hlt
      obtain ⟨x, hx⟩ : ∃ x, l[k] = x := ⟨_, rfl⟩
      rw [hx] at c0 c1 c2 c3
      have hw := wrN_le l key k
      obtain ⟨r, ky, tx, nt⟩ := x
      have X := Lib.hid hx
      clear hx
      subst hAd
      cases r
      · by_cases hk : ky = key
        · have hkb : (ky == key) = true := by simpa using hk
          have HS := Lib.hid (wrN_yes (key := key) hlt X.out (by unfold isW; rw [hkb]; rfl))
          clear hk
          go_wp2
          go_roundg (gk - 1)
          case measure => omega
          case rel => exact ⟨k + 1, by omega, by go_num, by rw [HS.out]; go_num, hu.alloc _⟩
        · have hkb : (ky == key) = false := by simpa using hk
          have HS := Lib.hid (wrN_no (key := key) hlt X.out (by unfold isW; rw [hkb]; rfl))
          clear hk
          go_wp2
          go_roundg (gk - 1)
          case measure => omega
          case rel => exact ⟨k + 1, by omega, by go_num, by rw [HS.out], hu.alloc _⟩
      · have HS := Lib.hid (wrN_no (key := key) hlt X.out rfl)
        go_wp2
        go_roundg (gk - 1)
        case measure => omega
        case rel => exact ⟨k + 1, by omega, by go_num, by rw [HS.out], hu.alloc _⟩
    · obtain rfl : k = l.length := by omega
      go_wp2
      go_ret
      exact ⟨rfl, hu⟩
/-- is a history not too much for a statement -/
def lightB (h : Hist) : Bool := decide (h.txs.length ≤ 12) && decide (h.ords.length ≤ 24) && h.txs.all (fun t => decide (t.ops.length ≤ 24)) && h.ords.all (fun o => decide (o.txs.length ≤ 24))
end Go.Proofs.Ytgakhpdclhlmpaa
