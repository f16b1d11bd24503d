/- Walks turned: the law, walked. -/
import Derived.Test.YtgakhpdclhlmpaaPackD
import Derived.Test.YtgakhpdclhlmpaaWalkM
import Derived.Test.YtgakhpdclhlmpaaTurnP
namespace Go.Proofs.Ytgakhpdclhlmpaa
set_option linter.unusedVariables false
open Go.RowKit
section
variable {F : Nat → Prop} {w : World} {A : Option Addr} {c n : Nat} {l : List Edge}
theorem rbegunV {i : Nat} {t : List Edge} (h : Walk F w A l) (hl : l.length ≤ 1000000) (hc : l.length ≤ c) (hi : i ≤ l.length) (hv : rot l i = t) : Calls Try.prog 52 #[.slice A l.length c, .int .i64 i] w fun e w' => ∃ A' c', e = .returned (.slice A' l.length c') ∧ l.length ≤ c' ∧ WalkX w' A' t ∧ Upd No w w' := by
  subst hv
  refine (rbegun F w A c l i h hl hc hi).mono ?_
  rintro e w' ⟨A', c', rfl, ho, hu⟩
  have ho2 : w'.ownsRow w.heap.size 89 4 (.slice A' (rot l i).length c') (rot l i).length ((rot l i).map Edge.cells).flatten := by rw [rot_len l hi]; exact ho
  exact ⟨A', c', rfl, own_cap ho, ⟨_, Walk.of_new (w := w) (l := rot l i) (c := c') ho2⟩, hu⟩
theorem turnC {t : List Edge} (h : WalkX w A l) (hl : l.length ≤ 1000000) (hc : n ≤ c) (hn : l.length = n) (hv : turnOf l = t) : Calls Try.prog 25 #[.slice A n c] w fun e w' => ∃ A' c', e = .returned (.slice A' n c') ∧ n ≤ c' ∧ WalkX w' A' t ∧ Upd No w w' := by
  subst hn hv
  obtain ⟨F, h⟩ := h
  refine (wturn F w A c l h hl hc).mono ?_
  rintro e w' ⟨A', c', rfl, ho, hu⟩
  have ho2 : w'.ownsRow w.heap.size 89 4 (.slice A' (turnOf l).length c') (turnOf l).length ((turnOf l).map Edge.cells).flatten := by rw [turn_len]; exact ho
  exact ⟨A', c', rfl, own_cap ho, ⟨_, Walk.of_new (w := w) (l := turnOf l) (c := c') ho2⟩, hu⟩
theorem psortV {t : List Edge} (h : WalkX w A l) (hl : l.length ≤ 1000000) (hn : l.length = n) (hv : ddE l = t) : Calls Try.prog 53 #[.slice A n c] w (Turned w t t.length) := by
  subst hn hv
  obtain ⟨F, h⟩ := h
  exact psort F w A c l h hl
end
theorem ddE_len (l : List Edge) : (ddE l).length ≤ l.length := ddF_len _ _
set_option maxRecDepth 100000 in
set_option maxHeartbeats 4000000 in
theorem turns28 (F : Nat → Prop) (w : World) (A : Option Addr) (c : Nat) (l : List Edge) (i : Int) (h : Walk F w A l) (hc : l.length ≤ c) (hd : l.length ≤ 4398046511103)
    (L : Hid (∀ w, Calls Try.prog 14 #[] w fun e w' => e = .returned (.bool true) ∧ Upd No w w')) :
    Calls Try.prog 7 #[.slice A l.length c, .int .i64 i] w fun e w' => e = .returned (.bool true) ∧ Upd No w w' := by
  by_cases h1 : 60 < l.length
  · go_enter Try.func7, Try.ntmps7
    go_wp2_with fail
    refine (L.out _).mono ?_
    rintro e w1 ⟨rfl, hu⟩
    go_wp2
    go_ret
    exact ⟨rfl, hu⟩
  · by_cases h2 : i < 0
    · go_enter Try.func7, Try.ntmps7
      go_wp2_with fail
      refine (L.out _).mono ?_
      rintro e w1 ⟨rfl, hu⟩
      go_wp2
      go_ret
      exact ⟨rfl, hu⟩
    · by_cases h3 : (l.length : Int) ≤ i
      · go_enter Try.func7, Try.ntmps7
        go_wp2_with fail
        refine (L.out _).mono ?_
        rintro e w1 ⟨rfl, hu⟩
        go_wp2
        go_ret
        exact ⟨rfl, hu⟩
      · obtain ⟨k, rfl⟩ : ∃ k : Nat, i = k := ⟨i.toNat, by omega⟩
        have hk : k < l.length := by omega
        obtain ⟨x, hx⟩ : ∃ x, turnOf l = x := ⟨_, rfl⟩
        obtain ⟨z, hz⟩ : ∃ z, rot l k = z := ⟨_, rfl⟩
        have Hx := Lib.hid hx
        have Hz := Lib.hid hz
        have Hzl := Lib.hid (show z.length = l.length by rw [← hz]; exact rot_len l (by omega))
        have Hxl := Lib.hid (show x.length = l.length by rw [← hx]; exact turn_len l)
        have Hzx := Lib.hid (show turnOf z = x by rw [← hz, ← hx]; exact turn_rot l hk)
        have Hxx := Lib.hid (show turnOf x = x by rw [← hx]; exact turn_turn l)
        obtain ⟨b1, hb1⟩ : ∃ b, closedB l = b := ⟨_, rfl⟩
        obtain ⟨b2, hb2⟩ : ∃ b, simpleB l = b := ⟨_, rfl⟩
        obtain ⟨b3, hb3⟩ : ∃ b, maskOf l = b := ⟨_, rfl⟩
        obtain ⟨s, hs⟩ : ∃ s, ddE l = s := ⟨_, rfl⟩
        have Hb1 := Lib.hid hb1
        have Hb2 := Lib.hid hb2
        have Hb3 := Lib.hid hb3
        have Hs := Lib.hid hs
        have Hc1 := Lib.hid (show closedB x = b1 by rw [← hx, turn_closed, hb1])
        have Hc2 := Lib.hid (show simpleB x = b2 by rw [← hx, perm_simple (turn_perm l), hb2])
        have Hc3 := Lib.hid (show maskOf x = b3 by rw [← hx, perm_mask (turn_perm l), hb3])
        have Hcs := Lib.hid (show ddE x = s by rw [← hx, ddE_perm (turn_perm l), hs])
        have Hls := Lib.hid (show lessB l x = false by rw [← hx]; exact turn_less l)
        have hsl : s.length ≤ l.length := by rw [← hs]; exact ddE_len l
        clear hx hz hb1 hb2 hb3 hs
        have e1 : (b1 == b1) = true := beq_self_eq_true _
        have e2 : (b2 == b2) = true := beq_self_eq_true _
        have e3 : (b3 == b3) = true := beq_self_eq_true _
        have e4 : ((l.length : Int) == (l.length : Int)) = true := beq_self_eq_true _
        have hll : l.length ≤ 1000000 := by omega
        have hxl : Hid (x.length ≤ 1000000) := Lib.hid (by rw [Hxl.out]; exact hll)
        have hzl : Hid (z.length ≤ 1000000) := Lib.hid (by rw [Hzl.out]; exact hll)
        go_enter Try.func7, Try.ntmps7
        go_wp2_with fail
        refine (L.out _).mono ?_
        rintro e w0 ⟨rfl, hu1⟩
        have gl := h.upd hu1 (fun _ _ => id)
        go_wp2_with fail
        refine (turnC ⟨_, gl⟩ hll hc rfl Hx.out).mono ?_
        rintro e w1 ⟨A1, c1, rfl, hc1, gx, hu⟩
        replace hu1 := hu1.trans hu
        replace gl := h.upd hu1 (fun _ _ => id)
        clear hu
        go_wp2_with fail
        refine (rbegunV gl hll hc (Nat.le_of_lt hk) Hz.out).mono ?_
        rintro e w2 ⟨A2, c2, rfl, hc2, gz, hu⟩
        replace hu1 := hu1.trans hu
        replace gx := gx.upd hu
        clear hu
        go_wp2_with fail
        refine (turnC gz hzl.out hc2 Hzl.out Hzx.out).mono ?_
        rintro e w3 ⟨A3, c3, rfl, hc3, gy, hu⟩
        replace hu1 := hu1.trans hu
        replace gx := gx.upd hu
        clear hu
        clear gz
        go_wp2_with fail
        refine (turnC gx hxl.out hc1 Hxl.out Hxx.out).mono ?_
        rintro e w4 ⟨A4, c4, rfl, hc4, g4, hu⟩
        replace gy := gy.upd hu
        replace hu1 := hu1.trans hu
        replace gx := gx.upd hu
        clear hu
        go_wp2_with fail
        refine (sameV (v := true) g4 gx hxl.out hxl.out Hxl.out Hxl.out (beq_self_eq_true _)).mono ?_
        rintro e w5 ⟨rfl, hu⟩
        replace gy := gy.upd hu
        replace hu1 := hu1.trans hu
        replace gx := gx.upd hu
        clear hu
        clear g4
        go_wp2_with fail
        refine (sameV (v := true) gx gy hxl.out hxl.out Hxl.out Hxl.out (beq_self_eq_true _)).mono ?_
        rintro e w6 ⟨rfl, hu⟩
        replace hu1 := hu1.trans hu
        replace gx := gx.upd hu
        clear hu
        clear gy
        go_wp2_with fail
        refine (closedV gx hxl.out Hxl.out Hc1.out).mono ?_
        rintro e w7 ⟨rfl, hu⟩
        replace hu1 := hu1.trans hu
        replace gx := gx.upd hu
        clear hu
        replace gl := h.upd hu1 (fun _ _ => id)
        go_wp2_with fail
        refine (closedV ⟨_, gl⟩ hll rfl Hb1.out).mono ?_
        rintro e w8 ⟨rfl, hu⟩
        replace hu1 := hu1.trans hu
        replace gx := gx.upd hu
        clear hu
        go_wp2_with fail
        refine (simpleV gx hxl.out Hxl.out Hc2.out).mono ?_
        rintro e w9 ⟨rfl, hu⟩
        replace hu1 := hu1.trans hu
        replace gx := gx.upd hu
        clear hu
        replace gl := h.upd hu1 (fun _ _ => id)
        go_wp2_with fail
        refine (simpleV ⟨_, gl⟩ hll rfl Hb2.out).mono ?_
        rintro e w10 ⟨rfl, hu⟩
        replace hu1 := hu1.trans hu
        replace gx := gx.upd hu
        clear hu
        go_wp2_with fail
        refine (maskV gx hxl.out Hxl.out Hc3.out).mono ?_
        rintro e w11 ⟨rfl, hu⟩
        replace hu1 := hu1.trans hu
        replace gx := gx.upd hu
        clear hu
        replace gl := h.upd hu1 (fun _ _ => id)
        go_wp2_with fail
        refine (maskV ⟨_, gl⟩ hll rfl Hb3.out).mono ?_
        rintro e w12 ⟨rfl, hu⟩
        replace hu1 := hu1.trans hu
        replace gx := gx.upd hu
        clear hu
        replace gl := h.upd hu1 (fun _ _ => id)
        go_wp2_with fail
        refine (lessV ⟨_, gl⟩ gx hll rfl Hxl.out Hls.out).mono ?_
        rintro e w13 ⟨rfl, hu⟩
        replace hu1 := hu1.trans hu
        replace gx := gx.upd hu
        clear hu
        go_wp2_with fail
        refine (psortV gx hxl.out Hxl.out Hcs.out).mono ?_
        rintro e w14 ⟨A5, c5, rfl, g5, hu⟩
        replace hu1 := hu1.trans hu
        replace gx := gx.upd hu
        clear hu
        replace gl := h.upd hu1 (fun _ _ => id)
        go_wp2_with fail
        refine (psortV ⟨_, gl⟩ hll rfl Hs.out).mono ?_
        rintro e w15 ⟨A6, c6, rfl, g6, hu⟩
        replace g5 := g5.upd hu
        replace hu1 := hu1.trans hu
        replace gx := gx.upd hu
        clear hu
        go_wp2_with fail
        refine (rsameV (v := true) g5 g6 (by omega) (by omega) rfl rfl (beq_self_eq_true _)).mono ?_
        rintro e w16 ⟨rfl, hu⟩
        replace hu1 := hu1.trans hu
        replace gx := gx.upd hu
        clear hu
        go_wp2
        go_ret
        exact ⟨rfl, hu1⟩
end Go.Proofs.Ytgakhpdclhlmpaa
