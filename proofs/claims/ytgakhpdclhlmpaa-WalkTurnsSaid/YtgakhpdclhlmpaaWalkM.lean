/- Walks: the law that they are told as the document says, walked. -/
import Derived.Test.YtgakhpdclhlmpaaWalkV
namespace Go.Proofs.Ytgakhpdclhlmpaa
set_option linter.unusedVariables false
open Go.RowKit
section
variable {F G : Nat → Prop} {w : World} {A B : Option Addr} {c d n m : Nat} {l k : List Edge}
theorem rclosedV {v : Bool} (h : Walk F w A l) (hl : l.length ≤ 1000000) (hv : closedB l = v) : Calls Try.prog 16 #[.slice A l.length c] w fun e w' => e = .returned (.bool v) ∧ Upd No w w' := by subst hv; exact rclosed F w A c l h hl
theorem rsimpleV {v : Bool} (h : Walk F w A l) (hl : l.length ≤ 1000000) (hc : l.length ≤ c) (hv : simpleB l = v) : Calls Try.prog 18 #[.slice A l.length c] w fun e w' => e = .returned (.bool v) ∧ Upd No w w' := by subst hv; exact rsimple F w A c l h hl hc
theorem rmaskV {v : Int} (h : Walk F w A l) (hl : l.length ≤ 1000000) (hv : maskOf l = v) : Calls Try.prog 20 #[.slice A l.length c] w fun e w' => e = .returned (.int .i64 v) ∧ Upd No w w' := by subst hv; exact rmask F w A c l h hl
theorem rtextV {v : ByteArray} (h : Walk F w A l) (hl : l.length ≤ 1000000) (hok : ∀ e ∈ l, e.ok) (hv : (⟨(textF l l.length).toArray⟩ : ByteArray) = v) : Calls Try.prog 28 #[.slice A l.length c] w fun e w' => e = .returned (.string v) ∧ Upd No w w' := by subst hv; exact rtext F w A c l h hl hok
theorem rlessV {v : Bool} (h : Walk F w A l) (hk : Walk G w B k) (hl : l.length ≤ 1000000) (hv : lessB l k = v) : Calls Try.prog 22 #[.slice A l.length c, .slice B k.length d] w fun e w' => e = .returned (.bool v) ∧ Upd No w w' := by subst hv; exact rwless F G w A B c d l k h hk hl
theorem rsameV {v : Bool} (h : WalkX w A l) (hk : WalkX w B k) (hl : l.length ≤ 1000000) (hl2 : k.length ≤ 1000000) (hn : l.length = n) (hm : k.length = m) (hv : (l == k) = v) : Calls Try.prog 24 #[.slice A n c, .slice B m d] w fun e w' => e = .returned (.bool v) ∧ Upd No w w' := by subst hn hm hv; obtain ⟨F, h⟩ := h; obtain ⟨G, hk⟩ := hk; exact sameedges w F G A B c d l k h hk (by omega) (by omega)
theorem rturnV {t : List Edge} (h : Walk F w A l) (hl : l.length ≤ 1000000) (hc : l.length ≤ c) (hv : turnOf l = t) : Calls Try.prog 26 #[.slice A l.length c] w (Turned w t l.length) := by
  subst hv
  refine (rturn F w A c l h hl hc).mono ?_
  rintro e w' ⟨A', c', rfl, ho, hu⟩
  refine ⟨A', c', rfl, ⟨_, Walk.of_new (w := w) (l := turnOf l) (c := c') ?_⟩, hu⟩
  rw [turn_len]; exact ho
end
set_option maxRecDepth 100000 in
set_option maxHeartbeats 4000000 in
theorem tells28 (F G : Nat → Prop) (w : World) (A B : Option Addr) (c d : Nat) (l m : List Edge) (h : Walk F w A l) (hm : Walk G w B m) (hc : l.length ≤ c) (hd : l.length ≤ 4398046511103) (hd2 : m.length ≤ 4398046511103) (hok : ∀ e ∈ l, e.ok)
    (L : Hid (∀ w, Calls Try.prog 14 #[] w fun e w' => e = .returned (.bool true) ∧ Upd No w w')) :
    Calls Try.prog 3 #[.slice A l.length c, .slice B m.length d] w fun e w' => e = .returned (.bool true) ∧ Upd No w w' := by
  by_cases h1 : 60 < l.length
  · go_enter Try.func3, Try.ntmps3
    go_wp2_with fail
    refine (L.out _).mono ?_
    rintro e w1 ⟨rfl, hu⟩
    go_wp2
    go_ret
    exact ⟨rfl, hu⟩
  · by_cases h2 : 60 < m.length
    · go_enter Try.func3, Try.ntmps3
      go_wp2_with fail
      refine (L.out _).mono ?_
      rintro e w1 ⟨rfl, hu⟩
      go_wp2
      go_ret
      exact ⟨rfl, hu⟩
    · obtain ⟨x1, hx1⟩ : ∃ x, closedB l = x := ⟨_, rfl⟩
      obtain ⟨x2, hx2⟩ : ∃ x, simpleB l = x := ⟨_, rfl⟩
      obtain ⟨x3, hx3⟩ : ∃ x, maskOf l = x := ⟨_, rfl⟩
      obtain ⟨x4, hx4⟩ : ∃ x, lessB l m = x := ⟨_, rfl⟩
      obtain ⟨x5, hx5⟩ : ∃ x, (l == m) = x := ⟨_, rfl⟩
      obtain ⟨x6, hx6⟩ : ∃ x, turnOf l = x := ⟨_, rfl⟩
      obtain ⟨x7, hx7⟩ : ∃ x : ByteArray, ⟨(textF l l.length).toArray⟩ = x := ⟨_, rfl⟩
      have hn6 := Lib.hid (show x6.length = l.length by rw [← hx6]; exact turn_len l)
      have H1 := Lib.hid hx1
      have H2 := Lib.hid hx2
      have H3 := Lib.hid hx3
      have H4 := Lib.hid hx4
      have H5 := Lib.hid hx5
      have H6 := Lib.hid hx6
      have H7 := Lib.hid hx7
      clear hx1 hx2 hx3 hx4 hx5 hx6 hx7
      have e1 : (x1 == x1) = true := beq_self_eq_true _
      have e2 : (x2 == x2) = true := beq_self_eq_true _
      have e3 : (x3 == x3) = true := beq_self_eq_true _
      have e4 : (x4 == x4) = true := beq_self_eq_true _
      have e5 : (x5 == x5) = true := beq_self_eq_true _
      have e7 : decide (x7.data = x7.data) = true := by simp
      have hll : l.length ≤ 1000000 := by omega
      have hlm : m.length ≤ 1000000 := by omega
      go_enter Try.func3, Try.ntmps3
      go_wp2_with fail
      refine (closedV ⟨_, h⟩ hll rfl H1.out).mono ?_
      rintro e w1 ⟨rfl, hu1⟩
      have g1 := h.upd hu1 (fun _ _ => id)
      go_wp2_with fail
      refine (rclosedV g1 hll H1.out).mono ?_
      rintro e w2 ⟨rfl, hu⟩
      replace hu1 := hu1.trans hu
      replace g1 := h.upd hu1 (fun _ _ => id)
      clear hu
      go_wp2_with fail
      refine (simpleV ⟨_, g1⟩ hll rfl H2.out).mono ?_
      rintro e w3 ⟨rfl, hu⟩
      replace hu1 := hu1.trans hu
      replace g1 := h.upd hu1 (fun _ _ => id)
      clear hu
      go_wp2_with fail
      refine (rsimpleV g1 hll hc H2.out).mono ?_
      rintro e w4 ⟨rfl, hu⟩
      replace hu1 := hu1.trans hu
      replace g1 := h.upd hu1 (fun _ _ => id)
      clear hu
      go_wp2_with fail
      refine (maskV ⟨_, g1⟩ hll rfl H3.out).mono ?_
      rintro e w5 ⟨rfl, hu⟩
      replace hu1 := hu1.trans hu
      replace g1 := h.upd hu1 (fun _ _ => id)
      clear hu
      go_wp2_with fail
      refine (rmaskV g1 hll H3.out).mono ?_
      rintro e w6 ⟨rfl, hu⟩
      replace hu1 := hu1.trans hu
      replace g1 := h.upd hu1 (fun _ _ => id)
      have g2 := hm.upd hu1 (fun _ _ => id)
      clear hu
      go_wp2_with fail
      refine (lessV ⟨_, g1⟩ ⟨_, g2⟩ hll rfl rfl H4.out).mono ?_
      rintro e w7 ⟨rfl, hu⟩
      replace hu1 := hu1.trans hu
      replace g1 := h.upd hu1 (fun _ _ => id)
      replace g2 := hm.upd hu1 (fun _ _ => id)
      clear hu
      go_wp2_with fail
      refine (rlessV g1 g2 hll H4.out).mono ?_
      rintro e w8 ⟨rfl, hu⟩
      replace hu1 := hu1.trans hu
      replace g1 := h.upd hu1 (fun _ _ => id)
      replace g2 := hm.upd hu1 (fun _ _ => id)
      clear hu
      go_wp2_with fail
      refine (sameV ⟨_, g1⟩ ⟨_, g2⟩ hll hlm rfl rfl H5.out).mono ?_
      rintro e w9 ⟨rfl, hu⟩
      replace hu1 := hu1.trans hu
      replace g1 := h.upd hu1 (fun _ _ => id)
      replace g2 := hm.upd hu1 (fun _ _ => id)
      clear hu
      go_wp2_with fail
      refine (rsameV ⟨_, g1⟩ ⟨_, g2⟩ hll hlm rfl rfl H5.out).mono ?_
      rintro e w10 ⟨rfl, hu⟩
      replace hu1 := hu1.trans hu
      replace g1 := h.upd hu1 (fun _ _ => id)
      clear hu g2
      go_wp2_with fail
      refine (turnV ⟨_, g1⟩ hll hc rfl H6.out).mono ?_
      rintro e w11 ⟨A1, c1, rfl, t1, hu⟩
      replace hu1 := hu1.trans hu
      replace g1 := h.upd hu1 (fun _ _ => id)
      clear hu
      go_wp2_with fail
      refine (rturnV g1 hll hc H6.out).mono ?_
      rintro e w12 ⟨A2, c2, rfl, t2, hu⟩
      replace hu1 := hu1.trans hu
      replace g1 := h.upd hu1 (fun _ _ => id)
      replace t1 := t1.upd hu
      clear hu
      go_wp2_with fail
      refine (rsameV (v := true) t1 t2 (by rw [hn6.out]; exact hll) (by rw [hn6.out]; exact hll) hn6.out hn6.out (beq_self_eq_true _)).mono ?_
      rintro e w13 ⟨rfl, hu⟩
      replace hu1 := hu1.trans hu
      replace g1 := h.upd hu1 (fun _ _ => id)
      clear hu t1 t2
      go_wp2_with fail
      refine (textV ⟨_, g1⟩ hll hok rfl H7.out).mono ?_
      rintro e w14 ⟨rfl, hu⟩
      replace hu1 := hu1.trans hu
      replace g1 := h.upd hu1 (fun _ _ => id)
      clear hu
      go_wp2_with fail
      refine (rtextV g1 hll hok H7.out).mono ?_
      rintro e w15 ⟨rfl, hu⟩
      replace hu1 := hu1.trans hu
      clear hu g1
      go_wp2_with fail
      refine (L.out _).mono ?_
      rintro e w16 ⟨rfl, hu⟩
      go_wp2
      go_ret
      exact ⟨rfl, hu1.trans hu⟩
end Go.Proofs.Ytgakhpdclhlmpaa
