/- Looking at a history: the last version; the next one; reads that count. -/
import Derived.Test.YtgakhpdclhlmpaaChkA
namespace Go.Proofs.Ytgakhpdclhlmpaa
set_option linter.unusedVariables false
open Go.RowKit
theorem orderOf_le {F : Nat → Prop} {w : World} {h : Hist} (H : h.lies F w) (key : Int) : (orderOf h.ords key).length ≤ 17592186044415 := by
  unfold orderOf
  cases hp : h.ords[posO h.ords key]? with
  | none => simp
  | some o => exact (H.ord o (List.mem_of_getElem? hp)).2.2.1
set_option maxRecDepth 100000 in
set_option maxHeartbeats 2000000 in
theorem cnext (F : Nat → Prop) (w : World) (txs : List HTx) (ords : List HOrd) (A : Option Addr) (c : Nat) (B : Option Addr) (d : Nat) (key x y : Int) (H : Hist.lies F w ⟨txs, ords, A, c, B, d⟩) :
    Calls Try.prog 185 #[.agg #[.slice A txs.length c, .slice B ords.length d], .int .i64 key, .int .i64 x, .int .i64 y] w fun e w' => e = .returned (.bool (nextB ords key x y)) ∧ Upd No w w' := by
  have u0 := (Upd.refl No w).alloc (.cells #[.slice A txs.length c, .slice B ords.length d] 159)
  have H0 := H.upd u0 (fun _ _ => id)
  have hol := orderOf_le H key
  have ho := hord F _ ⟨txs, ords, A, c, B, d⟩ key H0
  obtain ⟨l, hl⟩ : ∃ l, orderOf ords key = l := ⟨_, rfl⟩
  rw [show orderOf (Hist.ords ⟨txs, ords, A, c, B, d⟩) key = l from hl] at ho hol
  have HO := Lib.hid ho
  have HV := Lib.hid (show nextB ords key x y = (nextI l x == some y) by unfold nextB; rw [hl])
  have Hol := Lib.hid hol
  clear hl ho hol H0
  go_enter Try.func185, Try.ntmps185
  go_wp2_with fail
  refine (HO.out).mono ?_
  rintro e w1 ⟨A1, c1, rfl, ho1, hu1⟩
  have hI := Ints.of_owned ho1
  have hn := onext _ w1 A1 c1 l x hI Hol.out
  unfold Nexted at hn
  have HU := Lib.hid (u0.trans hu1)
  clear u0 hu1 ho1 hI
  cases hx : nextI l x with
  | none =>
    rw [hx] at hn
    have HN := Lib.hid hn
    have HV2 := Lib.hid (show nextB ords key x y = false by rw [HV.out, hx]; rfl)
    clear hx hn
    go_wp2_with fail
    refine (HN.out).mono ?_
    rintro e w2 ⟨rfl, hu2⟩
    go_wp2
    go_ret
    exact ⟨by rw [HV2.out]; rfl, HU.out.trans hu2⟩
  | some z =>
    rw [hx] at hn
    have HN := Lib.hid hn
    have HV2 := Lib.hid (show nextB ords key x y = (z == y) by rw [HV.out, hx]; rfl)
    clear hx hn
    go_wp2_with fail
    refine (HN.out).mono ?_
    rintro e w2 ⟨rfl, hu2⟩
    go_wp2
    go_ret
    exact ⟨by rw [HV2.out]; rfl, HU.out.trans hu2⟩
theorem lastB_none {txs : List HTx} {v : Ver} (h : v.tx ≠ 0) (hd : doneT txs v.tx = none) : lastB txs v = false := by unfold lastB; rw [if_neg h, hd]
theorem lastB_some {txs : List HTx} {v : Ver} {t : HTx} (h : v.tx ≠ 0) (hd : doneT txs v.tx = some t) : lastB txs v = (v.nth == (writesN t.ops v.key : Int)) := by unfold lastB; rw [if_neg h, hd]
set_option maxRecDepth 100000 in
set_option maxHeartbeats 2000000 in
theorem clast (F : Nat → Prop) (w : World) (txs : List HTx) (ords : List HOrd) (A : Option Addr) (c : Nat) (B : Option Addr) (d : Nat) (v : Ver) (H : Hist.lies F w ⟨txs, ords, A, c, B, d⟩) :
    Calls Try.prog 188 #[.agg #[.slice A txs.length c, .slice B ords.length d], .agg v.cells.toArray] w fun e w' => e = .returned (.bool (lastB txs v)) ∧ Upd No w w' := by
  obtain ⟨tx, key, nth⟩ := v
  unfold Ver.cells
  have u0 := ((Upd.refl No w).alloc (.cells #[.slice A txs.length c, .slice B ords.length d] 159)).alloc (.cells #[.int .i64 tx, .int .i64 key, .int .i64 nth] 34)
  by_cases h0 : tx = 0
  · have hv := Lib.hid (show lastB txs ⟨tx, key, nth⟩ = true by unfold lastB; rw [if_pos h0])
    subst h0
    go_enter Try.func188, Try.ntmps188
    go_wp2
    go_ret
    exact ⟨by rw [hv.out]; rfl, u0⟩
  · have h0b : (tx == 0) = false := by simpa using h0
    have b1 := Blk.new (w.alloc (.cells #[.slice A txs.length c, .slice B ords.length d] 159)) 34 [.int .i64 tx, .int .i64 key, .int .i64 nth]
    simp only [World.size_alloc] at b1
    have B1 := Lib.hid b1
    have ha := Lib.hid (cask F _ txs ords A c B d tx (H.upd u0 (fun _ _ => id)))
    have H0' := Lib.hid h0
    clear h0 b1
    go_enter Try.func188, Try.ntmps188
    go_wp2_with fail
    refine (ha.out).mono ?_
    rintro e w1 ⟨x, b, dn, A1, l, c1, rfl, hc1, hfew, hh1, hm, hu1⟩
    have bv := Lib.hid ((B1.out.upd hu1 id).alloc (.cells #[.int .i64 x, .bool dn, .slice A1 l.length c1] 41))
    have bt := Lib.hid (Blk.new w1 41 [.int .i64 x, .bool dn, .slice A1 l.length c1])
    have hh2 := Lib.hid (HOps.upd hh1 ((Upd.refl No w1).alloc (.cells #[.int .i64 x, .bool dn, .slice A1 l.length c1] 41)).drew (fun _ _ => id))
    have UU := Lib.hid ((u0.trans hu1).alloc (.cells #[.int .i64 x, .bool dn, .slice A1 l.length c1] 41))
    have Hfew := Lib.hid hfew
    have g0 := bv.out.cell 0
    have g1 := bv.out.cell 1
    have g2 := bv.out.cell 2
    have k0 := bt.out.cell 0
    have k1 := bt.out.cell 1
    have k2 := bt.out.cell 2
    simp only [List.getElem?_cons_zero, List.getElem?_cons_succ] at g0 g1 g2 k0 k1 k2
    clear hh1 hfew u0 hu1
    cases hd : doneT txs tx with
    | none =>
      have hv := Lib.hid (show lastB txs ⟨tx, key, nth⟩ = false from lastB_none (v := ⟨tx, key, nth⟩) H0'.out hd)
      rw [hd] at hm
      subst hm
      clear hd
      go_wp2
      go_quiet (fail)
      go_wp2
      go_ret
      exact ⟨by rw [hv.out]; rfl, UU.out.drewN _⟩
    | some t =>
      have hv := Lib.hid (show lastB txs ⟨tx, key, nth⟩ = (nth == (writesN t.ops key : Int)) from lastB_some (v := ⟨tx, key, nth⟩) H0'.out hd)
      rw [hd] at hm
      obtain ⟨rfl, rfl, rfl⟩ := hm
      clear hd
      go_wp2
      refine wp_region_noPanic ?_
      refine wp_region_held_drew (S := (fun w' => Upd No w w' ∧ w'.cell? ⟨w.heap.size + 1, 0, none⟩ = some (.int .i64 tx) ∧ w'.cell? ⟨w.heap.size + 1, 1, none⟩ = some (.int .i64 key) ∧ w'.cell? ⟨w.heap.size + 1, 2, none⟩ = some (.int .i64 nth) ∧ w'.cell? ⟨w1.heap.size, 0, none⟩ = some (.int .i64 t.id) ∧ w'.cell? ⟨w1.heap.size, 1, none⟩ = some (.bool dn) ∧ w'.cell? ⟨w1.heap.size, 2, none⟩ = some (.slice A1 t.ops.length c1))) (by kernel_rfl) ?_ (fun hHeld => ?_)
      · (first | exact ⟨UU.out.drew, g0, g1, g2, k0, k1, k2⟩ | exact ⟨hHeld.1.trans hu3, hu3.keepNo hHeld.2.1, hu3.keepNo hHeld.2.2.1, hu3.keepNo hHeld.2.2.2.1, hu3.keepNo hHeld.2.2.2.2.1, hu3.keepNo hHeld.2.2.2.2.2.1, hu3.keepNo hHeld.2.2.2.2.2.2⟩)
      refine wpAnyH_take (i := 0) (oi := { dst := some 17, op := Go.Op.move (Go.Operand.tmp 6), type := 4, pos := "check.go:29", after := #[], guard := none }) (v := ?_) rfl (by kernel_rfl) (by kernel_rfl) (by kernel_rfl) (fun _ _ _ h => h) (Or.inl ⟨by rfl, ?_⟩) (by assumption) ?_
      rotate_left
      · (intro W hSw; (try dsimp only at hSw); go_simp; try (with_reducible rfl))
      try simp only [Act.put, List.setIfInBounds_toArray, List.set_cons_zero, List.set_cons_succ]
      refine wpAnyH_take (i := 1) (oi := { dst := some 18, op := Go.Op.move (Go.Operand.tmp 17), type := 4, pos := "check.go:29", after := #[{ on := 0, ground := Go.Ground.data }], guard := none }) (v := ?_) rfl (by kernel_rfl) (by kernel_rfl) (by kernel_rfl) (fun _ _ _ h => h) (Or.inl ⟨by rfl, ?_⟩) (by assumption) ?_
      rotate_left
      · (intro W hSw; (try dsimp only at hSw); go_simp; try (with_reducible rfl))
      try simp only [Act.put, List.setIfInBounds_toArray, List.set_cons_zero, List.set_cons_succ]
      refine wpAnyH_take (i := 2) (oi := { dst := some 19, op := Go.Op.fieldAddr 34 (Go.Operand.tmp 3) 2, type := 0, pos := "check.go:29", after := #[{ on := 1, ground := Go.Ground.guard }], guard := some (1, true) }) (v := ?_) rfl (by kernel_rfl) (by kernel_rfl) (by kernel_rfl) (fun _ _ _ h => h) (Or.inl ⟨by rfl, ?_⟩) (by assumption) ?_
      rotate_left
      · (intro W hSw; (try dsimp only at hSw); go_simp; try (with_reducible rfl))
      try simp only [Act.put, List.setIfInBounds_toArray, List.set_cons_zero, List.set_cons_succ]
      refine wpAnyH_take (i := 3) (oi := { dst := some 20, op := Go.Op.load 3 (Go.Operand.tmp 19), type := 3, pos := "check.go:29", after := #[{ on := 2, ground := Go.Ground.data }, { on := 1, ground := Go.Ground.guard }], guard := some (1, true) }) (v := ?_) rfl (by kernel_rfl) (by kernel_rfl) (by kernel_rfl) (fun _ _ _ h => h) (Or.inl ⟨by rfl, ?_⟩) (by assumption) ?_
      rotate_left
      · (intro W hSw; (try dsimp only at hSw); go_simp; try (with_reducible rfl))
      try simp only [Act.put, List.setIfInBounds_toArray, List.set_cons_zero, List.set_cons_succ]
      refine wpAnyH_take (i := 4) (oi := { dst := some 21, op := Go.Op.load 41 (Go.Operand.tmp 5), type := 41, pos := "check.go:29", after := #[{ on := 1, ground := Go.Ground.guard }], guard := some (1, true) }) (v := ?_) rfl (by kernel_rfl) (by kernel_rfl) (by kernel_rfl) (fun _ _ _ h => h) (Or.inl ⟨by rfl, ?_⟩) (by assumption) ?_
      rotate_left
      · (intro W hSw; (try dsimp only at hSw); go_simp; try (with_reducible rfl))
      try simp only [Act.put, List.setIfInBounds_toArray, List.set_cons_zero, List.set_cons_succ]
      refine wpAnyH_take (i := 5) (oi := { dst := some 22, op := Go.Op.fieldAddr 34 (Go.Operand.tmp 3) 1, type := 0, pos := "check.go:29", after := #[{ on := 1, ground := Go.Ground.guard }], guard := some (1, true) }) (v := ?_) rfl (by kernel_rfl) (by kernel_rfl) (by kernel_rfl) (fun _ _ _ h => h) (Or.inl ⟨by rfl, ?_⟩) (by assumption) ?_
      rotate_left
      · (intro W hSw; (try dsimp only at hSw); go_simp; try (with_reducible rfl))
      try simp only [Act.put, List.setIfInBounds_toArray, List.set_cons_zero, List.set_cons_succ]
      refine wpAnyH_take (i := 6) (oi := { dst := some 23, op := Go.Op.load 3 (Go.Operand.tmp 22), type := 3, pos := "check.go:29", after := #[{ on := 5, ground := Go.Ground.data }, { on := 1, ground := Go.Ground.guard }], guard := some (1, true) }) (v := ?_) rfl (by kernel_rfl) (by kernel_rfl) (by kernel_rfl) (fun _ _ _ h => h) (Or.inl ⟨by rfl, ?_⟩) (by assumption) ?_
      rotate_left
      · (intro W hSw; (try dsimp only at hSw); go_simp; try (with_reducible rfl))
      try simp only [Act.put, List.setIfInBounds_toArray, List.set_cons_zero, List.set_cons_succ]
      refine wpAnyH_ready (rs := [7]) (by kernel_rfl) (by simp) ?_
      refine AllReadyH.cons (o := { dst := some 24, op := Go.Op.call { callee := Go.Callee.value (Go.Operand.func 184), args := #[Go.Operand.tmp 21, Go.Operand.tmp 23], argTypes := #[41, 3] }, type := 3, pos := "check.go:29", after := #[{ on := 4, ground := Go.Ground.data }, { on := 6, ground := Go.Ground.data }, { on := 1, ground := Go.Ground.chain }, { on := 1, ground := Go.Ground.guard }], guard := some (1, true) }) rfl (fun K hK => ?_) AllReadyH.nil
      go_simp
      (first
    | (go_at_call 184; refine (pwrites _ _ t.id dn A1 c1 t.ops key hh2.out Hfew.out).mono ?_; rintro e w3 ⟨rfl, hu3⟩))
      try (go_wp2_with fail)
      refine hK.out _ _ ?_ (fun hHeld => ?_)
      · (first | exact ⟨UU.out.drew, g0, g1, g2, k0, k1, k2⟩ | exact ⟨hHeld.1.trans hu3, hu3.keepNo hHeld.2.1, hu3.keepNo hHeld.2.2.1, hu3.keepNo hHeld.2.2.2.1, hu3.keepNo hHeld.2.2.2.2.1, hu3.keepNo hHeld.2.2.2.2.2.1, hu3.keepNo hHeld.2.2.2.2.2.2⟩)
      clear hK K
      try simp only [Act.put, List.setIfInBounds_toArray, List.set_cons_zero, List.set_cons_succ]
      refine wpAnyH_take (i := 8) (oi := { dst := some 25, op := Go.Op.binOp Go.BinOp.eql 3 (Go.Operand.tmp 20) (Go.Operand.tmp 24) 3, type := 4, pos := "check.go:29", after := #[{ on := 3, ground := Go.Ground.data }, { on := 7, ground := Go.Ground.data }, { on := 1, ground := Go.Ground.guard }], guard := some (1, true) }) (v := ?_) rfl (by kernel_rfl) (by kernel_rfl) (by kernel_rfl) (fun _ _ _ h => h) (Or.inl ⟨by rfl, ?_⟩) (by assumption) ?_
      rotate_left
      · (intro W hSw; (try dsimp only at hSw); go_simp; try (with_reducible rfl))
      try simp only [Act.put, List.setIfInBounds_toArray, List.set_cons_zero, List.set_cons_succ]
      refine wpAnyH_take (i := 9) (oi := { dst := some 26, op := Go.Op.pick (Go.Operand.tmp 18) (Go.Operand.tmp 25) (Go.Operand.const (Go.Value.bool false)), type := 4, pos := "check.go:29", after := #[{ on := 1, ground := Go.Ground.data }, { on := 8, ground := Go.Ground.data }], guard := none }) (v := ?_) rfl (by kernel_rfl) (by kernel_rfl) (by kernel_rfl) (fun _ _ _ h => h) (Or.inl ⟨by rfl, ?_⟩) (by assumption) ?_
      rotate_left
      · (intro W hSw; (try dsimp only at hSw); go_simp; try (with_reducible rfl))
      try simp only [Act.put, List.setIfInBounds_toArray, List.set_cons_zero, List.set_cons_succ]
      refine wpAnyH_take (i := 10) (oi := { dst := some 4, op := Go.Op.assign (Go.Operand.tmp 26), type := 4, pos := "check.go:29", after := #[{ on := 9, ground := Go.Ground.data }, { on := 7, ground := Go.Ground.chain }, { on := 0, ground := Go.Ground.phase }, { on := 1, ground := Go.Ground.phase }, { on := 2, ground := Go.Ground.phase }, { on := 3, ground := Go.Ground.phase }, { on := 4, ground := Go.Ground.phase }, { on := 5, ground := Go.Ground.phase }, { on := 6, ground := Go.Ground.phase }, { on := 7, ground := Go.Ground.phase }, { on := 8, ground := Go.Ground.phase }, { on := 9, ground := Go.Ground.phase }], guard := none }) (v := ?_) rfl (by kernel_rfl) (by kernel_rfl) (by kernel_rfl) (fun _ _ _ h => h) (Or.inl ⟨by rfl, ?_⟩) (by assumption) ?_
      rotate_left
      · (intro W hSw; (try dsimp only at hSw); go_simp; try (with_reducible rfl))
      try simp only [Act.put, List.setIfInBounds_toArray, List.set_cons_zero, List.set_cons_succ]
      refine wpAnyH_done (by kernel_rfl) (NoPanic.normal ?_) _
      have HU := Lib.hid hHeld.1
      clear hHeld
      go_wp2
      go_ret
      exact ⟨by rw [hv.out]; rfl, HU.out⟩
theorem reads_no {id : Int} {l : List HOp} {key : Int} {cnt : Ver → Bool} (h : ∀ (j : Nat) (hj : j < l.length), (l[j].read && l[j].key == key && !(l[j].tx == id) && cnt (verOf l[j])) = false) : readsB id l key cnt = false := by
  unfold readsB
  rw [List.any_eq_false]
  intro x hx
  obtain ⟨k, hk, rfl⟩ := List.mem_iff_getElem.1 hx
  rw [h k hk]
  simp
theorem reads_yes {id : Int} {l : List HOp} {key : Int} {cnt : Ver → Bool} {k : Nat} (hk : k < l.length) (h : (l[k].read && l[k].key == key && !(l[k].tx == id) && cnt (verOf l[k])) = true) : readsB id l key cnt = true := by
  unfold readsB
  rw [List.any_eq_true]
  exact ⟨l[k], List.getElem_mem hk, h⟩
/-- does the operation count -/
def cntB (id key : Int) (cnt : Ver → Bool) (o : HOp) : Bool := o.read && o.key == key && !(o.tx == id) && cnt (verOf o)
set_option maxRecDepth 100000 in
set_option maxHeartbeats 2000000 in
theorem creads1 (F : Nat → Prop) (w : World) (i0 : Int) (dn : Bool) (A : Option Addr) (c : Nat) (l : List HOp) (key : Int) (p1 p2 : Addr) (cnt : Ver → Bool) (h : HOps F w A l) (hl : fewOps l.length)
    (hc : Hid (∀ W v, Upd No w W → Calls Try.prog 187 #[.agg v.cells.toArray, .pointer (some p1), .pointer (some p2)] W fun e w' => e = .returned (.bool (cnt v)) ∧ Upd No W w')) :
    Calls Try.prog 186 #[.agg #[.int .i64 i0, .bool dn, .slice A l.length c], .int .i64 key, .func (.func 187) #[] #[.pointer (some p1), .pointer (some p2)]] w fun e w' => e = .returned (.bool (readsB i0 l key cnt)) ∧ Upd No w w' := by
  unfold fewOps at hl
  have uT := (Upd.refl No w).alloc (.cells #[.int .i64 i0, .bool dn, .slice A l.length c] 41)
  have bT := Lib.hid (Blk.new w 41 [.int .i64 i0, .bool dn, .slice A l.length c])
  go_enter Try.func186, Try.ntmps186
  go_wp2
  go_loopg [12] l.length (fun gk i wr => ∃ (k : Nat), k + gk = l.length ∧ i = .int .i64 k ∧ Hid (∀ (j : Nat) (hj : j < l.length), j < k → cntB i0 key cnt l[j] = false) ∧ Upd No (w.alloc (.cells #[.int .i64 i0, .bool dn, .slice A l.length c] 41)) wr)
  case atStart => exact ⟨0, by omega, rfl, Lib.hid (fun j _ hj => by omega), Upd.refl No _⟩
  case round =>
    obtain ⟨k, hgk, rfl, hall, hu⟩ := hrel
    by_cases hlt : k < l.length
    · obtain ⟨ad, hAd, q0, q1, q2, q3⟩ := (h.upd (uT.trans hu) (fun _ _ => id)).at_ hlt
      obtain ⟨x, hx⟩ : ∃ x, l[k] = x := ⟨_, rfl⟩
      rw [hx] at q0 q1 q2 q3
      subst hAd
      have X := Lib.hid hx
      have b1 : (0 : Int) ≤ (k : Int) := Int.natCast_nonneg _
      have b2 : (k : Int) < (l.length : Int) := by omega
      have uA := (Upd.refl No wr).alloc (.cells #[.bool x.read, .int .i64 x.key, .int .i64 x.tx, .int .i64 x.nth] 124)
      have bo := Lib.hid (Blk.new wr 124 [.bool x.read, .int .i64 x.key, .int .i64 x.tx, .int .i64 x.nth])
      have bT1 := (bT.out.upd hu id).upd uA id
      have t0 := bT1.cell 0
      simp only [List.getElem?_cons_zero] at t0
      have HU := Lib.hid (hu.trans uA)
      have NX := Lib.hid (fun (hn : cntB i0 key cnt x = false) => (fun (j : Nat) (hj : j < l.length) (hjk : j < k + 1) => (by
        by_cases e : j = k
        · subst e; rw [X.out]; exact hn
        · exact hall.out j hj (by omega) : cntB i0 key cnt l[j] = false)))
      clear hx bT1 uA
      cases hr : x.read
      · rw [hr] at q0 t0
        have HN := Lib.hid (show cntB i0 key cnt x = false by unfold cntB; rw [hr]; rfl)
        have Hr := Lib.hid hr
        have HU' := HU.out
        rw [hr] at HU'
        clear hr
        go_wp2
        go_roundg (gk - 1)
        case measure => omega
        case rel => exact ⟨k + 1, by omega, by go_num, Lib.hid (NX.out HN.out), HU'⟩
      · rw [hr] at q0 t0
        have HU' := HU.out
        rw [hr] at HU'
        have Hr := Lib.hid hr
        clear hr
        cases hk : x.key == key
        · have HN := Lib.hid (show cntB i0 key cnt x = false by unfold cntB; rw [hk, Bool.and_false]; rfl)
          go_wp2
          go_roundg (gk - 1)
          case measure => omega
          case rel => exact ⟨k + 1, by omega, by go_num, Lib.hid (NX.out HN.out), HU'⟩
        · cases ht : x.tx != i0
          · have ht2 : (x.tx == i0) = true := by simpa using ht
            have HN := Lib.hid (show cntB i0 key cnt x = false by unfold cntB; rw [ht2]; simp)
            clear ht2
            go_wp2
            go_roundg (gk - 1)
            case measure => omega
            case rel => exact ⟨k + 1, by omega, by go_num, Lib.hid (NX.out HN.out), HU'⟩
          · have ht2 : (x.tx == i0) = false := by simpa using ht
            have HC := Lib.hid (show cntB i0 key cnt x = cnt (verOf x) by unfold cntB; rw [Hr.out, hk, ht2]; rfl)
            obtain ⟨v, hv⟩ : ∃ v, verOf x = v := ⟨_, rfl⟩
            have hof := oof (wr.alloc (.cells #[.bool x.read, .int .i64 x.key, .int .i64 x.tx, .int .i64 x.nth] 124)) x
            rw [hv] at hof
            have h2 : Calls Try.prog 182 #[.agg #[.bool true, .int .i64 x.key, .int .i64 x.tx, .int .i64 x.nth]] (wr.alloc (.cells #[.bool true, .int .i64 x.key, .int .i64 x.tx, .int .i64 x.nth] 124)) fun e w' => e = .returned (.agg v.cells.toArray) ∧ Upd No (wr.alloc (.cells #[.bool true, .int .i64 x.key, .int .i64 x.tx, .int .i64 x.nth] 124)) w' := by
              have := hof
              unfold HOp.cells at this
              rwa [Hr.out] at this
            have Hof := Lib.hid h2
            have V := Lib.hid hv
            clear hof h2 hv ht2
            go_wp2_with fail
            refine (Hof.out).mono ?_
            rintro e w1 ⟨rfl, hu1⟩
            have hcc := hc.out w1 v ((uT.trans HU').trans hu1)
            cases hcv : cnt v
            · rw [hcv] at hcc
              have HCC := Lib.hid hcc
              have HN := Lib.hid (show cntB i0 key cnt x = false by rw [HC.out, V.out]; exact hcv)
              clear hcv hcc
              go_wp2_with fail
              refine (HCC.out).mono ?_
              rintro e w2 ⟨rfl, hu2⟩
              go_wp2
              go_roundg (gk - 1)
              case measure => omega
              case rel => exact ⟨k + 1, by omega, by go_num, Lib.hid (NX.out HN.out), (HU'.trans hu1).trans hu2⟩
            · rw [hcv] at hcc
              have HCC := Lib.hid hcc
              have HN := Lib.hid (show readsB i0 l key cnt = true from reads_yes hlt (by rw [X.out]; show cntB i0 key cnt x = true; rw [HC.out, V.out]; exact hcv))
              clear hcv hcc
              go_wp2_with fail
              refine (HCC.out).mono ?_
              rintro e w2 ⟨rfl, hu2⟩
              go_wp2
              go_ret
              exact ⟨by rw [HN.out]; rfl, ((uT.trans HU').trans hu1).trans hu2⟩
    · obtain rfl : k = l.length := by omega
      have HN := Lib.hid (show readsB i0 l key cnt = false from reads_no fun j hj => hall.out j hj hj)
      go_wp2
      go_ret
      exact ⟨by rw [HN.out]; rfl, uT.trans hu⟩
set_option maxRecDepth 100000 in
set_option maxHeartbeats 2000000 in
theorem creads2 (F : Nat → Prop) (w : World) (i0 : Int) (dn : Bool) (A : Option Addr) (c : Nat) (l : List HOp) (key : Int) (p1 p2 : Addr) (cnt : Ver → Bool) (h : HOps F w A l) (hl : fewOps l.length)
    (hc : Hid (∀ W v, Upd No w W → Calls Try.prog 189 #[.agg v.cells.toArray, .pointer (some p1), .pointer (some p2)] W fun e w' => e = .returned (.bool (cnt v)) ∧ Upd No W w')) :
    Calls Try.prog 186 #[.agg #[.int .i64 i0, .bool dn, .slice A l.length c], .int .i64 key, .func (.func 189) #[] #[.pointer (some p1), .pointer (some p2)]] w fun e w' => e = .returned (.bool (readsB i0 l key cnt)) ∧ Upd No w w' := by
  unfold fewOps at hl
  have uT := (Upd.refl No w).alloc (.cells #[.int .i64 i0, .bool dn, .slice A l.length c] 41)
  have bT := Lib.hid (Blk.new w 41 [.int .i64 i0, .bool dn, .slice A l.length c])
  go_enter Try.func186, Try.ntmps186
  go_wp2
  go_loopg [12] l.length (fun gk i wr => ∃ (k : Nat), k + gk = l.length ∧ i = .int .i64 k ∧ Hid (∀ (j : Nat) (hj : j < l.length), j < k → cntB i0 key cnt l[j] = false) ∧ Upd No (w.alloc (.cells #[.int .i64 i0, .bool dn, .slice A l.length c] 41)) wr)
  case atStart => exact ⟨0, by omega, rfl, Lib.hid (fun j _ hj => by omega), Upd.refl No _⟩
  case round =>
    obtain ⟨k, hgk, rfl, hall, hu⟩ := hrel
    by_cases hlt : k < l.length
    · obtain ⟨ad, hAd, q0, q1, q2, q3⟩ := (h.upd (uT.trans hu) (fun _ _ => id)).at_ hlt
      obtain ⟨x, hx⟩ : ∃ x, l[k] = x := ⟨_, rfl⟩
      rw [hx] at q0 q1 q2 q3
      subst hAd
      have X := Lib.hid hx
      have b1 : (0 : Int) ≤ (k : Int) := Int.natCast_nonneg _
      have b2 : (k : Int) < (l.length : Int) := by omega
      have uA := (Upd.refl No wr).alloc (.cells #[.bool x.read, .int .i64 x.key, .int .i64 x.tx, .int .i64 x.nth] 124)
      have bo := Lib.hid (Blk.new wr 124 [.bool x.read, .int .i64 x.key, .int .i64 x.tx, .int .i64 x.nth])
      have bT1 := (bT.out.upd hu id).upd uA id
      have t0 := bT1.cell 0
      simp only [List.getElem?_cons_zero] at t0
      have HU := Lib.hid (hu.trans uA)
      have NX := Lib.hid (fun (hn : cntB i0 key cnt x = false) => (fun (j : Nat) (hj : j < l.length) (hjk : j < k + 1) => (by
        by_cases e : j = k
        · subst e; rw [X.out]; exact hn
        · exact hall.out j hj (by omega) : cntB i0 key cnt l[j] = false)))
      clear hx bT1 uA
      cases hr : x.read
      · rw [hr] at q0 t0
        have HN := Lib.hid (show cntB i0 key cnt x = false by unfold cntB; rw [hr]; rfl)
        have Hr := Lib.hid hr
        have HU' := HU.out
        rw [hr] at HU'
        clear hr
        go_wp2
        go_roundg (gk - 1)
        case measure => omega
        case rel => exact ⟨k + 1, by omega, by go_num, Lib.hid (NX.out HN.out), HU'⟩
      · rw [hr] at q0 t0
        have HU' := HU.out
        rw [hr] at HU'
        have Hr := Lib.hid hr
        clear hr
        cases hk : x.key == key
        · have HN := Lib.hid (show cntB i0 key cnt x = false by unfold cntB; rw [hk, Bool.and_false]; rfl)
          go_wp2
          go_roundg (gk - 1)
          case measure => omega
          case rel => exact ⟨k + 1, by omega, by go_num, Lib.hid (NX.out HN.out), HU'⟩
        · cases ht : x.tx != i0
          · have ht2 : (x.tx == i0) = true := by simpa using ht
            have HN := Lib.hid (show cntB i0 key cnt x = false by unfold cntB; rw [ht2]; simp)
            clear ht2
            go_wp2
            go_roundg (gk - 1)
            case measure => omega
            case rel => exact ⟨k + 1, by omega, by go_num, Lib.hid (NX.out HN.out), HU'⟩
          · have ht2 : (x.tx == i0) = false := by simpa using ht
            have HC := Lib.hid (show cntB i0 key cnt x = cnt (verOf x) by unfold cntB; rw [Hr.out, hk, ht2]; rfl)
            obtain ⟨v, hv⟩ : ∃ v, verOf x = v := ⟨_, rfl⟩
            have hof := oof (wr.alloc (.cells #[.bool x.read, .int .i64 x.key, .int .i64 x.tx, .int .i64 x.nth] 124)) x
            rw [hv] at hof
            have h2 : Calls Try.prog 182 #[.agg #[.bool true, .int .i64 x.key, .int .i64 x.tx, .int .i64 x.nth]] (wr.alloc (.cells #[.bool true, .int .i64 x.key, .int .i64 x.tx, .int .i64 x.nth] 124)) fun e w' => e = .returned (.agg v.cells.toArray) ∧ Upd No (wr.alloc (.cells #[.bool true, .int .i64 x.key, .int .i64 x.tx, .int .i64 x.nth] 124)) w' := by
              have := hof
              unfold HOp.cells at this
              rwa [Hr.out] at this
            have Hof := Lib.hid h2
            have V := Lib.hid hv
            clear hof h2 hv ht2
            go_wp2_with fail
            refine (Hof.out).mono ?_
            rintro e w1 ⟨rfl, hu1⟩
            have hcc := hc.out w1 v ((uT.trans HU').trans hu1)
            cases hcv : cnt v
            · rw [hcv] at hcc
              have HCC := Lib.hid hcc
              have HN := Lib.hid (show cntB i0 key cnt x = false by rw [HC.out, V.out]; exact hcv)
              clear hcv hcc
              go_wp2_with fail
              refine (HCC.out).mono ?_
              rintro e w2 ⟨rfl, hu2⟩
              go_wp2
              go_roundg (gk - 1)
              case measure => omega
              case rel => exact ⟨k + 1, by omega, by go_num, Lib.hid (NX.out HN.out), (HU'.trans hu1).trans hu2⟩
            · rw [hcv] at hcc
              have HCC := Lib.hid hcc
              have HN := Lib.hid (show readsB i0 l key cnt = true from reads_yes hlt (by rw [X.out]; show cntB i0 key cnt x = true; rw [HC.out, V.out]; exact hcv))
              clear hcv hcc
              go_wp2_with fail
              refine (HCC.out).mono ?_
              rintro e w2 ⟨rfl, hu2⟩
              go_wp2
              go_ret
              exact ⟨by rw [HN.out]; rfl, ((uT.trans HU').trans hu1).trans hu2⟩
    · obtain rfl : k = l.length := by omega
      have HN := Lib.hid (show readsB i0 l key cnt = false from reads_no fun j hj => hall.out j hj hj)
      go_wp2
      go_ret
      exact ⟨by rw [HN.out]; rfl, uT.trans hu⟩
end Go.Proofs.Ytgakhpdclhlmpaa
