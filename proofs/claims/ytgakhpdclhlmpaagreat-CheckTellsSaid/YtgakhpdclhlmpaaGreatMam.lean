/- The document on histories: needs, right transactions, orders, writers, keys. -/
import Derived.Test.YtgakhpdclhlmpaaGreatMal
namespace Go.Proofs.YtgakhpdclhlmpaaGreat
set_option linter.unusedVariables false
open Go.RowKit
theorem needsS_len (id : Int) : ∀ (l : List HOp) (acc : List Ver), (needsS id acc l).length ≤ acc.length + l.length
  | [], acc => by simp [needsS]
  | o :: l, acc => by
    rw [needsS_cons]
    have := needsS_len id l (if needsFR id o && !acc.contains (verOf o) then acc ++ [verOf o] else acc)
    have h2 : (if needsFR id o && !acc.contains (verOf o) then acc ++ [verOf o] else acc).length ≤ acc.length + 1 := by split <;> simp
    rw [List.length_cons]; omega
set_option maxRecDepth 100000 in
set_option maxHeartbeats 1000000 in
theorem rneeds (F : Nat → Prop) (w : World) (txs : List HTx) (ords : List HOrd) (A : Option Addr) (c : Nat) (B : Option Addr) (d : Nat) (i0 : Int) (dn : Bool) (A1 : Option Addr) (c1 : Nat) (l : List HOp)
    (H : Hist.lies F w ⟨txs, ords, A, c, B, d⟩) (h : HOps F w A1 l) (hl : l.length ≤ 100000) :
    Calls Tryz.prog 39 #[.agg #[.slice A txs.length c, .slice B ords.length d], .agg #[.int .i64 i0, .bool dn, .slice A1 l.length c1]] w fun e w' => e = .returned (.bool ((needsS i0 [] l).all (hasR txs))) ∧ Upd No w w' := by
  have u0 := ((Upd.refl No w).alloc (.cells #[.slice A txs.length c, .slice B ords.length d] 25)).alloc (.cells #[.int .i64 i0, .bool dn, .slice A1 l.length c1] 47)
  have bH := Lib.hid ((Blk.new w 25 [.slice A txs.length c, .slice B ords.length d]).alloc (.cells #[.int .i64 i0, .bool dn, .slice A1 l.length c1] 47))
  have HN := Lib.hid (rNeeds F _ i0 dn A1 c1 l (HOps.upd h u0 (fun _ _ => id)) hl)
  have hlen := needsS_len i0 l []
  obtain ⟨ns, hns⟩ : ∃ ns, needsS i0 [] l = ns := ⟨_, rfl⟩
  rw [hns] at HN hlen ⊢
  simp only [List.length_nil, Nat.zero_add] at hlen
  have U0 := Lib.hid u0
  clear hns u0
  go_enter Tryz.func39, Tryz.ntmps39
  go_wp2_with fail
  refine (HN.out).mono ?_
  rintro e w1 ⟨A2, c2, rfl, ho2, hu1⟩
  have HV := Lib.hid (ver_new_own ho2)
  have U1 := Lib.hid (U0.out.trans hu1)
  have hT0 : ∀ W, Upd No w1 W → W.cell? ⟨w.heap.size, 0, none⟩ = some (.slice A txs.length c) := fun W hW => (bH.out.upd (hu1.trans hW) id).cell 0
  have hT1 : ∀ W, Upd No w1 W → W.cell? ⟨w.heap.size, 1, none⟩ = some (.slice B ords.length d) := fun W hW => (bH.out.upd (hu1.trans hW) id).cell 1
  have HH := Lib.hid fun W (hW : Upd No w1 W) v => rHas F W txs ords A c B d v (H.upd (U1.out.trans hW) (fun _ _ => id))
  clear ho2 hu1
  go_wp2
  go_loopg [10] ns.length (fun gk i wr => ∃ (k : Nat), k + gk = ns.length ∧ i = .int .i64 k ∧ Hid ((ns.drop k).all (hasR txs) = ns.all (hasR txs)) ∧ Upd No w1 wr)
  case atStart => exact ⟨0, by omega, rfl, Lib.hid rfl, Upd.refl _ _⟩
  case round =>
    obtain ⟨k, hgk, rfl, hs, hu⟩ := hrel
    by_cases hlt : k < ns.length
    · obtain ⟨ad, hAd, q0, q1, q2⟩ := (HV.out.upd hu (fun _ _ => id)).at_ hlt
      obtain ⟨x, hx⟩ : ∃ x, ns[k] = x := ⟨_, rfl⟩
      rw [hx] at q0 q1 q2
      subst hAd
      have X := Lib.hid (show ns.drop k = x :: ns.drop (k + 1) by rw [← hx]; exact List.drop_eq_getElem_cons hlt)
      have b1 : (0 : Int) ≤ (k : Int) := Int.natCast_nonneg _
      have b2 : (k : Int) < (ns.length : Int) := by omega
      clear hx
      have uA := hu.alloc (.cells #[.int .i64 x.tx, .int .i64 x.key, .int .i64 x.nth] 29)
      have hst := hs.out
      rw [X.out, List.all_cons] at hst
      have HC := Lib.hid (HH.out _ uA ⟨x.tx, x.key, x.nth⟩)
      obtain ⟨b, hb⟩ : ∃ b, hasR txs ⟨x.tx, x.key, x.nth⟩ = b := ⟨_, rfl⟩
      rw [hb] at HC
      rw [show hasR txs x = b from hb] at hst
      cases b
      · have HS := Lib.hid (show ns.all (hasR txs) = false by rw [← hst]; rfl)
        clear hst hb
        go_wp2_with fail
        refine (HC.out).mono ?_
        rintro e w2 ⟨rfl, hu2⟩
        have HU := Lib.hid (U1.out.trans (uA.trans hu2))
        go_wp2
        go_ret
        exact ⟨by rw [HS.out]; rfl, HU.out⟩
      · rw [Bool.true_and] at hst
        have HS := Lib.hid hst
        clear hst hb
        go_wp2_with fail
        refine (HC.out).mono ?_
        rintro e w2 ⟨rfl, hu2⟩
        go_wp2
        go_roundg (gk - 1)
        case measure => omega
        case rel => exact ⟨k + 1, by omega, by go_num, HS, uA.trans hu2⟩
    · obtain rfl : k = ns.length := by omega
      have HS := Lib.hid (show ns.all (hasR txs) = true by rw [← hs.out, List.drop_length]; rfl)
      go_wp2
      go_ret
      exact ⟨by rw [HS.out]; rfl, U1.out.trans hu⟩
/-- the code that an operation gives, by the document -/
def badR (id : Int) (all : List HOp) (k : Nat) (o : HOp) : Int := if opB o = false then 1 else if o.read && o.tx == id && decide ((wrN all o.key k : Int) < o.nth) then 6 else 0
def errR (id : Int) (all : List HOp) : List HOp → Nat → Int
  | [], _ => 0
  | o :: l, k => if badR id all k o = 0 then errR id all l (k + 1) else badR id all k o
theorem errR_cons (id : Int) (all : List HOp) (o : HOp) (l : List HOp) (k : Nat) : errR id all (o :: l) k = if badR id all k o = 0 then errR id all l (k + 1) else badR id all k o := rfl
theorem errR_eq (id : Int) (l : List HOp) : ∀ (m : Nat) (k : Nat), k + m = l.length → opsErr id l k = 0 → errR id l (l.drop k) k = opsErr id l l.length
  | 0, k, hk, h0 => by
    obtain rfl : k = l.length := by omega
    rw [List.drop_length, h0]; rfl
  | m + 1, k, hk, h0 => by
    have hlt : k < l.length := by omega
    rw [List.drop_eq_getElem_cons hlt, errR_cons]
    have hb : badAt id l k = badR id l k l[k] := by
      unfold badAt badR
      rw [List.getElem?_eq_getElem hlt]
      have : (!decide (l[k].nth ≤ (wrN l l[k].key k : Int))) = decide ((wrN l l[k].key k : Int) < l[k].nth) := by
        rw [← decide_not]; congr 1; simp only [eq_iff_iff]; omega
      simp only [this]
    have hstep : opsErr id l (k + 1) = badR id l k l[k] := by
      show (if opsErr id l k = 0 then badAt id l k else opsErr id l k) = _
      rw [if_pos h0, hb]
    by_cases hz : badR id l k l[k] = 0
    · rw [if_pos hz]
      exact errR_eq id l m (k + 1) (by omega) (by rw [hstep, hz])
    · rw [if_neg hz, ← hstep]
      have hst : ∀ n, opsErr id l (k + 1 + n) = opsErr id l (k + 1) := by
        intro n
        induction n with
        | zero => rfl
        | succ n ih =>
          show (if opsErr id l (k + 1 + n) = 0 then badAt id l (k + 1 + n) else opsErr id l (k + 1 + n)) = _
          rw [ih, if_neg (by rw [hstep]; exact hz)]
      have := hst (l.length - (k + 1))
      rw [show k + 1 + (l.length - (k + 1)) = l.length by omega] at this
      exact this.symm
theorem rwrites_cut (F : Nat → Prop) (w : World) (A : Option Addr) (c c2 : Nat) (l : List HOp) (k : Nat) (key : Int) (h : HOps F w A l) (hk : k ≤ l.length) (hl : fewOps l.length) (hc : l.length ≤ c2) :
    Calls Tryz.prog 46 #[.slice (cutA A c2 0 4) k c, .int .i64 key] w fun e w' => e = .returned (.int .i64 ((wrN l key k : Nat) : Int)) ∧ Upd No w w' := by
  have h1 : HOps F w (cutA A c2 0 4) (l.take k) := by
    have h2 := Recs.take (Recs.cut (i := 0) h (c := c2) (by simpa using hc)) (i := k)
    unfold HOps
    rw [List.drop_zero] at h2
    rwa [List.map_take]
  have hlen : (l.take k).length = k := by rw [List.length_take]; omega
  have := rwrites F w (cutA A c2 0 4) c (l.take k) key h1 (by unfold fewOps at *; omega)
  rw [hlen] at this
  have hw : writesN (l.take k) key = wrN l key k := by unfold writesN wrN; rw [hlen, List.take_take, Nat.min_self]
  rwa [hw] at this
set_option maxRecDepth 100000 in
set_option maxHeartbeats 1000000 in
theorem rRight10 (F : Nat → Prop) (w : World) (i0 : Int) (dn : Bool) (A : Option Addr) (c : Nat) (l : List HOp) (h : HOps F w A l) (hlc : l.length ≤ c) (hl : fewOps l.length) :
    Calls Tryz.prog 38 #[.agg #[.int .i64 i0, .bool dn, .slice A l.length c]] w fun e w' => e = .returned (.int .i64 (txErr i0 l)) ∧ Upd No w w' := by
  unfold fewOps at hl
  have u0 := (Upd.refl No w).alloc (.cells #[.int .i64 i0, .bool dn, .slice A l.length c] 47)
  have bT := Lib.hid (Blk.new w 47 [.int .i64 i0, .bool dn, .slice A l.length c])
  obtain ⟨b, hb⟩ : ∃ b, idB i0 = b := ⟨_, rfl⟩
  cases b
  · have HV := Lib.hid (show txErr i0 l = 1 by unfold txErr; rw [if_pos hb])
    have Hb := Lib.hid hb
    clear hb
    go_enter Tryz.func38, Tryz.ntmps38
    go_wp2_with fail
    refine (ridV Hb.out).mono ?_
    rintro e w1 ⟨rfl, rfl⟩
    go_wp2
    go_ret
    exact ⟨by rw [HV.out]; rfl, u0⟩
  · have hv := (show txErr i0 l = if 4095 < l.length then 9 else opsErr i0 l l.length by unfold txErr; rw [if_neg (by rw [hb]; decide)])
    have Hb := Lib.hid hb
    clear hb
    by_cases hlong : 4095 < l.length
    · rw [if_pos hlong] at hv
      have HV := Lib.hid hv
      clear hv
      go_enter Tryz.func38, Tryz.ntmps38
      go_wp2_with fail
      refine (ridV Hb.out).mono ?_
      rintro e w1 ⟨rfl, rfl⟩
      go_wp2
      go_ret
      exact ⟨by rw [HV.out]; rfl, u0⟩
    · rw [if_neg hlong, ← errR_eq i0 l l.length 0 (by omega) rfl] at hv
      have HV := Lib.hid hv
      clear hv
      go_enter Tryz.func38, Tryz.ntmps38
      go_wp2_with fail
      refine (ridV Hb.out).mono ?_
      rintro e w1 ⟨rfl, rfl⟩
      go_wp2
      go_loopg [16] l.length (fun gk i wr => ∃ (k : Nat), k + gk = l.length ∧ i = .int .i64 k ∧ Hid (errR i0 l (l.drop k) k = errR i0 l (l.drop 0) 0) ∧ Upd No (w.alloc (.cells #[.int .i64 i0, .bool dn, .slice A l.length c] 47)) wr)
      case atStart => exact ⟨0, by omega, rfl, Lib.hid rfl, Upd.refl _ _⟩
      case round =>
        obtain ⟨k, hgk, rfl, hs, hu⟩ := hrel
        by_cases hlt : k < l.length
        · obtain ⟨ad, hAd, q0, q1, q2, q3⟩ := (h.upd (u0.trans hu) (fun _ _ => id)).at_ hlt
          obtain ⟨x, hx⟩ : ∃ x, l[k] = x := ⟨_, rfl⟩
          rw [hx] at q0 q1 q2 q3
          obtain ⟨rd, ky, tx, nt⟩ := x
          simp only at q0 q1 q2 q3
          subst hAd
          have X := Lib.hid (show l.drop k = ⟨rd, ky, tx, nt⟩ :: l.drop (k + 1) by rw [← hx]; exact List.drop_eq_getElem_cons hlt)
          have b1 : (0 : Int) ≤ (k : Int) := Int.natCast_nonneg _
          have b2 : (k : Int) < (l.length : Int) := by omega
          clear hx
          have hst := hs.out
          rw [X.out, errR_cons] at hst
          have bO := Blk.new wr 53 [.bool rd, .int .i64 ky, .int .i64 tx, .int .i64 nt]
          have HU := Lib.hid (hu.alloc (.cells #[.bool rd, .int .i64 ky, .int .i64 tx, .int .i64 nt] 53))
          have hr := rright (wr.alloc (.cells #[.bool rd, .int .i64 ky, .int .i64 tx, .int .i64 nt] 53)) ⟨rd, ky, tx, nt⟩
          obtain ⟨bo, hbo⟩ : ∃ bo, opB ⟨rd, ky, tx, nt⟩ = bo := ⟨_, rfl⟩
          rw [hbo] at hr
          have HR := Lib.hid hr
          cases bo
          · have HV2 := Lib.hid (show errR i0 l (l.drop 0) 0 = 1 by rw [← hst]; unfold badR; rw [if_pos hbo]; rfl)
            clear hst hbo hr bO
            go_wp2_with (go_at_call 64; refine HR.out.mono ?_; rintro e w1 ⟨rfl, hu1⟩)
            go_ret
            exact ⟨by rw [HV.out]; rw [show errR i0 l (List.drop 0 l) 0 = 1 from HV2.out]; rfl, u0.trans (HU.out.trans hu1)⟩
          · have hbr : badR i0 l k ⟨rd, ky, tx, nt⟩ = if rd && tx == i0 && decide ((wrN l ky k : Int) < nt) then 6 else 0 := by unfold badR; rw [if_neg (by rw [hbo]; decide)]
            rw [hbr] at hst
            have HST := Lib.hid hst
            have BO := Lib.hid bO
            clear hst hbo hr bO hbr
            have e0 : ∀ W, Upd No (wr.alloc (.cells #[.bool rd, .int .i64 ky, .int .i64 tx, .int .i64 nt] 53)) W → W.cell? ⟨wr.heap.size, 0, none⟩ = some (.bool rd) := fun W hW => (BO.out.upd hW id).cell 0
            have e1 : ∀ W, Upd No (wr.alloc (.cells #[.bool rd, .int .i64 ky, .int .i64 tx, .int .i64 nt] 53)) W → W.cell? ⟨wr.heap.size, 1, none⟩ = some (.int .i64 ky) := fun W hW => (BO.out.upd hW id).cell 1
            have e2 : ∀ W, Upd No (wr.alloc (.cells #[.bool rd, .int .i64 ky, .int .i64 tx, .int .i64 nt] 53)) W → W.cell? ⟨wr.heap.size, 2, none⟩ = some (.int .i64 tx) := fun W hW => (BO.out.upd hW id).cell 2
            have e3 : ∀ W, Upd No (wr.alloc (.cells #[.bool rd, .int .i64 ky, .int .i64 tx, .int .i64 nt] 53)) W → W.cell? ⟨wr.heap.size, 3, none⟩ = some (.int .i64 nt) := fun W hW => (BO.out.upd hW id).cell 3
            have t0 : ∀ W, Upd No (wr.alloc (.cells #[.bool rd, .int .i64 ky, .int .i64 tx, .int .i64 nt] 53)) W → W.cell? ⟨w.heap.size, 0, none⟩ = some (.int .i64 i0) := fun W hW => (bT.out.upd (HU.out.trans hW) id).cell 0
            have t2 : ∀ W, Upd No (wr.alloc (.cells #[.bool rd, .int .i64 ky, .int .i64 tx, .int .i64 nt] 53)) W → W.cell? ⟨w.heap.size, 2, none⟩ = some (.slice (some ad) l.length c) := fun W hW => (bT.out.upd (HU.out.trans hW) id).cell 2
            have HWr := Lib.hid fun W (hW : Upd No (wr.alloc (.cells #[.bool rd, .int .i64 ky, .int .i64 tx, .int .i64 nt] 53)) W) => rwrites_cut F W (some ad) c c l k ky (HOps.upd h (u0.trans (HU.out.trans hW)) (fun _ _ => id)) (by omega) (by unfold fewOps; omega) (by omega)
            have HCut := fun W => run_cut_h W (slt_ops) (some ad) l.length c k (by omega)
            cases rd
            · have HS := Lib.hid (show errR i0 l (l.drop (k + 1)) (k + 1) = errR i0 l (l.drop 0) 0 by rw [← HST.out]; rfl)
              go_wp2_with (go_at_call 64; refine HR.out.mono ?_; rintro e w1 ⟨rfl, hu1⟩)
              refine wp_region_noPanic ?_
              refine wp_region_held_drew (S := (fun w' => Upd No (wr.alloc (.cells #[.bool false, .int .i64 ky, .int .i64 tx, .int .i64 nt] 53)) w')) (by kernel_rfl) ?_ (fun hHeld => ?_)
              · (first | exact hu1.drew | exact hHeld.trans hu3)
              refine wpT 0 ⟨some 24, .fieldAddr 53 (.tmp 4) 0, 0, "ref.go:37", #[], none⟩ ?_ (.inl ⟨by rfl, ?_⟩) ?_
              rotate_left
              · (intro W hSw; (try dsimp only at hSw); go_simp; try (with_reducible rfl))
              try simp only [Act.put, List.setIfInBounds_toArray, List.set_cons_zero, List.set_cons_succ]
              refine wpT 1 ⟨some 25, .load 4 (.tmp 24), 4, "ref.go:37", #[⟨0, .data⟩], none⟩ ?_ (.inl ⟨by rfl, ?_⟩) ?_
              rotate_left
              · (intro W hSw; (try dsimp only at hSw); go_simp; try (with_reducible rfl))
              try simp only [Act.put, List.setIfInBounds_toArray, List.set_cons_zero, List.set_cons_succ]
              refine wpT 2 ⟨some 26, .move (.tmp 25), 4, "ref.go:37", #[⟨1, .data⟩], none⟩ ?_ (.inl ⟨by rfl, ?_⟩) ?_
              rotate_left
              · (intro W hSw; (try dsimp only at hSw); go_simp; try (with_reducible rfl))
              try simp only [Act.put, List.setIfInBounds_toArray, List.set_cons_zero, List.set_cons_succ]
              refine wpT 3 ⟨some 27, .fieldAddr 53 (.tmp 4) 2, 0, "ref.go:37", #[⟨2, .guard⟩], some (2, true)⟩ undef (.inr ⟨by rfl, rfl⟩) ?_
              try simp only [Act.put, List.setIfInBounds_toArray, List.set_cons_zero, List.set_cons_succ]
              refine wpT 4 ⟨some 28, .load 3 (.tmp 27), 3, "ref.go:37", #[⟨3, .data⟩, ⟨2, .guard⟩], some (2, true)⟩ undef (.inr ⟨by rfl, rfl⟩) ?_
              try simp only [Act.put, List.setIfInBounds_toArray, List.set_cons_zero, List.set_cons_succ]
              refine wpT 5 ⟨some 29, .fieldAddr 47 (.tmp 1) 0, 0, "ref.go:37", #[⟨2, .guard⟩], some (2, true)⟩ undef (.inr ⟨by rfl, rfl⟩) ?_
              try simp only [Act.put, List.setIfInBounds_toArray, List.set_cons_zero, List.set_cons_succ]
              refine wpT 6 ⟨some 30, .load 3 (.tmp 29), 3, "ref.go:37", #[⟨5, .data⟩, ⟨2, .guard⟩], some (2, true)⟩ undef (.inr ⟨by rfl, rfl⟩) ?_
              try simp only [Act.put, List.setIfInBounds_toArray, List.set_cons_zero, List.set_cons_succ]
              refine wpT 7 ⟨some 31, .binOp .eql 3 (.tmp 28) (.tmp 30) 3, 4, "ref.go:37", #[⟨4, .data⟩, ⟨6, .data⟩, ⟨2, .guard⟩], some (2, true)⟩ undef (.inr ⟨by rfl, rfl⟩) ?_
              try simp only [Act.put, List.setIfInBounds_toArray, List.set_cons_zero, List.set_cons_succ]
              refine wpT 8 ⟨some 32, .pick (.tmp 26) (.tmp 31) (.const (.bool false)), 4, "ref.go:37", #[⟨2, .data⟩, ⟨7, .data⟩], none⟩ ?_ (.inl ⟨by rfl, ?_⟩) ?_
              rotate_left
              · (intro W hSw; (try dsimp only at hSw); go_simp; try (with_reducible rfl))
              try simp only [Act.put, List.setIfInBounds_toArray, List.set_cons_zero, List.set_cons_succ]
              refine wpT 9 ⟨some 33, .move (.tmp 32), 4, "ref.go:37", #[⟨8, .data⟩, ⟨2, .chain⟩], none⟩ ?_ (.inl ⟨by rfl, ?_⟩) ?_
              rotate_left
              · (intro W hSw; (try dsimp only at hSw); go_simp; try (with_reducible rfl))
              try simp only [Act.put, List.setIfInBounds_toArray, List.set_cons_zero, List.set_cons_succ]
              refine wpT 10 ⟨some 34, .fieldAddr 53 (.tmp 4) 3, 0, "ref.go:37", #[⟨9, .guard⟩], some (9, true)⟩ undef (.inr ⟨by rfl, rfl⟩) ?_
              try simp only [Act.put, List.setIfInBounds_toArray, List.set_cons_zero, List.set_cons_succ]
              refine wpT 11 ⟨some 35, .load 3 (.tmp 34), 3, "ref.go:37", #[⟨10, .data⟩, ⟨9, .guard⟩], some (9, true)⟩ undef (.inr ⟨by rfl, rfl⟩) ?_
              try simp only [Act.put, List.setIfInBounds_toArray, List.set_cons_zero, List.set_cons_succ]
              refine wpT 12 ⟨some 36, .fieldAddr 47 (.tmp 1) 2, 0, "ref.go:37", #[⟨9, .guard⟩], some (9, true)⟩ undef (.inr ⟨by rfl, rfl⟩) ?_
              try simp only [Act.put, List.setIfInBounds_toArray, List.set_cons_zero, List.set_cons_succ]
              refine wpT 13 ⟨some 37, .load 45 (.tmp 36), 45, "ref.go:37", #[⟨12, .data⟩, ⟨9, .guard⟩], some (9, true)⟩ undef (.inr ⟨by rfl, rfl⟩) ?_
              try simp only [Act.put, List.setIfInBounds_toArray, List.set_cons_zero, List.set_cons_succ]
              refine wpT 14 ⟨some 38, .move (.tmp 3), 3, "ref.go:37", #[⟨9, .guard⟩], some (9, true)⟩ undef (.inr ⟨by rfl, rfl⟩) ?_
              try simp only [Act.put, List.setIfInBounds_toArray, List.set_cons_zero, List.set_cons_succ]
              refine wpT 15 ⟨some 39, .slice 45 (.tmp 37) none (some (.tmp 38)) none, 45, "ref.go:37", #[⟨13, .data⟩, ⟨14, .data⟩, ⟨9, .guard⟩], some (9, true)⟩ undef (.inr ⟨by rfl, rfl⟩) ?_
              try simp only [Act.put, List.setIfInBounds_toArray, List.set_cons_zero, List.set_cons_succ]
              refine wpT 16 ⟨some 40, .fieldAddr 53 (.tmp 4) 1, 0, "ref.go:37", #[⟨9, .guard⟩], some (9, true)⟩ undef (.inr ⟨by rfl, rfl⟩) ?_
              try simp only [Act.put, List.setIfInBounds_toArray, List.set_cons_zero, List.set_cons_succ]
              refine wpT 17 ⟨some 41, .load 3 (.tmp 40), 3, "ref.go:37", #[⟨16, .data⟩, ⟨9, .guard⟩], some (9, true)⟩ undef (.inr ⟨by rfl, rfl⟩) ?_
              try simp only [Act.put, List.setIfInBounds_toArray, List.set_cons_zero, List.set_cons_succ]
              refine wpAnyH_ready (rs := [18]) (by kernel_rfl) (by simp) ?_
              refine AllReadyH.cons (o := ⟨some 42, .call { callee := .value (.func 46), args := #[.tmp 39, .tmp 41], argTypes := #[45, 3] }, 3, "ref.go:37", #[⟨15, .data⟩, ⟨17, .data⟩, ⟨9, .chain⟩, ⟨9, .guard⟩], some (9, true)⟩) rfl (fun K hK => ?_) AllReadyH.nil
              go_simp
              refine hK.out _ _ ?_ (fun hHeld => ?_)
              · exact hHeld
              clear hK K
              try simp only [Act.put, List.setIfInBounds_toArray, List.set_cons_zero, List.set_cons_succ]
              refine wpT 19 ⟨some 43, .binOp .gtr 3 (.tmp 35) (.tmp 42) 3, 4, "ref.go:37", #[⟨11, .data⟩, ⟨18, .data⟩, ⟨9, .guard⟩], some (9, true)⟩ undef (.inr ⟨by rfl, rfl⟩) ?_
              try simp only [Act.put, List.setIfInBounds_toArray, List.set_cons_zero, List.set_cons_succ]
              refine wpT 20 ⟨some 44, .pick (.tmp 33) (.tmp 43) (.const (.bool false)), 4, "ref.go:37", #[⟨9, .data⟩, ⟨19, .data⟩], none⟩ ?_ (.inl ⟨by rfl, ?_⟩) ?_
              rotate_left
              · (intro W hSw; (try dsimp only at hSw); go_simp; try (with_reducible rfl))
              try simp only [Act.put, List.setIfInBounds_toArray, List.set_cons_zero, List.set_cons_succ]
              refine wpAnyH_done (by kernel_rfl) (NoPanic.normal ?_) _
              have HU2 := Lib.hid (HU.out.trans hHeld)
              clear hHeld e0 e1 e2 e3 t0 t2 HCut
              go_wp2
              go_roundg (gk - 1)
              case measure => omega
              case rel => exact ⟨k + 1, by omega, by go_num, HS, HU2.out⟩
            · by_cases hti : tx = i0
              · have htb : (tx == i0) = true := by simpa using hti
                by_cases hn : (wrN l ky k : Int) < nt
                · have HS := Lib.hid (show errR i0 l (l.drop 0) 0 = 6 by rw [← HST.out, htb, decide_eq_true hn]; rfl)
                  clear hti
                  go_wp2_with (go_at_call 64; refine HR.out.mono ?_; rintro e w1 ⟨rfl, hu1⟩)
                  refine wp_region_noPanic ?_
                  refine wp_region_held_drew (S := (fun w' => Upd No (wr.alloc (.cells #[.bool true, .int .i64 ky, .int .i64 tx, .int .i64 nt] 53)) w')) (by kernel_rfl) ?_ (fun hHeld => ?_)
                  · (first | exact hu1.drew | exact hHeld.trans hu3)
                  refine wpT 0 ⟨some 24, .fieldAddr 53 (.tmp 4) 0, 0, "ref.go:37", #[], none⟩ ?_ (.inl ⟨by rfl, ?_⟩) ?_
                  rotate_left
                  · (intro W hSw; (try dsimp only at hSw); go_simp; try (with_reducible rfl))
                  try simp only [Act.put, List.setIfInBounds_toArray, List.set_cons_zero, List.set_cons_succ]
                  refine wpT 1 ⟨some 25, .load 4 (.tmp 24), 4, "ref.go:37", #[⟨0, .data⟩], none⟩ ?_ (.inl ⟨by rfl, ?_⟩) ?_
                  rotate_left
                  · (intro W hSw; (try dsimp only at hSw); go_simp; try (with_reducible rfl))
                  try simp only [Act.put, List.setIfInBounds_toArray, List.set_cons_zero, List.set_cons_succ]
                  refine wpT 2 ⟨some 26, .move (.tmp 25), 4, "ref.go:37", #[⟨1, .data⟩], none⟩ ?_ (.inl ⟨by rfl, ?_⟩) ?_
                  rotate_left
                  · (intro W hSw; (try dsimp only at hSw); go_simp; try (with_reducible rfl))
                  try simp only [Act.put, List.setIfInBounds_toArray, List.set_cons_zero, List.set_cons_succ]
                  refine wpT 3 ⟨some 27, .fieldAddr 53 (.tmp 4) 2, 0, "ref.go:37", #[⟨2, .guard⟩], some (2, true)⟩ ?_ (.inl ⟨by rfl, ?_⟩) ?_
                  rotate_left
                  · (intro W hSw; (try dsimp only at hSw); go_simp; try (with_reducible rfl))
                  try simp only [Act.put, List.setIfInBounds_toArray, List.set_cons_zero, List.set_cons_succ]
                  refine wpT 4 ⟨some 28, .load 3 (.tmp 27), 3, "ref.go:37", #[⟨3, .data⟩, ⟨2, .guard⟩], some (2, true)⟩ ?_ (.inl ⟨by rfl, ?_⟩) ?_
                  rotate_left
                  · (intro W hSw; (try dsimp only at hSw); go_simp; try (with_reducible rfl))
                  try simp only [Act.put, List.setIfInBounds_toArray, List.set_cons_zero, List.set_cons_succ]
                  refine wpT 5 ⟨some 29, .fieldAddr 47 (.tmp 1) 0, 0, "ref.go:37", #[⟨2, .guard⟩], some (2, true)⟩ ?_ (.inl ⟨by rfl, ?_⟩) ?_
                  rotate_left
                  · (intro W hSw; (try dsimp only at hSw); go_simp; try (with_reducible rfl))
                  try simp only [Act.put, List.setIfInBounds_toArray, List.set_cons_zero, List.set_cons_succ]
                  refine wpT 6 ⟨some 30, .load 3 (.tmp 29), 3, "ref.go:37", #[⟨5, .data⟩, ⟨2, .guard⟩], some (2, true)⟩ ?_ (.inl ⟨by rfl, ?_⟩) ?_
                  rotate_left
                  · (intro W hSw; (try dsimp only at hSw); go_simp; try (with_reducible rfl))
                  try simp only [Act.put, List.setIfInBounds_toArray, List.set_cons_zero, List.set_cons_succ]
                  refine wpT 7 ⟨some 31, .binOp .eql 3 (.tmp 28) (.tmp 30) 3, 4, "ref.go:37", #[⟨4, .data⟩, ⟨6, .data⟩, ⟨2, .guard⟩], some (2, true)⟩ ?_ (.inl ⟨by rfl, ?_⟩) ?_
                  rotate_left
                  · (intro W hSw; (try dsimp only at hSw); go_simp; try (with_reducible rfl))
                  try simp only [Act.put, List.setIfInBounds_toArray, List.set_cons_zero, List.set_cons_succ]
                  refine wpT 8 ⟨some 32, .pick (.tmp 26) (.tmp 31) (.const (.bool false)), 4, "ref.go:37", #[⟨2, .data⟩, ⟨7, .data⟩], none⟩ ?_ (.inl ⟨by rfl, ?_⟩) ?_
                  rotate_left
                  · (intro W hSw; (try dsimp only at hSw); go_simp; try (with_reducible rfl))
                  try simp only [Act.put, List.setIfInBounds_toArray, List.set_cons_zero, List.set_cons_succ]
                  refine wpT 9 ⟨some 33, .move (.tmp 32), 4, "ref.go:37", #[⟨8, .data⟩, ⟨2, .chain⟩], none⟩ ?_ (.inl ⟨by rfl, ?_⟩) ?_
                  rotate_left
                  · (intro W hSw; (try dsimp only at hSw); go_simp; try (with_reducible rfl))
                  try simp only [Act.put, List.setIfInBounds_toArray, List.set_cons_zero, List.set_cons_succ]
                  refine wpT 10 ⟨some 34, .fieldAddr 53 (.tmp 4) 3, 0, "ref.go:37", #[⟨9, .guard⟩], some (9, true)⟩ ?_ (.inl ⟨by rfl, ?_⟩) ?_
                  rotate_left
                  · (intro W hSw; (try dsimp only at hSw); go_simp; try (with_reducible rfl))
                  try simp only [Act.put, List.setIfInBounds_toArray, List.set_cons_zero, List.set_cons_succ]
                  refine wpT 11 ⟨some 35, .load 3 (.tmp 34), 3, "ref.go:37", #[⟨10, .data⟩, ⟨9, .guard⟩], some (9, true)⟩ ?_ (.inl ⟨by rfl, ?_⟩) ?_
                  rotate_left
                  · (intro W hSw; (try dsimp only at hSw); go_simp; try (with_reducible rfl))
                  try simp only [Act.put, List.setIfInBounds_toArray, List.set_cons_zero, List.set_cons_succ]
                  refine wpT 12 ⟨some 36, .fieldAddr 47 (.tmp 1) 2, 0, "ref.go:37", #[⟨9, .guard⟩], some (9, true)⟩ ?_ (.inl ⟨by rfl, ?_⟩) ?_
                  rotate_left
                  · (intro W hSw; (try dsimp only at hSw); go_simp; try (with_reducible rfl))
                  try simp only [Act.put, List.setIfInBounds_toArray, List.set_cons_zero, List.set_cons_succ]
                  refine wpT 13 ⟨some 37, .load 45 (.tmp 36), 45, "ref.go:37", #[⟨12, .data⟩, ⟨9, .guard⟩], some (9, true)⟩ ?_ (.inl ⟨by rfl, ?_⟩) ?_
                  rotate_left
                  · (intro W hSw; (try dsimp only at hSw); go_simp; try (with_reducible rfl))
                  try simp only [Act.put, List.setIfInBounds_toArray, List.set_cons_zero, List.set_cons_succ]
                  refine wpT 14 ⟨some 38, .move (.tmp 3), 3, "ref.go:37", #[⟨9, .guard⟩], some (9, true)⟩ ?_ (.inl ⟨by rfl, ?_⟩) ?_
                  rotate_left
                  · (intro W hSw; (try dsimp only at hSw); go_simp; try (with_reducible rfl))
                  try simp only [Act.put, List.setIfInBounds_toArray, List.set_cons_zero, List.set_cons_succ]
                  refine wpT 15 ⟨some 39, .slice 45 (.tmp 37) none (some (.tmp 38)) none, 45, "ref.go:37", #[⟨13, .data⟩, ⟨14, .data⟩, ⟨9, .guard⟩], some (9, true)⟩ ?_ (.inl ⟨by rfl, ?_⟩) ?_
                  rotate_left
                  · (intro W hSw; (try dsimp only at hSw); go_simp; try (with_reducible rfl))
                  try simp only [Act.put, List.setIfInBounds_toArray, List.set_cons_zero, List.set_cons_succ]
                  refine wpT 16 ⟨some 40, .fieldAddr 53 (.tmp 4) 1, 0, "ref.go:37", #[⟨9, .guard⟩], some (9, true)⟩ ?_ (.inl ⟨by rfl, ?_⟩) ?_
                  rotate_left
                  · (intro W hSw; (try dsimp only at hSw); go_simp; try (with_reducible rfl))
                  try simp only [Act.put, List.setIfInBounds_toArray, List.set_cons_zero, List.set_cons_succ]
                  refine wpT 17 ⟨some 41, .load 3 (.tmp 40), 3, "ref.go:37", #[⟨16, .data⟩, ⟨9, .guard⟩], some (9, true)⟩ ?_ (.inl ⟨by rfl, ?_⟩) ?_
                  rotate_left
                  · (intro W hSw; (try dsimp only at hSw); go_simp; try (with_reducible rfl))
                  try simp only [Act.put, List.setIfInBounds_toArray, List.set_cons_zero, List.set_cons_succ]
                  refine wpAnyH_ready (rs := [18]) (by kernel_rfl) (by simp) ?_
                  refine AllReadyH.cons (o := ⟨some 42, .call { callee := .value (.func 46), args := #[.tmp 39, .tmp 41], argTypes := #[45, 3] }, 3, "ref.go:37", #[⟨15, .data⟩, ⟨17, .data⟩, ⟨9, .chain⟩, ⟨9, .guard⟩], some (9, true)⟩) rfl (fun K hK => ?_) AllReadyH.nil
                  go_simp
                  (first
    | (go_at_call 46; refine (HWr.out _ hHeld).mono ?_; rintro e w3 ⟨rfl, hu3⟩))
                  try (go_wp2_with fail)
                  refine hK.out _ _ ?_ (fun hHeld => ?_)
                  · (first | exact hu1.drew | exact hHeld.trans hu3)
                  clear hK K
                  try simp only [Act.put, List.setIfInBounds_toArray, List.set_cons_zero, List.set_cons_succ]
                  refine wpT 19 ⟨some 43, .binOp .gtr 3 (.tmp 35) (.tmp 42) 3, 4, "ref.go:37", #[⟨11, .data⟩, ⟨18, .data⟩, ⟨9, .guard⟩], some (9, true)⟩ ?_ (.inl ⟨by rfl, ?_⟩) ?_
                  rotate_left
                  · (intro W hSw; (try dsimp only at hSw); go_simp; try (with_reducible rfl))
                  try simp only [Act.put, List.setIfInBounds_toArray, List.set_cons_zero, List.set_cons_succ]
                  refine wpT 20 ⟨some 44, .pick (.tmp 33) (.tmp 43) (.const (.bool false)), 4, "ref.go:37", #[⟨9, .data⟩, ⟨19, .data⟩], none⟩ ?_ (.inl ⟨by rfl, ?_⟩) ?_
                  rotate_left
                  · (intro W hSw; (try dsimp only at hSw); go_simp; try (with_reducible rfl))
                  try simp only [Act.put, List.setIfInBounds_toArray, List.set_cons_zero, List.set_cons_succ]
                  refine wpAnyH_done (by kernel_rfl) (NoPanic.normal ?_) _
                  have HU2 := Lib.hid (HU.out.trans hHeld)
                  clear hHeld e0 e1 e2 e3 t0 t2 HCut
                  go_wp2
                  go_ret
                  exact ⟨by rw [HV.out]; rw [show errR i0 l (List.drop 0 l) 0 = 6 from HS.out]; rfl, u0.trans HU2.out⟩
                · have HS := Lib.hid (show errR i0 l (l.drop (k + 1)) (k + 1) = errR i0 l (l.drop 0) 0 by rw [← HST.out, htb, decide_eq_false hn]; rfl)
                  clear hti
                  go_wp2_with (go_at_call 64; refine HR.out.mono ?_; rintro e w1 ⟨rfl, hu1⟩)
                  refine wp_region_noPanic ?_
                  refine wp_region_held_drew (S := (fun w' => Upd No (wr.alloc (.cells #[.bool true, .int .i64 ky, .int .i64 tx, .int .i64 nt] 53)) w')) (by kernel_rfl) ?_ (fun hHeld => ?_)
                  · (first | exact hu1.drew | exact hHeld.trans hu3)
                  refine wpT 0 ⟨some 24, .fieldAddr 53 (.tmp 4) 0, 0, "ref.go:37", #[], none⟩ ?_ (.inl ⟨by rfl, ?_⟩) ?_
                  rotate_left
                  · (intro W hSw; (try dsimp only at hSw); go_simp; try (with_reducible rfl))
                  try simp only [Act.put, List.setIfInBounds_toArray, List.set_cons_zero, List.set_cons_succ]
                  refine wpT 1 ⟨some 25, .load 4 (.tmp 24), 4, "ref.go:37", #[⟨0, .data⟩], none⟩ ?_ (.inl ⟨by rfl, ?_⟩) ?_
                  rotate_left
                  · (intro W hSw; (try dsimp only at hSw); go_simp; try (with_reducible rfl))
                  try simp only [Act.put, List.setIfInBounds_toArray, List.set_cons_zero, List.set_cons_succ]
                  refine wpT 2 ⟨some 26, .move (.tmp 25), 4, "ref.go:37", #[⟨1, .data⟩], none⟩ ?_ (.inl ⟨by rfl, ?_⟩) ?_
                  rotate_left
                  · (intro W hSw; (try dsimp only at hSw); go_simp; try (with_reducible rfl))
                  try simp only [Act.put, List.setIfInBounds_toArray, List.set_cons_zero, List.set_cons_succ]
                  refine wpT 3 ⟨some 27, .fieldAddr 53 (.tmp 4) 2, 0, "ref.go:37", #[⟨2, .guard⟩], some (2, true)⟩ ?_ (.inl ⟨by rfl, ?_⟩) ?_
                  rotate_left
                  · (intro W hSw; (try dsimp only at hSw); go_simp; try (with_reducible rfl))
                  try simp only [Act.put, List.setIfInBounds_toArray, List.set_cons_zero, List.set_cons_succ]
                  refine wpT 4 ⟨some 28, .load 3 (.tmp 27), 3, "ref.go:37", #[⟨3, .data⟩, ⟨2, .guard⟩], some (2, true)⟩ ?_ (.inl ⟨by rfl, ?_⟩) ?_
                  rotate_left
                  · (intro W hSw; (try dsimp only at hSw); go_simp; try (with_reducible rfl))
                  try simp only [Act.put, List.setIfInBounds_toArray, List.set_cons_zero, List.set_cons_succ]
                  refine wpT 5 ⟨some 29, .fieldAddr 47 (.tmp 1) 0, 0, "ref.go:37", #[⟨2, .guard⟩], some (2, true)⟩ ?_ (.inl ⟨by rfl, ?_⟩) ?_
                  rotate_left
                  · (intro W hSw; (try dsimp only at hSw); go_simp; try (with_reducible rfl))
                  try simp only [Act.put, List.setIfInBounds_toArray, List.set_cons_zero, List.set_cons_succ]
                  refine wpT 6 ⟨some 30, .load 3 (.tmp 29), 3, "ref.go:37", #[⟨5, .data⟩, ⟨2, .guard⟩], some (2, true)⟩ ?_ (.inl ⟨by rfl, ?_⟩) ?_
                  rotate_left
                  · (intro W hSw; (try dsimp only at hSw); go_simp; try (with_reducible rfl))
                  try simp only [Act.put, List.setIfInBounds_toArray, List.set_cons_zero, List.set_cons_succ]
                  refine wpT 7 ⟨some 31, .binOp .eql 3 (.tmp 28) (.tmp 30) 3, 4, "ref.go:37", #[⟨4, .data⟩, ⟨6, .data⟩, ⟨2, .guard⟩], some (2, true)⟩ ?_ (.inl ⟨by rfl, ?_⟩) ?_
                  rotate_left
                  · (intro W hSw; (try dsimp only at hSw); go_simp; try (with_reducible rfl))
                  try simp only [Act.put, List.setIfInBounds_toArray, List.set_cons_zero, List.set_cons_succ]
                  refine wpT 8 ⟨some 32, .pick (.tmp 26) (.tmp 31) (.const (.bool false)), 4, "ref.go:37", #[⟨2, .data⟩, ⟨7, .data⟩], none⟩ ?_ (.inl ⟨by rfl, ?_⟩) ?_
                  rotate_left
                  · (intro W hSw; (try dsimp only at hSw); go_simp; try (with_reducible rfl))
                  try simp only [Act.put, List.setIfInBounds_toArray, List.set_cons_zero, List.set_cons_succ]
                  refine wpT 9 ⟨some 33, .move (.tmp 32), 4, "ref.go:37", #[⟨8, .data⟩, ⟨2, .chain⟩], none⟩ ?_ (.inl ⟨by rfl, ?_⟩) ?_
                  rotate_left
                  · (intro W hSw; (try dsimp only at hSw); go_simp; try (with_reducible rfl))
                  try simp only [Act.put, List.setIfInBounds_toArray, List.set_cons_zero, List.set_cons_succ]
                  refine wpT 10 ⟨some 34, .fieldAddr 53 (.tmp 4) 3, 0, "ref.go:37", #[⟨9, .guard⟩], some (9, true)⟩ ?_ (.inl ⟨by rfl, ?_⟩) ?_
                  rotate_left
                  · (intro W hSw; (try dsimp only at hSw); go_simp; try (with_reducible rfl))
                  try simp only [Act.put, List.setIfInBounds_toArray, List.set_cons_zero, List.set_cons_succ]
                  refine wpT 11 ⟨some 35, .load 3 (.tmp 34), 3, "ref.go:37", #[⟨10, .data⟩, ⟨9, .guard⟩], some (9, true)⟩ ?_ (.inl ⟨by rfl, ?_⟩) ?_
                  rotate_left
                  · (intro W hSw; (try dsimp only at hSw); go_simp; try (with_reducible rfl))
                  try simp only [Act.put, List.setIfInBounds_toArray, List.set_cons_zero, List.set_cons_succ]
                  refine wpT 12 ⟨some 36, .fieldAddr 47 (.tmp 1) 2, 0, "ref.go:37", #[⟨9, .guard⟩], some (9, true)⟩ ?_ (.inl ⟨by rfl, ?_⟩) ?_
                  rotate_left
                  · (intro W hSw; (try dsimp only at hSw); go_simp; try (with_reducible rfl))
                  try simp only [Act.put, List.setIfInBounds_toArray, List.set_cons_zero, List.set_cons_succ]
                  refine wpT 13 ⟨some 37, .load 45 (.tmp 36), 45, "ref.go:37", #[⟨12, .data⟩, ⟨9, .guard⟩], some (9, true)⟩ ?_ (.inl ⟨by rfl, ?_⟩) ?_
                  rotate_left
                  · (intro W hSw; (try dsimp only at hSw); go_simp; try (with_reducible rfl))
                  try simp only [Act.put, List.setIfInBounds_toArray, List.set_cons_zero, List.set_cons_succ]
                  refine wpT 14 ⟨some 38, .move (.tmp 3), 3, "ref.go:37", #[⟨9, .guard⟩], some (9, true)⟩ ?_ (.inl ⟨by rfl, ?_⟩) ?_
                  rotate_left
                  · (intro W hSw; (try dsimp only at hSw); go_simp; try (with_reducible rfl))
                  try simp only [Act.put, List.setIfInBounds_toArray, List.set_cons_zero, List.set_cons_succ]
                  refine wpT 15 ⟨some 39, .slice 45 (.tmp 37) none (some (.tmp 38)) none, 45, "ref.go:37", #[⟨13, .data⟩, ⟨14, .data⟩, ⟨9, .guard⟩], some (9, true)⟩ ?_ (.inl ⟨by rfl, ?_⟩) ?_
                  rotate_left
                  · (intro W hSw; (try dsimp only at hSw); go_simp; try (with_reducible rfl))
                  try simp only [Act.put, List.setIfInBounds_toArray, List.set_cons_zero, List.set_cons_succ]
                  refine wpT 16 ⟨some 40, .fieldAddr 53 (.tmp 4) 1, 0, "ref.go:37", #[⟨9, .guard⟩], some (9, true)⟩ ?_ (.inl ⟨by rfl, ?_⟩) ?_
                  rotate_left
                  · (intro W hSw; (try dsimp only at hSw); go_simp; try (with_reducible rfl))
                  try simp only [Act.put, List.setIfInBounds_toArray, List.set_cons_zero, List.set_cons_succ]
                  refine wpT 17 ⟨some 41, .load 3 (.tmp 40), 3, "ref.go:37", #[⟨16, .data⟩, ⟨9, .guard⟩], some (9, true)⟩ ?_ (.inl ⟨by rfl, ?_⟩) ?_
                  rotate_left
                  · (intro W hSw; (try dsimp only at hSw); go_simp; try (with_reducible rfl))
                  try simp only [Act.put, List.setIfInBounds_toArray, List.set_cons_zero, List.set_cons_succ]
                  refine wpAnyH_ready (rs := [18]) (by kernel_rfl) (by simp) ?_
                  refine AllReadyH.cons (o := ⟨some 42, .call { callee := .value (.func 46), args := #[.tmp 39, .tmp 41], argTypes := #[45, 3] }, 3, "ref.go:37", #[⟨15, .data⟩, ⟨17, .data⟩, ⟨9, .chain⟩, ⟨9, .guard⟩], some (9, true)⟩) rfl (fun K hK => ?_) AllReadyH.nil
                  go_simp
                  (first
    | (go_at_call 46; refine (HWr.out _ hHeld).mono ?_; rintro e w3 ⟨rfl, hu3⟩))
                  try (go_wp2_with fail)
                  refine hK.out _ _ ?_ (fun hHeld => ?_)
                  · (first | exact hu1.drew | exact hHeld.trans hu3)
                  clear hK K
                  try simp only [Act.put, List.setIfInBounds_toArray, List.set_cons_zero, List.set_cons_succ]
                  refine wpT 19 ⟨some 43, .binOp .gtr 3 (.tmp 35) (.tmp 42) 3, 4, "ref.go:37", #[⟨11, .data⟩, ⟨18, .data⟩, ⟨9, .guard⟩], some (9, true)⟩ ?_ (.inl ⟨by rfl, ?_⟩) ?_
                  rotate_left
                  · (intro W hSw; (try dsimp only at hSw); go_simp; try (with_reducible rfl))
                  try simp only [Act.put, List.setIfInBounds_toArray, List.set_cons_zero, List.set_cons_succ]
                  refine wpT 20 ⟨some 44, .pick (.tmp 33) (.tmp 43) (.const (.bool false)), 4, "ref.go:37", #[⟨9, .data⟩, ⟨19, .data⟩], none⟩ ?_ (.inl ⟨by rfl, ?_⟩) ?_
                  rotate_left
                  · (intro W hSw; (try dsimp only at hSw); go_simp; try (with_reducible rfl))
                  try simp only [Act.put, List.setIfInBounds_toArray, List.set_cons_zero, List.set_cons_succ]
                  refine wpAnyH_done (by kernel_rfl) (NoPanic.normal ?_) _
                  have HU2 := Lib.hid (HU.out.trans hHeld)
                  clear hHeld e0 e1 e2 e3 t0 t2 HCut
                  go_wp2
                  go_roundg (gk - 1)
                  case measure => omega
                  case rel => exact ⟨k + 1, by omega, by go_num, HS, HU2.out⟩
              · have htb : (tx == i0) = false := by simpa using hti
                have HS := Lib.hid (show errR i0 l (l.drop (k + 1)) (k + 1) = errR i0 l (l.drop 0) 0 by rw [← HST.out, htb]; rfl)
                clear hti
                go_wp2_with (go_at_call 64; refine HR.out.mono ?_; rintro e w1 ⟨rfl, hu1⟩)
                refine wp_region_noPanic ?_
                refine wp_region_held_drew (S := (fun w' => Upd No (wr.alloc (.cells #[.bool true, .int .i64 ky, .int .i64 tx, .int .i64 nt] 53)) w')) (by kernel_rfl) ?_ (fun hHeld => ?_)
                · (first | exact hu1.drew | exact hHeld.trans hu3)
                refine wpT 0 ⟨some 24, .fieldAddr 53 (.tmp 4) 0, 0, "ref.go:37", #[], none⟩ ?_ (.inl ⟨by rfl, ?_⟩) ?_
                rotate_left
                · (intro W hSw; (try dsimp only at hSw); go_simp; try (with_reducible rfl))
                try simp only [Act.put, List.setIfInBounds_toArray, List.set_cons_zero, List.set_cons_succ]
                refine wpT 1 ⟨some 25, .load 4 (.tmp 24), 4, "ref.go:37", #[⟨0, .data⟩], none⟩ ?_ (.inl ⟨by rfl, ?_⟩) ?_
                rotate_left
                · (intro W hSw; (try dsimp only at hSw); go_simp; try (with_reducible rfl))
                try simp only [Act.put, List.setIfInBounds_toArray, List.set_cons_zero, List.set_cons_succ]
                refine wpT 2 ⟨some 26, .move (.tmp 25), 4, "ref.go:37", #[⟨1, .data⟩], none⟩ ?_ (.inl ⟨by rfl, ?_⟩) ?_
                rotate_left
                · (intro W hSw; (try dsimp only at hSw); go_simp; try (with_reducible rfl))
                try simp only [Act.put, List.setIfInBounds_toArray, List.set_cons_zero, List.set_cons_succ]
                refine wpT 3 ⟨some 27, .fieldAddr 53 (.tmp 4) 2, 0, "ref.go:37", #[⟨2, .guard⟩], some (2, true)⟩ ?_ (.inl ⟨by rfl, ?_⟩) ?_
                rotate_left
                · (intro W hSw; (try dsimp only at hSw); go_simp; try (with_reducible rfl))
                try simp only [Act.put, List.setIfInBounds_toArray, List.set_cons_zero, List.set_cons_succ]
                refine wpT 4 ⟨some 28, .load 3 (.tmp 27), 3, "ref.go:37", #[⟨3, .data⟩, ⟨2, .guard⟩], some (2, true)⟩ ?_ (.inl ⟨by rfl, ?_⟩) ?_
                rotate_left
                · (intro W hSw; (try dsimp only at hSw); go_simp; try (with_reducible rfl))
                try simp only [Act.put, List.setIfInBounds_toArray, List.set_cons_zero, List.set_cons_succ]
                refine wpT 5 ⟨some 29, .fieldAddr 47 (.tmp 1) 0, 0, "ref.go:37", #[⟨2, .guard⟩], some (2, true)⟩ ?_ (.inl ⟨by rfl, ?_⟩) ?_
                rotate_left
                · (intro W hSw; (try dsimp only at hSw); go_simp; try (with_reducible rfl))
                try simp only [Act.put, List.setIfInBounds_toArray, List.set_cons_zero, List.set_cons_succ]
                refine wpT 6 ⟨some 30, .load 3 (.tmp 29), 3, "ref.go:37", #[⟨5, .data⟩, ⟨2, .guard⟩], some (2, true)⟩ ?_ (.inl ⟨by rfl, ?_⟩) ?_
                rotate_left
                · (intro W hSw; (try dsimp only at hSw); go_simp; try (with_reducible rfl))
                try simp only [Act.put, List.setIfInBounds_toArray, List.set_cons_zero, List.set_cons_succ]
                refine wpT 7 ⟨some 31, .binOp .eql 3 (.tmp 28) (.tmp 30) 3, 4, "ref.go:37", #[⟨4, .data⟩, ⟨6, .data⟩, ⟨2, .guard⟩], some (2, true)⟩ ?_ (.inl ⟨by rfl, ?_⟩) ?_
                rotate_left
                · (intro W hSw; (try dsimp only at hSw); go_simp; try (with_reducible rfl))
                try simp only [Act.put, List.setIfInBounds_toArray, List.set_cons_zero, List.set_cons_succ]
                refine wpT 8 ⟨some 32, .pick (.tmp 26) (.tmp 31) (.const (.bool false)), 4, "ref.go:37", #[⟨2, .data⟩, ⟨7, .data⟩], none⟩ ?_ (.inl ⟨by rfl, ?_⟩) ?_
                rotate_left
                · (intro W hSw; (try dsimp only at hSw); go_simp; try (with_reducible rfl))
                try simp only [Act.put, List.setIfInBounds_toArray, List.set_cons_zero, List.set_cons_succ]
                refine wpT 9 ⟨some 33, .move (.tmp 32), 4, "ref.go:37", #[⟨8, .data⟩, ⟨2, .chain⟩], none⟩ ?_ (.inl ⟨by rfl, ?_⟩) ?_
                rotate_left
                · (intro W hSw; (try dsimp only at hSw); go_simp; try (with_reducible rfl))
                try simp only [Act.put, List.setIfInBounds_toArray, List.set_cons_zero, List.set_cons_succ]
                refine wpT 10 ⟨some 34, .fieldAddr 53 (.tmp 4) 3, 0, "ref.go:37", #[⟨9, .guard⟩], some (9, true)⟩ undef (.inr ⟨by rfl, rfl⟩) ?_
                try simp only [Act.put, List.setIfInBounds_toArray, List.set_cons_zero, List.set_cons_succ]
                refine wpT 11 ⟨some 35, .load 3 (.tmp 34), 3, "ref.go:37", #[⟨10, .data⟩, ⟨9, .guard⟩], some (9, true)⟩ undef (.inr ⟨by rfl, rfl⟩) ?_
                try simp only [Act.put, List.setIfInBounds_toArray, List.set_cons_zero, List.set_cons_succ]
                refine wpT 12 ⟨some 36, .fieldAddr 47 (.tmp 1) 2, 0, "ref.go:37", #[⟨9, .guard⟩], some (9, true)⟩ undef (.inr ⟨by rfl, rfl⟩) ?_
                try simp only [Act.put, List.setIfInBounds_toArray, List.set_cons_zero, List.set_cons_succ]
                refine wpT 13 ⟨some 37, .load 45 (.tmp 36), 45, "ref.go:37", #[⟨12, .data⟩, ⟨9, .guard⟩], some (9, true)⟩ undef (.inr ⟨by rfl, rfl⟩) ?_
                try simp only [Act.put, List.setIfInBounds_toArray, List.set_cons_zero, List.set_cons_succ]
                refine wpT 14 ⟨some 38, .move (.tmp 3), 3, "ref.go:37", #[⟨9, .guard⟩], some (9, true)⟩ undef (.inr ⟨by rfl, rfl⟩) ?_
                try simp only [Act.put, List.setIfInBounds_toArray, List.set_cons_zero, List.set_cons_succ]
                refine wpT 15 ⟨some 39, .slice 45 (.tmp 37) none (some (.tmp 38)) none, 45, "ref.go:37", #[⟨13, .data⟩, ⟨14, .data⟩, ⟨9, .guard⟩], some (9, true)⟩ undef (.inr ⟨by rfl, rfl⟩) ?_
                try simp only [Act.put, List.setIfInBounds_toArray, List.set_cons_zero, List.set_cons_succ]
                refine wpT 16 ⟨some 40, .fieldAddr 53 (.tmp 4) 1, 0, "ref.go:37", #[⟨9, .guard⟩], some (9, true)⟩ undef (.inr ⟨by rfl, rfl⟩) ?_
                try simp only [Act.put, List.setIfInBounds_toArray, List.set_cons_zero, List.set_cons_succ]
                refine wpT 17 ⟨some 41, .load 3 (.tmp 40), 3, "ref.go:37", #[⟨16, .data⟩, ⟨9, .guard⟩], some (9, true)⟩ undef (.inr ⟨by rfl, rfl⟩) ?_
                try simp only [Act.put, List.setIfInBounds_toArray, List.set_cons_zero, List.set_cons_succ]
                refine wpAnyH_ready (rs := [18]) (by kernel_rfl) (by simp) ?_
                refine AllReadyH.cons (o := ⟨some 42, .call { callee := .value (.func 46), args := #[.tmp 39, .tmp 41], argTypes := #[45, 3] }, 3, "ref.go:37", #[⟨15, .data⟩, ⟨17, .data⟩, ⟨9, .chain⟩, ⟨9, .guard⟩], some (9, true)⟩) rfl (fun K hK => ?_) AllReadyH.nil
                go_simp
                refine hK.out _ _ ?_ (fun hHeld => ?_)
                · exact hHeld
                clear hK K
                try simp only [Act.put, List.setIfInBounds_toArray, List.set_cons_zero, List.set_cons_succ]
                refine wpT 19 ⟨some 43, .binOp .gtr 3 (.tmp 35) (.tmp 42) 3, 4, "ref.go:37", #[⟨11, .data⟩, ⟨18, .data⟩, ⟨9, .guard⟩], some (9, true)⟩ undef (.inr ⟨by rfl, rfl⟩) ?_
                try simp only [Act.put, List.setIfInBounds_toArray, List.set_cons_zero, List.set_cons_succ]
                refine wpT 20 ⟨some 44, .pick (.tmp 33) (.tmp 43) (.const (.bool false)), 4, "ref.go:37", #[⟨9, .data⟩, ⟨19, .data⟩], none⟩ ?_ (.inl ⟨by rfl, ?_⟩) ?_
                rotate_left
                · (intro W hSw; (try dsimp only at hSw); go_simp; try (with_reducible rfl))
                try simp only [Act.put, List.setIfInBounds_toArray, List.set_cons_zero, List.set_cons_succ]
                refine wpAnyH_done (by kernel_rfl) (NoPanic.normal ?_) _
                have HU2 := Lib.hid (HU.out.trans hHeld)
                clear hHeld e0 e1 e2 e3 t0 t2 HCut
                go_wp2
                go_roundg (gk - 1)
                case measure => omega
                case rel => exact ⟨k + 1, by omega, by go_num, HS, HU2.out⟩
        · obtain rfl : k = l.length := by omega
          have HV2 := Lib.hid (show errR i0 l (l.drop 0) 0 = 0 by rw [← hs.out, List.drop_length]; rfl)
          go_wp2
          go_ret
          exact ⟨by rw [HV.out]; rw [show errR i0 l (List.drop 0 l) 0 = 0 from HV2.out]; rfl, u0.trans hu⟩
end Go.Proofs.YtgakhpdclhlmpaaGreat

/- The document on histories: orders, writers, keys. -/
namespace Go.Proofs.YtgakhpdclhlmpaaGreat
set_option linter.unusedVariables false
open Go.RowKit
def ordS (key : Int) : List HOrd → List Int
  | [] => []
  | o :: l => if o.key = key then o.txs else ordS key l
theorem ordS_cons (key : Int) (o : HOrd) (l : List HOrd) : ordS key (o :: l) = if o.key = key then o.txs else ordS key l := rfl
theorem ordS_eq (key : Int) : ∀ l : List HOrd, ordS key l = orderOf l key
  | [] => rfl
  | o :: l => by
    have ih := ordS_eq key l
    rw [ordS_cons, ih]
    unfold orderOf posO
    rw [List.findIdx_cons]
    by_cases h : o.key = key
    · rw [if_pos h, show (o.key == key) = true by simpa using h]; rfl
    · rw [if_neg h, show (o.key == key) = false by simpa using h]; rfl
/-- an order that lies there -/
def OrdR (F : Nat → Prop) (w : World) (l : List Int) (e : Ending) (w' : World) : Prop := ∃ A c, e = .returned (.slice A l.length c) ∧ Ints F w' A l ∧ l.length ≤ 17592186044415 ∧ Upd No w w'
set_option maxRecDepth 100000 in
theorem rOrder (F : Nat → Prop) (w : World) (txs : List HTx) (ords : List HOrd) (A : Option Addr) (c : Nat) (B : Option Addr) (d : Nat) (key : Int) (H : Hist.lies F w ⟨txs, ords, A, c, B, d⟩) :
    Calls Tryz.prog 44 #[.agg #[.slice A txs.length c, .slice B ords.length d], .int .i64 key] w (OrdR F w (ordS key ords)) := by
  have hfo := H.fewo
  simp only at hfo
  go_enter Tryz.func44, Tryz.ntmps44
  go_wp2
  go_loopg [10] ords.length (fun gk i wr => ∃ (k : Nat), k + gk = ords.length ∧ i = .int .i64 k ∧ Hid (ordS key (ords.drop k) = ordS key ords) ∧ Upd No w wr)
  case atStart => exact ⟨0, by omega, rfl, Lib.hid rfl, (Upd.refl No w).alloc _⟩
  case round =>
    obtain ⟨k, hgk, rfl, hs, hu⟩ := hrel
    by_cases hlt : k < ords.length
    · obtain ⟨ad, hAd, q0, q1⟩ := (H.upd hu (fun _ _ => id)).ord_at hlt
      have hlo := H.ord ords[k] (List.getElem_mem hlt)
      simp only at hAd q0 q1
      obtain ⟨x, hx⟩ : ∃ x, ords[k] = x := ⟨_, rfl⟩
      rw [hx] at q0 q1 hlo
      subst hAd
      have X := Lib.hid (show ords.drop k = x :: ords.drop (k + 1) by rw [← hx]; exact List.drop_eq_getElem_cons hlt)
      have HL := Lib.hid hlo
      have b1 : (0 : Int) ≤ (k : Int) := Int.natCast_nonneg _
      have b2 : (k : Int) < (ords.length : Int) := by omega
      have uA := hu.alloc (.cells #[.int .i64 x.key, .slice x.A x.txs.length x.c] 50)
      have hst := hs.out
      rw [X.out, ordS_cons] at hst
      clear hx hlo
      by_cases he : x.key = key
      · have heb : (x.key == key) = true := by simpa using he
        rw [if_pos he] at hst
        have HS := Lib.hid hst
        clear hst he
        go_wp2
        go_ret
        exact ⟨x.A, x.c, by rw [← HS.out]; rfl, by rw [← HS.out]; exact HL.out.1.upd uA (fun _ _ => id), by rw [← HS.out]; exact HL.out.2.2.1, uA⟩
      · have heb : (x.key == key) = false := by simpa using he
        rw [if_neg he] at hst
        have HS := Lib.hid hst
        clear hst he
        go_wp2
        go_roundg (gk - 1)
        case measure => omega
        case rel => exact ⟨k + 1, by omega, by go_num, HS, uA⟩
    · obtain rfl : k = ords.length := by omega
      have HS := Lib.hid (show ([] : List Int) = ordS key ords by rw [← hs.out, List.drop_length]; rfl)
      go_wp2
      go_ret
      exact ⟨none, 0, by rw [← HS.out]; rfl, by rw [← HS.out]; exact Ints.nil_, by rw [← HS.out]; simp, hu⟩
/-- the done ones that write a key -/
def wrS (key : Int) (acc : List Int) : List HTx → List Int
  | [] => acc
  | t :: l => wrS key (if t.done && decide (0 < writesN t.ops key) then acc ++ [t.id] else acc) l
theorem wrS_cons (key : Int) (acc : List Int) (t : HTx) (l : List HTx) : wrS key acc (t :: l) = wrS key (if t.done && decide (0 < writesN t.ops key) then acc ++ [t.id] else acc) l := rfl
set_option maxRecDepth 100000 in
set_option maxHeartbeats 1000000 in
theorem rWriters (F : Nat → Prop) (w : World) (txs : List HTx) (ords : List HOrd) (A : Option Addr) (c : Nat) (B : Option Addr) (d : Nat) (key : Int) (H : Hist.lies F w ⟨txs, ords, A, c, B, d⟩) :
    Calls Tryz.prog 42 #[.agg #[.slice A txs.length c, .slice B ords.length d], .int .i64 key] w (NewR w (wrS key [] txs)) := by
  have hfo := H.few
  simp only at hfo
  go_enter Tryz.func42, Tryz.ntmps42
  go_wp2
  go_loopg [5, 11] txs.length (fun gk s i wr => ∃ (k : Nat) (A3 : Option Addr) (c3 : Nat) (xs : List Int), k + gk = txs.length ∧ i = .int .i64 k ∧ s = .slice A3 xs.length c3 ∧ Hid (wrS key xs (txs.drop k) = wrS key [] txs) ∧ xs.length ≤ k ∧
    Hid (wr.ownsRow w.heap.size 3 1 (.slice A3 xs.length c3) xs.length (xs.map (Value.int .i64))) ∧ Upd No w wr)
  case atStart => exact ⟨0, none, 0, [], by omega, rfl, rfl, Lib.hid rfl, by simp, Lib.hid (World.ownsRow_nil _ _ _ _), (Upd.refl No w).alloc _⟩
  case round =>
    obtain ⟨k, A3, c3, xs, hgk, rfl, rfl, hs, hxl, hown, hu⟩ := hrel
    by_cases hlt : k < txs.length
    · obtain ⟨ad, hAd, q0, q1, q2⟩ := (H.upd hu (fun _ _ => id)).tx_at hlt
      have hlo := H.tx txs[k] (List.getElem_mem hlt)
      simp only at hAd q0 q1 q2
      obtain ⟨x, hx⟩ : ∃ x, txs[k] = x := ⟨_, rfl⟩
      rw [hx] at q0 q1 q2 hlo
      obtain ⟨xi, xd, xo, xA, xc⟩ := x
      simp only at q0 q1 q2
      subst hAd
      have X := Lib.hid (show txs.drop k = ⟨xi, xd, xo, xA, xc⟩ :: txs.drop (k + 1) by rw [← hx]; exact List.drop_eq_getElem_cons hlt)
      have HL := Lib.hid hlo
      have XM := Lib.hid (show (⟨xi, xd, xo, xA, xc⟩ : HTx) ∈ txs by rw [← hx]; exact List.getElem_mem hlt)
      have b1 : (0 : Int) ≤ (k : Int) := Int.natCast_nonneg _
      have b2 : (k : Int) < (txs.length : Int) := by omega
      have uA := hu.alloc (.cells #[.int .i64 xi, .bool xd, .slice xA xo.length xc] 47)
      clear hx hlo
      have hst := hs.out
      rw [X.out, wrS_cons] at hst
      have HST := Lib.hid hst
      have bb := Blk.new wr 47 [.int .i64 xi, .bool xd, .slice xA xo.length xc]
      have hz := hu.size
      have HO := Lib.hid (own_upd hown.out ((Upd.refl No wr).alloc (.cells #[.int .i64 xi, .bool xd, .slice xA xo.length xc] 47)) (fun _ _ => id))
      have BB := Lib.hid bb
      clear hst bb
      cases xd
      · have HS := Lib.hid (show wrS key xs (txs.drop (k + 1)) = wrS key [] txs from HST.out)
        go_wp2
        go_roundg (gk - 1)
        case measure => omega
        case rel => exact ⟨k + 1, A3, c3, xs, by omega, by go_num, rfl, HS, by omega, HO, uA⟩
      · have e2 : (wr.alloc (.cells #[.int .i64 xi, .bool true, .slice xA xo.length xc] 47)).cell? ⟨wr.heap.size, 0, none⟩ = some (.int .i64 xi) := BB.out.cell 0
        go_wp2_with fail
        refine (rwrites F _ xA xc xo key (HOps.upd HL.out.1 uA (fun _ _ => id)) HL.out.2.2.1).mono ?_
        rintro e w1 ⟨rfl, hu1⟩
        have e0 : w1.cell? ⟨wr.heap.size, 0, none⟩ = some (.int .i64 xi) := (BB.out.upd hu1 id).cell 0
        have HO1 := own_upd HO.out hu1 (fun _ _ => id)
        have hz1 := hu1.size
        simp only [World.size_alloc] at hz1
        have HU := Lib.hid (uA.trans hu1)
        clear hu1 e2
        by_cases hw : 0 < writesN xo key
        · have HS := Lib.hid (show wrS key (xs ++ [xi]) (txs.drop (k + 1)) = wrS key [] txs by rw [← HST.out, decide_eq_true hw]; rfl)
          have hwd : decide ((0 : Int) < ((writesN xo key : Nat) : Int)) = true := decide_eq_true (by omega)
          have hwd2 : decide (0 < writesN xo key) = true := decide_eq_true hw
          clear hw
          go_wp2_with (at_builtin; refine app1s rfl rfl slt_intR (v := .slice A3 xs.length c3) (cells := [.int .i64 xi]) (by rfl) rfl HO1 rfl rfl (by omega) (by omega) (by omega) ?_; intro g' c' w4 hown4 hu4 hg4 hlt4)
          go_roundg (gk - 1)
          case measure => omega
          case rel => exact ⟨k + 1, some ⟨g', 0, none⟩, c', xs ++ [xi], by omega, by go_num, by simp, HS, by simp; omega, Lib.hid (by simpa using hown4), HU.out.then_ hu4 fun i e => .inr (HO1.lt i e).1⟩
        · have HS := Lib.hid (show wrS key xs (txs.drop (k + 1)) = wrS key [] txs by rw [← HST.out, decide_eq_false hw]; rfl)
          have hwd : decide ((0 : Int) < ((writesN xo key : Nat) : Int)) = false := decide_eq_false (by omega)
          have hwd2 : decide (0 < writesN xo key) = false := decide_eq_false hw
          clear hw
          go_wp2
          go_roundg (gk - 1)
          case measure => omega
          case rel => exact ⟨k + 1, A3, c3, xs, by omega, by go_num, rfl, HS, by omega, Lib.hid HO1, HU.out⟩
    · obtain rfl : k = txs.length := by omega
      have HV := Lib.hid (show xs = wrS key [] txs by rw [← hs.out, List.drop_length]; rfl)
      go_wp2
      go_ret
      exact ⟨A3, c3, by rw [← HV.out]; rfl, by rw [← HV.out]; exact hown.out, hu⟩
end Go.Proofs.YtgakhpdclhlmpaaGreat

/- The document on histories: the keys that are written; whether one is right. -/
namespace Go.Proofs.YtgakhpdclhlmpaaGreat
set_option linter.unusedVariables false
open Go.RowKit
theorem newR_ints2 {w' : World} {base : Nat} {A : Option Addr} {c : Nat} {l : List Int} (h : w'.ownsRow base 3 1 (.slice A l.length c) l.length (l.map (Value.int .i64))) : Ints (fun i => base ≤ i) w' A l := Ints.of_own h
def keysHG (s : List Int) : List HTx → List Int
  | [] => s
  | t :: l => keysHG (if t.done then putAll s (keysG false [] t.ops) else s) l
theorem keysHG_cons (s : List Int) (t : HTx) (l : List HTx) : keysHG s (t :: l) = keysHG (if t.done then putAll s (keysG false [] t.ops) else s) l := rfl
theorem putAll_cons (s : List Int) (k : Int) (l : List Int) : putAll s (k :: l) = putAll (putL k s) l := rfl
theorem keysG_len (tch : Bool) : ∀ (l : List HOp) (s : List Int), (keysG tch s l).length ≤ s.length + l.length
  | [], s => by simp [keysG]
  | o :: l, s => by
    rw [keysG_cons]
    have := keysG_len tch l (if tch || !o.read then putL o.key s else s)
    have h2 : (if tch || !o.read then putL o.key s else s).length ≤ s.length + 1 := by
      split
      · exact putL_len _ _
      · omega
    rw [List.length_cons]; omega
set_option maxRecDepth 100000 in
set_option maxHeartbeats 1000000 in
theorem rKeysH (F : Nat → Prop) (w : World) (txs : List HTx) (ords : List HOrd) (A : Option Addr) (c : Nat) (B : Option Addr) (d : Nat) (H : Hist.lies F w ⟨txs, ords, A, c, B, d⟩) (hn : txs.length ≤ 4096) (ho : ∀ t ∈ txs, t.ops.length ≤ 4095) :
    Calls Tryz.prog 40 #[.agg #[.slice A txs.length c, .slice B ords.length d]] w (NewR w (keysHG [] txs)) := by
  go_enter Tryz.func40, Tryz.ntmps40
  go_wp2
  go_loopg [3, 11] txs.length (fun gk s i wr => ∃ (k : Nat) (A3 : Option Addr) (c3 : Nat) (xs : List Int), k + gk = txs.length ∧ i = .int .i64 k ∧ s = .slice A3 xs.length c3 ∧ Hid (keysHG xs (txs.drop k) = keysHG [] txs) ∧ xs.length ≤ 4095 * k ∧
    Hid (wr.ownsRow w.heap.size 3 1 (.slice A3 xs.length c3) xs.length (xs.map (Value.int .i64))) ∧ Upd No w wr)
  case atStart => exact ⟨0, none, 0, [], by omega, rfl, rfl, Lib.hid rfl, by simp, Lib.hid (World.ownsRow_nil _ _ _ _), (Upd.refl No w).alloc _⟩
  case round =>
    obtain ⟨k, A3, c3, xs, hgk, rfl, rfl, hs, hxl, hown, hu⟩ := hrel
    by_cases hlt : k < txs.length
    · obtain ⟨ad, hAd, q0, q1, q2⟩ := (H.upd hu (fun _ _ => id)).tx_at hlt
      have hlo := H.tx txs[k] (List.getElem_mem hlt)
      simp only at hAd q0 q1 q2
      obtain ⟨x, hx⟩ : ∃ x, txs[k] = x := ⟨_, rfl⟩
      rw [hx] at q0 q1 q2 hlo
      obtain ⟨xi, xd, xo, xA, xc⟩ := x
      simp only at q0 q1 q2
      subst hAd
      have X := Lib.hid (show txs.drop k = ⟨xi, xd, xo, xA, xc⟩ :: txs.drop (k + 1) by rw [← hx]; exact List.drop_eq_getElem_cons hlt)
      have HL := Lib.hid hlo
      have XM := Lib.hid (show (⟨xi, xd, xo, xA, xc⟩ : HTx) ∈ txs by rw [← hx]; exact List.getElem_mem hlt)
      have b1 : (0 : Int) ≤ (k : Int) := Int.natCast_nonneg _
      have b2 : (k : Int) < (txs.length : Int) := by omega
      have uA := hu.alloc (.cells #[.int .i64 xi, .bool xd, .slice xA xo.length xc] 47)
      clear hx hlo
      have hst := hs.out
      rw [X.out, keysHG_cons] at hst
      have HST := Lib.hid hst
      have hz := hu.size
      have HO := Lib.hid (own_upd hown.out ((Upd.refl No wr).alloc (.cells #[.int .i64 xi, .bool xd, .slice xA xo.length xc] 47)) (fun _ _ => id))
      have hol := ho _ XM.out
      simp only at hol
      clear hst
      cases xd
      · have HS := Lib.hid (show keysHG xs (txs.drop (k + 1)) = keysHG [] txs from HST.out)
        go_wp2
        go_roundg (gk - 1)
        case measure => omega
        case rel => exact ⟨k + 1, A3, c3, xs, by omega, by go_num, rfl, HS, by omega, HO, uA⟩
      · have hkl := keysG_len false xo []
        have HK := Lib.hid (rKeys F _ xi true xA xc xo false (HOps.upd HL.out.1 uA (fun _ _ => id)) (by omega))
        have HS0 := Lib.hid (show keysHG (putAll xs (keysG false [] xo)) (txs.drop (k + 1)) = keysHG [] txs from HST.out)
        obtain ⟨ks, hks⟩ : ∃ ks, keysG false [] xo = ks := ⟨_, rfl⟩
        rw [hks] at HK HS0 hkl
        simp only [List.length_nil, Nat.zero_add] at hkl
        clear hks
        go_wp2_with fail
        refine (HK.out).mono ?_
        rintro e w1 ⟨A5, c5, rfl, ho5, hu1⟩
        have HI := Lib.hid (newR_ints ho5)
        have HO1 := Lib.hid (own_upd HO.out hu1 (fun _ _ => id))
        have HU := Lib.hid (uA.trans hu1)
        clear ho5 hu1
        generalize gk = m0 at *
        go_wp2
        go_loopg [3, 20] ks.length (fun gm s i w2 => ∃ (j : Nat) (A4 : Option Addr) (c4 : Nat) (ys : List Int), j + gm = ks.length ∧ i = .int .i64 j ∧ s = .slice A4 ys.length c4 ∧ Hid (putAll ys (ks.drop j) = putAll xs ks) ∧ ys.length ≤ xs.length + j ∧
          Hid (w2.ownsRow w.heap.size 3 1 (.slice A4 ys.length c4) ys.length (ys.map (Value.int .i64))) ∧ Upd No w1 w2)
        case atStart => exact ⟨0, A3, c3, xs, by omega, rfl, rfl, Lib.hid rfl, by omega, HO1, Upd.refl _ _⟩
        case round =>
          obtain ⟨j, A4, c4, ys, hgm, rfl, rfl, hs2, hyl, hown2, hu2⟩ := hrel
          by_cases hlt2 : j < ks.length
          · obtain ⟨ad2, hA2, _, _, hc2⟩ := (HI.out.upd hu2 (fun _ _ => id)).at_ hlt2
            obtain ⟨y, hy⟩ : ∃ y, ks[j] = y := ⟨_, rfl⟩
            rw [hy] at hc2
            subst hA2
            have Y := Lib.hid (show ks.drop j = y :: ks.drop (j + 1) by rw [← hy]; exact List.drop_eq_getElem_cons hlt2)
            have c1 : (0 : Int) ≤ (j : Int) := Int.natCast_nonneg _
            have c2 : (j : Int) < (ks.length : Int) := by omega
            have hst := hs2.out
            rw [Y.out, putAll_cons] at hst
            have HS := Lib.hid hst
            have hpl := putL_len y ys
            have hmul : 4095 * k ≤ 4095 * 4096 := Nat.mul_le_mul_left _ (by omega)
            have hz2 := (HU.out.trans hu2).size
            clear hy hst
            go_wp2_with fail
            refine (rPut _ _ A4 c4 ys y (newR_ints2 hown2.out) (by omega)).mono ?_
            rintro e w3 ⟨A6, c6, rfl, ho6, hu3⟩
            go_wp2
            go_roundg (gk - 1)
            case measure => omega
            case rel => exact ⟨j + 1, A6, c6, putL y ys, by omega, by go_num, rfl, HS, by omega, Lib.hid (own_base ho6 hz2), hu2.trans hu3⟩
          · obtain rfl : j = ks.length := by omega
            have HV := Lib.hid (show ys = putAll xs ks by rw [← hs2.out, List.drop_length]; rfl)
            go_wp2
            go_roundg (m0 - 1)
            case measure => omega
            case rel => exact ⟨k + 1, A4, c4, ys, by omega, by go_num, rfl, Lib.hid (by rw [HV.out]; exact HS0.out), by omega, hown2, HU.out.trans hu2⟩
    · obtain rfl : k = txs.length := by omega
      have HV := Lib.hid (show xs = keysHG [] txs by rw [← hs.out, List.drop_length]; rfl)
      go_wp2
      go_ret
      exact ⟨A3, c3, by rw [← HV.out]; rfl, by rw [← HV.out]; exact hown.out, hu⟩
end Go.Proofs.YtgakhpdclhlmpaaGreat
