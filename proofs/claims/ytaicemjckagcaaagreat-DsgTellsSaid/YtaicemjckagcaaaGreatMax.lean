/- The document on histories: needs, right transactions, orders, writers, keys. -/
import Derived.Test.YtaicemjckagcaaaGreatMaw
namespace Go.Proofs.YtaicemjckagcaaaGreat
set_option linter.unusedVariables false
open Go.RowKit
theorem needsS_len (id : Int) : ∀ (l : List HOp) (acc : List Ver), (needsS id acc l).length ≤ acc.length + l.length
  | [], acc => by simp [needsS]
  | o :: l, acc => by
    rw [needsS_cons]
    have := needsS_len id l (if needsFR id o && !acc.contains (verOf o) then acc ++ [verOf o] else acc)
    have h2 : (if needsFR id o && !acc.contains (verOf o) then acc ++ [verOf o] else acc).length ≤ acc.length + 1 := by split <;> simp
    rw [List.length_cons]; omega
set_option maxRecDepth 100000 in
set_option maxHeartbeats 1000000 in
theorem rneeds (F : Nat → Prop) (w : World) (txs : List HTx) (ords : List HOrd) (A : Option Addr) (c : Nat) (B : Option Addr) (d : Nat) (i0 : Int) (dn : Bool) (A1 : Option Addr) (c1 : Nat) (l : List HOp)
    (H : Hist.lies F w ⟨txs, ords, A, c, B, d⟩) (h : HOps F w A1 l) (hl : l.length ≤ 100000) :
    Calls Tryz.prog 83 #[.agg #[.slice A txs.length c, .slice B ords.length d], .agg #[.int .i64 i0, .bool dn, .slice A1 l.length c1]] w fun e w' => e = .returned (.bool ((needsS i0 [] l).all (hasR txs))) ∧ Upd No w w' := by
  have u0 := ((Upd.refl No w).alloc (.cells #[.slice A txs.length c, .slice B ords.length d] 25)).alloc (.cells #[.int .i64 i0, .bool dn, .slice A1 l.length c1] 47)
  have bH := Lib.hid ((Blk.new w 25 [.slice A txs.length c, .slice B ords.length d]).alloc (.cells #[.int .i64 i0, .bool dn, .slice A1 l.length c1] 47))
  have HN := Lib.hid (rNeeds F _ i0 dn A1 c1 l (HOps.upd h u0 (fun _ _ => id)) hl)
  have hlen := needsS_len i0 l []
  obtain ⟨ns, hns⟩ : ∃ ns, needsS i0 [] l = ns := ⟨_, rfl⟩
  rw [hns] at HN hlen ⊢
  simp only [List.length_nil, Nat.zero_add] at hlen
  have U0 := Lib.hid u0
  clear hns u0
  go_enter Tryz.func83, Tryz.ntmps83
  go_wp2_with fail
  refine (HN.out).mono ?_
  rintro e w1 ⟨A2, c2, rfl, ho2, hu1⟩
  have HV := Lib.hid (ver_new_own ho2)
  have U1 := Lib.hid (U0.out.trans hu1)
  have hT0 : ∀ W, Upd No w1 W → W.cell? ⟨w.heap.size, 0, none⟩ = some (.slice A txs.length c) := fun W hW => (bH.out.upd (hu1.trans hW) id).cell 0
  have hT1 : ∀ W, Upd No w1 W → W.cell? ⟨w.heap.size, 1, none⟩ = some (.slice B ords.length d) := fun W hW => (bH.out.upd (hu1.trans hW) id).cell 1
  have HH := Lib.hid fun W (hW : Upd No w1 W) v => rHas F W txs ords A c B d v (H.upd (U1.out.trans hW) (fun _ _ => id))
  clear ho2 hu1
  go_wp2
  go_loopg [10] ns.length (fun gk i wr => ∃ (k : Nat), k + gk = ns.length ∧ i = .int .i64 k ∧ Hid ((ns.drop k).all (hasR txs) = ns.all (hasR txs)) ∧ Upd No w1 wr)
  case atStart => exact ⟨0, by omega, rfl, Lib.hid rfl, Upd.refl _ _⟩
  case round =>
    obtain ⟨k, hgk, rfl, hs, hu⟩ := hrel
    by_cases hlt : k < ns.length
    · obtain ⟨ad, hAd, q0, q1, q2⟩ := (HV.out.upd hu (fun _ _ => id)).at_ hlt
      obtain ⟨x, hx⟩ : ∃ x, ns[k] = x := ⟨_, rfl⟩
      rw [hx] at q0 q1 q2
      subst hAd
      have X := Lib.hid (show ns.drop k = x :: ns.drop (k + 1) by rw [← hx]; exact List.drop_eq_getElem_cons hlt)
      have b1 : (0 : Int) ≤ (k : Int) := Int.natCast_nonneg _
      have b2 : (k : Int) < (ns.length : Int) := by omega
      clear hx
      have uA := hu.alloc (.cells #[.int .i64 x.tx, .int .i64 x.key, .int .i64 x.nth] 42)
      have hst := hs.out
      rw [X.out, List.all_cons] at hst
      have HC := Lib.hid (HH.out _ uA ⟨x.tx, x.key, x.nth⟩)
      obtain ⟨b, hb⟩ : ∃ b, hasR txs ⟨x.tx, x.key, x.nth⟩ = b := ⟨_, rfl⟩
      rw [hb] at HC
      rw [show hasR txs x = b from hb] at hst
      cases b
      · have HS := Lib.hid (show ns.all (hasR txs) = false by rw [← hst]; rfl)
        clear hst hb
        go_wp2_with fail
        refine (HC.out).mono ?_
        rintro e w2 ⟨rfl, hu2⟩
        have HU := Lib.hid (U1.out.trans (uA.trans hu2))
        go_wp2
        go_ret
        exact ⟨by rw [HS.out]; rfl, HU.out⟩
      · rw [Bool.true_and] at hst
        have HS := Lib.hid hst
        clear hst hb
        go_wp2_with fail
        refine (HC.out).mono ?_
        rintro e w2 ⟨rfl, hu2⟩
        go_wp2
        go_roundg (gk - 1)
        case measure => omega
        case rel => exact ⟨k + 1, by omega, by go_num, HS, uA.trans hu2⟩
    · obtain rfl : k = ns.length := by omega
      have HS := Lib.hid (show ns.all (hasR txs) = true by rw [← hs.out, List.drop_length]; rfl)
      go_wp2
      go_ret
      exact ⟨by rw [HS.out]; rfl, U1.out.trans hu⟩
/-- the code that an operation gives, by the document -/
def badR (id : Int) (all : List HOp) (k : Nat) (o : HOp) : Int := if opB o = false then 1 else if o.read && o.tx == id && decide ((wrN all o.key k : Int) < o.nth) then 6 else 0
def errR (id : Int) (all : List HOp) : List HOp → Nat → Int
  | [], _ => 0
  | o :: l, k => if badR id all k o = 0 then errR id all l (k + 1) else badR id all k o
theorem errR_cons (id : Int) (all : List HOp) (o : HOp) (l : List HOp) (k : Nat) : errR id all (o :: l) k = if badR id all k o = 0 then errR id all l (k + 1) else badR id all k o := rfl
theorem errR_eq (id : Int) (l : List HOp) : ∀ (m : Nat) (k : Nat), k + m = l.length → opsErr id l k = 0 → errR id l (l.drop k) k = opsErr id l l.length
  | 0, k, hk, h0 => by
    obtain rfl : k = l.length := by omega
    rw [List.drop_length, h0]; rfl
  | m + 1, k, hk, h0 => by
    have hlt : k < l.length := by omega
    rw [List.drop_eq_getElem_cons hlt, errR_cons]
    have hb : badAt id l k = badR id l k l[k] := by
      unfold badAt badR
      rw [List.getElem?_eq_getElem hlt]
      have : (!decide (l[k].nth ≤ (wrN l l[k].key k : Int))) = decide ((wrN l l[k].key k : Int) < l[k].nth) := by
        rw [← decide_not]; congr 1; simp only [eq_iff_iff]; omega
      simp only [this]
    have hstep : opsErr id l (k + 1) = badR id l k l[k] := by
      show (if opsErr id l k = 0 then badAt id l k else opsErr id l k) = _
      rw [if_pos h0, hb]
    by_cases hz : badR id l k l[k] = 0
    · rw [if_pos hz]
      exact errR_eq id l m (k + 1) (by omega) (by rw [hstep, hz])
    · rw [if_neg hz, ← hstep]
      have hst : ∀ n, opsErr id l (k + 1 + n) = opsErr id l (k + 1) := by
        intro n
        induction n with
        | zero => rfl
        | succ n ih =>
          show (if opsErr id l (k + 1 + n) = 0 then badAt id l (k + 1 + n) else opsErr id l (k + 1 + n)) = _
          rw [ih, if_neg (by rw [hstep]; exact hz)]
      have := hst (l.length - (k + 1))
      rw [show k + 1 + (l.length - (k + 1)) = l.length by omega] at this
      exact this.symm
theorem rwrites_cut (F : Nat → Prop) (w : World) (A : Option Addr) (c c2 : Nat) (l : List HOp) (k : Nat) (key : Int) (h : HOps F w A l) (hk : k ≤ l.length) (hl : fewOps l.length) (hc : l.length ≤ c2) :
    Calls Tryz.prog 57 #[.slice (cutA A c2 0 4) k c, .int .i64 key] w fun e w' => e = .returned (.int .i64 ((wrN l key k : Nat) : Int)) ∧ Upd No w w' := by
  have h1 : HOps F w (cutA A c2 0 4) (l.take k) := by
    have h2 := Recs.take (Recs.cut (i := 0) h (c := c2) (by simpa using hc)) (i := k)
    unfold HOps
    rw [List.drop_zero] at h2
    rwa [List.map_take]
  have hlen : (l.take k).length = k := by rw [List.length_take]; omega
  have := rwrites F w (cutA A c2 0 4) c (l.take k) key h1 (by unfold fewOps at *; omega)
  rw [hlen] at this
  have hw : writesN (l.take k) key = wrN l key k := by unfold writesN wrN; rw [hlen, List.take_take, Nat.min_self]
  rwa [hw] at this
set_option maxRecDepth 100000 in
set_option maxHeartbeats 1000000 in
theorem rRight10 (F : Nat → Prop) (w : World) (i0 : Int) (dn : Bool) (A : Option Addr) (c : Nat) (l : List HOp) (h : HOps F w A l) (hlc : l.length ≤ c) (hl : fewOps l.length) :
    Calls Tryz.prog 21 #[.agg #[.int .i64 i0, .bool dn, .slice A l.length c]] w fun e w' => e = .returned (.int .i64 (txErr i0 l)) ∧ Upd No w w' := by
  unfold fewOps at hl
  have u0 := (Upd.refl No w).alloc (.cells #[.int .i64 i0, .bool dn, .slice A l.length c] 47)
  have bT := Lib.hid (Blk.new w 47 [.int .i64 i0, .bool dn, .slice A l.length c])
  obtain ⟨b, hb⟩ : ∃ b, idB i0 = b := ⟨_, rfl⟩
  cases b
  · have HV := Lib.hid (show txErr i0 l = 1 by unfold txErr; rw [if_pos hb])
    have Hb := Lib.hid hb
    clear hb
    go_enter Tryz.func21, Tryz.ntmps21
    go_wp2_with fail
    refine (ridV Hb.out).mono ?_
    rintro e w1 ⟨rfl, rfl⟩
    go_wp2
    go_ret
    exact ⟨by rw [HV.out]; rfl, u0⟩
  · have hv := (show txErr i0 l = if 4095 < l.length then 9 else opsErr i0 l l.length by unfold txErr; rw [if_neg (by rw [hb]; decide)])
    have Hb := Lib.hid hb
    clear hb
    by_cases hlong : 4095 < l.length
    · rw [if_pos hlong] at hv
      have HV := Lib.hid hv
      clear hv
      go_enter Tryz.func21, Tryz.ntmps21
      go_wp2_with fail
      refine (ridV Hb.out).mono ?_
      rintro e w1 ⟨rfl, rfl⟩
      go_wp2
      go_ret
      exact ⟨by rw [HV.out]; rfl, u0⟩
    · rw [if_neg hlong, ← errR_eq i0 l l.length 0 (by omega) rfl] at hv
      have HV := Lib.hid hv
      clear hv
      go_enter Tryz.func21, Tryz.ntmps21
      go_wp2_with fail
      refine (ridV Hb.out).mono ?_
      rintro e w1 ⟨rfl, rfl⟩
      go_wp2
      go_loopg [16] l.length (fun gk i wr => ∃ (k : Nat), k + gk = l.length ∧ i = .int .i64 k ∧ Hid (errR i0 l (l.drop k) k = errR i0 l (l.drop 0) 0) ∧ Upd No (w.alloc (.cells #[.int .i64 i0, .bool dn, .slice A l.length c] 47)) wr)
      case atStart => exact ⟨0, by omega, rfl, Lib.hid rfl, Upd.refl _ _⟩
      case round =>
        obtain ⟨k, hgk, rfl, hs, hu⟩ := hrel
        by_cases hlt : k < l.length
        · obtain ⟨ad, hAd, q0, q1, q2, q3⟩ := (h.upd (u0.trans hu) (fun _ _ => id)).at_ hlt
          obtain ⟨x, hx⟩ : ∃ x, l[k] = x := ⟨_, rfl⟩
          rw [hx] at q0 q1 q2 q3
          obtain ⟨rd, ky, tx, nt⟩ := x
          simp only at q0 q1 q2 q3
          subst hAd
          have X := Lib.hid (show l.drop k = ⟨rd, ky, tx, nt⟩ :: l.drop (k + 1) by rw [← hx]; exact List.drop_eq_getElem_cons hlt)
          have b1 : (0 : Int) ≤ (k : Int) := Int.natCast_nonneg _
          have b2 : (k : Int) < (l.length : Int) := by omega
          clear hx
          have hst := hs.out
          rw [X.out, errR_cons] at hst
          have bO := Blk.new wr 96 [.bool rd, .int .i64 ky, .int .i64 tx, .int .i64 nt]
          have HU := Lib.hid (hu.alloc (.cells #[.bool rd, .int .i64 ky, .int .i64 tx, .int .i64 nt] 96))
          have hr := rright (wr.alloc (.cells #[.bool rd, .int .i64 ky, .int .i64 tx, .int .i64 nt] 96)) ⟨rd, ky, tx, nt⟩
          obtain ⟨bo, hbo⟩ : ∃ bo, opB ⟨rd, ky, tx, nt⟩ = bo := ⟨_, rfl⟩
          rw [hbo] at hr
          have HR := Lib.hid hr
          cases bo
          · have HV2 := Lib.hid (show errR i0 l (l.drop 0) 0 = 1 by rw [← hst]; unfold badR; rw [if_pos hbo]; rfl)
            clear hst hbo hr bO
            go_wp2_with (go_at_call 56; refine HR.out.mono ?_; rintro e w1 ⟨rfl, hu1⟩)
            go_ret
            exact ⟨by rw [HV.out]; rw [show errR i0 l (List.drop 0 l) 0 = 1 from HV2.out]; rfl, u0.trans (HU.out.trans hu1)⟩
          · have hbr : badR i0 l k ⟨rd, ky, tx, nt⟩ = if rd && tx == i0 && decide ((wrN l ky k : Int) < nt) then 6 else 0 := by unfold badR; rw [if_neg (by rw [hbo]; decide)]
            rw [hbr] at hst
            have HST := Lib.hid hst
            have BO := Lib.hid bO
            clear hst hbo hr bO hbr
            have e0 : ∀ W, Upd No (wr.alloc (.cells #[.bool rd, .int .i64 ky, .int .i64 tx, .int .i64 nt] 96)) W → W.cell? ⟨wr.heap.size, 0, none⟩ = some (.bool rd) := fun W hW => (BO.out.upd hW id).cell 0
            have e1 : ∀ W, Upd No (wr.alloc (.cells #[.bool rd, .int .i64 ky, .int .i64 tx, .int .i64 nt] 96)) W → W.cell? ⟨wr.heap.size, 1, none⟩ = some (.int .i64 ky) := fun W hW => (BO.out.upd hW id).cell 1
            have e2 : ∀ W, Upd No (wr.alloc (.cells #[.bool rd, .int .i64 ky, .int .i64 tx, .int .i64 nt] 96)) W → W.cell? ⟨wr.heap.size, 2, none⟩ = some (.int .i64 tx) := fun W hW => (BO.out.upd hW id).cell 2
            have e3 : ∀ W, Upd No (wr.alloc (.cells #[.bool rd, .int .i64 ky, .int .i64 tx, .int .i64 nt] 96)) W → W.cell? ⟨wr.heap.size, 3, none⟩ = some (.int .i64 nt) := fun W hW => (BO.out.upd hW id).cell 3
            have t0 : ∀ W, Upd No (wr.alloc (.cells #[.bool rd, .int .i64 ky, .int .i64 tx, .int .i64 nt] 96)) W → W.cell? ⟨w.heap.size, 0, none⟩ = some (.int .i64 i0) := fun W hW => (bT.out.upd (HU.out.trans hW) id).cell 0
            have t2 : ∀ W, Upd No (wr.alloc (.cells #[.bool rd, .int .i64 ky, .int .i64 tx, .int .i64 nt] 96)) W → W.cell? ⟨w.heap.size, 2, none⟩ = some (.slice (some ad) l.length c) := fun W hW => (bT.out.upd (HU.out.trans hW) id).cell 2
            have HWr := Lib.hid fun W (hW : Upd No (wr.alloc (.cells #[.bool rd, .int .i64 ky, .int .i64 tx, .int .i64 nt] 96)) W) => rwrites_cut F W (some ad) c c l k ky (HOps.upd h (u0.trans (HU.out.trans hW)) (fun _ _ => id)) (by omega) (by unfold fewOps; omega) (by omega)
            have HCut := fun W => run_cut_h W (slt_ops) (some ad) l.length c k (by omega)
            cases rd
            · have HS := Lib.hid (show errR i0 l (l.drop (k + 1)) (k + 1) = errR i0 l (l.drop 0) 0 by rw [← HST.out]; rfl)
              go_wp2_with (go_at_call 56; refine HR.out.mono ?_; rintro e w1 ⟨rfl, hu1⟩)
              refine wp_region_noPanic ?_
              refine wp_region_held_drew (S := (fun w' => Upd No (wr.alloc (.cells #[.bool false, .int .i64 ky, .int .i64 tx, .int .i64 nt] 96)) w')) (by kernel_rfl) ?_ (fun hHeld => ?_)
              · (first | exact hu1.drew | exact hHeld.trans hu3)
              refine wpT 0 ⟨some 24, .fieldAddr 96 (.tmp 4) 0, 0, "ref.go:37", #[], none⟩ ?_ (.inl ⟨by rfl, ?_⟩) ?_
              rotate_left
              · (intro W hSw; (try dsimp only at hSw); go_simp; try (with_reducible rfl))
              try simp only [Act.put]
              try simp only [List.setIfInBounds_toArray]
              try simp only [List.set_cons_succ]
              try simp only [List.set_cons_zero]
              refine wpT 1 ⟨some 25, .load 4 (.tmp 24), 4, "ref.go:37", #[⟨0, .data⟩], none⟩ ?_ (.inl ⟨by rfl, ?_⟩) ?_
              rotate_left
              · (intro W hSw; (try dsimp only at hSw); go_simp; try (with_reducible rfl))
              try simp only [Act.put]
              try simp only [List.setIfInBounds_toArray]
              try simp only [List.set_cons_succ]
              try simp only [List.set_cons_zero]
              refine wpT 2 ⟨some 26, .move (.tmp 25), 4, "ref.go:37", #[⟨1, .data⟩], none⟩ ?_ (.inl ⟨by rfl, ?_⟩) ?_
              rotate_left
              · (intro W hSw; (try dsimp only at hSw); go_simp; try (with_reducible rfl))
              try simp only [Act.put]
              try simp only [List.setIfInBounds_toArray]
              try simp only [List.set_cons_succ]
              try simp only [List.set_cons_zero]
              refine wpT 3 ⟨some 27, .fieldAddr 96 (.tmp 4) 2, 0, "ref.go:37", #[⟨2, .guard⟩], some (2, true)⟩ undef (.inr ⟨by rfl, rfl⟩) ?_
              try simp only [Act.put]
              try simp only [List.setIfInBounds_toArray]
              try simp only [List.set_cons_succ]
              try simp only [List.set_cons_zero]
              refine wpT 4 ⟨some 28, .load 3 (.tmp 27), 3, "ref.go:37", #[⟨3, .data⟩, ⟨2, .guard⟩], some (2, true)⟩ undef (.inr ⟨by rfl, rfl⟩) ?_
              try simp only [Act.put]
              try simp only [List.setIfInBounds_toArray]
              try simp only [List.set_cons_succ]
              try simp only [List.set_cons_zero]
              refine wpT 5 ⟨some 29, .fieldAddr 47 (.tmp 1) 0, 0, "ref.go:37", #[⟨2, .guard⟩], some (2, true)⟩ undef (.inr ⟨by rfl, rfl⟩) ?_
              try simp only [Act.put]
              try simp only [List.setIfInBounds_toArray]
              try simp only [List.set_cons_succ]
              try simp only [List.set_cons_zero]
              refine wpT 6 ⟨some 30, .load 3 (.tmp 29), 3, "ref.go:37", #[⟨5, .data⟩, ⟨2, .guard⟩], some (2, true)⟩ undef (.inr ⟨by rfl, rfl⟩) ?_
              try simp only [Act.put]
              try simp only [List.setIfInBounds_toArray]
              try simp only [List.set_cons_succ]
              try simp only [List.set_cons_zero]
              refine wpT 7 ⟨some 31, .binOp .eql 3 (.tmp 28) (.tmp 30) 3, 4, "ref.go:37", #[⟨4, .data⟩, ⟨6, .data⟩, ⟨2, .guard⟩], some (2, true)⟩ undef (.inr ⟨by rfl, rfl⟩) ?_
              try simp only [Act.put]
              try simp only [List.setIfInBounds_toArray]
              try simp only [List.set_cons_succ]
              try simp only [List.set_cons_zero]
              refine wpT 8 ⟨some 32, .pick (.tmp 26) (.tmp 31) (.const (.bool false)), 4, "ref.go:37", #[⟨2, .data⟩, ⟨7, .data⟩], none⟩ ?_ (.inl ⟨by rfl, ?_⟩) ?_
              rotate_left
              · (intro W hSw; (try dsimp only at hSw); go_simp; try (with_reducible rfl))
              try simp only [Act.put]
              try simp only [List.setIfInBounds_toArray]
              try simp only [List.set_cons_succ]
              try simp only [List.set_cons_zero]
              refine wpT 9 ⟨some 33, .move (.tmp 32), 4, "ref.go:37", #[⟨8, .data⟩, ⟨2, .chain⟩], none⟩ ?_ (.inl ⟨by rfl, ?_⟩) ?_
              rotate_left
              · (intro W hSw; (try dsimp only at hSw); go_simp; try (with_reducible rfl))
              try simp only [Act.put]
              try simp only [List.setIfInBounds_toArray]
              try simp only [List.set_cons_succ]
              try simp only [List.set_cons_zero]
              refine wpT 10 ⟨some 34, .fieldAddr 96 (.tmp 4) 3, 0, "ref.go:37", #[⟨9, .guard⟩], some (9, true)⟩ undef (.inr ⟨by rfl, rfl⟩) ?_
              try simp only [Act.put]
              try simp only [List.setIfInBounds_toArray]
              try simp only [List.set_cons_succ]
              try simp only [List.set_cons_zero]
              refine wpT 11 ⟨some 35, .load 3 (.tmp 34), 3, "ref.go:37", #[⟨10, .data⟩, ⟨9, .guard⟩], some (9, true)⟩ undef (.inr ⟨by rfl, rfl⟩) ?_
              try simp only [Act.put]
              try simp only [List.setIfInBounds_toArray]
              try simp only [List.set_cons_succ]
              try simp only [List.set_cons_zero]
              refine wpT 12 ⟨some 36, .fieldAddr 47 (.tmp 1) 2, 0, "ref.go:37", #[⟨9, .guard⟩], some (9, true)⟩ undef (.inr ⟨by rfl, rfl⟩) ?_
              try simp only [Act.put]
              try simp only [List.setIfInBounds_toArray]
              try simp only [List.set_cons_succ]
              try simp only [List.set_cons_zero]
              refine wpT 13 ⟨some 37, .load 45 (.tmp 36), 45, "ref.go:37", #[⟨12, .data⟩, ⟨9, .guard⟩], some (9, true)⟩ undef (.inr ⟨by rfl, rfl⟩) ?_
              try simp only [Act.put]
              try simp only [List.setIfInBounds_toArray]
              try simp only [List.set_cons_succ]
              try simp only [List.set_cons_zero]
              refine wpT 14 ⟨some 38, .move (.tmp 3), 3, "ref.go:37", #[⟨9, .guard⟩], some (9, true)⟩ undef (.inr ⟨by rfl, rfl⟩) ?_
              try simp only [Act.put]
              try simp only [List.setIfInBounds_toArray]
              try simp only [List.set_cons_succ]
              try simp only [List.set_cons_zero]
              refine wpT 15 ⟨some 39, .slice 45 (.tmp 37) none (some (.tmp 38)) none, 45, "ref.go:37", #[⟨13, .data⟩, ⟨14, .data⟩, ⟨9, .guard⟩], some (9, true)⟩ undef (.inr ⟨by rfl, rfl⟩) ?_
              try simp only [Act.put]
              try simp only [List.setIfInBounds_toArray]
              try simp only [List.set_cons_succ]
              try simp only [List.set_cons_zero]
              refine wpT 16 ⟨some 40, .fieldAddr 96 (.tmp 4) 1, 0, "ref.go:37", #[⟨9, .guard⟩], some (9, true)⟩ undef (.inr ⟨by rfl, rfl⟩) ?_
              try simp only [Act.put]
              try simp only [List.setIfInBounds_toArray]
              try simp only [List.set_cons_succ]
              try simp only [List.set_cons_zero]
              refine wpT 17 ⟨some 41, .load 3 (.tmp 40), 3, "ref.go:37", #[⟨16, .data⟩, ⟨9, .guard⟩], some (9, true)⟩ undef (.inr ⟨by rfl, rfl⟩) ?_
              try simp only [Act.put]
              try simp only [List.setIfInBounds_toArray]
              try simp only [List.set_cons_succ]
              try simp only [List.set_cons_zero]
              refine wpAnyH_ready (rs := [18]) (by kernel_rfl) (by simp) ?_
              refine AllReadyH.cons (o := ⟨some 42, .call { callee := .value (.func 57), args := #[.tmp 39, .tmp 41], argTypes := #[45, 3] }, 3, "ref.go:37", #[⟨15, .data⟩, ⟨17, .data⟩, ⟨9, .chain⟩, ⟨9, .guard⟩], some (9, true)⟩) rfl (fun K hK => ?_) AllReadyH.nil
              go_simp
              refine hK.out _ _ ?_ (fun hHeld => ?_)
              · exact hHeld
              clear hK K
              try simp only [Act.put]
              try simp only [List.setIfInBounds_toArray]
              try simp only [List.set_cons_succ]
              try simp only [List.set_cons_zero]
              refine wpT 19 ⟨some 43, .binOp .gtr 3 (.tmp 35) (.tmp 42) 3, 4, "ref.go:37", #[⟨11, .data⟩, ⟨18, .data⟩, ⟨9, .guard⟩], some (9, true)⟩ undef (.inr ⟨by rfl, rfl⟩) ?_
              try simp only [Act.put]
              try simp only [List.setIfInBounds_toArray]
              try simp only [List.set_cons_succ]
              try simp only [List.set_cons_zero]
              refine wpT 20 ⟨some 44, .pick (.tmp 33) (.tmp 43) (.const (.bool false)), 4, "ref.go:37", #[⟨9, .data⟩, ⟨19, .data⟩], none⟩ ?_ (.inl ⟨by rfl, ?_⟩) ?_
              rotate_left
              · (intro W hSw; (try dsimp only at hSw); go_simp; try (with_reducible rfl))
              try simp only [Act.put]
              try simp only [List.setIfInBounds_toArray]
              try simp only [List.set_cons_succ]
              try simp only [List.set_cons_zero]
              refine wpAnyH_done (by kernel_rfl) (NoPanic.normal ?_) _
              have HU2 := Lib.hid (HU.out.trans hHeld)
              clear hHeld e0 e1 e2 e3 t0 t2 HCut
              go_wp2
              go_roundg (gk - 1)
              case measure => omega
              case rel => exact ⟨k + 1, by omega, by go_num, HS, HU2.out⟩
            · by_cases hti : tx = i0
              · have htb : (tx == i0) = true := by simpa using hti
                by_cases hn : (wrN l ky k : Int) < nt
                · have HS := Lib.hid (show errR i0 l (l.drop 0) 0 = 6 by rw [← HST.out, htb, decide_eq_true hn]; rfl)
                  clear hti
                  go_wp2_with (go_at_call 56; refine HR.out.mono ?_; rintro e w1 ⟨rfl, hu1⟩)
                  refine wp_region_noPanic ?_
                  refine wp_region_held_drew (S := (fun w' => Upd No (wr.alloc (.cells #[.bool true, .int .i64 ky, .int .i64 tx, .int .i64 nt] 96)) w')) (by kernel_rfl) ?_ (fun hHeld => ?_)
                  · (first | exact hu1.drew | exact hHeld.trans hu3)
                  refine wpT 0 ⟨some 24, .fieldAddr 96 (.tmp 4) 0, 0, "ref.go:37", #[], none⟩ ?_ (.inl ⟨by rfl, ?_⟩) ?_
                  rotate_left
                  · (intro W hSw; (try dsimp only at hSw); go_simp; try (with_reducible rfl))
                  try simp only [Act.put]
                  try simp only [List.setIfInBounds_toArray]
                  try simp only [List.set_cons_succ]
                  try simp only [List.set_cons_zero]
                  refine wpT 1 ⟨some 25, .load 4 (.tmp 24), 4, "ref.go:37", #[⟨0, .data⟩], none⟩ ?_ (.inl ⟨by rfl, ?_⟩) ?_
                  rotate_left
                  · (intro W hSw; (try dsimp only at hSw); go_simp; try (with_reducible rfl))
                  try simp only [Act.put]
                  try simp only [List.setIfInBounds_toArray]
                  try simp only [List.set_cons_succ]
                  try simp only [List.set_cons_zero]
                  refine wpT 2 ⟨some 26, .move (.tmp 25), 4, "ref.go:37", #[⟨1, .data⟩], none⟩ ?_ (.inl ⟨by rfl, ?_⟩) ?_
                  rotate_left
                  · (intro W hSw; (try dsimp only at hSw); go_simp; try (with_reducible rfl))
                  try simp only [Act.put]
                  try simp only [List.setIfInBounds_toArray]
                  try simp only [List.set_cons_succ]
                  try simp only [List.set_cons_zero]
                  refine wpT 3 ⟨some 27, .fieldAddr 96 (.tmp 4) 2, 0, "ref.go:37", #[⟨2, .guard⟩], some (2, true)⟩ ?_ (.inl ⟨by rfl, ?_⟩) ?_
                  rotate_left
                  · (intro W hSw; (try dsimp only at hSw); go_simp; try (with_reducible rfl))
                  try simp only [Act.put]
                  try simp only [List.setIfInBounds_toArray]
                  try simp only [List.set_cons_succ]
                  try simp only [List.set_cons_zero]
                  refine wpT 4 ⟨some 28, .load 3 (.tmp 27), 3, "ref.go:37", #[⟨3, .data⟩, ⟨2, .guard⟩], some (2, true)⟩ ?_ (.inl ⟨by rfl, ?_⟩) ?_
                  rotate_left
                  · (intro W hSw; (try dsimp only at hSw); go_simp; try (with_reducible rfl))
                  try simp only [Act.put]
                  try simp only [List.setIfInBounds_toArray]
                  try simp only [List.set_cons_succ]
                  try simp only [List.set_cons_zero]
                  refine wpT 5 ⟨some 29, .fieldAddr 47 (.tmp 1) 0, 0, "ref.go:37", #[⟨2, .guard⟩], some (2, true)⟩ ?_ (.inl ⟨by rfl, ?_⟩) ?_
                  rotate_left
                  · (intro W hSw; (try dsimp only at hSw); go_simp; try (with_reducible rfl))
                  try simp only [Act.put]
                  try simp only [List.setIfInBounds_toArray]
                  try simp only [List.set_cons_succ]
                  try simp only [List.set_cons_zero]
                  refine wpT 6 ⟨some 30, .load 3 (.tmp 29), 3, "ref.go:37", #[⟨5, .data⟩, ⟨2, .guard⟩], some (2, true)⟩ ?_ (.inl ⟨by rfl, ?_⟩) ?_
                  rotate_left
                  · (intro W hSw; (try dsimp only at hSw); go_simp; try (with_reducible rfl))
                  try simp only [Act.put]
                  try simp only [List.setIfInBounds_toArray]
                  try simp only [List.set_cons_succ]
                  try simp only [List.set_cons_zero]
                  refine wpT 7 ⟨some 31, .binOp .eql 3 (.tmp 28) (.tmp 30) 3, 4, "ref.go:37", #[⟨4, .data⟩, ⟨6, .data⟩, ⟨2, .guard⟩], some (2, true)⟩ ?_ (.inl ⟨by rfl, ?_⟩) ?_
                  rotate_left
                  · (intro W hSw; (try dsimp only at hSw); go_simp; try (with_reducible rfl))
                  try simp only [Act.put]
                  try simp only [List.setIfInBounds_toArray]
                  try simp only [List.set_cons_succ]
                  try simp only [List.set_cons_zero]
                  refine wpT 8 ⟨some 32, .pick (.tmp 26) (.tmp 31) (.const (.bool false)), 4, "ref.go:37", #[⟨2, .data⟩, ⟨7, .data⟩], none⟩ ?_ (.inl ⟨by rfl, ?_⟩) ?_
                  rotate_left
                  · (intro W hSw; (try dsimp only at hSw); go_simp; try (with_reducible rfl))
                  try simp only [Act.put]
                  try simp only [List.setIfInBounds_toArray]
                  try simp only [List.set_cons_succ]
                  try simp only [List.set_cons_zero]
                  refine wpT 9 ⟨some 33, .move (.tmp 32), 4, "ref.go:37", #[⟨8, .data⟩, ⟨2, .chain⟩], none⟩ ?_ (.inl ⟨by rfl, ?_⟩) ?_
                  rotate_left
                  · (intro W hSw; (try dsimp only at hSw); go_simp; try (with_reducible rfl))
                  try simp only [Act.put]
                  try simp only [List.setIfInBounds_toArray]
                  try simp only [List.set_cons_succ]
                  try simp only [List.set_cons_zero]
                  refine wpT 10 ⟨some 34, .fieldAddr 96 (.tmp 4) 3, 0, "ref.go:37", #[⟨9, .guard⟩], some (9, true)⟩ ?_ (.inl ⟨by rfl, ?_⟩) ?_
                  rotate_left
                  · (intro W hSw; (try dsimp only at hSw); go_simp; try (with_reducible rfl))
                  try simp only [Act.put]
                  try simp only [List.setIfInBounds_toArray]
                  try simp only [List.set_cons_succ]
                  try simp only [List.set_cons_zero]
                  refine wpT 11 ⟨some 35, .load 3 (.tmp 34), 3, "ref.go:37", #[⟨10, .data⟩, ⟨9, .guard⟩], some (9, true)⟩ ?_ (.inl ⟨by rfl, ?_⟩) ?_
                  rotate_left
                  · (intro W hSw; (try dsimp only at hSw); go_simp; try (with_reducible rfl))
                  try simp only [Act.put]
                  try simp only [List.setIfInBounds_toArray]
                  try simp only [List.set_cons_succ]
                  try simp only [List.set_cons_zero]
                  refine wpT 12 ⟨some 36, .fieldAddr 47 (.tmp 1) 2, 0, "ref.go:37", #[⟨9, .guard⟩], some (9, true)⟩ ?_ (.inl ⟨by rfl, ?_⟩) ?_
                  rotate_left
                  · (intro W hSw; (try dsimp only at hSw); go_simp; try (with_reducible rfl))
                  try simp only [Act.put]
                  try simp only [List.setIfInBounds_toArray]
                  try simp only [List.set_cons_succ]
                  try simp only [List.set_cons_zero]
                  refine wpT 13 ⟨some 37, .load 45 (.tmp 36), 45, "ref.go:37", #[⟨12, .data⟩, ⟨9, .guard⟩], some (9, true)⟩ ?_ (.inl ⟨by rfl, ?_⟩) ?_
                  rotate_left
                  · (intro W hSw; (try dsimp only at hSw); go_simp; try (with_reducible rfl))
                  try simp only [Act.put]
                  try simp only [List.setIfInBounds_toArray]
                  try simp only [List.set_cons_succ]
                  try simp only [List.set_cons_zero]
                  refine wpT 14 ⟨some 38, .move (.tmp 3), 3, "ref.go:37", #[⟨9, .guard⟩], some (9, true)⟩ ?_ (.inl ⟨by rfl, ?_⟩) ?_
                  rotate_left
                  · (intro W hSw; (try dsimp only at hSw); go_simp; try (with_reducible rfl))
                  try simp only [Act.put]
                  try simp only [List.setIfInBounds_toArray]
                  try simp only [List.set_cons_succ]
                  try simp only [List.set_cons_zero]
                  refine wpT 15 ⟨some 39, .slice 45 (.tmp 37) none (some (.tmp 38)) none, 45, "ref.go:37", #[⟨13, .data⟩, ⟨14, .data⟩, ⟨9, .guard⟩], some (9, true)⟩ ?_ (.inl ⟨by rfl, ?_⟩) ?_
                  rotate_left
                  · (intro W hSw; (try dsimp only at hSw); go_simp; try (with_reducible rfl))
                  try simp only [Act.put]
                  try simp only [List.setIfInBounds_toArray]
                  try simp only [List.set_cons_succ]
                  try simp only [List.set_cons_zero]
                  refine wpT 16 ⟨some 40, .fieldAddr 96 (.tmp 4) 1, 0, "ref.go:37", #[⟨9, .guard⟩], some (9, true)⟩ ?_ (.inl ⟨by rfl, ?_⟩) ?_
                  rotate_left
                  · (intro W hSw; (try dsimp only at hSw); go_simp; try (with_reducible rfl))
                  try simp only [Act.put]
                  try simp only [List.setIfInBounds_toArray]
                  try simp only [List.set_cons_succ]
                  try simp only [List.set_cons_zero]
                  refine wpT 17 ⟨some 41, .load 3 (.tmp 40), 3, "ref.go:37", #[⟨16, .data⟩, ⟨9, .guard⟩], some (9, true)⟩ ?_ (.inl ⟨by rfl, ?_⟩) ?_
                  rotate_left
                  · (intro W hSw; (try dsimp only at hSw); go_simp; try (with_reducible rfl))
                  try simp only [Act.put]
                  try simp only [List.setIfInBounds_toArray]
                  try simp only [List.set_cons_succ]
                  try simp only [List.set_cons_zero]
                  refine wpAnyH_ready (rs := [18]) (by kernel_rfl) (by simp) ?_
                  refine AllReadyH.cons (o := ⟨some 42, .call { callee := .value (.func 57), args := #[.tmp 39, .tmp 41], argTypes := #[45, 3] }, 3, "ref.go:37", #[⟨15, .data⟩, ⟨17, .data⟩, ⟨9, .chain⟩, ⟨9, .guard⟩], some (9, true)⟩) rfl (fun K hK => ?_) AllReadyH.nil
                  go_simp
                  (first
    | (go_at_call 57; refine (HWr.out _ hHeld).mono ?_; rintro e w3 ⟨rfl, hu3⟩))
                  try (go_wp2_with fail)
                  refine hK.out _ _ ?_ (fun hHeld => ?_)
                  · (first | exact hu1.drew | exact hHeld.trans hu3)
                  clear hK K
                  try simp only [Act.put]
                  try simp only [List.setIfInBounds_toArray]
                  try simp only [List.set_cons_succ]
                  try simp only [List.set_cons_zero]
                  refine wpT 19 ⟨some 43, .binOp .gtr 3 (.tmp 35) (.tmp 42) 3, 4, "ref.go:37", #[⟨11, .data⟩, ⟨18, .data⟩, ⟨9, .guard⟩], some (9, true)⟩ ?_ (.inl ⟨by rfl, ?_⟩) ?_
                  rotate_left
                  · (intro W hSw; (try dsimp only at hSw); go_simp; try (with_reducible rfl))
                  try simp only [Act.put]
                  try simp only [List.setIfInBounds_toArray]
                  try simp only [List.set_cons_succ]
                  try simp only [List.set_cons_zero]
                  refine wpT 20 ⟨some 44, .pick (.tmp 33) (.tmp 43) (.const (.bool false)), 4, "ref.go:37", #[⟨9, .data⟩, ⟨19, .data⟩], none⟩ ?_ (.inl ⟨by rfl, ?_⟩) ?_
                  rotate_left
                  · (intro W hSw; (try dsimp only at hSw); go_simp; try (with_reducible rfl))
                  try simp only [Act.put]
                  try simp only [List.setIfInBounds_toArray]
                  try simp only [List.set_cons_succ]
                  try simp only [List.set_cons_zero]
                  refine wpAnyH_done (by kernel_rfl) (NoPanic.normal ?_) _
                  have HU2 := Lib.hid (HU.out.trans hHeld)
                  clear hHeld e0 e1 e2 e3 t0 t2 HCut
                  go_wp2
                  go_ret
                  exact ⟨by rw [HV.out]; rw [show errR i0 l (List.drop 0 l) 0 = 6 from HS.out]; rfl, u0.trans HU2.out⟩
                · have HS := Lib.hid (show errR i0 l (l.drop (k + 1)) (k + 1) = errR i0 l (l.drop 0) 0 by rw [← HST.out, htb, decide_eq_false hn]; rfl)
                  clear hti
                  go_wp2_with (go_at_call 56; refine HR.out.mono ?_; rintro e w1 ⟨rfl, hu1⟩)
                  refine wp_region_noPanic ?_
                  refine wp_region_held_drew (S := (fun w' => Upd No (wr.alloc (.cells #[.bool true, .int .i64 ky, .int .i64 tx, .int .i64 nt] 96)) w')) (by kernel_rfl) ?_ (fun hHeld => ?_)
                  · (first | exact hu1.drew | exact hHeld.trans hu3)
                  refine wpT 0 ⟨some 24, .fieldAddr 96 (.tmp 4) 0, 0, "ref.go:37", #[], none⟩ ?_ (.inl ⟨by rfl, ?_⟩) ?_
                  rotate_left
                  · (intro W hSw; (try dsimp only at hSw); go_simp; try (with_reducible rfl))
                  try simp only [Act.put]
                  try simp only [List.setIfInBounds_toArray]
                  try simp only [List.set_cons_succ]
                  try simp only [List.set_cons_zero]
                  refine wpT 1 ⟨some 25, .load 4 (.tmp 24), 4, "ref.go:37", #[⟨0, .data⟩], none⟩ ?_ (.inl ⟨by rfl, ?_⟩) ?_
                  rotate_left
                  · (intro W hSw; (try dsimp only at hSw); go_simp; try (with_reducible rfl))
                  try simp only [Act.put]
                  try simp only [List.setIfInBounds_toArray]
                  try simp only [List.set_cons_succ]
                  try simp only [List.set_cons_zero]
                  refine wpT 2 ⟨some 26, .move (.tmp 25), 4, "ref.go:37", #[⟨1, .data⟩], none⟩ ?_ (.inl ⟨by rfl, ?_⟩) ?_
                  rotate_left
                  · (intro W hSw; (try dsimp only at hSw); go_simp; try (with_reducible rfl))
                  try simp only [Act.put]
                  try simp only [List.setIfInBounds_toArray]
                  try simp only [List.set_cons_succ]
                  try simp only [List.set_cons_zero]
                  refine wpT 3 ⟨some 27, .fieldAddr 96 (.tmp 4) 2, 0, "ref.go:37", #[⟨2, .guard⟩], some (2, true)⟩ ?_ (.inl ⟨by rfl, ?_⟩) ?_
                  rotate_left
                  · (intro W hSw; (try dsimp only at hSw); go_simp; try (with_reducible rfl))
                  try simp only [Act.put]
                  try simp only [List.setIfInBounds_toArray]
                  try simp only [List.set_cons_succ]
                  try simp only [List.set_cons_zero]
                  refine wpT 4 ⟨some 28, .load 3 (.tmp 27), 3, "ref.go:37", #[⟨3, .data⟩, ⟨2, .guard⟩], some (2, true)⟩ ?_ (.inl ⟨by rfl, ?_⟩) ?_
                  rotate_left
                  · (intro W hSw; (try dsimp only at hSw); go_simp; try (with_reducible rfl))
                  try simp only [Act.put]
                  try simp only [List.setIfInBounds_toArray]
                  try simp only [List.set_cons_succ]
                  try simp only [List.set_cons_zero]
                  refine wpT 5 ⟨some 29, .fieldAddr 47 (.tmp 1) 0, 0, "ref.go:37", #[⟨2, .guard⟩], some (2, true)⟩ ?_ (.inl ⟨by rfl, ?_⟩) ?_
                  rotate_left
                  · (intro W hSw; (try dsimp only at hSw); go_simp; try (with_reducible rfl))
                  try simp only [Act.put]
                  try simp only [List.setIfInBounds_toArray]
                  try simp only [List.set_cons_succ]
                  try simp only [List.set_cons_zero]
                  refine wpT 6 ⟨some 30, .load 3 (.tmp 29), 3, "ref.go:37", #[⟨5, .data⟩, ⟨2, .guard⟩], some (2, true)⟩ ?_ (.inl ⟨by rfl, ?_⟩) ?_
                  rotate_left
                  · (intro W hSw; (try dsimp only at hSw); go_simp; try (with_reducible rfl))
                  try simp only [Act.put]
                  try simp only [List.setIfInBounds_toArray]
                  try simp only [List.set_cons_succ]
                  try simp only [List.set_cons_zero]
                  refine wpT 7 ⟨some 31, .binOp .eql 3 (.tmp 28) (.tmp 30) 3, 4, "ref.go:37", #[⟨4, .data⟩, ⟨6, .data⟩, ⟨2, .guard⟩], some (2, true)⟩ ?_ (.inl ⟨by rfl, ?_⟩) ?_
                  rotate_left
                  · (intro W hSw; (try dsimp only at hSw); go_simp; try (with_reducible rfl))
                  try simp only [Act.put]
                  try simp only [List.setIfInBounds_toArray]
                  try simp only [List.set_cons_succ]
                  try simp only [List.set_cons_zero]
                  refine wpT 8 ⟨some 32, .pick (.tmp 26) (.tmp 31) (.const (.bool false)), 4, "ref.go:37", #[⟨2, .data⟩, ⟨7, .data⟩], none⟩ ?_ (.inl ⟨by rfl, ?_⟩) ?_
                  rotate_left
                  · (intro W hSw; (try dsimp only at hSw); go_simp; try (with_reducible rfl))
                  try simp only [Act.put]
                  try simp only [List.setIfInBounds_toArray]
                  try simp only [List.set_cons_succ]
                  try simp only [List.set_cons_zero]
                  refine wpT 9 ⟨some 33, .move (.tmp 32), 4, "ref.go:37", #[⟨8, .data⟩, ⟨2, .chain⟩], none⟩ ?_ (.inl ⟨by rfl, ?_⟩) ?_
                  rotate_left
                  · (intro W hSw; (try dsimp only at hSw); go_simp; try (with_reducible rfl))
                  try simp only [Act.put]
                  try simp only [List.setIfInBounds_toArray]
                  try simp only [List.set_cons_succ]
                  try simp only [List.set_cons_zero]
                  refine wpT 10 ⟨some 34, .fieldAddr 96 (.tmp 4) 3, 0, "ref.go:37", #[⟨9, .guard⟩], some (9, true)⟩ ?_ (.inl ⟨by rfl, ?_⟩) ?_
                  rotate_left
                  · (intro W hSw; (try dsimp only at hSw); go_simp; try (with_reducible rfl))
                  try simp only [Act.put]
                  try simp only [List.setIfInBounds_toArray]
                  try simp only [List.set_cons_succ]
                  try simp only [List.set_cons_zero]
                  refine wpT 11 ⟨some 35, .load 3 (.tmp 34), 3, "ref.go:37", #[⟨10, .data⟩, ⟨9, .guard⟩], some (9, true)⟩ ?_ (.inl ⟨by rfl, ?_⟩) ?_
                  rotate_left
                  · (intro W hSw; (try dsimp only at hSw); go_simp; try (with_reducible rfl))
                  try simp only [Act.put]
                  try simp only [List.setIfInBounds_toArray]
                  try simp only [List.set_cons_succ]
                  try simp only [List.set_cons_zero]
                  refine wpT 12 ⟨some 36, .fieldAddr 47 (.tmp 1) 2, 0, "ref.go:37", #[⟨9, .guard⟩], some (9, true)⟩ ?_ (.inl ⟨by rfl, ?_⟩) ?_
                  rotate_left
                  · (intro W hSw; (try dsimp only at hSw); go_simp; try (with_reducible rfl))
                  try simp only [Act.put]
                  try simp only [List.setIfInBounds_toArray]
                  try simp only [List.set_cons_succ]
                  try simp only [List.set_cons_zero]
                  refine wpT 13 ⟨some 37, .load 45 (.tmp 36), 45, "ref.go:37", #[⟨12, .data⟩, ⟨9, .guard⟩], some (9, true)⟩ ?_ (.inl ⟨by rfl, ?_⟩) ?_
                  rotate_left
                  · (intro W hSw; (try dsimp only at hSw); go_simp; try (with_reducible rfl))
                  try simp only [Act.put]
                  try simp only [List.setIfInBounds_toArray]
                  try simp only [List.set_cons_succ]
                  try simp only [List.set_cons_zero]
                  refine wpT 14 ⟨some 38, .move (.tmp 3), 3, "ref.go:37", #[⟨9, .guard⟩], some (9, true)⟩ ?_ (.inl ⟨by rfl, ?_⟩) ?_
                  rotate_left
                  · (intro W hSw; (try dsimp only at hSw); go_simp; try (with_reducible rfl))
                  try simp only [Act.put]
                  try simp only [List.setIfInBounds_toArray]
                  try simp only [List.set_cons_succ]
                  try simp only [List.set_cons_zero]
                  refine wpT 15 ⟨some 39, .slice 45 (.tmp 37) none (some (.tmp 38)) none, 45, "ref.go:37", #[⟨13, .data⟩, ⟨14, .data⟩, ⟨9, .guard⟩], some (9, true)⟩ ?_ (.inl ⟨by rfl, ?_⟩) ?_
                  rotate_left
                  · (intro W hSw; (try dsimp only at hSw); go_simp; try (with_reducible rfl))
                  try simp only [Act.put]
                  try simp only [List.setIfInBounds_toArray]
                  try simp only [List.set_cons_succ]
                  try simp only [List.set_cons_zero]
                  refine wpT 16 ⟨some 40, .fieldAddr 96 (.tmp 4) 1, 0, "ref.go:37", #[⟨9, .guard⟩], some (9, true)⟩ ?_ (.inl ⟨by rfl, ?_⟩) ?_
                  rotate_left
                  · (intro W hSw; (try dsimp only at hSw); go_simp; try (with_reducible rfl))
                  try simp only [Act.put]
                  try simp only [List.setIfInBounds_toArray]
                  try simp only [List.set_cons_succ]
                  try simp only [List.set_cons_zero]
                  refine wpT 17 ⟨some 41, .load 3 (.tmp 40), 3, "ref.go:37", #[⟨16, .data⟩, ⟨9, .guard⟩], some (9, true)⟩ ?_ (.inl ⟨by rfl, ?_⟩) ?_
                  rotate_left
                  · (intro W hSw; (try dsimp only at hSw); go_simp; try (with_reducible rfl))
                  try simp only [Act.put]
                  try simp only [List.setIfInBounds_toArray]
                  try simp only [List.set_cons_succ]
                  try simp only [List.set_cons_zero]
                  refine wpAnyH_ready (rs := [18]) (by kernel_rfl) (by simp) ?_
                  refine AllReadyH.cons (o := ⟨some 42, .call { callee := .value (.func 57), args := #[.tmp 39, .tmp 41], argTypes := #[45, 3] }, 3, "ref.go:37", #[⟨15, .data⟩, ⟨17, .data⟩, ⟨9, .chain⟩, ⟨9, .guard⟩], some (9, true)⟩) rfl (fun K hK => ?_) AllReadyH.nil
                  go_simp
                  (first
    | (go_at_call 57; refine (HWr.out _ hHeld).mono ?_; rintro e w3 ⟨rfl, hu3⟩))
                  try (go_wp2_with fail)
                  refine hK.out _ _ ?_ (fun hHeld => ?_)
                  · (first | exact hu1.drew | exact hHeld.trans hu3)
                  clear hK K
                  try simp only [Act.put]
                  try simp only [List.setIfInBounds_toArray]
                  try simp only [List.set_cons_succ]
                  try simp only [List.set_cons_zero]
                  refine wpT 19 ⟨some 43, .binOp .gtr 3 (.tmp 35) (.tmp 42) 3, 4, "ref.go:37", #[⟨11, .data⟩, ⟨18, .data⟩, ⟨9, .guard⟩], some (9, true)⟩ ?_ (.inl ⟨by rfl, ?_⟩) ?_
                  rotate_left
                  · (intro W hSw; (try dsimp only at hSw); go_simp; try (with_reducible rfl))
                  try simp only [Act.put]
                  try simp only [List.setIfInBounds_toArray]
                  try simp only [List.set_cons_succ]
                  try simp only [List.set_cons_zero]
                  refine wpT 20 ⟨some 44, .pick (.tmp 33) (.tmp 43) (.const (.bool false)), 4, "ref.go:37", #[⟨9, .data⟩, ⟨19, .data⟩], none⟩ ?_ (.inl ⟨by rfl, ?_⟩) ?_
                  rotate_left
                  · (intro W hSw; (try dsimp only at hSw); go_simp; try (with_reducible rfl))
                  try simp only [Act.put]
                  try simp only [List.setIfInBounds_toArray]
                  try simp only [List.set_cons_succ]
                  try simp only [List.set_cons_zero]
                  refine wpAnyH_done (by kernel_rfl) (NoPanic.normal ?_) _
                  have HU2 := Lib.hid (HU.out.trans hHeld)
                  clear hHeld e0 e1 e2 e3 t0 t2 HCut
                  go_wp2
                  go_roundg (gk - 1)
                  case measure => omega
                  case rel => exact ⟨k + 1, by omega, by go_num, HS, HU2.out⟩
              · have htb : (tx == i0) = false := by simpa using hti
                have HS := Lib.hid (show errR i0 l (l.drop (k + 1)) (k + 1) = errR i0 l (l.drop 0) 0 by rw [← HST.out, htb]; rfl)
                clear hti
                go_wp2_with (go_at_call 56; refine HR.out.mono ?_; rintro e w1 ⟨rfl, hu1⟩)
                refine wp_region_noPanic ?_
                refine wp_region_held_drew (S := (fun w' => Upd No (wr.alloc (.cells #[.bool true, .int .i64 ky, .int .i64 tx, .int .i64 nt] 96)) w')) (by kernel_rfl) ?_ (fun hHeld => ?_)
                · (first | exact hu1.drew | exact hHeld.trans hu3)
                refine wpT 0 ⟨some 24, .fieldAddr 96 (.tmp 4) 0, 0, "ref.go:37", #[], none⟩ ?_ (.inl ⟨by rfl, ?_⟩) ?_
                rotate_left
                · (intro W hSw; (try dsimp only at hSw); go_simp; try (with_reducible rfl))
                try simp only [Act.put]
                try simp only [List.setIfInBounds_toArray]
                try simp only [List.set_cons_succ]
                try simp only [List.set_cons_zero]
                refine wpT 1 ⟨some 25, .load 4 (.tmp 24), 4, "ref.go:37", #[⟨0, .data⟩], none⟩ ?_ (.inl ⟨by rfl, ?_⟩) ?_
                rotate_left
                · (intro W hSw; (try dsimp only at hSw); go_simp; try (with_reducible rfl))
                try simp only [Act.put]
                try simp only [List.setIfInBounds_toArray]
                try simp only [List.set_cons_succ]
                try simp only [List.set_cons_zero]
                refine wpT 2 ⟨some 26, .move (.tmp 25), 4, "ref.go:37", #[⟨1, .data⟩], none⟩ ?_ (.inl ⟨by rfl, ?_⟩) ?_
                rotate_left
                · (intro W hSw; (try dsimp only at hSw); go_simp; try (with_reducible rfl))
                try simp only [Act.put]
                try simp only [List.setIfInBounds_toArray]
                try simp only [List.set_cons_succ]
                try simp only [List.set_cons_zero]
                refine wpT 3 ⟨some 27, .fieldAddr 96 (.tmp 4) 2, 0, "ref.go:37", #[⟨2, .guard⟩], some (2, true)⟩ ?_ (.inl ⟨by rfl, ?_⟩) ?_
                rotate_left
                · (intro W hSw; (try dsimp only at hSw); go_simp; try (with_reducible rfl))
                try simp only [Act.put]
                try simp only [List.setIfInBounds_toArray]
                try simp only [List.set_cons_succ]
                try simp only [List.set_cons_zero]
                refine wpT 4 ⟨some 28, .load 3 (.tmp 27), 3, "ref.go:37", #[⟨3, .data⟩, ⟨2, .guard⟩], some (2, true)⟩ ?_ (.inl ⟨by rfl, ?_⟩) ?_
                rotate_left
                · (intro W hSw; (try dsimp only at hSw); go_simp; try (with_reducible rfl))
                try simp only [Act.put]
                try simp only [List.setIfInBounds_toArray]
                try simp only [List.set_cons_succ]
                try simp only [List.set_cons_zero]
                refine wpT 5 ⟨some 29, .fieldAddr 47 (.tmp 1) 0, 0, "ref.go:37", #[⟨2, .guard⟩], some (2, true)⟩ ?_ (.inl ⟨by rfl, ?_⟩) ?_
                rotate_left
                · (intro W hSw; (try dsimp only at hSw); go_simp; try (with_reducible rfl))
                try simp only [Act.put]
                try simp only [List.setIfInBounds_toArray]
                try simp only [List.set_cons_succ]
                try simp only [List.set_cons_zero]
                refine wpT 6 ⟨some 30, .load 3 (.tmp 29), 3, "ref.go:37", #[⟨5, .data⟩, ⟨2, .guard⟩], some (2, true)⟩ ?_ (.inl ⟨by rfl, ?_⟩) ?_
                rotate_left
                · (intro W hSw; (try dsimp only at hSw); go_simp; try (with_reducible rfl))
                try simp only [Act.put]
                try simp only [List.setIfInBounds_toArray]
                try simp only [List.set_cons_succ]
                try simp only [List.set_cons_zero]
                refine wpT 7 ⟨some 31, .binOp .eql 3 (.tmp 28) (.tmp 30) 3, 4, "ref.go:37", #[⟨4, .data⟩, ⟨6, .data⟩, ⟨2, .guard⟩], some (2, true)⟩ ?_ (.inl ⟨by rfl, ?_⟩) ?_
                rotate_left
                · (intro W hSw; (try dsimp only at hSw); go_simp; try (with_reducible rfl))
                try simp only [Act.put]
                try simp only [List.setIfInBounds_toArray]
                try simp only [List.set_cons_succ]
                try simp only [List.set_cons_zero]
                refine wpT 8 ⟨some 32, .pick (.tmp 26) (.tmp 31) (.const (.bool false)), 4, "ref.go:37", #[⟨2, .data⟩, ⟨7, .data⟩], none⟩ ?_ (.inl ⟨by rfl, ?_⟩) ?_
                rotate_left
                · (intro W hSw; (try dsimp only at hSw); go_simp; try (with_reducible rfl))
                try simp only [Act.put]
                try simp only [List.setIfInBounds_toArray]
                try simp only [List.set_cons_succ]
                try simp only [List.set_cons_zero]
                refine wpT 9 ⟨some 33, .move (.tmp 32), 4, "ref.go:37", #[⟨8, .data⟩, ⟨2, .chain⟩], none⟩ ?_ (.inl ⟨by rfl, ?_⟩) ?_
                rotate_left
                · (intro W hSw; (try dsimp only at hSw); go_simp; try (with_reducible rfl))
                try simp only [Act.put]
                try simp only [List.setIfInBounds_toArray]
                try simp only [List.set_cons_succ]
                try simp only [List.set_cons_zero]
                refine wpT 10 ⟨some 34, .fieldAddr 96 (.tmp 4) 3, 0, "ref.go:37", #[⟨9, .guard⟩], some (9, true)⟩ undef (.inr ⟨by rfl, rfl⟩) ?_
                try simp only [Act.put]
                try simp only [List.setIfInBounds_toArray]
                try simp only [List.set_cons_succ]
                try simp only [List.set_cons_zero]
                refine wpT 11 ⟨some 35, .load 3 (.tmp 34), 3, "ref.go:37", #[⟨10, .data⟩, ⟨9, .guard⟩], some (9, true)⟩ undef (.inr ⟨by rfl, rfl⟩) ?_
                try simp only [Act.put]
                try simp only [List.setIfInBounds_toArray]
                try simp only [List.set_cons_succ]
                try simp only [List.set_cons_zero]
                refine wpT 12 ⟨some 36, .fieldAddr 47 (.tmp 1) 2, 0, "ref.go:37", #[⟨9, .guard⟩], some (9, true)⟩ undef (.inr ⟨by rfl, rfl⟩) ?_
                try simp only [Act.put]
                try simp only [List.setIfInBounds_toArray]
                try simp only [List.set_cons_succ]
                try simp only [List.set_cons_zero]
                refine wpT 13 ⟨some 37, .load 45 (.tmp 36), 45, "ref.go:37", #[⟨12, .data⟩, ⟨9, .guard⟩], some (9, true)⟩ undef (.inr ⟨by rfl, rfl⟩) ?_
                try simp only [Act.put]
                try simp only [List.setIfInBounds_toArray]
                try simp only [List.set_cons_succ]
                try simp only [List.set_cons_zero]
                refine wpT 14 ⟨some 38, .move (.tmp 3), 3, "ref.go:37", #[⟨9, .guard⟩], some (9, true)⟩ undef (.inr ⟨by rfl, rfl⟩) ?_
                try simp only [Act.put]
                try simp only [List.setIfInBounds_toArray]
                try simp only [List.set_cons_succ]
                try simp only [List.set_cons_zero]
                refine wpT 15 ⟨some 39, .slice 45 (.tmp 37) none (some (.tmp 38)) none, 45, "ref.go:37", #[⟨13, .data⟩, ⟨14, .data⟩, ⟨9, .guard⟩], some (9, true)⟩ undef (.inr ⟨by rfl, rfl⟩) ?_
                try simp only [Act.put]
                try simp only [List.setIfInBounds_toArray]
                try simp only [List.set_cons_succ]
                try simp only [List.set_cons_zero]
                refine wpT 16 ⟨some 40, .fieldAddr 96 (.tmp 4) 1, 0, "ref.go:37", #[⟨9, .guard⟩], some (9, true)⟩ undef (.inr ⟨by rfl, rfl⟩) ?_
                try simp only [Act.put]
                try simp only [List.setIfInBounds_toArray]
                try simp only [List.set_cons_succ]
                try simp only [List.set_cons_zero]
                refine wpT 17 ⟨some 41, .load 3 (.tmp 40), 3, "ref.go:37", #[⟨16, .data⟩, ⟨9, .guard⟩], some (9, true)⟩ undef (.inr ⟨by rfl, rfl⟩) ?_
                try simp only [Act.put]
                try simp only [List.setIfInBounds_toArray]
                try simp only [List.set_cons_succ]
                try simp only [List.set_cons_zero]
                refine wpAnyH_ready (rs := [18]) (by kernel_rfl) (by simp) ?_
                refine AllReadyH.cons (o := ⟨some 42, .call { callee := .value (.func 57), args := #[.tmp 39, .tmp 41], argTypes := #[45, 3] }, 3, "ref.go:37", #[⟨15, .data⟩, ⟨17, .data⟩, ⟨9, .chain⟩, ⟨9, .guard⟩], some (9, true)⟩) rfl (fun K hK => ?_) AllReadyH.nil
                go_simp
                refine hK.out _ _ ?_ (fun hHeld => ?_)
                · exact hHeld
                clear hK K
                try simp only [Act.put]
                try simp only [List.setIfInBounds_toArray]
                try simp only [List.set_cons_succ]
                try simp only [List.set_cons_zero]
                refine wpT 19 ⟨some 43, .binOp .gtr 3 (.tmp 35) (.tmp 42) 3, 4, "ref.go:37", #[⟨11, .data⟩, ⟨18, .data⟩, ⟨9, .guard⟩], some (9, true)⟩ undef (.inr ⟨by rfl, rfl⟩) ?_
                try simp only [Act.put]
                try simp only [List.setIfInBounds_toArray]
                try simp only [List.set_cons_succ]
                try simp only [List.set_cons_zero]
                refine wpT 20 ⟨some 44, .pick (.tmp 33) (.tmp 43) (.const (.bool false)), 4, "ref.go:37", #[⟨9, .data⟩, ⟨19, .data⟩], none⟩ ?_ (.inl ⟨by rfl, ?_⟩) ?_
                rotate_left
                · (intro W hSw; (try dsimp only at hSw); go_simp; try (with_reducible rfl))
                try simp only [Act.put]
                try simp only [List.setIfInBounds_toArray]
                try simp only [List.set_cons_succ]
                try simp only [List.set_cons_zero]
                refine wpAnyH_done (by kernel_rfl) (NoPanic.normal ?_) _
                have HU2 := Lib.hid (HU.out.trans hHeld)
                clear hHeld e0 e1 e2 e3 t0 t2 HCut
                go_wp2
                go_roundg (gk - 1)
                case measure => omega
                case rel => exact ⟨k + 1, by omega, by go_num, HS, HU2.out⟩
        · obtain rfl : k = l.length := by omega
          have HV2 := Lib.hid (show errR i0 l (l.drop 0) 0 = 0 by rw [← hs.out, List.drop_length]; rfl)
          go_wp2
          go_ret
          exact ⟨by rw [HV.out]; rw [show errR i0 l (List.drop 0 l) 0 = 0 from HV2.out]; rfl, u0.trans hu⟩
end Go.Proofs.YtaicemjckagcaaaGreat
