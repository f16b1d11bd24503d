/- Looking at a history: edges. -/
import Derived.Test.YtgakhpdclhlmpaaChkB
namespace Go.Proofs.Ytgakhpdclhlmpaa
set_option linter.unusedVariables false
open Go.RowKit
/-- the box of a reader -/
def RBox (w : World) (g : Nat) (txs : List HTx) (ords : List HOrd) (A : Option Addr) (c : Nat) (B : Option Addr) (d : Nat) : Prop := Blk w g 159 [.slice A txs.length c, .slice B ords.length d]
theorem clastV {F : Nat → Prop} {w : World} {txs : List HTx} {ords : List HOrd} {A : Option Addr} {c : Nat} {B : Option Addr} {d : Nat} {tx key nth : Int} {b : Bool} (H : Hist.lies F w ⟨txs, ords, A, c, B, d⟩) (hb : lastB txs ⟨tx, key, nth⟩ = b) :
    Calls Try.prog 188 #[.agg #[.slice A txs.length c, .slice B ords.length d], .agg #[.int .i64 tx, .int .i64 key, .int .i64 nth]] w fun e w' => e = .returned (.bool b) ∧ Upd No w w' := by subst hb; exact clast F w txs ords A c B d ⟨tx, key, nth⟩ H
theorem cnextV {F : Nat → Prop} {w : World} {txs : List HTx} {ords : List HOrd} {A : Option Addr} {c : Nat} {B : Option Addr} {d : Nat} {key x y : Int} {b : Bool} (H : Hist.lies F w ⟨txs, ords, A, c, B, d⟩) (hb : nextB ords key x y = b) :
    Calls Try.prog 185 #[.agg #[.slice A txs.length c, .slice B ords.length d], .int .i64 key, .int .i64 x, .int .i64 y] w fun e w' => e = .returned (.bool b) ∧ Upd No w w' := by subst hb; exact cnext F w txs ords A c B d key x y H
section
variable (F : Nat → Prop) (w : World) (txs : List HTx) (ords : List HOrd) (A : Option Addr) (c : Nat) (B : Option Addr) (d : Nat) (g ge : Nat) (e : Edge) (v : Ver)
set_option maxRecDepth 100000 in
theorem ce1 (H : Hist.lies F w ⟨txs, ords, A, c, B, d⟩) (hg : RBox w g txs ords A c B d) (he : Blk w ge 89 e.cells) :
    Calls Try.prog 187 #[.agg v.cells.toArray, .pointer (some ⟨ge, 0, none⟩), .pointer (some ⟨g, 0, none⟩)] w fun r w' => r = .returned (.bool (v.tx == e.f && lastB txs v)) ∧ Upd No w w' := by
  obtain ⟨tx, key, nth⟩ := v
  obtain ⟨ef, et, ek, ey⟩ := e
  unfold Edge.cells at he
  unfold RBox at hg
  unfold Ver.cells
  have uA := (Upd.refl No w).alloc (.cells #[.int .i64 tx, .int .i64 key, .int .i64 nth] 34)
  have g0 := (hg.upd uA id).cell 0
  have g1 := (hg.upd uA id).cell 1
  have e0 := (he.upd uA id).cell 0
  simp only [List.getElem?_cons_zero, List.getElem?_cons_succ] at g0 g1 e0
  obtain ⟨b, hb⟩ : ∃ b, lastB txs ⟨tx, key, nth⟩ = b := ⟨_, rfl⟩
  have Hb := Lib.hid hb
  rw [hb]
  have H1 := H.upd uA (fun _ _ => id)
  clear hb
  cases ht : tx == ef
  · go_enter Try.func187, Try.ntmps187
    go_wp2
    go_ret
    exact ⟨rfl, uA⟩
  · go_enter Try.func187, Try.ntmps187
    go_wp2_with fail
    refine (clastV H1 Hb.out).mono ?_
    rintro e w1 ⟨rfl, hu1⟩
    go_wp2
    go_ret
    exact ⟨rfl, uA.trans hu1⟩
set_option maxRecDepth 100000 in
theorem ce2 (H : Hist.lies F w ⟨txs, ords, A, c, B, d⟩) (hg : RBox w g txs ords A c B d) (he : Blk w ge 89 e.cells) :
    Calls Try.prog 189 #[.agg v.cells.toArray, .pointer (some ⟨g, 0, none⟩), .pointer (some ⟨ge, 0, none⟩)] w fun r w' => r = .returned (.bool (lastB txs v && nextB ords e.key v.tx e.t)) ∧ Upd No w w' := by
  obtain ⟨tx, key, nth⟩ := v
  obtain ⟨ef, et, ek, ey⟩ := e
  unfold Edge.cells at he
  unfold RBox at hg
  unfold Ver.cells
  have uA := (Upd.refl No w).alloc (.cells #[.int .i64 tx, .int .i64 key, .int .i64 nth] 34)
  have bv := Lib.hid (Blk.new w 34 [.int .i64 tx, .int .i64 key, .int .i64 nth])
  have hgA := hg.upd uA id
  have heA := he.upd uA id
  have g0 := hgA.cell 0
  have g1 := hgA.cell 1
  simp only [List.getElem?_cons_zero, List.getElem?_cons_succ] at g0 g1
  obtain ⟨b, hb⟩ : ∃ b, lastB txs ⟨tx, key, nth⟩ = b := ⟨_, rfl⟩
  obtain ⟨n, hn⟩ : ∃ n, nextB ords ey tx et = n := ⟨_, rfl⟩
  have Hb := Lib.hid hb
  have Hn := Lib.hid hn
  rw [hb]
  show Calls Try.prog 189 _ w fun r w' => r = .returned (.bool (b && nextB ords ey tx et)) ∧ Upd No w w'
  rw [hn]
  have H1 := H.upd uA (fun _ _ => id)
  have HGE := Lib.hid (And.intro hgA heA)
  have UA := Lib.hid uA
  clear hb hn hgA heA uA
  cases b
  · go_enter Try.func189, Try.ntmps189
    go_wp2_with fail
    refine (clastV H1 Hb.out).mono ?_
    rintro e w1 ⟨rfl, hu1⟩
    go_wp2
    go_ret
    exact ⟨rfl, UA.out.trans hu1⟩
  · go_enter Try.func189, Try.ntmps189
    go_wp2_with fail
    refine (clastV H1 Hb.out).mono ?_
    rintro e w1 ⟨rfl, hu1⟩
    have q0 := (HGE.out.1.upd hu1 id).cell 0
    have q1 := (HGE.out.1.upd hu1 id).cell 1
    have e1 := (HGE.out.2.upd hu1 id).cell 1
    have e3 := (HGE.out.2.upd hu1 id).cell 3
    have v0 := (bv.out.upd hu1 id).cell 0
    simp only [List.getElem?_cons_zero, List.getElem?_cons_succ] at q0 q1 e1 e3 v0
    have H2 := H.upd (UA.out.trans hu1) (fun _ _ => id)
    have HU := Lib.hid (UA.out.trans hu1)
    clear g0 g1 hu1 H1
    go_wp2_with fail
    refine (cnextV H2 Hn.out).mono ?_
    rintro e w2 ⟨rfl, hu2⟩
    go_wp2
    go_ret
    exact ⟨rfl, HU.out.trans hu2⟩
end
section
variable {h : Hist} {e : Edge}
theorem edge_no1 (h1 : doneT h.txs e.f = none) : edgeB h e = false := by unfold edgeB; rw [h1]
theorem edge_no2 {a : HTx} (h1 : doneT h.txs e.f = some a) (h2 : doneT h.txs e.t = none) : edgeB h e = false := by unfold edgeB; rw [h1, h2]
theorem edge_both {a b : HTx} (h1 : doneT h.txs e.f = some a) (h2 : doneT h.txs e.t = some b) : edgeB h e = (if e.f = e.t then false
    else if e.k = 1 then nextB h.ords e.key e.f e.t
    else if e.k = 2 then readsB b.id b.ops e.key fun v => v.tx == e.f && lastB h.txs v
    else if e.k = 3 then readsB a.id a.ops e.key fun v => lastB h.txs v && nextB h.ords e.key v.tx e.t
    else false) := by unfold edgeB; rw [h1, h2]
end
set_option maxRecDepth 100000 in
set_option maxHeartbeats 4000000 in
theorem cedge (F : Nat → Prop) (w : World) (txs : List HTx) (ords : List HOrd) (A : Option Addr) (c : Nat) (B : Option Addr) (d : Nat) (e : Edge) (H : Hist.lies F w ⟨txs, ords, A, c, B, d⟩) :
    Calls Try.prog 137 #[.agg #[.slice A txs.length c, .slice B ords.length d], .agg e.cells.toArray] w fun r w' => r = .returned (.bool (edgeB ⟨txs, ords, A, c, B, d⟩ e)) ∧ Upd No w w' := by
  obtain ⟨ef, et, ek, ey⟩ := e
  unfold Edge.cells
  have u0 := ((Upd.refl No w).alloc (.cells #[.slice A txs.length c, .slice B ords.length d] 159)).alloc (.cells #[.int .i64 ef, .int .i64 et, .int .i64 ek, .int .i64 ey] 89)
  have bR := Lib.hid ((Blk.new w 159 [.slice A txs.length c, .slice B ords.length d]).alloc (.cells #[.int .i64 ef, .int .i64 et, .int .i64 ek, .int .i64 ey] 89))
  have b1 := Blk.new (w.alloc (.cells #[.slice A txs.length c, .slice B ords.length d] 159)) 89 [.int .i64 ef, .int .i64 et, .int .i64 ek, .int .i64 ey]
  simp only [World.size_alloc] at b1
  have bE := Lib.hid b1
  have ha := Lib.hid (cask F _ txs ords A c B d ef (H.upd u0 (fun _ _ => id)))
  clear b1
  go_enter Try.func137, Try.ntmps137
  go_wp2_with fail
  refine (ha.out).mono ?_
  rintro e w1 ⟨x1, q1, dn1, A1, l1, c1, rfl, hc1, hfew1, hh1, hm1, hu1⟩
  have uT1 := hu1.alloc (.cells #[.int .i64 x1, .bool dn1, .slice A1 l1.length c1] 41)
  have bR1 := Lib.hid (bR.out.upd uT1 id)
  have bE1 := Lib.hid (bE.out.upd uT1 id)
  have bT1 := Lib.hid (Blk.new w1 41 [.int .i64 x1, .bool dn1, .slice A1 l1.length c1])
  have hh1' := Lib.hid (HOps.upd hh1 ((Upd.refl No w1).alloc (.cells #[.int .i64 x1, .bool dn1, .slice A1 l1.length c1] 41)) (fun _ _ => id))
  have hb := Lib.hid (cask F _ txs ords A c B d et (H.upd (u0.trans uT1) (fun _ _ => id)))
  have U1 := Lib.hid (u0.trans uT1)
  have M1 := Lib.hid hm1
  have FW1 := Lib.hid hfew1
  have y0 := bE1.out.cell 0
  have y1 := bE1.out.cell 1
  have y2 := bE1.out.cell 2
  have y3 := bE1.out.cell 3
  simp only [List.getElem?_cons_zero, List.getElem?_cons_succ] at y0 y1 y2 y3
  have r0 := bR1.out.cell 0
  have r1 := bR1.out.cell 1
  simp only [List.getElem?_cons_zero, List.getElem?_cons_succ] at r0 r1
  clear u0 hu1 uT1 hh1 hm1 hfew1
  go_wp2_with fail
  refine (hb.out).mono ?_
  rintro e w2 ⟨x2, q2, dn2, A2, l2, c2, rfl, hc2, hfew2, hh2, hm2, hu2⟩
  have uT2 := hu2.alloc (.cells #[.int .i64 x2, .bool dn2, .slice A2 l2.length c2] 41)
  have bR2 := Lib.hid (bR1.out.upd uT2 id)
  have bE2 := Lib.hid (bE1.out.upd uT2 id)
  have bT2 := Lib.hid (Blk.new w2 41 [.int .i64 x2, .bool dn2, .slice A2 l2.length c2])
  have bT12 := Lib.hid (bT1.out.upd uT2 id)
  have hh12 := Lib.hid (HOps.upd hh1'.out uT2 (fun _ _ => id))
  have hh2' := Lib.hid (HOps.upd hh2 ((Upd.refl No w2).alloc (.cells #[.int .i64 x2, .bool dn2, .slice A2 l2.length c2] 41)) (fun _ _ => id))
  have U2 := Lib.hid (U1.out.trans uT2)
  have M2 := Lib.hid hm2
  have FW2 := Lib.hid hfew2
  clear y0 y1 y2 y3 r0 r1
  have y0 := bE2.out.cell 0
  have y1 := bE2.out.cell 1
  have y2 := bE2.out.cell 2
  have y3 := bE2.out.cell 3
  simp only [List.getElem?_cons_zero, List.getElem?_cons_succ] at y0 y1 y2 y3
  have r0 := bR2.out.cell 0
  have r1 := bR2.out.cell 1
  have s0 := bT12.out.cell 0
  have s1 := bT12.out.cell 1
  have s2 := bT12.out.cell 2
  simp only [List.getElem?_cons_zero, List.getElem?_cons_succ] at r0 r1 s0 s1 s2
  clear hu2 uT2 hh2 hm2 hfew2
  cases hd1 : doneT txs ef with
  | none =>
    have hv := Lib.hid (show edgeB ⟨txs, ords, A, c, B, d⟩ ⟨ef, et, ek, ey⟩ = false from edge_no1 hd1)
    have hm1 := M1.out
    rw [hd1] at hm1
    subst hm1
    clear hd1
    go_wp2
    go_ret
    exact ⟨by rw [hv.out]; rfl, U2.out⟩
  | some a =>
    have hm1 := M1.out
    rw [hd1] at hm1
    obtain ⟨rfl, rfl, rfl⟩ := hm1
    have HD1 := Lib.hid hd1
    clear hd1 M1
    cases hd2 : doneT txs et with
    | none =>
      have hv := Lib.hid (show edgeB ⟨txs, ords, A, c, B, d⟩ ⟨ef, et, ek, ey⟩ = false from edge_no2 HD1.out hd2)
      have hm2 := M2.out
      rw [hd2] at hm2
      subst hm2
      clear hd2
      go_wp2
      go_ret
      exact ⟨by rw [hv.out]; rfl, U2.out⟩
    | some b =>
      have hm2 := M2.out
      rw [hd2] at hm2
      obtain ⟨rfl, rfl, rfl⟩ := hm2
      have hv0 := edge_both (h := ⟨txs, ords, A, c, B, d⟩) (e := ⟨ef, et, ek, ey⟩) HD1.out hd2
      clear hd2 M2
      by_cases hft : ef = et
      · rw [if_pos hft] at hv0
        have hv := Lib.hid hv0
        have hfb : (ef == et) = true := by simpa using hft
        clear hft hv0
        go_wp2
        go_ret
        exact ⟨by rw [hv.out]; rfl, U2.out⟩
      · rw [if_neg hft] at hv0
        have hfb : (ef == et) = false := by simpa using hft
        clear hft
        by_cases hk1 : ek = 1
        · rw [if_pos hk1] at hv0
          have hv := Lib.hid hv0
          have hn := Lib.hid (show Calls Try.prog 185 #[.agg #[.slice A txs.length c, .slice B ords.length d], .int .i64 ey, .int .i64 ef, .int .i64 et] _ _ from cnext F _ txs ords A c B d ey ef et (H.upd U2.out (fun _ _ => id)))
          have hkb : (ek == 1) = true := by simpa using hk1
          clear hk1 hv0
          go_wp2_with fail
          refine (hn.out).mono ?_
          rintro e w3 ⟨rfl, hu3⟩
          go_wp2
          go_ret
          exact ⟨by rw [hv.out]; rfl, U2.out.trans hu3⟩
        · rw [if_neg hk1] at hv0
          have hkb : (ek == 1) = false := by simpa using hk1
          clear hk1
          by_cases hk2 : ek = 2
          · rw [if_pos hk2] at hv0
            have hv := Lib.hid hv0
            have hkb2 : (ek == 2) = true := by simpa using hk2
            have hn := Lib.hid (creads1 _ _ b.id dn2 A2 c2 b.ops ey ⟨w.heap.size + 1, 0, none⟩ ⟨w.heap.size, 0, none⟩ (fun v => v.tx == ef && lastB txs v) hh2'.out FW2.out
              (Lib.hid fun W v hW => ce1 F W txs ords A c B d w.heap.size (w.heap.size + 1) ⟨ef, et, ek, ey⟩ v (H.upd (U2.out.trans hW) (fun _ _ => id)) (bR2.out.upd hW id) (bE2.out.upd hW id)))
            clear hk2 hv0
            go_wp2_with fail
            refine (hn.out).mono ?_
            rintro e w3 ⟨rfl, hu3⟩
            go_wp2
            go_ret
            exact ⟨by rw [hv.out]; rfl, U2.out.trans hu3⟩
          · rw [if_neg hk2] at hv0
            have hkb2 : (ek == 2) = false := by simpa using hk2
            clear hk2
            by_cases hk3 : ek = 3
            · rw [if_pos hk3] at hv0
              have hv := Lib.hid hv0
              have hkb3 : (ek == 3) = true := by simpa using hk3
              have hn := Lib.hid (creads2 _ _ a.id dn1 A1 c1 a.ops ey ⟨w.heap.size, 0, none⟩ ⟨w.heap.size + 1, 0, none⟩ (fun v => lastB txs v && nextB ords ey v.tx et) hh12.out FW1.out
                (Lib.hid fun W v hW => ce2 F W txs ords A c B d w.heap.size (w.heap.size + 1) ⟨ef, et, ek, ey⟩ v (H.upd (U2.out.trans hW) (fun _ _ => id)) (bR2.out.upd hW id) (bE2.out.upd hW id)))
              clear hk3 hv0
              go_wp2_with fail
              refine (hn.out).mono ?_
              rintro e w3 ⟨rfl, hu3⟩
              go_wp2
              go_ret
              exact ⟨by rw [hv.out]; rfl, U2.out.trans hu3⟩
            · rw [if_neg hk3] at hv0
              have hv := Lib.hid hv0
              have hkb3 : (ek == 3) = false := by simpa using hk3
              clear hk3 hv0
              go_wp2
              go_ret
              exact ⟨by rw [hv.out]; rfl, U2.out⟩
end Go.Proofs.Ytgakhpdclhlmpaa
