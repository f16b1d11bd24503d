/- Whether all that a transaction needs is there. -/
import Derived.Test.YtgakhpdclhlmpaaHisH
import Derived.Test.YtgakhpdclhlmpaaHisM
namespace Go.Proofs.Ytgakhpdclhlmpaa
set_option linter.unusedVariables false
open Go.RowKit
/-- the box of a history -/
def HBox (w : World) (g : Nat) (h : Hist) : Prop := Blk w g 45 h.cells
set_option maxRecDepth 100000 in
theorem nd1 (F : Nat → Prop) (w : World) (h : Hist) (g : Nat) (v : Ver) (H : h.lies F w) (hg : HBox w g h) :
    Calls Try.prog 231 #[.agg v.cells.toArray, .pointer (some ⟨g, 0, none⟩)] w fun e w' => e = .returned (.bool (!(hasB h.txs v))) ∧ Upd No w w' := by
  obtain ⟨txs, ords, A, c, B, d⟩ := h
  unfold HBox Hist.cells at hg
  obtain ⟨tx, key, nth⟩ := v
  unfold Ver.cells
  have uA := (Upd.refl No w).alloc (.cells #[.int .i64 tx, .int .i64 key, .int .i64 nth] 34)
  have g0 := (hg.upd uA id).cell 0
  have g1 := (hg.upd uA id).cell 1
  simp only [List.getElem?_cons_zero, List.getElem?_cons_succ] at g0 g1
  have hh := hhas F _ ⟨txs, ords, A, c, B, d⟩ ⟨tx, key, nth⟩ (H.upd uA (fun _ _ => id))
  obtain ⟨b, hb⟩ : ∃ b, hasB txs ⟨tx, key, nth⟩ = b := ⟨_, rfl⟩
  rw [show hasB (Hist.txs ⟨txs, ords, A, c, B, d⟩) ⟨tx, key, nth⟩ = b from hb] at hh
  have HH := Lib.hid hh
  have Hb := Lib.hid hb
  clear hh hb
  go_enter Try.func231, Try.ntmps231
  go_wp2_with fail
  refine (HH.out).mono ?_
  rintro e w1 ⟨rfl, hu1⟩
  go_wp2
  go_ret
  exact ⟨by rw [show hasB (Hist.txs ⟨txs, ords, A, c, B, d⟩) ⟨tx, key, nth⟩ = b from Hb.out]; rfl, uA.trans hu1⟩
/-- where the first version stands that is not there -/
def posN (txs : List HTx) (l : List Ver) : Nat := l.findIdx fun v => !(hasB txs v)
def idxN (txs : List HTx) (l : List Ver) : Int := if posN txs l < l.length then (posN txs l : Int) else -1
theorem posN_hit {txs : List HTx} {l : List Ver} {k : Nat} (hk : k < l.length) (h : ∀ (j : Nat) (hj : j < k), hasB txs (l[j]'(by omega)) = true) (h1 : hasB txs l[k] = false) : posN txs l = k := by
  unfold posN
  rw [List.findIdx_eq hk]
  refine ⟨by rw [h1]; rfl, fun j hj => by simp only [h j hj]; rfl⟩
theorem posN_miss {txs : List HTx} {l : List Ver} (h : ∀ (j : Nat) (hj : j < l.length), hasB txs l[j] = true) : posN txs l = l.length := by
  unfold posN
  rw [List.findIdx_eq_length]
  intro x hx
  obtain ⟨k, hk, rfl⟩ := List.mem_iff_getElem.1 hx
  simp only [h k hk]; rfl
theorem idxN_all (txs : List HTx) (l : List Ver) : decide (idxN txs l ≥ 0) = !(l.all (hasB txs)) := by
  by_cases h : l.all (hasB txs) = true
  · have hm : posN txs l = l.length := posN_miss fun j hj => by
      rw [List.all_eq_true] at h
      exact h _ (List.getElem_mem hj)
    unfold idxN
    rw [hm, if_neg (by omega), h]; decide
  · have hf : l.all (hasB txs) = false := by simpa using h
    have hm : posN txs l < l.length := by
      unfold posN
      rw [List.findIdx_lt_length]
      rw [List.all_eq_false] at hf
      obtain ⟨x, hx, hn⟩ := hf
      exact ⟨x, hx, by simpa using hn⟩
    unfold idxN
    rw [if_pos hm, hf]
    simp
set_option maxRecDepth 100000 in
theorem nfind (F G : Nat → Prop) (w : World) (A : Option Addr) (d : Nat) (l : List Ver) (h : Hist) (g : Nat) (L : Vers G w A l) (H : h.lies F w) (hg : HBox w g h) (hl : l.length ≤ 4398046511103) :
    Calls Try.prog 280 #[.slice A l.length d, .func (.func 231) #[] #[.pointer (some ⟨g, 0, none⟩)]] w fun e w' => e = .returned (.int .i64 (idxN h.txs l)) ∧ Upd No w w' := by
  go_enter Try.func280, Try.ntmps280
  go_wp2
  go_loopg [8] l.length (fun gk s wr => ∃ k : Nat, k + gk = l.length ∧ s = .int .i64 k ∧ Hid (∀ (j : Nat) (hj : j < l.length), j < k → hasB h.txs l[j] = true) ∧ Upd No w wr)
  case atStart => exact ⟨0, by omega, rfl, Lib.hid (fun j _ hj => by omega), Upd.refl _ _⟩
  case round =>
    obtain ⟨k, hgk, rfl, hall, hu⟩ := hrel
    by_cases hlt : k < l.length
    · have hk' : k < (l.map Ver.cells).length := by simpa using hlt
      obtain ⟨ad, hB, _, _, hc⟩ := Recs.at_ (Recs.upd L hu (fun _ _ => id)) hk'
      rw [List.getElem_map] at hc
      obtain ⟨x, hx⟩ : ∃ x, l[k] = x := ⟨_, rfl⟩
      rw [hx] at hc
      have c0 : wr.cell? (ad.add (k * 3)) = some (.int .i64 x.tx) := by simpa using hc 0 _ rfl
      have c1 : wr.cell? ⟨(ad.add (k * 3)).block, (ad.add (k * 3)).off + 1, none⟩ = some (.int .i64 x.key) := by simpa using hc 1 _ rfl
      have c2 : wr.cell? ⟨(ad.add (k * 3)).block, (ad.add (k * 3)).off + 2, none⟩ = some (.int .i64 x.nth) := by simpa using hc 2 _ rfl
      subst hB
      have X := Lib.hid hx
      have b2 : (k : Int) < (l.length : Int) := by omega
      have b1 : (0 : Int) ≤ (k : Int) := Int.natCast_nonneg _
      clear hx hc hk'
      have hn := nd1 F wr h g x (H.upd hu (fun _ _ => id)) (hg.upd hu id)
      cases he : hasB h.txs x
      · have hpos := Lib.hid (show idxN h.txs l = (k : Int) by unfold idxN; rw [posN_hit (txs := h.txs) (l := l) hlt (fun j hj => hall.out j (by omega) hj) (by rw [X.out]; exact he), if_pos hlt])
        rw [he] at hn
        have HN := Lib.hid hn
        clear he hn
        go_wp2_with fail
        refine (HN.out).mono ?_
        rintro e w1 ⟨rfl, hu1⟩
        go_wp2
        go_ret
        exact ⟨by rw [hpos.out]; rfl, hu.trans hu1⟩
      · rw [he] at hn
        have HN := Lib.hid hn
        have He := Lib.hid he
        clear he hn
        go_wp2_with fail
        refine (HN.out).mono ?_
        rintro e w1 ⟨rfl, hu1⟩
        go_wp2
        go_roundg (gk - 1)
        case measure => omega
        case rel => exact ⟨k + 1, by omega, by go_num, Lib.hid (fun j hj hjk => by
            by_cases e : j = k
            · subst e; rw [X.out]; exact He.out
            · exact hall.out j hj (by omega)), hu.trans hu1⟩
    · obtain rfl : k = l.length := by omega
      have hpos := Lib.hid (show idxN h.txs l = -1 by unfold idxN; rw [posN_miss (txs := h.txs) (l := l) fun j hj => hall.out j hj hj, if_neg (by omega)])
      go_wp2
      go_ret
      exact ⟨by rw [hpos.out]; rfl, hu⟩
set_option maxRecDepth 100000 in
theorem ncont (F G : Nat → Prop) (w : World) (A : Option Addr) (d : Nat) (l : List Ver) (h : Hist) (g : Nat) (L : Vers G w A l) (H : h.lies F w) (hg : HBox w g h) (hl : l.length ≤ 4398046511103) :
    Calls Try.prog 229 #[.slice A l.length d, .func (.func 231) #[] #[.pointer (some ⟨g, 0, none⟩)]] w fun e w' => e = .returned (.bool (!(l.all (hasB h.txs)))) ∧ Upd No w w' := by
  have hq := idxN_all h.txs l
  have hf := nfind F G w A d l h g L H hg hl
  obtain ⟨b, hb⟩ : ∃ b, l.all (hasB h.txs) = b := ⟨_, rfl⟩
  obtain ⟨i, hi⟩ : ∃ i, idxN h.txs l = i := ⟨_, rfl⟩
  rw [hb, hi] at hq
  rw [hi] at hf
  rw [hb]
  have HF := Lib.hid hf
  clear hf hb hi
  cases b
  · have hi0 : 0 ≤ i := by simpa using hq
    clear hq
    go_enter Try.func229, Try.ntmps229
    go_wp2_with fail
    refine (HF.out).mono ?_
    rintro e w1 ⟨rfl, hu1⟩
    go_wp2
    go_ret
    exact ⟨rfl, hu1⟩
  · have hi0 : decide (0 ≤ i) = false := by simpa using hq
    clear hq
    go_enter Try.func229, Try.ntmps229
    go_wp2_with fail
    refine (HF.out).mono ?_
    rintro e w1 ⟨rfl, hu1⟩
    go_wp2
    go_ret
    exact ⟨rfl, hu1⟩
theorem ver_new {w w' : World} {l : List Ver} {A : Option Addr} {c : Nat} (h : w'.ownsRow w.heap.size 34 3 (.slice A l.length c) l.length (l.map Ver.cells).flatten) : Vers (fun i => w.heap.size ≤ i) w' A l := by
  have h2 := Recs.of_own (n := l.length) (c := c) vers_len (by omega) h
  exact Recs.weak h2 fun i _ hi => (h.lt i hi).1
set_option maxRecDepth 100000 in
theorem hneeded (F : Nat → Prop) (w : World) (h : Hist) (i0 : Int) (dn : Bool) (A : Option Addr) (c : Nat) (l : List HOp) (H : h.lies F w) (hA : HOps F w A l) (hl : fewOps l.length) :
    Calls Try.prog 178 #[h.val, .agg #[.int .i64 i0, .bool dn, .slice A l.length c]] w fun e w' => e = .returned (.bool (neededB h.txs i0 l)) ∧ Upd No w w' := by
  have hle := needsN_le i0 l l.length
  obtain ⟨txs, ords, A', c', B, d⟩ := h
  have uu := ((Upd.refl No w).alloc (.cells #[.slice A' txs.length c', .slice B ords.length d] 45)).alloc (.cells #[.int .i64 i0, .bool dn, .slice A l.length c] 41)
  have hb : HBox ((w.alloc (.cells #[.slice A' txs.length c', .slice B ords.length d] 45)).alloc (.cells #[.int .i64 i0, .bool dn, .slice A l.length c] 41)) w.heap.size ⟨txs, ords, A', c', B, d⟩ := (Blk.new w _ _).alloc _
  have HB := Lib.hid hb
  have hA' := hA.upd uu (fun _ _ => id)
  obtain ⟨ns, hns⟩ : ∃ ns, needsL i0 l = ns := ⟨_, rfl⟩
  have htn := tneeds F _ i0 dn A c l hA' hl
  rw [hns] at htn
  have hns' : (needsN i0 l l.length) = ns := hns
  rw [hns'] at hle
  unfold fewOps at hl
  have HT := Lib.hid htn
  have HV := Lib.hid (show neededB txs i0 l = ns.all (hasB txs) by unfold neededB; rw [hns])
  clear hb hA' htn hns hns'
  unfold Hist.val
  go_enter Try.func178, Try.ntmps178
  go_wp2_with fail
  refine (HT.out).mono ?_
  rintro e w1 ⟨A1, c1, rfl, ho1, hu1⟩
  have hv1 := ver_new ho1
  have H1 := (H.upd (uu.trans hu1) (fun _ _ => id))
  have hc := ncont F _ w1 A1 c1 ns ⟨txs, ords, A', c', B, d⟩ w.heap.size hv1 H1 (HB.out.upd hu1 id) (by omega)
  obtain ⟨b, hb⟩ : ∃ b, ns.all (hasB txs) = b := ⟨_, rfl⟩
  rw [show ns.all (hasB (Hist.txs ⟨txs, ords, A', c', B, d⟩)) = b from hb] at hc
  have HC := Lib.hid hc
  have Hb := Lib.hid hb
  have HU := Lib.hid (uu.trans hu1)
  clear hc hb hv1 H1 ho1 hu1 uu
  go_wp2_with fail
  refine (HC.out).mono ?_
  rintro e w2 ⟨rfl, hu2⟩
  go_wp2
  go_ret
  exact ⟨by rw [show neededB (Hist.txs ⟨txs, ords, A', c', B, d⟩) i0 l = b from HV.out.trans Hb.out]; rfl, HU.out.trans hu2⟩
end Go.Proofs.Ytgakhpdclhlmpaa
