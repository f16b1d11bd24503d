/- The order of a key. -/
import Derived.Test.YtgakhpdclhlmpaaHisF
namespace Go.Proofs.Ytgakhpdclhlmpaa
set_option linter.unusedVariables false
open Go.RowKit
theorem kk1 (w : World) (o : HOp) : Calls Try.prog 282 #[.agg o.cells.toArray] w fun e w' => e = .returned (.bool (!o.read)) ∧ Upd No w w' := by
  unfold HOp.cells
  go_enter Try.func282, Try.ntmps282
  go_wp2
  go_ret
  exact ⟨rfl, (Upd.refl _ _).alloc _⟩
theorem ho1 (w : World) (o : HOrd) (p : Addr) (key : Int) (hp : w.cell? p = some (.int .i64 key)) : Calls Try.prog 285 #[.agg o.cells.toArray, .pointer (some p)] w fun e w' => e = .returned (.bool (o.key == key)) ∧ Upd No w w' := by
  unfold HOrd.cells
  have hp1 := ((Upd.refl No w).alloc (.cells #[.int .i64 o.key, .slice o.A o.txs.length o.c] 118)).keepNo hp
  go_enter Try.func285, Try.ntmps285
  go_wp2
  go_ret
  exact ⟨rfl, (Upd.refl _ _).alloc _⟩
/-- where the first order of a key stands -/
def posO (l : List HOrd) (key : Int) : Nat := l.findIdx fun o => o.key == key
/-- where the first order of a key stands; -1: nowhere -/
def idxO (l : List HOrd) (key : Int) : Int := if posO l key < l.length then (posO l key : Int) else -1
theorem posO_hit {l : List HOrd} {key : Int} {k : Nat} (hk : k < l.length) (h : ∀ (j : Nat) (hj : j < k), ((l[j]'(by omega)).key == key) = false) (h1 : (l[k].key == key) = true) : posO l key = k := by
  unfold posO
  rw [List.findIdx_eq hk]
  exact ⟨h1, fun j hj => by simp only [h j hj]⟩
theorem posO_miss {l : List HOrd} {key : Int} (h : ∀ (j : Nat) (hj : j < l.length), (l[j].key == key) = false) : posO l key = l.length := by
  unfold posO
  rw [List.findIdx_eq_length]
  intro x hx
  obtain ⟨k, hk, rfl⟩ := List.mem_iff_getElem.1 hx
  simp only [h k hk]
set_option maxRecDepth 100000 in
theorem ifind (F : Nat → Prop) (w : World) (B : Option Addr) (d : Nat) (l : List HOrd) (p : Addr) (key : Int) (H : Recs F w B 2 (l.map HOrd.cells)) (hl : l.length ≤ 4398046511103) (hp : w.cell? p = some (.int .i64 key)) :
    Calls Try.prog 284 #[.slice B l.length d, .func (.func 285) #[] #[.pointer (some p)]] w fun e w' => e = .returned (.int .i64 (idxO l key)) ∧ Upd No w w' := by
  go_enter Try.func284, Try.ntmps284
  go_wp2
  go_loopg [8] l.length (fun gk s wr => ∃ k : Nat, k + gk = l.length ∧ s = .int .i64 k ∧ Hid (∀ (j : Nat) (hj : j < l.length), j < k → (l[j].key == key) = false) ∧ Upd No w wr)
  case atStart => exact ⟨0, by omega, rfl, Lib.hid (fun j _ hj => by omega), Upd.refl _ _⟩
  case round =>
    obtain ⟨k, hgk, rfl, hall, hu⟩ := hrel
    by_cases hlt : k < l.length
    · have hk' : k < (l.map HOrd.cells).length := by simpa using hlt
      obtain ⟨ad, hB, _, _, hc⟩ := Recs.at_ (Recs.upd H hu (fun _ _ => id)) hk'
      rw [List.getElem_map] at hc
      obtain ⟨x, hx⟩ : ∃ x, l[k] = x := ⟨_, rfl⟩
      rw [hx] at hc
      have c0 : wr.cell? (ad.add (k * 2)) = some (.int .i64 x.key) := by simpa using hc 0 _ rfl
      have c1 : wr.cell? ⟨(ad.add (k * 2)).block, (ad.add (k * 2)).off + 1, none⟩ = some (.slice x.A x.txs.length x.c) := by simpa using hc 1 _ rfl
      have hpr := hu.keepNo hp
      subst hB
      have X := Lib.hid hx
      have b2 : (k : Int) < (l.length : Int) := by omega
      have b1 : (0 : Int) ≤ (k : Int) := Int.natCast_nonneg _
      clear hx hc hk'
      by_cases he : (x.key == key) = true
      · have hpos := Lib.hid (show idxO l key = (k : Int) by unfold idxO; rw [posO_hit (l := l) (key := key) hlt (fun j hj => hall.out j (by omega) hj) (by rw [X.out]; exact he), if_pos hlt])
        have He := Lib.hid he
        clear he
        go_wp2_with fail
        refine (ho1 _ x p key hpr).mono ?_
        rintro e w1 ⟨hee, hu1⟩
        rw [He.out] at hee
        subst hee
        go_wp2
        go_ret
        exact ⟨by rw [hpos.out]; rfl, hu.trans hu1⟩
      · have hef : (x.key == key) = false := by simpa using he
        have He := Lib.hid hef
        clear he hef
        go_wp2_with fail
        refine (ho1 _ x p key hpr).mono ?_
        rintro e w1 ⟨hee, hu1⟩
        rw [He.out] at hee
        subst hee
        go_wp2
        go_roundg (gk - 1)
        case measure => omega
        case rel => exact ⟨k + 1, by omega, by go_num, Lib.hid (fun j hj hjk => by
            by_cases e : j = k
            · subst e; rw [X.out]; exact He.out
            · exact hall.out j hj (by omega)), hu.trans hu1⟩
    · obtain rfl : k = l.length := by omega
      have hpos := Lib.hid (show idxO l key = -1 by unfold idxO; rw [posO_miss (l := l) (key := key) fun j hj => hall.out j hj hj, if_neg (by omega)])
      go_wp2
      go_ret
      exact ⟨by rw [hpos.out]; rfl, hu⟩
/-- the first order of a key -/
def orderOf (l : List HOrd) (key : Int) : List Int := match l[posO l key]? with | some o => o.txs | none => []
set_option maxRecDepth 100000 in
theorem hord (F : Nat → Prop) (w : World) (h : Hist) (key : Int) (H : h.lies F w) : Calls Try.prog 238 #[h.val, .int .i64 key] w (NewI w (orderOf h.ords key)) := by
  obtain ⟨txs, ords, A, c, B, d⟩ := h
  unfold Hist.val
  have hfo := H.fewo
  simp only at hfo
  have u0 := ((Upd.refl No w).alloc (.cells #[.slice A txs.length c, .slice B ords.length d] 45)).alloc (.cells #[.int .i64 key] 3)
  have b0 := (Blk.new w 45 [.slice A txs.length c, .slice B ords.length d]).alloc (.cells #[.int .i64 key] 3)
  have b1 := Blk.new (w.alloc (.cells #[.slice A txs.length c, .slice B ords.length d] 45)) 3 [.int .i64 key]
  simp only [World.size_alloc] at b1
  have p1 := b1.cell 0
  simp only [List.getElem?_cons_zero] at p1
  have hi := ifind F _ B d ords ⟨w.heap.size + 1, 0, none⟩ key (Recs.upd H.ords u0 (fun _ _ => id)) hfo p1
  have Hi := Lib.hid hi
  have B0 := Lib.hid b0
  have U0 := Lib.hid u0
  clear hi b0 b1 u0 p1
  by_cases hp : posO ords key < ords.length
  · have hx1 := Lib.hid (show idxO ords key = (posO ords key : Int) by unfold idxO; rw [if_pos hp])
    obtain ⟨k, hk⟩ : ∃ k, posO ords key = k := ⟨_, rfl⟩
    rw [hk] at hx1 hp
    have ho := Lib.hid (show orderOf ords key = ords[k].txs by unfold orderOf; rw [hk, List.getElem?_eq_getElem hp])
    clear hk
    have b2 : (k : Int) < (ords.length : Int) := by omega
    have b1 : (0 : Int) ≤ (k : Int) := Int.natCast_nonneg _
    have b3 : ¬ (k : Int) < 0 := by omega
    go_enter Try.func238, Try.ntmps238
    go_wp2_with fail
    refine (Hi.out).mono ?_
    rintro e w1 ⟨he, hu1⟩
    rw [hx1.out] at he
    subst he
    have hu : Upd No w w1 := U0.out.trans hu1
    have g1 : w1.cell? ⟨w.heap.size, 1, none⟩ = some (.slice B ords.length d) := (B0.out.upd hu1 id).cell 1
    have H1 := H.upd hu (fun _ _ => id)
    obtain ⟨ad, hB, c0, c1⟩ := H1.ord_at hp
    have hlo := H1.ord ords[k] (List.getElem_mem hp)
    simp only at hB c0 c1
    subst hB
    have HL := Lib.hid hlo
    clear hlo H1
    go_wp2_with fail
    refine (iclone F _ ords[k].A ords[k].c ords[k].txs HL.out.1 HL.out.2.2.1).mono ?_
    rintro e w2 ⟨A2, c2, rfl, ho2, hu2⟩
    have HO := Lib.hid (And.intro ho2 hu2)
    clear ho2 hu2
    go_wp2
    go_ret
    refine ⟨A2, c2, by rw [ho.out]; rfl, ?_, hu.trans HO.out.2⟩
    rw [ho.out]
    exact own_base HO.out.1 hu.size
  · have hx1 := Lib.hid (show idxO ords key = -1 by unfold idxO; rw [if_neg hp])
    have ho := Lib.hid (show orderOf ords key = [] by unfold orderOf; rw [List.getElem?_eq_none (by omega)])
    clear hp
    go_enter Try.func238, Try.ntmps238
    go_wp2_with fail
    refine (Hi.out).mono ?_
    rintro e w1 ⟨he, hu1⟩
    rw [hx1.out] at he
    subst he
    have hu : Upd No w w1 := U0.out.trans hu1
    go_wp2
    go_ret
    refine ⟨none, 0, by rw [ho.out]; rfl, ?_, hu⟩
    rw [ho.out]
    exact World.ownsRow_nil _ _ _ _
end Go.Proofs.Ytgakhpdclhlmpaa
