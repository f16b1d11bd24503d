/- Whether a version is there. -/
import Derived.WideKeyEntry
import Derived.IntWalk
import Derived.Shelf.SlicesG.CompactI
import Derived.Ground.SlgnProg
import Derived.Shelf.SlGeneric
import Derived.Test.YtgakhpdclhlmpaaGreatProg
import Derived.Test.YtgakhpdclhlmpaaGreatMac
namespace Go.Proofs.YtgakhpdclhlmpaaGreat
set_option linter.unusedVariables false
open Go.RowKit
theorem hasB_zero {txs : List HTx} {v : Ver} (h1 : v.tx = 0) (h2 : v.nth = 0) : hasB txs v = idB v.key := by unfold hasB; rw [if_pos ⟨h1, h2⟩]
theorem hasB_none {txs : List HTx} {v : Ver} (h : ¬ (v.tx = 0 ∧ v.nth = 0)) (hf : findT txs v.tx = none) : hasB txs v = false := by unfold hasB; rw [if_neg h, hf]
theorem hasB_some {txs : List HTx} {v : Ver} {t : HTx} (h : ¬ (v.tx = 0 ∧ v.nth = 0)) (hf : findT txs v.tx = some t) : hasB txs v = (decide (1 ≤ v.nth) && decide (v.nth ≤ (writesN t.ops v.key : Int))) := by unfold hasB; rw [if_neg h, hf]
section
variable (F : Nat → Prop) (w : World) (txs : List HTx) (ords : List HOrd) (A : Option Addr) (c : Nat) (B : Option Addr) (d : Nat) (i : Int)
theorem pfind_none (H : Hist.lies F w ⟨txs, ords, A, c, B, d⟩) (hf : findT txs i = none) : Calls Tryz.prog 49 #[.agg #[.slice A txs.length c, .slice B ords.length d], .int .i64 i] w fun e w' =>
    e = .returned (.tuple #[.agg #[.int .i64 0, .bool false, .slice none 0 0], .bool false]) ∧ Upd No w w' := by
  refine (pfind F w ⟨txs, ords, A, c, B, d⟩ i H).mono ?_
  intro e w' h
  unfold Found at h
  rw [show findT (Hist.txs ⟨txs, ords, A, c, B, d⟩) i = none from hf] at h
  exact h
theorem pfind_some {t : HTx} (H : Hist.lies F w ⟨txs, ords, A, c, B, d⟩) (hf : findT txs i = some t) : Calls Tryz.prog 49 #[.agg #[.slice A txs.length c, .slice B ords.length d], .int .i64 i] w fun e w' =>
    ∃ A' c', e = .returned (.tuple #[.agg #[.int .i64 t.id, .bool t.done, .slice A' t.ops.length c'], .bool true]) ∧ t.ops.length ≤ c' ∧ HOps (fun i => w.heap.size ≤ i) w' A' t.ops ∧ Upd No w w' := by
  refine (pfind F w ⟨txs, ords, A, c, B, d⟩ i H).mono ?_
  intro e w' h
  unfold Found at h
  rw [show findT (Hist.txs ⟨txs, ords, A, c, B, d⟩) i = some t from hf] at h
  obtain ⟨⟨A', c', h1, h2, h3⟩, h4⟩ := h
  exact ⟨A', c', h1, h2, h3, h4⟩
end
theorem findT_mem {txs : List HTx} {i : Int} {t : HTx} (h : findT txs i = some t) : t ∈ txs := List.mem_of_find?_eq_some h
set_option maxRecDepth 100000 in
set_option maxHeartbeats 1000000 in
theorem hhas (F : Nat → Prop) (w : World) (h : Hist) (v : Ver) (H : h.lies F w) : Calls Tryz.prog 56 #[h.val, .agg v.cells.toArray] w fun e w' => e = .returned (.bool (hasB h.txs v)) ∧ Upd No w w' := by
  obtain ⟨txs, ords, A, c, B, d⟩ := h
  obtain ⟨tx, key, nth⟩ := v
  unfold Hist.val Ver.cells
  have uu := ((Upd.refl No w).alloc (.cells #[.slice A txs.length c, .slice B ords.length d] 25)).alloc (.cells #[.int .i64 tx, .int .i64 key, .int .i64 nth] 29)
  by_cases h1 : tx = 0
  · subst h1
    by_cases h2 : nth = 0
    · subst h2
      have hv := Lib.hid (hasB_zero (txs := txs) (v := ⟨0, key, 0⟩) rfl rfl)
      unfold idB at hv
      by_cases b1 : 1 ≤ key
      · by_cases b2 : key ≤ 1048575
        · go_enter Tryz.func56, Tryz.ntmps56
          go_wp2
          go_ret
          exact ⟨by rw [hv.out, decide_eq_true b1, decide_eq_true b2]; rfl, uu⟩
        · go_enter Tryz.func56, Tryz.ntmps56
          go_wp2
          go_ret
          exact ⟨by rw [hv.out, decide_eq_false (show ¬ key ≤ 1048575 by omega), Bool.and_false]; rfl, uu⟩
      · go_enter Tryz.func56, Tryz.ntmps56
        go_wp2
        go_ret
        exact ⟨by rw [hv.out, decide_eq_false (show ¬ 1 ≤ key by omega), Bool.false_and]; rfl, uu⟩
    · have hne : ¬ ((⟨0, key, nth⟩ : Ver).tx = 0 ∧ (⟨0, key, nth⟩ : Ver).nth = 0) := fun e => h2 e.2
      have h2b : (nth == 0) = false := by simpa using h2
      clear h2
      have HH := Lib.hid (H.upd uu (fun _ _ => id))
      have b1 := Blk.new (w.alloc (.cells #[.slice A txs.length c, .slice B ords.length d] 25)) 29 [.int .i64 0, .int .i64 key, .int .i64 nth]
      simp only [World.size_alloc] at b1
      have B1 := Lib.hid b1
      clear b1
      cases hf : findT txs 0 with
      | none =>
        have hv := Lib.hid (hasB_none hne hf)
        have Hf := Lib.hid hf
        clear hne hf
        go_enter Tryz.func56, Tryz.ntmps56
        go_wp2_with fail
        refine (pfind_none F _ txs ords A c B d 0 HH.out Hf.out).mono ?_
        rintro e w1 ⟨rfl, hu1⟩
        have bv := (B1.out.upd hu1 id).alloc (.cells #[.int .i64 0, .bool false, .slice none 0 0] 47)
        have g0 := bv.cell 0
        have g1 := bv.cell 1
        have g2 := bv.cell 2
        simp only [List.getElem?_cons_zero, List.getElem?_cons_succ] at g0 g1 g2
        go_wp2
        go_quiet (fail)
        go_wp2
        go_ret
        exact ⟨by rw [hv.out]; rfl, ((uu.trans hu1).alloc _).drewN _⟩
      | some t =>
        have hv := Lib.hid (hasB_some hne hf)
        have Hf := Lib.hid hf
        have hfew := Lib.hid (H.tx t (findT_mem hf)).2.2.1
        clear hne hf
        by_cases hn1 : 1 ≤ nth
        · go_enter Tryz.func56, Tryz.ntmps56
          go_wp2_with fail
          refine (pfind_some F _ txs ords A c B d 0 HH.out Hf.out).mono ?_
          rintro e w1 ⟨A1, c1, rfl, hc1, hh1, hu1⟩
          have bv := (B1.out.upd hu1 id).alloc (.cells #[.int .i64 t.id, .bool t.done, .slice A1 t.ops.length c1] 47)
          have bt := Blk.new w1 47 [.int .i64 t.id, .bool t.done, .slice A1 t.ops.length c1]
          have hh2 := HOps.upd hh1 ((Upd.refl No w1).alloc (.cells #[.int .i64 t.id, .bool t.done, .slice A1 t.ops.length c1] 47)) (fun _ _ => id)
          have g0 := bv.cell 0
          have g1 := bv.cell 1
          have g2 := bv.cell 2
          have k0 := bt.cell 0
          have k1 := bt.cell 1
          have k2 := bt.cell 2
          simp only [List.getElem?_cons_zero, List.getElem?_cons_succ] at g0 g1 g2 k0 k1 k2
          have U1 := Lib.hid ((uu.trans hu1).alloc (.cells #[.int .i64 t.id, .bool t.done, .slice A1 t.ops.length c1] 47))
          go_wp2
          go_region_held3 (fun w' => w'.cell? ⟨w.heap.size + 1, 0, none⟩ = some (.int .i64 0) ∧ w'.cell? ⟨w.heap.size + 1, 1, none⟩ = some (.int .i64 key) ∧ w'.cell? ⟨w.heap.size + 1, 2, none⟩ = some (.int .i64 nth) ∧
              w'.cell? ⟨w1.heap.size, 0, none⟩ = some (.int .i64 t.id) ∧ w'.cell? ⟨w1.heap.size, 1, none⟩ = some (.bool t.done) ∧ w'.cell? ⟨w1.heap.size, 2, none⟩ = some (.slice A1 t.ops.length c1) ∧ Upd No w w')
            (first | exact ⟨g0, g1, g2, k0, k1, k2, U1.out.drew⟩ | exact ⟨g0, g1, g2, k0, k1, k2, U1.out⟩ | (go_split_ands; refine ⟨?_, ?_, ?_, ?_, ?_, ?_, ?_⟩ <;> first | assumption | (exact hu3.keepNo (by assumption)) | (exact Upd.trans (by assumption) hu3)))
            ((go_at_call 50; refine (pwrites _ _ t.id t.done A1 c1 t.ops key (by exact hh2) hfew.out).mono ?_; rintro e w3 ⟨rfl, hu3⟩))
          go_wp2
          go_ret
          exact ⟨by rw [hv.out, decide_eq_true hn1]; rfl, (by go_split_ands; assumption)⟩
        · go_enter Tryz.func56, Tryz.ntmps56
          go_wp2_with fail
          refine (pfind_some F _ txs ords A c B d 0 HH.out Hf.out).mono ?_
          rintro e w1 ⟨A1, c1, rfl, hc1, hh1, hu1⟩
          have bv := (B1.out.upd hu1 id).alloc (.cells #[.int .i64 t.id, .bool t.done, .slice A1 t.ops.length c1] 47)
          have g0 := bv.cell 0
          have g1 := bv.cell 1
          have g2 := bv.cell 2
          simp only [List.getElem?_cons_zero, List.getElem?_cons_succ] at g0 g1 g2
          have hnb : decide (1 ≤ nth) = false := decide_eq_false (by omega)
          go_wp2
          go_quiet (fail)
          go_wp2
          go_ret
          exact ⟨by rw [hv.out, decide_eq_false (show ¬ 1 ≤ nth by omega), Bool.false_and]; rfl, ((uu.trans hu1).alloc _).drewN _⟩
  · have hne : ¬ ((⟨tx, key, nth⟩ : Ver).tx = 0 ∧ (⟨tx, key, nth⟩ : Ver).nth = 0) := fun e => h1 e.1
    have h1b : (tx == 0) = false := by simpa using h1
    clear h1
    have HH := Lib.hid (H.upd uu (fun _ _ => id))
    have b1 := Blk.new (w.alloc (.cells #[.slice A txs.length c, .slice B ords.length d] 25)) 29 [.int .i64 tx, .int .i64 key, .int .i64 nth]
    simp only [World.size_alloc] at b1
    have B1 := Lib.hid b1
    clear b1
    cases hf : findT txs tx with
    | none =>
      have hv := Lib.hid (hasB_none hne hf)
      have Hf := Lib.hid hf
      clear hne hf
      go_enter Tryz.func56, Tryz.ntmps56
      go_wp2_with fail
      refine (pfind_none F _ txs ords A c B d tx HH.out Hf.out).mono ?_
      rintro e w1 ⟨rfl, hu1⟩
      have bv := (B1.out.upd hu1 id).alloc (.cells #[.int .i64 0, .bool false, .slice none 0 0] 47)
      have g0 := bv.cell 0
      have g1 := bv.cell 1
      have g2 := bv.cell 2
      simp only [List.getElem?_cons_zero, List.getElem?_cons_succ] at g0 g1 g2
      go_wp2
      go_quiet (fail)
      go_wp2
      go_ret
      exact ⟨by rw [hv.out]; rfl, ((uu.trans hu1).alloc _).drewN _⟩
    | some t =>
      have hv := Lib.hid (hasB_some hne hf)
      have Hf := Lib.hid hf
      have hfew := Lib.hid (H.tx t (findT_mem hf)).2.2.1
      clear hne hf
      by_cases hn1 : 1 ≤ nth
      · go_enter Tryz.func56, Tryz.ntmps56
        go_wp2_with fail
        refine (pfind_some F _ txs ords A c B d tx HH.out Hf.out).mono ?_
        rintro e w1 ⟨A1, c1, rfl, hc1, hh1, hu1⟩
        have bv := (B1.out.upd hu1 id).alloc (.cells #[.int .i64 t.id, .bool t.done, .slice A1 t.ops.length c1] 47)
        have bt := Blk.new w1 47 [.int .i64 t.id, .bool t.done, .slice A1 t.ops.length c1]
        have hh2 := HOps.upd hh1 ((Upd.refl No w1).alloc (.cells #[.int .i64 t.id, .bool t.done, .slice A1 t.ops.length c1] 47)) (fun _ _ => id)
        have g0 := bv.cell 0
        have g1 := bv.cell 1
        have g2 := bv.cell 2
        have k0 := bt.cell 0
        have k1 := bt.cell 1
        have k2 := bt.cell 2
        simp only [List.getElem?_cons_zero, List.getElem?_cons_succ] at g0 g1 g2 k0 k1 k2
        have U1 := Lib.hid ((uu.trans hu1).alloc (.cells #[.int .i64 t.id, .bool t.done, .slice A1 t.ops.length c1] 47))
        go_wp2
        go_region_held3 (fun w' => w'.cell? ⟨w.heap.size + 1, 0, none⟩ = some (.int .i64 tx) ∧ w'.cell? ⟨w.heap.size + 1, 1, none⟩ = some (.int .i64 key) ∧ w'.cell? ⟨w.heap.size + 1, 2, none⟩ = some (.int .i64 nth) ∧
            w'.cell? ⟨w1.heap.size, 0, none⟩ = some (.int .i64 t.id) ∧ w'.cell? ⟨w1.heap.size, 1, none⟩ = some (.bool t.done) ∧ w'.cell? ⟨w1.heap.size, 2, none⟩ = some (.slice A1 t.ops.length c1) ∧ Upd No w w')
          (first | exact ⟨g0, g1, g2, k0, k1, k2, U1.out.drew⟩ | exact ⟨g0, g1, g2, k0, k1, k2, U1.out⟩ | (go_split_ands; refine ⟨?_, ?_, ?_, ?_, ?_, ?_, ?_⟩ <;> first | assumption | (exact hu3.keepNo (by assumption)) | (exact Upd.trans (by assumption) hu3)))
          ((go_at_call 50; refine (pwrites _ _ t.id t.done A1 c1 t.ops key (by exact hh2) hfew.out).mono ?_; rintro e w3 ⟨rfl, hu3⟩))
        go_wp2
        go_ret
        exact ⟨by rw [hv.out, decide_eq_true hn1]; rfl, (by go_split_ands; assumption)⟩
      · go_enter Tryz.func56, Tryz.ntmps56
        go_wp2_with fail
        refine (pfind_some F _ txs ords A c B d tx HH.out Hf.out).mono ?_
        rintro e w1 ⟨A1, c1, rfl, hc1, hh1, hu1⟩
        have bv := (B1.out.upd hu1 id).alloc (.cells #[.int .i64 t.id, .bool t.done, .slice A1 t.ops.length c1] 47)
        have g0 := bv.cell 0
        have g1 := bv.cell 1
        have g2 := bv.cell 2
        simp only [List.getElem?_cons_zero, List.getElem?_cons_succ] at g0 g1 g2
        have hnb : decide (1 ≤ nth) = false := decide_eq_false (by omega)
        go_wp2
        go_quiet (fail)
        go_wp2
        go_ret
        exact ⟨by rw [hv.out, decide_eq_false (show ¬ 1 ≤ nth by omega), Bool.false_and]; rfl, ((uu.trans hu1).alloc _).drewN _⟩
end Go.Proofs.YtgakhpdclhlmpaaGreat

/- Maps that the calls themselves make: an entry that is looked for, or laid, and stored into (m[k]++). -/
namespace Go.Proofs.YtgakhpdclhlmpaaGreat
set_option linter.unusedVariables false
open Go.RowKit

/-- block b is a map of just these entries, and each entry's mark is its own -/
def MapE {α : Type} (w : World) (b : Nat) (enc : α → Value) (m : List (α × Value)) : Prop :=
  ∃ es clock, w.heap[b]? = some (.map es clock) ∧ es.toList.map (fun e => (e.key, e.val)) = m.map (fun p => (enc p.1, p.2)) ∧ (∀ x ∈ es.toList, x.born < clock) ∧ (es.toList.map (·.born)).Nodup
section
variable {α : Type} {P : Program} {w w' : World} {b : Nat} {enc : α → Value} {m : List (α × Value)} {S : Nat → Prop} {t kt et : TypeId}
theorem MapE.is (h : MapE w b enc m) : MapIs w b enc m := by
  obtain ⟨es, c, hb, he, _⟩ := h
  exact ⟨es, c, hb, he⟩
theorem MapE.lt (h : MapE w b enc m) : b < w.heap.size := h.is.lt
theorem MapE.upd (h : MapE w b enc m) (k : Upd S w w') (hn : ¬ S b) : MapE w' b enc m := by
  have hl := h.lt
  obtain ⟨es, c, hb, he⟩ := h
  exact ⟨es, c, (k.block b hl hn).trans hb, he⟩
theorem MapE.new (w : World) (enc : α → Value) : MapE (w.alloc (.map #[] 0)) w.heap.size enc ([] : List (α × Value)) := ⟨#[], 0, heap_alloc_new w _, rfl, by simp, by simp⟩
theorem born_push {es : Array MapEntry} {clock : Nat} (h1 : ∀ x ∈ es.toList, x.born < clock) (h2 : (es.toList.map (·.born)).Nodup) (key val : Value) :
    (∀ x ∈ (es.push { key := key, val := val, born := clock }).toList, x.born < clock + 1) ∧ ((es.push { key := key, val := val, born := clock }).toList.map (·.born)).Nodup := by
  rw [Array.toList_push]
  constructor
  · intro x hx
    rcases List.mem_append.1 hx with hx | hx
    · have := h1 x hx; omega
    · simp only [List.mem_singleton] at hx; subst hx; simp
  · rw [List.map_append, List.nodup_append]
    refine ⟨h2, by simp, fun a ha c hc e1 => ?_⟩
    simp only [List.map_cons, List.map_nil, List.mem_singleton] at hc
    obtain ⟨x, hx, rfl⟩ := List.mem_map.1 ha
    have := h1 x hx
    omega
theorem born_mod {es : Array MapEntry} {clock : Nat} (i : Nat) (f : MapEntry → MapEntry) (hf : ∀ e, (f e).born = e.born) (h1 : ∀ x ∈ es.toList, x.born < clock) (h2 : (es.toList.map (·.born)).Nodup) :
    (∀ x ∈ (es.modify i f).toList, x.born < clock) ∧ ((es.modify i f).toList.map (·.born)).Nodup := by
  have e : (es.modify i f).toList.map (·.born) = es.toList.map (·.born) := by
    rw [Array.toList_modify]
    apply List.ext_getElem?
    intro j
    simp only [List.getElem?_map, List.getElem?_modify]
    by_cases hij : i = j
    · subst hij
      cases es.toList[i]? <;> simp [hf]
    · simp [hij]
  refine ⟨fun x hx => ?_, by rw [e]; exact h2⟩
  have : x.born ∈ (es.modify i f).toList.map (·.born) := List.mem_map.2 ⟨x, hx, rfl⟩
  rw [e] at this
  obtain ⟨y, hy, h⟩ := List.mem_map.1 this
  rw [← h]
  exact h1 y hy
end
section
variable {α : Type} [DecidableEq α] {P : Program} {w w' : World} {b : Nat} {enc : α → Value} {m : List (α × Value)} {S : Nat → Prop} {t kt et : TypeId}
omit [DecidableEq α] in
theorem mods_eq {es : Array MapEntry} {m : List (α × Value)} {r : Nat × Value} {a : α} (v : Value) (he : es.toList.map (fun e => (e.key, e.val)) = m.map (fun p => (enc p.1, p.2))) (hr : m[r.1]? = some (a, r.2)) (f : MapEntry → MapEntry) (hf : ∀ e, e.key = enc a → (f e).key = enc a ∧ (f e).val = v) :
    (es.modify r.1 f).toList.map (fun e => (e.key, e.val)) = (m.modify r.1 fun p => (p.1, v)).map (fun p => (enc p.1, p.2)) := by
  rw [Array.toList_modify]
  apply List.ext_getElem?
  intro j
  have hj : (es.toList.map (fun e => (e.key, e.val)))[j]? = (m.map (fun p => (enc p.1, p.2)))[j]? := by rw [he]
  simp only [List.getElem?_map, List.getElem?_modify] at hj ⊢
  by_cases hij : r.1 = j
  · subst hij
    rw [hr] at hj ⊢
    cases h1 : es.toList[r.1]? with
    | none => rw [h1] at hj; simp at hj
    | some e0 =>
      rw [h1] at hj
      simp only [Option.map_some, Option.some.injEq, Prod.mk.injEq] at hj
      have := hf e0 hj.1
      simp [this.1, this.2]
  · cases h1 : es.toList[j]? <;> cases h2 : m[j]? <;> rw [h1, h2] at hj <;> simp_all
/-- m[k] is looked for, or laid; then it is stored into -/
theorem run_entry (K : KeyBy P kt enc) (ht : P.underlying t = some (.map kt et)) {z : Value} (hz : ∀ w : World, (zeroValue et).run P w = .ok z w) (h : MapE w b enc m) (a : α) :
    ∃ st w2, (Instr.mapEntry t (.map (some b)) (enc a)).run P w = .ok (.tuple #[(mget m a).getD z, goInt st]) w2 ∧ MapE w2 b enc (mput m a ((mget m a).getD z)) ∧ Upd (One b) w w2 ∧
      ∀ v, ∃ w3, (Instr.entryStore t (.map (some b)) (goInt st) v).run P w2 = .ok () w3 ∧ MapE w3 b enc (mput m a v) ∧ Upd (One b) w w3 := by
  have hl := h.lt
  obtain ⟨es, c, hb, he, hbo, hnd⟩ := h
  cases hlk : look a m 0 with
  | none =>
    have hg : (mget m a).getD z = z := by unfold mget; rw [hlk]; rfl
    have hp : ∀ v, mput m a v = m ++ [(a, v)] := fun v => by simp [mput, hlk]
    rw [hg]
    have hB := born_push hbo hnd (enc a) z
    have hw2 : ({ w with heap := w.heap.setIfInBounds b (.map (es.push { key := enc a, val := z, born := c }) (c + 1)) } : World).heap[b]? = some (.map (es.push { key := enc a, val := z, born := c }) (c + 1)) := by
      show (w.heap.setIfInBounds b _)[b]? = _
      simp [hl]
    refine ⟨c, { w with heap := w.heap.setIfInBounds b (.map (es.push { key := enc a, val := z, born := c }) (c + 1)) }, ?_, ⟨_, _, hw2, ?_, hB⟩, setObj_upd w b _, fun v => ?_⟩
    · simp only [Instr.mapEntry, run_underlying ht, Sem.run_bind, Result.andThen, run_getObj_map w b es c hb, K.check, K.find w a _ _ he, hlk, hz]
      rw [Go.MapKept.run_setObj_map _ hb]
      rfl
    · rw [hp]; simp [he]
    · have hidx : (es.push { key := enc a, val := z, born := c }).findIdx? (fun e => ((e.born : Nat) : Int) == ((c : Nat) : Int)) = some es.size := by
        rw [Go.WideElems.findIdx_arr]
        exact Go.WideElems.findIdx_born (l := (es.push { key := enc a, val := z, born := c }).toList) (j := es.size) (e0 := { key := enc a, val := z, born := c }) hB.2 (by simp)
      have hmod : (es.push { key := enc a, val := z, born := c }).modify es.size (fun e => { e with val := v }) = es.push { key := enc a, val := v, born := c } := by
        apply Array.ext'
        rw [Array.toList_modify, Array.toList_push, Array.toList_push, ← Array.length_toList, Go.WideElems.modify_last]
      generalize hW : ({ w with heap := w.heap.setIfInBounds b (.map (es.push { key := enc a, val := z, born := c }) (c + 1)) } : World) = w2 at hw2
      have hu2 : Upd (One b) w w2 := by rw [← hW]; exact setObj_upd w b _
      refine ⟨{ w2 with heap := w2.heap.setIfInBounds b (.map (es.push { key := enc a, val := v, born := c }) (c + 1)) }, ?_, ⟨_, _, ?_, ?_, born_push hbo hnd (enc a) v⟩, hu2.trans (setObj_upd w2 b _)⟩
      · simp [Instr.entryStore, Go.MapKept.run_getObj_map hw2, asInt, asIntOf, goInt, hidx, hmod, Go.MapKept.run_setObj_map _ hw2, Result.andThen]
      · show (w2.heap.setIfInBounds b _)[b]? = _
        have : b < w2.heap.size := Nat.lt_of_lt_of_le hl hu2.size
        simp [this]
      · rw [hp]; simp [he]
  | some r =>
    obtain ⟨_, hr⟩ := look_lt a m 0 r hlk
    rw [Nat.sub_zero] at hr
    have hg : (mget m a).getD z = r.2 := by unfold mget; rw [hlk]; rfl
    have hp : ∀ v, mput m a v = m.modify r.1 fun p => (p.1, v) := fun v => by simp [mput, hlk]
    rw [hg]
    have hke : (es.toList.map (fun e => (e.key, e.val)))[r.1]? = some (enc a, r.2) := by rw [he, List.getElem?_map, hr]; rfl
    rw [List.getElem?_map, Option.map_eq_some_iff] at hke
    obtain ⟨e0, he0, hee⟩ := hke
    have hk0 : e0.key = enc a := congrArg Prod.fst hee
    have hv0 : e0.val = r.2 := congrArg Prod.snd hee
    have hkk : ((es[r.1]?).map (·.key)).getD (enc a) = enc a := by
      rw [← Array.getElem?_toList, he0]
      simpa using hk0
    have hbb : ((es[r.1]?).map (fun x => ((x.born : Nat) : Int))).getD 0 = ((e0.born : Nat) : Int) := by
      rw [← Array.getElem?_toList, he0]
      rfl
    have hsame : es.modify r.1 (fun e => { e with key := enc a }) = es := by
      apply Array.ext'
      rw [Array.toList_modify, Go.ChangeMaps.modify_eq_set _ _ _ _ he0]
      have : ({ e0 with key := enc a } : MapEntry) = e0 := by rw [← hk0]
      rw [this]
      exact Go.WideElems.set_self _ _ _ he0
    refine ⟨e0.born, { w with heap := w.heap.setIfInBounds b (.map es c) }, ?_, ⟨es, c, ?_, ?_, hbo, hnd⟩, setObj_upd w b _, fun v => ?_⟩
    · simp only [Instr.mapEntry, run_underlying ht, Sem.run_bind, Result.andThen, run_getObj_map w b es c hb, K.check, K.find w a _ _ he, hlk, hkk, hbb, Instr.keyThatStays, K.bits, if_true, Sem.run_pure, hsame]
      rw [Go.MapKept.run_setObj_map _ hb]
    · show (w.heap.setIfInBounds b _)[b]? = _
      simp [hl]
    · rw [hp, ← mods_eq (enc := enc) r.2 he hr (fun e => { e with key := enc a, val := r.2 }) (fun e _ => ⟨rfl, rfl⟩), Array.toList_modify, Go.ChangeMaps.modify_eq_set _ _ _ _ he0]
      have : ({ e0 with key := enc a, val := r.2 } : MapEntry) = e0 := by rw [← hk0, ← hv0]
      rw [this, Go.WideElems.set_self _ _ _ he0]
    · have hidx : es.findIdx? (fun e => ((e.born : Nat) : Int) == ((e0.born : Nat) : Int)) = some r.1 := by
        rw [Go.WideElems.findIdx_arr]
        exact Go.WideElems.findIdx_born hnd he0
      generalize hW : ({ w with heap := w.heap.setIfInBounds b (.map es c) } : World) = w2
      have hu2 : Upd (One b) w w2 := by rw [← hW]; exact setObj_upd w b _
      have hw2 : w2.heap[b]? = some (.map es c) := by
        rw [← hW]
        show (w.heap.setIfInBounds b _)[b]? = _
        simp [hl]
      refine ⟨{ w2 with heap := w2.heap.setIfInBounds b (.map (es.modify r.1 fun e => { e with val := v }) c) }, ?_, ⟨_, _, ?_, ?_, born_mod r.1 (fun e => { e with val := v }) (fun _ => rfl) hbo hnd⟩, hu2.trans (setObj_upd w2 b _)⟩
      · simp [Instr.entryStore, Go.MapKept.run_getObj_map hw2, asInt, asIntOf, goInt, hidx, Go.MapKept.run_setObj_map _ hw2, Result.andThen]
      · show (w2.heap.setIfInBounds b _)[b]? = _
        have : b < w2.heap.size := Nat.lt_of_lt_of_le hl hu2.size
        simp [this]
      · rw [hp]
        exact mods_eq (enc := enc) v he hr (fun e => { e with val := v }) (fun e h => ⟨h, rfl⟩)
/-- m[k] = v -/
theorem run_putE (K : KeyBy P kt enc) (ht : P.underlying t = some (.map kt et)) (h : MapE w b enc m) (a : α) (v : Value) :
    ∃ w', (Instr.mapUpdate t (.map (some b)) (enc a) v).run P w = .ok () w' ∧ MapE w' b enc (mput m a v) ∧ Upd (One b) w w' := by
  have hl := h.lt
  obtain ⟨es, c, hb, he, hbo, hnd⟩ := h
  cases hlk : look a m 0 with
  | none =>
    refine ⟨{ w with heap := w.heap.setIfInBounds b (.map (es.push { key := enc a, val := v, born := c }) (c + 1)) }, ?_, ⟨es.push { key := enc a, val := v, born := c }, c + 1, ?_, ?_, born_push hbo hnd (enc a) v⟩, setObj_upd w b _⟩
    · simp only [Instr.mapUpdate, run_underlying ht, Sem.run_bind, Result.andThen, run_getObj_map w b es c hb, K.check, K.find w a _ _ he, hlk]
      exact Go.MapKept.run_setObj_map _ hb
    · show (w.heap.setIfInBounds b _)[b]? = _
      simp [hl]
    · simp [mput, hlk, he]
  | some r =>
    obtain ⟨_, hr⟩ := look_lt a m 0 r hlk
    rw [Nat.sub_zero] at hr
    have hke : (es.toList.map (fun e => (e.key, e.val)))[r.1]? = some (enc a, r.2) := by rw [he, List.getElem?_map, hr]; rfl
    rw [List.getElem?_map, Option.map_eq_some_iff] at hke
    obtain ⟨e0, he0, hee⟩ := hke
    have hkk : ((es[r.1]?).map (·.key)).getD (enc a) = enc a := by
      rw [← Array.getElem?_toList, he0]
      simp only [Option.map_some, Option.getD_some]
      exact congrArg Prod.fst hee
    refine ⟨{ w with heap := w.heap.setIfInBounds b (.map (es.modify r.1 fun e => { e with key := enc a, val := v }) c) }, ?_, ⟨es.modify r.1 fun e => { e with key := enc a, val := v }, c, ?_, ?_, born_mod r.1 (fun e => { e with key := enc a, val := v }) (fun _ => rfl) hbo hnd⟩, setObj_upd w b _⟩
    · simp only [Instr.mapUpdate, run_underlying ht, Sem.run_bind, Result.andThen, run_getObj_map w b es c hb, K.check, K.find w a _ _ he, hlk, hkk, Instr.keyThatStays, K.bits, if_true, Sem.run_pure]
      exact Go.MapKept.run_setObj_map _ hb
    · show (w.heap.setIfInBounds b _)[b]? = _
      simp [hl]
    · rw [show mput m a v = m.modify r.1 fun p => (p.1, v) by simp [mput, hlk]]
      exact mods_eq (enc := enc) v he hr (fun e => { e with key := enc a, val := v }) (fun e h => ⟨rfl, rfl⟩)
end
end Go.Proofs.YtgakhpdclhlmpaaGreat

/- Whether a transaction is right. -/
namespace Go.Proofs.YtgakhpdclhlmpaaGreat
set_option linter.unusedVariables false
open Go.RowKit
theorem opsErr_stay {id : Int} {l : List HOp} {k : Nat} (h : opsErr id l k ≠ 0) : ∀ n, opsErr id l (k + n) = opsErr id l k
  | 0 => rfl
  | n + 1 => by
    have ih := opsErr_stay h n
    show (if opsErr id l (k + n) = 0 then badAt id l (k + n) else opsErr id l (k + n)) = _
    rw [ih, if_neg h]
theorem opsErr_hit {id : Int} {l : List HOp} {k : Nat} {e : Int} (hk : k < l.length) (h0 : opsErr id l k = 0) (hb : badAt id l k = e) (he : e ≠ 0) : opsErr id l l.length = e := by
  have h1 : opsErr id l (k + 1) = e := by
    show (if opsErr id l k = 0 then badAt id l k else opsErr id l k) = _
    rw [if_pos h0, hb]
  have := opsErr_stay (id := id) (l := l) (k := k + 1) (by rw [h1]; exact he) (l.length - (k + 1))
  rw [show k + 1 + (l.length - (k + 1)) = l.length by omega, h1] at this
  exact this
theorem opsErr_go {id : Int} {l : List HOp} {k : Nat} (h0 : opsErr id l k = 0) (hb : badAt id l k = 0) : opsErr id l (k + 1) = 0 := by
  show (if opsErr id l k = 0 then badAt id l k else opsErr id l k) = _
  rw [if_pos h0, hb]
theorem badAt_op {id : Int} {l : List HOp} {k : Nat} {x : HOp} (hk : k < l.length) (hx : l[k] = x) (h : opB x = false) : badAt id l k = 1 := by
  unfold badAt; rw [List.getElem?_eq_getElem hk, hx]; simp [h]
theorem badAt_write {id : Int} {l : List HOp} {k : Nat} {x : HOp} (hk : k < l.length) (hx : l[k] = x) (h : opB x = true) (hr : x.read = false) : badAt id l k = 0 := by
  unfold badAt; rw [List.getElem?_eq_getElem hk, hx]; simp [h, hr]
theorem badAt_other {id : Int} {l : List HOp} {k : Nat} {x : HOp} (hk : k < l.length) (hx : l[k] = x) (h : opB x = true) (ht : (x.tx == id) = false) : badAt id l k = 0 := by
  unfold badAt; rw [List.getElem?_eq_getElem hk, hx]; simp [h, ht]
theorem badAt_there {id : Int} {l : List HOp} {k : Nat} {x : HOp} (hk : k < l.length) (hx : l[k] = x) (h : opB x = true) (hn : x.nth ≤ (wrN l x.key k : Int)) : badAt id l k = 0 := by
  unfold badAt; rw [List.getElem?_eq_getElem hk, hx]; simp [h, hn]
theorem badAt_not {id : Int} {l : List HOp} {k : Nat} {x : HOp} (hk : k < l.length) (hx : l[k] = x) (h : opB x = true) (hr : x.read = true) (ht : (x.tx == id) = true) (hn : ¬ x.nth ≤ (wrN l x.key k : Int)) : badAt id l k = 6 := by
  unfold badAt; rw [List.getElem?_eq_getElem hk, hx]; simp [h, hr, ht, hn]
theorem op_nth {x : HOp} (h : opB x = true) (hr : x.read = true) (ht : x.tx ≠ 0) : 1 ≤ x.nth := by
  unfold opB verB verOf at h
  rw [hr] at h
  simp only [if_true, Bool.and_eq_true, Bool.or_eq_true, beq_iff_eq, decide_eq_true_eq] at h
  omega
set_option maxRecDepth 100000 in
set_option maxHeartbeats 4000000 in
theorem tright (F : Nat → Prop) (w : World) (i0 : Int) (dn : Bool) (A : Option Addr) (c : Nat) (l : List HOp) (h : HOps F w A l) (hl : fewOps l.length) :
    Calls Tryz.prog 28 #[.agg #[.int .i64 i0, .bool dn, .slice A l.length c]] w fun e w' => e = .returned (.int .i64 (txErr i0 l)) ∧ Upd No w w' := by
  unfold fewOps at hl
  have uT := (Upd.refl No w).alloc (.cells #[.int .i64 i0, .bool dn, .slice A l.length c] 47)
  by_cases hi1 : i0 < 1
  · have hv := Lib.hid (show txErr i0 l = 1 by unfold txErr idB; rw [decide_eq_false (show ¬ 1 ≤ i0 by omega)]; simp)
    go_enter Tryz.func28, Tryz.ntmps28
    go_wp2
    go_ret
    exact ⟨by rw [hv.out]; rfl, uT⟩
  · by_cases hi2 : 1048575 < i0
    · have hv := Lib.hid (show txErr i0 l = 1 by unfold txErr idB; rw [decide_eq_false (show ¬ i0 ≤ 1048575 by omega)]; simp)
      go_enter Tryz.func28, Tryz.ntmps28
      go_wp2
      go_ret
      exact ⟨by rw [hv.out]; rfl, uT⟩
    · have hid : idB i0 = true := by unfold idB; simp; omega
      by_cases hi3 : 4095 < l.length
      · have hv := Lib.hid (show txErr i0 l = 9 by unfold txErr; rw [hid, if_neg (by decide), if_pos hi3])
        clear hid
        go_enter Tryz.func28, Tryz.ntmps28
        go_wp2
        go_ret
        exact ⟨by rw [hv.out]; rfl, uT⟩
      · have HV := Lib.hid (show txErr i0 l = opsErr i0 l l.length by unfold txErr; rw [hid, if_neg (by decide), if_neg hi3])
        clear hid
        have bT := Lib.hid (Blk.new w 47 [.int .i64 i0, .bool dn, .slice A l.length c])
        have hmm := @run_makeMap Tryz.prog
        have hn0 := MapE.new (w.alloc (.cells #[.int .i64 i0, .bool dn, .slice A l.length c] 47)) spotV
        simp only [World.size_alloc] at hn0
        have HN := Lib.hid hn0
        clear hn0
        go_enter Tryz.func28, Tryz.ntmps28
        go_wp2
        go_loopg [25] l.length (fun gk i wr => ∃ (k : Nat) (m : List ((Int × Int) × Value)), k + gk = l.length ∧ i = .int .i64 k ∧ Hid (MapE wr (w.heap.size + 1) spotV m) ∧ Hid (WrM m l k) ∧ Hid (opsErr i0 l k = 0) ∧ Upd No (w.alloc (.cells #[.int .i64 i0, .bool dn, .slice A l.length c] 47)) wr)
        case atStart => exact ⟨0, [], by omega, rfl, Lib.hid HN.out, Lib.hid (WrM.nil l), Lib.hid rfl, (Upd.refl No _).alloc _⟩
        case round =>
          obtain ⟨k, m, hgk, rfl, hm, hW, h0, hu⟩ := hrel
          clear hmm
          by_cases hlt : k < l.length
          · obtain ⟨ad, hAd, q0, q1, q2, q3⟩ := (h.upd (uT.trans hu) (fun _ _ => id)).at_ hlt
            obtain ⟨x, hx⟩ : ∃ x, l[k] = x := ⟨_, rfl⟩
            rw [hx] at q0 q1 q2 q3
            subst hAd
            have X := Lib.hid hx
            have b1 : (0 : Int) ≤ (k : Int) := Int.natCast_nonneg _
            have b2 : (k : Int) < (l.length : Int) := by omega
            have uA := (Upd.refl No wr).alloc (.cells #[.bool x.read, .int .i64 x.key, .int .i64 x.tx, .int .i64 x.nth] 53)
            have bo := Lib.hid (Blk.new wr 53 [.bool x.read, .int .i64 x.key, .int .i64 x.tx, .int .i64 x.nth])
            clear hx
            cases hb : opB x
            · have Hb := Lib.hid (show errI (opB x) = 1 by rw [hb]; rfl)
              have HV2 := Lib.hid (show txErr i0 l = 1 by rw [HV.out]; exact opsErr_hit hlt h0.out (badAt_op hlt X.out hb) (by decide))
              clear hb
              go_wp2_with fail
              refine (oright _ x).mono ?_
              rintro e w1 ⟨he, hu1⟩
              rw [Hb.out] at he
              subst he
              go_wp2
              go_ret
              exact ⟨by rw [HV2.out]; rfl, ((uT.trans hu).trans uA).trans hu1⟩
            · have Hb := Lib.hid (show errI (opB x) = 0 by rw [hb]; rfl)
              have Hop := Lib.hid hb
              clear hb
              have hl1 := hm.out.lt
              have hm1 := hm.out.upd uA id
              have bT1 := Lib.hid ((bT.out.upd hu id).upd uA id)
              go_wp2_with fail
              refine (oright _ x).mono ?_
              rintro e w1 ⟨he, hu1⟩
              rw [Hb.out] at he
              subst he
              have bo1 := bo.out.upd hu1 id
              have bT2 := bT1.out.upd hu1 id
              have hm2 := hm1.upd hu1 id
              have k0 := bo1.cell 0
              have k1 := bo1.cell 1
              have k2 := bo1.cell 2
              have k3 := bo1.cell 3
              have t0 := bT2.cell 0
              simp only [List.getElem?_cons_zero, List.getElem?_cons_succ] at k0 k1 k2 k3 t0
              have HU := Lib.hid ((hu.trans uA).trans hu1)
              have Hm2 := Lib.hid hm2
              have Hbo := Lib.hid bo1
              have hwn : wr.heap.size ≠ w.heap.size + 1 := by omega
              have hun : ∀ i, One (w.heap.size + 1) i → w.heap.size + 1 ≤ i := fun i e => by cases e; exact Nat.le_refl _
              clear uA hu1 hm1 hm2 bo1 bT2
              cases hr : x.read
              · rw [hr] at k0
                have hN := hW.out x.key 0
                rw [if_pos rfl] at hN
                have hwl := wrN_le l x.key k
                obtain ⟨N, hNN⟩ : ∃ N, wrN l x.key k = N := ⟨_, rfl⟩
                have hWp := hW.out.put hlt X.out hr
                rw [hNN] at hN hwl hWp
                have HWp := Lib.hid hWp
                have Hr := Lib.hid hr
                have H0 := Lib.hid (opsErr_go h0.out (badAt_write hlt X.out Hop.out hr))
                have hmd : MapE w1.drew (w.heap.size + 1) spotV m := Hm2.out
                obtain ⟨st, w2, e2, hm3, hu2, hst⟩ := run_entry kbyspot Tryz.underlying87 zeroN hmd (x.key, 0)
                have e1 := run_look kbyspot Tryz.underlying87 zeroN hmd.is (x.key, 0)
                have e3 := run_look kbyspot Tryz.underlying87 zeroN hm3.is (x.key, 0)
                rw [mget_same] at e3
                rw [hN] at e1 e2 e3
                obtain ⟨w3, e4, hm4, hu3⟩ := hst (.int .i64 ((N : Int) + 1))
                have k2' : ∀ {p : Addr} {v : Value}, p.block = wr.heap.size → w1.cell? p = some v → w2.cell? p = some v := fun hp hc => (Upd.keep hu2 hc (by rw [hp]; exact hwn))
                have k3' : ∀ {p : Addr} {v : Value}, p.block = wr.heap.size → w1.cell? p = some v → w3.cell? p = some v := fun hp hc => (Upd.keep hu3 hc (by rw [hp]; exact hwn))
                change (Instr.lookup 87 (.map (some (w.heap.size + 1))) (.agg #[.int .i64 x.key, .int .i64 0]) false).run Tryz.prog w1.drew = .ok (.int .i64 N) w1.drew at e1
                change (Instr.lookup 87 (.map (some (w.heap.size + 1))) (.agg #[.int .i64 x.key, .int .i64 0]) false).run Tryz.prog w2 = .ok (.int .i64 N) w2 at e3
                change (Instr.mapEntry 87 (.map (some (w.heap.size + 1))) (.agg #[.int .i64 x.key, .int .i64 0])).run Tryz.prog w1.drew = .ok (.tuple #[.int .i64 N, .int .i64 st]) w2 at e2
                change (Instr.entryStore 87 (.map (some (w.heap.size + 1))) (.int .i64 st) (.int .i64 ((N : Int) + 1))).run Tryz.prog w2 = .ok () w3 at e4
                have k1w2 := k2' rfl k1
                have Hk := Lib.hid (And.intro (k3' rfl k0) (k3' rfl k1))
                clear hN hNN hWp hr hst k2' hmd
                have hwr : IntKind.i64.wrap ((N : Int) + 1) = (N : Int) + 1 := IntWalk.i64_in _ (by omega)
                go_wp2
                go_region_held3 (fun w' => w'.cell? ⟨wr.heap.size, 1, none⟩ = some (.int .i64 x.key)) (first | exact k1 | exact k1w2 | exact Hk.out.2) (fail)
                all_goals
                  clear e1 e2 e3 e4 k1 k0 k2 k3 k1w2 hwr
                  have k1 := Hk.out.2
                  have hmd : MapE w3.drew (w.heap.size + 1) spotV (mput m (x.key, 0) (.int .i64 ((N : Int) + 1))) := hm4
                  have e1 := run_look kbyspot Tryz.underlying87 zeroN hmd.is (x.key, 0)
                  rw [mget_same] at e1
                  obtain ⟨w5, e2, hm5, hu5⟩ := run_putE kbyspot Tryz.underlying87 hmd (x.key, (N : Int) + 1) (.int .i64 1)
                  change (Instr.lookup 87 (.map (some (w.heap.size + 1))) (.agg #[.int .i64 x.key, .int .i64 0]) false).run Tryz.prog w3.drew = .ok (.int .i64 ((N : Int) + 1)) w3.drew at e1
                  change (Instr.mapUpdate 87 (.map (some (w.heap.size + 1))) (.agg #[.int .i64 x.key, .int .i64 ((N : Int) + 1)]) (.int .i64 1)).run Tryz.prog w3.drew = .ok () w5 at e2
                  have k5 : w5.cell? ⟨wr.heap.size, 1, none⟩ = some (.int .i64 x.key) := Upd.keep hu5 k1 hwn
                  go_wp2
                  go_region_held3 (fun w' => w'.cell? ⟨wr.heap.size, 1, none⟩ = some (.int .i64 x.key)) (first | exact k1 | exact k5) (fail)
                  clear e1 e2 k1 k5
                  go_wp2
                  go_roundg (gk - 1)
                  case measure => omega
                  case rel => exact ⟨k + 1, _, by omega, by go_num, Lib.hid hm5, HWp, H0, (HU.out.then_ (hu3.trans hu5.of_drew).of_drew fun i e => .inr (by simp only [World.size_alloc]; exact hun i e))⟩
              · rw [hr] at k0
                have Hr := Lib.hid hr
                clear hr
                by_cases ht : x.tx = i0
                · have htb : (x.tx == i0) = true := by simpa using ht
                  have hn1 : 1 ≤ x.nth := op_nth Hop.out Hr.out (by rw [ht]; omega)
                  have hN := hW.out x.key x.nth
                  rw [if_neg (show ¬ x.nth = 0 by omega)] at hN
                  have Htb := Lib.hid htb
                  have e1 := run_look kbyspot Tryz.underlying87 zeroN Hm2.out.is (x.key, x.nth)
                  rw [hN] at e1
                  change (Instr.lookup 87 (.map (some (w.heap.size + 1))) (.agg #[.int .i64 x.key, .int .i64 x.nth]) false).run Tryz.prog w1 = .ok _ w1 at e1
                  clear hN
                  by_cases hle : x.nth ≤ (wrN l x.key k : Int)
                  · rw [if_pos (show 1 ≤ x.nth ∧ x.nth ≤ (wrN l x.key k : Int) from ⟨hn1, hle⟩)] at e1
                    have H0 := Lib.hid (opsErr_go h0.out (badAt_there hlt X.out Hop.out hle))
                    have HWp := Lib.hid (hW.out.skip hlt (by rw [X.out]; exact Hr.out))
                    clear ht hle
                    go_wp2
                    go_roundg (gk - 1)
                    case measure => omega
                    case rel => exact ⟨k + 1, m, by omega, by go_num, Hm2, HWp, H0, HU.out⟩
                  · rw [if_neg (show ¬ (1 ≤ x.nth ∧ x.nth ≤ (wrN l x.key k : Int)) from fun e => hle e.2)] at e1
                    have HV2 := Lib.hid (show txErr i0 l = 6 by rw [HV.out]; exact opsErr_hit hlt h0.out (badAt_not hlt X.out Hop.out Hr.out htb hle) (by decide))
                    clear ht hle
                    go_wp2
                    go_ret
                    exact ⟨by rw [HV2.out]; rfl, uT.trans HU.out⟩
                · have htb : (x.tx == i0) = false := by simpa using ht
                  have H0 := Lib.hid (opsErr_go h0.out (badAt_other hlt X.out Hop.out htb))
                  have HWp := Lib.hid (hW.out.skip hlt (by rw [X.out]; exact Hr.out))
                  clear ht
                  go_wp2
                  go_roundg (gk - 1)
                  case measure => omega
                  case rel => exact ⟨k + 1, m, by omega, by go_num, Hm2, HWp, H0, HU.out⟩
          · obtain rfl : k = l.length := by omega
            have HV2 := Lib.hid (show txErr i0 l = 0 by rw [HV.out]; exact h0.out)
            go_wp2
            go_ret
            exact ⟨by rw [HV2.out]; rfl, uT.trans hu⟩
end Go.Proofs.YtgakhpdclhlmpaaGreat

/- What a transaction needs of others. -/
namespace Go.Proofs.YtgakhpdclhlmpaaGreat
set_option linter.unusedVariables false
open Go.RowKit
theorem slt_vers : SlT Tryz.prog 92 29 3 24 := SlT.mk_ Tryz.underlying92 (z := .agg #[.int .i64 0, .int .i64 0, .int .i64 0]) (by kernel_rfl) rfl (by omega)
/-- versions lie there -/
def Vers (F : Nat → Prop) (w : World) (A : Option Addr) (l : List Ver) : Prop := Recs F w A 3 (l.map Ver.cells)
theorem vers_len {l : List Ver} : ∀ r ∈ l.map Ver.cells, r.length = 3 := fun r hr => by
  obtain ⟨e, _, rfl⟩ := List.mem_map.1 hr
  rfl
/-- versions of the call's own -/
def NewVers (w : World) (l : List Ver) (e : Ending) (w' : World) : Prop := ∃ A c, e = .returned (.slice A l.length c) ∧ w'.ownsRow w.heap.size 29 3 (.slice A l.length c) l.length (l.map Ver.cells).flatten ∧ Upd No w w'
/-- what the map of those met tells -/
def MetV (m : List (Ver × Value)) (xs : List Ver) (k : Nat) : Prop := ∀ v : Ver, ∃ n : Nat, (mget m v).getD (.int .i64 0) = .int .i64 n ∧ n ≤ k ∧ (n = 0 ↔ v ∉ xs)
theorem MetV.nil : MetV [] [] 0 := fun v => ⟨0, by rw [mget_nil]; rfl, Nat.le_refl _, by simp⟩
theorem MetV.mono {m : List (Ver × Value)} {xs : List Ver} {k : Nat} (h : MetV m xs k) : MetV m xs (k + 1) := fun v => by
  obtain ⟨n, h1, h2, h3⟩ := h v
  exact ⟨n, h1, by omega, h3⟩
theorem MetV.put {m : List (Ver × Value)} {xs : List Ver} {k n : Nat} {v : Ver} (h : MetV m xs k) (hn : (mget m v).getD (.int .i64 0) = .int .i64 n) : MetV (mput m v (.int .i64 ((n : Int) + 1))) (if n = 0 then xs ++ [v] else xs) (k + 1) := fun u => by
  obtain ⟨n', h1, h2, h3⟩ := h v
  rw [h1] at hn
  obtain rfl : n' = n := by injection hn with _ hn; omega
  by_cases e : u = v
  · subst e
    refine ⟨n' + 1, by rw [mget_same]; rfl, by omega, ?_⟩
    constructor
    · intro e; omega
    · intro hn2
      split at hn2
      · simp at hn2
      · rename_i h0
        exact absurd (h3.2 hn2) h0
  · rw [mget_other _ _ e]
    obtain ⟨q, g1, g2, g3⟩ := h u
    refine ⟨q, g1, by omega, ?_⟩
    rw [g3]
    split
    · simp [e]
    · rfl
theorem needsN_no {id : Int} {l : List HOp} {k : Nat} {x : HOp} (hk : k < l.length) (hx : l[k] = x) (h : needsF id x = false) : needsN id l (k + 1) = needsN id l k := by
  show (match l[k]? with | some o => _ | none => _) = _
  rw [List.getElem?_eq_getElem hk, hx]
  simp [h]
theorem needsN_yes {id : Int} {l : List HOp} {k : Nat} {x : HOp} (hk : k < l.length) (hx : l[k] = x) (h : needsF id x = true) : needsN id l (k + 1) = if verOf x ∉ needsN id l k then needsN id l k ++ [verOf x] else needsN id l k := by
  show (match l[k]? with | some o => _ | none => _) = _
  rw [List.getElem?_eq_getElem hk, hx]
  simp [h]
theorem needsN_le (id : Int) (l : List HOp) : ∀ k, (needsN id l k).length ≤ k
  | 0 => Nat.le_refl _
  | k + 1 => by
    have ih := needsN_le id l k
    show (match l[k]? with | some o => _ | none => _ : List Ver).length ≤ _
    split
    · split
      · simp; omega
      · omega
    · omega
set_option maxRecDepth 100000 in
set_option maxHeartbeats 4000000 in
theorem tneeds (F : Nat → Prop) (w : World) (i0 : Int) (dn : Bool) (A : Option Addr) (c : Nat) (l : List HOp) (h : HOps F w A l) (hl : fewOps l.length) :
    Calls Tryz.prog 54 #[.agg #[.int .i64 i0, .bool dn, .slice A l.length c]] w (NewVers w (needsL i0 l)) := by
  unfold fewOps at hl
  have uT := (Upd.refl No w).alloc (.cells #[.int .i64 i0, .bool dn, .slice A l.length c] 47)
  have bT := Lib.hid (Blk.new w 47 [.int .i64 i0, .bool dn, .slice A l.length c])
  have hmm := @run_makeMap Tryz.prog
  have hn0 := MapE.new (w.alloc (.cells #[.int .i64 i0, .bool dn, .slice A l.length c] 47)) verV
  simp only [World.size_alloc] at hn0
  have HN := Lib.hid hn0
  clear hn0
  go_enter Tryz.func54, Tryz.ntmps54
  go_wp2
  go_loopg [3, 12] l.length (fun gk s i wr => ∃ (k : Nat) (A3 : Option Addr) (c3 : Nat) (xs : List Ver) (m : List (Ver × Value)), k + gk = l.length ∧ i = .int .i64 k ∧ s = .slice A3 xs.length c3 ∧ Hid (xs = needsN i0 l k) ∧ xs.length ≤ k ∧
    Hid (MapE wr (w.heap.size + 1) verV m) ∧ Hid (MetV m xs k) ∧ wr.ownsRow (w.heap.size + 2) 29 3 (.slice A3 xs.length c3) xs.length (xs.map Ver.cells).flatten ∧
    Upd No (w.alloc (.cells #[.int .i64 i0, .bool dn, .slice A l.length c] 47)) wr)
  case atStart => exact ⟨0, none, 0, [], [], by omega, rfl, rfl, Lib.hid rfl, by simp, Lib.hid HN.out, Lib.hid MetV.nil, World.ownsRow_nil _ _ _ _, (Upd.refl No _).alloc _⟩
  case round =>
    obtain ⟨k, A3, c3, xs, m, hgk, rfl, rfl, hxs, hxl, hm, hW, hown, hu⟩ := hrel
    clear hmm
    by_cases hlt : k < l.length
    · obtain ⟨ad, hAd, q0, q1, q2, q3⟩ := (h.upd (uT.trans hu) (fun _ _ => id)).at_ hlt
      obtain ⟨x, hx⟩ : ∃ x, l[k] = x := ⟨_, rfl⟩
      rw [hx] at q0 q1 q2 q3
      subst hAd
      have X := Lib.hid hx
      have b1 : (0 : Int) ≤ (k : Int) := Int.natCast_nonneg _
      have b2 : (k : Int) < (l.length : Int) := by omega
      have uA := (Upd.refl No wr).alloc (.cells #[.bool x.read, .int .i64 x.key, .int .i64 x.tx, .int .i64 x.nth] 53)
      have bo := Lib.hid (Blk.new wr 53 [.bool x.read, .int .i64 x.key, .int .i64 x.tx, .int .i64 x.nth])
      clear hx
      have hl1 := hm.out.lt
      have hm1 := hm.out.upd uA id
      have hown1 := own_upd hown uA (fun _ _ => id)
      have bT1 := Lib.hid ((bT.out.upd hu id).upd uA id)
      obtain ⟨v, hv⟩ : ∃ v, verOf x = v := ⟨_, rfl⟩
      have hof := oof (wr.alloc (.cells #[.bool x.read, .int .i64 x.key, .int .i64 x.tx, .int .i64 x.nth] 53)) x
      rw [hv] at hof
      have Hof := Lib.hid (hof.mono (R' := fun e w' => e = .returned (.agg #[.int .i64 v.tx, .int .i64 v.key, .int .i64 v.nth]) ∧ Upd No (wr.alloc (.cells #[.bool x.read, .int .i64 x.key, .int .i64 x.tx, .int .i64 x.nth] 53)) w') fun e w' h => h)
      have V := Lib.hid hv
      clear hof hv
      go_wp2_with fail
      refine (Hof.out).mono ?_
      rintro e w1 ⟨rfl, hu1⟩
      have uV := hu1.alloc (.cells #[.int .i64 v.tx, .int .i64 v.key, .int .i64 v.nth] 29)
      have bv := Blk.new w1 29 [.int .i64 v.tx, .int .i64 v.key, .int .i64 v.nth]
      have bo1 := bo.out.upd uV id
      have bT2 := bT1.out.upd uV id
      have hm2 := hm1.upd uV id
      have hown2 := own_upd hown1 uV (fun _ _ => id)
      have k0 := bo1.cell 0
      have t0 := bT2.cell 0
      have v0 := bv.cell 0
      have v1 := bv.cell 1
      have v2 := bv.cell 2
      simp only [List.getElem?_cons_zero, List.getElem?_cons_succ] at k0 t0 v0 v1 v2
      have HU := Lib.hid ((hu.trans uA).trans uV)
      have hz1 := uV.size
      simp only [World.size_alloc] at hz1
      have hz2 := hu1.size
      simp only [World.size_alloc] at hz2
      have hz3 := hu.size
      simp only [World.size_alloc] at hz3
      clear uA uV hm1 hown1 bo1 bT2 bv hu1
      cases hr : x.read
      · rw [hr] at k0
        have HS := Lib.hid (needsN_no (id := i0) hlt X.out (by unfold needsF; rw [hr]; rfl))
        clear hr
        go_wp2
        go_roundg (gk - 1)
        case measure => omega
        case rel => exact ⟨k + 1, A3, c3, xs, m, by omega, by go_num, rfl, Lib.hid (by rw [HS.out, hxs.out]), by omega, Lib.hid hm2, Lib.hid hW.out.mono, hown2, HU.out⟩
      · rw [hr] at k0
        by_cases h0 : v.tx = 0
        · have HS := Lib.hid (needsN_no (id := i0) hlt X.out (by unfold needsF; rw [V.out, h0]; simp))
          have h0b : (v.tx == 0) = true := by simpa using h0
          clear hr h0
          go_wp2
          go_roundg (gk - 1)
          case measure => omega
          case rel => exact ⟨k + 1, A3, c3, xs, m, by omega, by go_num, rfl, Lib.hid (by rw [HS.out, hxs.out]), by omega, Lib.hid hm2, Lib.hid hW.out.mono, hown2, HU.out⟩
        · have h0b : (v.tx == 0) = false := by simpa using h0
          clear h0
          by_cases h1 : v.tx = i0
          · have h1b : (v.tx == i0) = true := by simpa using h1
            have HS := Lib.hid (needsN_no (id := i0) hlt X.out (by unfold needsF; rw [V.out, h1b]; simp))
            clear hr h1
            go_wp2
            go_roundg (gk - 1)
            case measure => omega
            case rel => exact ⟨k + 1, A3, c3, xs, m, by omega, by go_num, rfl, Lib.hid (by rw [HS.out, hxs.out]), by omega, Lib.hid hm2, Lib.hid hW.out.mono, hown2, HU.out⟩
          · have h1b : (v.tx == i0) = false := by simpa using h1
            have HS := Lib.hid (show needsN i0 l (k + 1) = if v ∉ xs then xs ++ [v] else xs by rw [hxs.out, ← V.out]; exact needsN_yes (id := i0) hlt X.out (by unfold needsF; rw [V.out, h1b, hr, h0b]; rfl))
            clear hr h1
            obtain ⟨N, hN, hNk, hN0⟩ := hW.out v
            have HWp := Lib.hid (hW.out.put hN)
            have HN0 := Lib.hid hN0
            clear hN0
            have HZW := Lib.hid (show (w1.alloc (.cells #[.int .i64 v.tx, .int .i64 v.key, .int .i64 v.nth] 29)).heap.size = w1.heap.size + 1 by simp)
            go_wp2
            generalize hW0 : w1.alloc (.cells #[.int .i64 v.tx, .int .i64 v.key, .int .i64 v.nth] 29) = W0 at *
            clear hW0
            have hzw := HZW.out
            have HUW := HU
            have hwr : IntKind.i64.wrap ((N : Int) + 1) = (N : Int) + 1 := IntWalk.i64_in _ (by omega)
            have hwn : w1.heap.size ≠ w.heap.size + 1 := by omega
            have hun : ∀ i, One (w.heap.size + 1) i → w.heap.size + 1 ≤ i := fun i e => by cases e; exact Nat.le_refl _
            have hmd : MapE W0.drew (w.heap.size + 1) verV m := hm2
            obtain ⟨st, w2, e2, hm3, hu2, hst⟩ := run_entry kbyver Tryz.underlying108 zeroN hmd v
            have e1 := run_look kbyver Tryz.underlying108 zeroN hmd.is v
            have e3 := run_look kbyver Tryz.underlying108 zeroN hm3.is v
            rw [mget_same] at e3
            rw [hN] at e1 e2 e3
            obtain ⟨w3, e4, hm4, hu3⟩ := hst (.int .i64 ((N : Int) + 1))
            have e5 := run_look kbyver Tryz.underlying108 zeroN hm4.is v
            rw [mget_same] at e5
            change (Instr.lookup 108 (.map (some (w.heap.size + 1))) (.agg #[.int .i64 v.tx, .int .i64 v.key, .int .i64 v.nth]) false).run Tryz.prog W0.drew = .ok (.int .i64 N) W0.drew at e1
            change (Instr.lookup 108 (.map (some (w.heap.size + 1))) (.agg #[.int .i64 v.tx, .int .i64 v.key, .int .i64 v.nth]) false).run Tryz.prog w2 = .ok (.int .i64 N) w2 at e3
            change (Instr.mapEntry 108 (.map (some (w.heap.size + 1))) (.agg #[.int .i64 v.tx, .int .i64 v.key, .int .i64 v.nth])).run Tryz.prog W0.drew = .ok (.tuple #[.int .i64 N, .int .i64 st]) w2 at e2
            change (Instr.entryStore 108 (.map (some (w.heap.size + 1))) (.int .i64 st) (.int .i64 ((N : Int) + 1))).run Tryz.prog w2 = .ok () w3 at e4
            change (Instr.lookup 108 (.map (some (w.heap.size + 1))) (.agg #[.int .i64 v.tx, .int .i64 v.key, .int .i64 v.nth]) false).run Tryz.prog w3 = .ok (.int .i64 ((N : Int) + 1)) w3 at e5
            have a0 := Upd.keep hu2 (p := ⟨w1.heap.size, 0, none⟩) v0 hwn
            have a1 := Upd.keep hu2 (p := ⟨w1.heap.size, 1, none⟩) v1 hwn
            have a2 := Upd.keep hu2 (p := ⟨w1.heap.size, 2, none⟩) v2 hwn
            have c0 := Upd.keep hu3 (p := ⟨w1.heap.size, 0, none⟩) v0 hwn
            have c1 := Upd.keep hu3 (p := ⟨w1.heap.size, 1, none⟩) v1 hwn
            have c2 := Upd.keep hu3 (p := ⟨w1.heap.size, 2, none⟩) v2 hwn
            have hown3 := own_upd hown2 hu3.of_drew (fun i hi e => by have := (hown2.lt i hi).1; cases e; omega)
            have HU3 := Lib.hid (HUW.out.then_ hu3.of_drew fun i e => .inr (by simp only [World.size_alloc]; exact hun i e))
            have hz4 : W0.heap.size ≤ w3.heap.size := hu3.size
            have Hm4 := Lib.hid hm4
            clear hN hst hmd hm2 hm3 hm4 hown2 hu2 hu3
            go_region_held3 (fun w' => w'.cell? ⟨w1.heap.size, 0, none⟩ = some (.int .i64 v.tx) ∧ w'.cell? ⟨w1.heap.size, 1, none⟩ = some (.int .i64 v.key) ∧ w'.cell? ⟨w1.heap.size, 2, none⟩ = some (.int .i64 v.nth))
              (first | exact ⟨v0, v1, v2⟩ | exact ⟨a0, a1, a2⟩ | exact ⟨c0, c1, c2⟩) (fail)
            all_goals
              clear e1 e2 e3 e4 a0 a1 a2 v0 v1 v2 k0 t0 hwr
              have Hc := Lib.hid c0
              by_cases hN1 : N = 0
              · have HS2 := Lib.hid (show needsN i0 l (k + 1) = xs ++ [v] by rw [HS.out, if_pos (HN0.out.1 hN1)])
                have HW2 := HWp.out
                rw [if_pos hN1] at HW2
                have HW3 := Lib.hid HW2
                have e6 : (Instr.lookup 108 (.map (some (w.heap.size + 1))) (.agg #[.int .i64 v.tx, .int .i64 v.key, .int .i64 v.nth]) false).run Tryz.prog w3 = .ok (.int .i64 1) w3 := by rw [e5, hN1]; rfl
                clear hN1 e5 HW2
                go_wp2_with (at_builtin; refine app1s rfl rfl slt_vers (v := .slice A3 xs.length c3) (cells := [.int .i64 v.tx, .int .i64 v.key, .int .i64 v.nth]) (by rfl) rfl hown3 rfl rfl (by omega) (by omega) (by omega) ?_; intro g' c' w4 hown4 hu4 hg4 hlt4)
                go_roundg (gk - 1)
                case measure => omega
                case rel =>
                  refine ⟨k + 1, some ⟨g', 0, none⟩, c', xs ++ [v], _, by omega, by go_num, by simp, Lib.hid (by rw [HS2.out]), by simp; omega, Lib.hid (Hm4.out.upd hu4 (fun e => by have := (hown3.lt _ e).1; omega)), HW3, ?_, HU3.out.then_ hu4 fun i e => .inr (by have := (hown3.lt i e).1; simp only [World.size_alloc]; omega)⟩
                  simpa [Ver.cells] using hown4
              · have HS2 := Lib.hid (show needsN i0 l (k + 1) = xs by rw [HS.out, if_neg (fun e => hN1 (HN0.out.2 e))])
                have HW2 := HWp.out
                rw [if_neg hN1] at HW2
                have HW3 := Lib.hid HW2
                have hb1 : ((N : Int) + 1 == 1) = false := by rw [beq_eq_false_iff_ne]; omega
                clear hN1 HW2
                go_wp2
                go_roundg (gk - 1)
                case measure => omega
                case rel => exact ⟨k + 1, A3, c3, xs, _, by omega, by go_num, rfl, Lib.hid (by rw [HS2.out]), by omega, Hm4, HW3, hown3, HU3.out⟩
    · obtain rfl : k = l.length := by omega
      have Hx := Lib.hid (show xs = needsL i0 l by rw [hxs.out]; rfl)
      clear hxs
      go_wp2
      go_ret
      exact ⟨A3, c3, by rw [Hx.out]; rfl, by rw [← Hx.out]; exact own_base hown (by omega), uT.trans hu⟩
end Go.Proofs.YtgakhpdclhlmpaaGreat

/- Whether all that a transaction needs is there. -/
namespace Go.Proofs.YtgakhpdclhlmpaaGreat
set_option linter.unusedVariables false
open Go.RowKit
/-- the box of a history -/
def HBox (w : World) (g : Nat) (h : Hist) : Prop := Blk w g 25 h.cells
set_option maxRecDepth 100000 in
theorem nd1 (F : Nat → Prop) (w : World) (h : Hist) (g : Nat) (v : Ver) (H : h.lies F w) (hg : HBox w g h) :
    Calls Tryz.prog 55 #[.agg v.cells.toArray, .pointer (some ⟨g, 0, none⟩)] w fun e w' => e = .returned (.bool (!(hasB h.txs v))) ∧ Upd No w w' := by
  obtain ⟨txs, ords, A, c, B, d⟩ := h
  unfold HBox Hist.cells at hg
  obtain ⟨tx, key, nth⟩ := v
  unfold Ver.cells
  have uA := (Upd.refl No w).alloc (.cells #[.int .i64 tx, .int .i64 key, .int .i64 nth] 29)
  have g0 := (hg.upd uA id).cell 0
  have g1 := (hg.upd uA id).cell 1
  simp only [List.getElem?_cons_zero, List.getElem?_cons_succ] at g0 g1
  have hh := hhas F _ ⟨txs, ords, A, c, B, d⟩ ⟨tx, key, nth⟩ (H.upd uA (fun _ _ => id))
  obtain ⟨b, hb⟩ : ∃ b, hasB txs ⟨tx, key, nth⟩ = b := ⟨_, rfl⟩
  rw [show hasB (Hist.txs ⟨txs, ords, A, c, B, d⟩) ⟨tx, key, nth⟩ = b from hb] at hh
  have HH := Lib.hid hh
  have Hb := Lib.hid hb
  clear hh hb
  go_enter Tryz.func55, Tryz.ntmps55
  go_wp2_with fail
  refine (HH.out).mono ?_
  rintro e w1 ⟨rfl, hu1⟩
  go_wp2
  go_ret
  exact ⟨by rw [show hasB (Hist.txs ⟨txs, ords, A, c, B, d⟩) ⟨tx, key, nth⟩ = b from Hb.out]; rfl, uA.trans hu1⟩
/-- where the first version stands that is not there -/
def posN (txs : List HTx) (l : List Ver) : Nat := l.findIdx fun v => !(hasB txs v)
def idxN (txs : List HTx) (l : List Ver) : Int := if posN txs l < l.length then (posN txs l : Int) else -1
theorem posN_hit {txs : List HTx} {l : List Ver} {k : Nat} (hk : k < l.length) (h : ∀ (j : Nat) (hj : j < k), hasB txs (l[j]'(by omega)) = true) (h1 : hasB txs l[k] = false) : posN txs l = k := by
  unfold posN
  rw [List.findIdx_eq hk]
  refine ⟨by rw [h1]; rfl, fun j hj => by simp only [h j hj]; rfl⟩
theorem posN_miss {txs : List HTx} {l : List Ver} (h : ∀ (j : Nat) (hj : j < l.length), hasB txs l[j] = true) : posN txs l = l.length := by
  unfold posN
  rw [List.findIdx_eq_length]
  intro x hx
  obtain ⟨k, hk, rfl⟩ := List.mem_iff_getElem.1 hx
  simp only [h k hk]; rfl
theorem idxN_all (txs : List HTx) (l : List Ver) : decide (idxN txs l ≥ 0) = !(l.all (hasB txs)) := by
  by_cases h : l.all (hasB txs) = true
  · have hm : posN txs l = l.length := posN_miss fun j hj => by
      rw [List.all_eq_true] at h
      exact h _ (List.getElem_mem hj)
    unfold idxN
    rw [hm, if_neg (by omega), h]; decide
  · have hf : l.all (hasB txs) = false := by simpa using h
    have hm : posN txs l < l.length := by
      unfold posN
      rw [List.findIdx_lt_length]
      rw [List.all_eq_false] at hf
      obtain ⟨x, hx, hn⟩ := hf
      exact ⟨x, hx, by simpa using hn⟩
    unfold idxN
    rw [if_pos hm, hf]
    simp
set_option maxRecDepth 100000 in
theorem nfind (F G : Nat → Prop) (w : World) (A : Option Addr) (d : Nat) (l : List Ver) (h : Hist) (g : Nat) (L : Vers G w A l) (H : h.lies F w) (hg : HBox w g h) (hl : l.length ≤ 4398046511103) :
    Calls Tryz.prog 73 #[.slice A l.length d, .func (.func 55) #[] #[.pointer (some ⟨g, 0, none⟩)]] w fun e w' => e = .returned (.int .i64 (idxN h.txs l)) ∧ Upd No w w' := by
  go_enter Tryz.func73, Tryz.ntmps73
  go_wp2
  go_loopg [8] l.length (fun gk s wr => ∃ k : Nat, k + gk = l.length ∧ s = .int .i64 k ∧ Hid (∀ (j : Nat) (hj : j < l.length), j < k → hasB h.txs l[j] = true) ∧ Upd No w wr)
  case atStart => exact ⟨0, by omega, rfl, Lib.hid (fun j _ hj => by omega), Upd.refl _ _⟩
  case round =>
    obtain ⟨k, hgk, rfl, hall, hu⟩ := hrel
    by_cases hlt : k < l.length
    · have hk' : k < (l.map Ver.cells).length := by simpa using hlt
      obtain ⟨ad, hB, _, _, hc⟩ := Recs.at_ (Recs.upd L hu (fun _ _ => id)) hk'
      rw [List.getElem_map] at hc
      obtain ⟨x, hx⟩ : ∃ x, l[k] = x := ⟨_, rfl⟩
      rw [hx] at hc
      have c0 : wr.cell? (ad.add (k * 3)) = some (.int .i64 x.tx) := by simpa using hc 0 _ rfl
      have c1 : wr.cell? ⟨(ad.add (k * 3)).block, (ad.add (k * 3)).off + 1, none⟩ = some (.int .i64 x.key) := by simpa using hc 1 _ rfl
      have c2 : wr.cell? ⟨(ad.add (k * 3)).block, (ad.add (k * 3)).off + 2, none⟩ = some (.int .i64 x.nth) := by simpa using hc 2 _ rfl
      subst hB
      have X := Lib.hid hx
      have b2 : (k : Int) < (l.length : Int) := by omega
      have b1 : (0 : Int) ≤ (k : Int) := Int.natCast_nonneg _
      clear hx hc hk'
      have hn := nd1 F wr h g x (H.upd hu (fun _ _ => id)) (hg.upd hu id)
      cases he : hasB h.txs x
      · have hpos := Lib.hid (show idxN h.txs l = (k : Int) by unfold idxN; rw [posN_hit (txs := h.txs) (l := l) hlt (fun j hj => hall.out j (by omega) hj) (by rw [X.out]; exact he), if_pos hlt])
        rw [he] at hn
        have HN := Lib.hid hn
        clear he hn
        go_wp2_with fail
        refine (HN.out).mono ?_
        rintro e w1 ⟨rfl, hu1⟩
        go_wp2
        go_ret
        exact ⟨by rw [hpos.out]; rfl, hu.trans hu1⟩
      · rw [he] at hn
        have HN := Lib.hid hn
        have He := Lib.hid he
        clear he hn
        go_wp2_with fail
        refine (HN.out).mono ?_
        rintro e w1 ⟨rfl, hu1⟩
        go_wp2
        go_roundg (gk - 1)
        case measure => omega
        case rel => exact ⟨k + 1, by omega, by go_num, Lib.hid (fun j hj hjk => by
            by_cases e : j = k
            · subst e; rw [X.out]; exact He.out
            · exact hall.out j hj (by omega)), hu.trans hu1⟩
    · obtain rfl : k = l.length := by omega
      have hpos := Lib.hid (show idxN h.txs l = -1 by unfold idxN; rw [posN_miss (txs := h.txs) (l := l) fun j hj => hall.out j hj hj, if_neg (by omega)])
      go_wp2
      go_ret
      exact ⟨by rw [hpos.out]; rfl, hu⟩
set_option maxRecDepth 100000 in
theorem ncont (F G : Nat → Prop) (w : World) (A : Option Addr) (d : Nat) (l : List Ver) (h : Hist) (g : Nat) (L : Vers G w A l) (H : h.lies F w) (hg : HBox w g h) (hl : l.length ≤ 4398046511103) :
    Calls Tryz.prog 53 #[.slice A l.length d, .func (.func 55) #[] #[.pointer (some ⟨g, 0, none⟩)]] w fun e w' => e = .returned (.bool (!(l.all (hasB h.txs)))) ∧ Upd No w w' := by
  have hq := idxN_all h.txs l
  have hf := nfind F G w A d l h g L H hg hl
  obtain ⟨b, hb⟩ : ∃ b, l.all (hasB h.txs) = b := ⟨_, rfl⟩
  obtain ⟨i, hi⟩ : ∃ i, idxN h.txs l = i := ⟨_, rfl⟩
  rw [hb, hi] at hq
  rw [hi] at hf
  rw [hb]
  have HF := Lib.hid hf
  clear hf hb hi
  cases b
  · have hi0 : 0 ≤ i := by simpa using hq
    clear hq
    go_enter Tryz.func53, Tryz.ntmps53
    go_wp2_with fail
    refine (HF.out).mono ?_
    rintro e w1 ⟨rfl, hu1⟩
    go_wp2
    go_ret
    exact ⟨rfl, hu1⟩
  · have hi0 : decide (0 ≤ i) = false := by simpa using hq
    clear hq
    go_enter Tryz.func53, Tryz.ntmps53
    go_wp2_with fail
    refine (HF.out).mono ?_
    rintro e w1 ⟨rfl, hu1⟩
    go_wp2
    go_ret
    exact ⟨rfl, hu1⟩
theorem ver_new {w w' : World} {l : List Ver} {A : Option Addr} {c : Nat} (h : w'.ownsRow w.heap.size 29 3 (.slice A l.length c) l.length (l.map Ver.cells).flatten) : Vers (fun i => w.heap.size ≤ i) w' A l := by
  have h2 := Recs.of_own (n := l.length) (c := c) vers_len (by omega) h
  exact Recs.weak h2 fun i _ hi => (h.lt i hi).1
set_option maxRecDepth 100000 in
theorem hneeded (F : Nat → Prop) (w : World) (h : Hist) (i0 : Int) (dn : Bool) (A : Option Addr) (c : Nat) (l : List HOp) (H : h.lies F w) (hA : HOps F w A l) (hl : fewOps l.length) :
    Calls Tryz.prog 29 #[h.val, .agg #[.int .i64 i0, .bool dn, .slice A l.length c]] w fun e w' => e = .returned (.bool (neededB h.txs i0 l)) ∧ Upd No w w' := by
  have hle := needsN_le i0 l l.length
  obtain ⟨txs, ords, A', c', B, d⟩ := h
  have uu := ((Upd.refl No w).alloc (.cells #[.slice A' txs.length c', .slice B ords.length d] 25)).alloc (.cells #[.int .i64 i0, .bool dn, .slice A l.length c] 47)
  have hb : HBox ((w.alloc (.cells #[.slice A' txs.length c', .slice B ords.length d] 25)).alloc (.cells #[.int .i64 i0, .bool dn, .slice A l.length c] 47)) w.heap.size ⟨txs, ords, A', c', B, d⟩ := (Blk.new w _ _).alloc _
  have HB := Lib.hid hb
  have hA' := hA.upd uu (fun _ _ => id)
  obtain ⟨ns, hns⟩ : ∃ ns, needsL i0 l = ns := ⟨_, rfl⟩
  have htn := tneeds F _ i0 dn A c l hA' hl
  rw [hns] at htn
  have hns' : (needsN i0 l l.length) = ns := hns
  rw [hns'] at hle
  unfold fewOps at hl
  have HT := Lib.hid htn
  have HV := Lib.hid (show neededB txs i0 l = ns.all (hasB txs) by unfold neededB; rw [hns])
  clear hb hA' htn hns hns'
  unfold Hist.val
  go_enter Tryz.func29, Tryz.ntmps29
  go_wp2_with fail
  refine (HT.out).mono ?_
  rintro e w1 ⟨A1, c1, rfl, ho1, hu1⟩
  have hv1 := ver_new ho1
  have H1 := (H.upd (uu.trans hu1) (fun _ _ => id))
  have hc := ncont F _ w1 A1 c1 ns ⟨txs, ords, A', c', B, d⟩ w.heap.size hv1 H1 (HB.out.upd hu1 id) (by omega)
  obtain ⟨b, hb⟩ : ∃ b, ns.all (hasB txs) = b := ⟨_, rfl⟩
  rw [show ns.all (hasB (Hist.txs ⟨txs, ords, A', c', B, d⟩)) = b from hb] at hc
  have HC := Lib.hid hc
  have Hb := Lib.hid hb
  have HU := Lib.hid (uu.trans hu1)
  clear hc hb hv1 H1 ho1 hu1 uu
  go_wp2_with fail
  refine (HC.out).mono ?_
  rintro e w2 ⟨rfl, hu2⟩
  go_wp2
  go_ret
  exact ⟨by rw [show neededB (Hist.txs ⟨txs, ords, A', c', B, d⟩) i0 l = b from HV.out.trans Hb.out]; rfl, HU.out.trans hu2⟩
end Go.Proofs.YtgakhpdclhlmpaaGreat

/- A contract of the library, laid at this dump: the table of numbers typed out. -/
namespace Go.Proofs.YtgakhpdclhlmpaaGreat
open Go.Shelf Go.Proofs
def compactI_lay_ren : Go.Shelf.Ren := ⟨fun | 43 => 86 | n => n, fun | 22 => 48 | 23 => 3 | 3 => 3 | 4 => 4 | 0 => 0 | n => n, fun | n => n⟩
theorem compactI_lay : Go.Proofs.SlLaysN.n43 Tryz.prog compactI_lay_ren := {
  mixed := by kernel_rfl
  f43 := ⟨Tryz.f86.name, by decide, Tryz.func86.trans (congrArg some (by kernel_rfl))⟩
  t0 := Tryz.underlying0
  a0 := Tryz.isAgg0
  z0 := Tryz.sizeOf0
  v0 := Tryz.zeroValue0
  t3 := Tryz.underlying3
  a3 := Tryz.isAgg3
  z3 := Tryz.sizeOf3
  v3 := Tryz.zeroValue3
  t4 := Tryz.underlying4
  a4 := Tryz.isAgg4
  z4 := Tryz.sizeOf4
  v4 := Tryz.zeroValue4
  t22 := Tryz.underlying48
  a22 := Tryz.isAgg48
  z22 := Tryz.sizeOf48
  v22 := Tryz.zeroValue48
  t23 := Tryz.underlying3
  a23 := Tryz.isAgg3
  z23 := Tryz.sizeOf3
  v23 := Tryz.zeroValue3
  i23 := by kernel_rfl }
end Go.Proofs.YtgakhpdclhlmpaaGreat
