/- Walks: simple by the program; the bits of their kinds, by the program and by the document. -/
import Derived.Test.YtaicemjckagcaaaGreatProg
import Derived.Test.YtaicemjckagcaaaGreatMaf
import Derived.Test.YtaicemjckagcaaaGreatMak
import Derived.Test.YtaicemjckagcaaaGreatMal
namespace Go.Proofs.YtaicemjckagcaaaGreat
set_option linter.unusedVariables false
open Go.RowKit

section
variable {α : Type} [DecidableEq α]
theorem lookNone (a : α) : ∀ (m : List (α × Value)) (i : Nat), look a m i = none ↔ a ∉ m.map (·.1)
  | [], i => by simp [look]
  | p :: m, i => by
    unfold look
    by_cases h : a = p.1
    · simp [h]
    · simp only [List.map_cons, List.mem_cons, h, if_false, false_or]
      exact lookNone a m (i + 1)
theorem mput_keys (m : List (α × Value)) (a : α) (v : Value) : (mput m a v).map (·.1) = if a ∈ m.map (·.1) then m.map (·.1) else m.map (·.1) ++ [a] := by
  unfold mput
  cases h : look a m 0 with
  | none =>
    rw [if_neg ((lookNone a m 0).1 h), List.map_append]
    rfl
  | some r =>
    rw [if_pos (by
      rcases Classical.em (a ∈ m.map (·.1)) with h' | h'
      · exact h'
      · rw [(lookNone a m 0).2 h'] at h; cases h)]
    apply List.ext_getElem?
    intro j
    simp only [List.getElem?_map, List.getElem?_modify]
    cases m[j]? with
    | none => simp
    | some p => by_cases hj : r.1 = j <;> simp [hj]
end
theorem kbyint : KeyBy Tryz.prog 3 (fun n : Int => Value.int .i64 n) := KeyBy.int_ Tryz.underlying3
/-- bits as a number -/
def bitsOf (a b c : Bool) : Int := (if a then 2 else 0) + (if b then 4 else 0) + (if c then 8 else 0)
def hasK (l : List Edge) (n : Nat) (k : Int) : Bool := (l.take n).any fun e => e.k == k
def maskOf (l : List Edge) : Int := bitsOf (hasK l l.length 1) (hasK l l.length 2) (hasK l l.length 3)
end Go.Proofs.YtaicemjckagcaaaGreat

/- The document on one transaction: keys, needs, right. -/
namespace Go.Proofs.YtaicemjckagcaaaGreat
set_option linter.unusedVariables false
open Go.RowKit
/-- the keys of operations that count, put one after another -/
def keysG (tch : Bool) (s : List Int) : List HOp → List Int
  | [] => s
  | o :: l => keysG tch (if tch || !o.read then putL o.key s else s) l
theorem keysG_cons (tch : Bool) (s : List Int) (o : HOp) (l : List HOp) : keysG tch s (o :: l) = keysG tch (if tch || !o.read then putL o.key s else s) l := rfl
theorem newR_ints {w w' : World} {A : Option Addr} {c : Nat} {l : List Int} (h : w'.ownsRow w.heap.size 3 1 (.slice A l.length c) l.length (l.map (Value.int .i64))) : Ints (fun i => w.heap.size ≤ i) w' A l := Ints.of_own h
set_option maxRecDepth 100000 in
set_option maxHeartbeats 1000000 in
theorem rKeys (F : Nat → Prop) (w : World) (i0 : Int) (dn : Bool) (A : Option Addr) (c : Nat) (l : List HOp) (tch : Bool) (h : HOps F w A l) (hl : l.length ≤ 100000) :
    Calls Tryz.prog 139 #[.agg #[.int .i64 i0, .bool dn, .slice A l.length c], .bool tch] w (NewR w (keysG tch [] l)) := by
  have uT := (Upd.refl No w).alloc (.cells #[.int .i64 i0, .bool dn, .slice A l.length c] 47)
  go_enter Tryz.func139, Tryz.ntmps139
  go_wp2
  go_loopg [5, 11] l.length (fun gk s i wr => ∃ (k : Nat) (A3 : Option Addr) (c3 : Nat) (xs : List Int), k + gk = l.length ∧ i = .int .i64 k ∧ s = .slice A3 xs.length c3 ∧ Hid (keysG tch xs (l.drop k) = keysG tch [] l) ∧ xs.length ≤ k ∧
    Hid (wr.ownsRow w.heap.size 3 1 (.slice A3 xs.length c3) xs.length (xs.map (Value.int .i64))) ∧ Upd No w wr)
  case atStart => exact ⟨0, none, 0, [], by omega, rfl, rfl, Lib.hid rfl, by simp, Lib.hid (World.ownsRow_nil _ _ _ _), uT⟩
  case round =>
    obtain ⟨k, A3, c3, xs, hgk, rfl, rfl, hs, hxl, hown, hu⟩ := hrel
    by_cases hlt : k < l.length
    · obtain ⟨ad, hAd, q0, q1, q2, q3⟩ := (h.upd hu (fun _ _ => id)).at_ hlt
      obtain ⟨x, hx⟩ : ∃ x, l[k] = x := ⟨_, rfl⟩
      rw [hx] at q0 q1 q2 q3
      subst hAd
      have X := Lib.hid (show l.drop k = x :: l.drop (k + 1) by rw [← hx]; exact List.drop_eq_getElem_cons hlt)
      have b1 : (0 : Int) ≤ (k : Int) := Int.natCast_nonneg _
      have b2 : (k : Int) < (l.length : Int) := by omega
      clear hx
      have bo := Blk.new wr 96 [.bool x.read, .int .i64 x.key, .int .i64 x.tx, .int .i64 x.nth]
      have uA := (Upd.refl No wr).alloc (.cells #[.bool x.read, .int .i64 x.key, .int .i64 x.tx, .int .i64 x.nth] 96)
      have HP := Lib.hid (rputL _ (wr.alloc (.cells #[.bool x.read, .int .i64 x.key, .int .i64 x.tx, .int .i64 x.nth] 96)) A3 c3 xs x.key ((newR_ints hown.out).upd uA (fun _ _ => id)) (by omega))
      have hst := hs.out
      rw [X.out, keysG_cons] at hst
      have hz := hu.size
      by_cases hc : (tch || !x.read) = true
      · rw [if_pos hc] at hst
        have HS := Lib.hid hst
        have hlen := putL_len x.key xs
        clear hst
        cases tch
        · have hr : x.read = false := by simpa using hc
          rw [hr] at q0 HP uA bo
          clear hc hr
          go_wp2_with (go_at_call 153; refine HP.out.mono ?_; rintro e w1 ⟨A4, c4, rfl, ho4, hu4⟩)
          go_roundg (gk - 1)
          case measure => omega
          case rel => exact ⟨k + 1, A4, c4, putL x.key xs, by omega, by go_num, rfl, HS, by omega, Lib.hid (own_base ho4 (by simp; omega)), (hu.trans uA).trans hu4⟩
        · go_wp2_with (go_at_call 153; refine HP.out.mono ?_; rintro e w1 ⟨A4, c4, rfl, ho4, hu4⟩)
          go_roundg (gk - 1)
          case measure => omega
          case rel => exact ⟨k + 1, A4, c4, putL x.key xs, by omega, by go_num, rfl, HS, by omega, Lib.hid (own_base ho4 (by simp; omega)), (hu.trans uA).trans hu4⟩
      · rw [if_neg hc] at hst
        have HS := Lib.hid hst
        have hc2 : tch = false ∧ x.read = true := by simpa using hc
        obtain ⟨rfl, hr⟩ := hc2
        rw [hr] at q0 uA
        have HO := Lib.hid (own_upd hown.out uA (fun _ _ => id))
        clear hst hc hr
        go_wp2
        go_roundg (gk - 1)
        case measure => omega
        case rel => exact ⟨k + 1, A3, c3, xs, by omega, by go_num, rfl, HS, by omega, HO, hu.trans uA⟩
    · obtain rfl : k = l.length := by omega
      have HV := Lib.hid (show xs = keysG tch [] l by rw [← hs.out, List.drop_length]; rfl)
      go_wp2
      go_ret
      exact ⟨A3, c3, by rw [← HV.out]; rfl, by rw [← HV.out]; exact hown.out, hu⟩
end Go.Proofs.YtaicemjckagcaaaGreat

/- The document on one transaction: what it needs of others. -/
namespace Go.Proofs.YtaicemjckagcaaaGreat
set_option linter.unusedVariables false
open Go.RowKit
/-- versions lie there (the document's) -/
def VersR (F : Nat → Prop) (w : World) (A : Option Addr) (l : List Ver) : Prop := Recs F w A 3 (l.map Ver.cells)
theorem VersR.at_ {F : Nat → Prop} {w : World} {A : Option Addr} {l : List Ver} (h : VersR F w A l) {k : Nat} (hk : k < l.length) : ∃ ad, A = some ad ∧
    w.cell? (ad.add (k * 3)) = some (.int .i64 l[k].tx) ∧ w.cell? ⟨(ad.add (k * 3)).block, (ad.add (k * 3)).off + 1, none⟩ = some (.int .i64 l[k].key) ∧
    w.cell? ⟨(ad.add (k * 3)).block, (ad.add (k * 3)).off + 2, none⟩ = some (.int .i64 l[k].nth) := by
  have hk' : k < (l.map Ver.cells).length := by simpa using hk
  obtain ⟨ad, e, _, _, hc⟩ := Recs.at_ h hk'
  rw [List.getElem_map] at hc
  exact ⟨ad, e, by simpa using hc 0 _ rfl, by simpa using hc 1 _ rfl, by simpa using hc 2 _ rfl⟩
theorem VersR.upd {F S : Nat → Prop} {w w' : World} {A : Option Addr} {l : List Ver} (h : VersR F w A l) (k : Upd S w w') (hn : ∀ i, F i → ¬ S i) : VersR F w' A l := Recs.upd h k hn
theorem versR_len {l : List Ver} : ∀ r ∈ l.map Ver.cells, r.length = 3 := fun r hr => by
  obtain ⟨e, _, rfl⟩ := List.mem_map.1 hr
  rfl
theorem slt_versR : SlT Tryz.prog 97 42 3 24 := SlT.mk_ Tryz.underlying97 (z := .agg #[.int .i64 0, .int .i64 0, .int .i64 0]) (by kernel_rfl) rfl (by omega)
theorem ver_eql (w : World) (x y : Ver) : (binOp .eql 42 (verV x) (verV y)).run Tryz.prog w = .ok (.bool (x == y)) w := by
  have := ver_equal w x y
  unfold verV at this ⊢
  rw [run_eql_struct, this]
  simp only [Result.andThen]
  by_cases h : x = y <;> simp [h]
theorem ver_new_own {w' : World} {base : Nat} {l : List Ver} {A : Option Addr} {c : Nat} (h : w'.ownsRow base 42 3 (.slice A l.length c) l.length (l.map Ver.cells).flatten) : VersR (fun i => base ≤ i) w' A l := by
  have h2 := Recs.of_own (n := l.length) (c := c) versR_len (by omega) h
  exact Recs.weak h2 fun i _ hi => (h.lt i hi).1
set_option maxRecDepth 100000 in
set_option maxHeartbeats 1000000 in
theorem rInV (F : Nat → Prop) (w : World) (A : Option Addr) (c : Nat) (l : List Ver) (v : Ver) (h : VersR F w A l) (hl : l.length ≤ 100000) :
    Calls Tryz.prog 122 #[.slice A l.length c, .agg v.cells.toArray] w fun e w' => e = .returned (.bool (l.contains v)) ∧ Upd No w w' := by
  unfold Ver.cells
  have bv := Lib.hid (Blk.new w 42 [.int .i64 v.tx, .int .i64 v.key, .int .i64 v.nth])
  have uT := (Upd.refl No w).alloc (.cells #[.int .i64 v.tx, .int .i64 v.key, .int .i64 v.nth] 42)
  go_enter Tryz.func122, Tryz.ntmps122
  go_wp2
  go_loopg [9] l.length (fun gk i wr => ∃ (k : Nat), k + gk = l.length ∧ i = .int .i64 k ∧ Hid ((l.drop k).contains v = l.contains v) ∧ Upd No (w.alloc (.cells #[.int .i64 v.tx, .int .i64 v.key, .int .i64 v.nth] 42)) wr)
  case atStart => exact ⟨0, by omega, rfl, Lib.hid rfl, Upd.refl _ _⟩
  case round =>
    obtain ⟨k, hgk, rfl, hs, hu⟩ := hrel
    by_cases hlt : k < l.length
    · obtain ⟨ad, hAd, q0, q1, q2⟩ := (h.upd (uT.trans hu) (fun _ _ => id)).at_ hlt
      obtain ⟨x, hx⟩ : ∃ x, l[k] = x := ⟨_, rfl⟩
      rw [hx] at q0 q1 q2
      subst hAd
      have X := Lib.hid (show l.drop k = x :: l.drop (k + 1) by rw [← hx]; exact List.drop_eq_getElem_cons hlt)
      have b1 : (0 : Int) ≤ (k : Int) := Int.natCast_nonneg _
      have b2 : (k : Int) < (l.length : Int) := by omega
      clear hx
      have uA := (Upd.refl No wr).alloc (.cells #[.int .i64 x.tx, .int .i64 x.key, .int .i64 x.nth] 42)
      have bb := (bv.out.upd hu id).upd uA id
      have v0 := bb.cell 0
      have v1 := bb.cell 1
      have v2 := bb.cell 2
      simp only [List.getElem?_cons_zero, List.getElem?_cons_succ] at v0 v1 v2
      have HE := fun W => ver_eql W x v
      unfold verV at HE
      have hst := hs.out
      rw [X.out, List.contains_cons] at hst
      clear bb
      by_cases hxv : x = v
      · have HV := Lib.hid (show l.contains v = true by rw [← hst, hxv]; simp)
        have he : (x == v) = true := by simpa using hxv
        rw [he] at HE
        clear hst hxv he
        go_wp2
        go_ret
        exact ⟨by rw [HV.out]; rfl, (uT.trans hu).trans uA⟩
      · have he : (x == v) = false := by simpa using hxv
        have he2 : (v == x) = false := by simpa using fun e => hxv e.symm
        rw [he2, Bool.false_or] at hst
        have HV := Lib.hid hst
        rw [he] at HE
        clear hst hxv he he2
        go_wp2
        go_roundg (gk - 1)
        case measure => omega
        case rel => exact ⟨k + 1, by omega, by go_num, HV, hu.trans uA⟩
    · obtain rfl : k = l.length := by omega
      have HV := Lib.hid (show l.contains v = false by rw [← hs.out, List.drop_length]; rfl)
      go_wp2
      go_ret
      exact ⟨by rw [HV.out]; rfl, uT.trans hu⟩
/-- is it a read of another one's version -/
def needsFR (id : Int) (o : HOp) : Bool := o.read && !(o.tx == 0) && !(o.tx == id)
def needsS (id : Int) (acc : List Ver) : List HOp → List Ver
  | [] => acc
  | o :: l => needsS id (if needsFR id o && !acc.contains (verOf o) then acc ++ [verOf o] else acc) l
theorem needsS_cons (id : Int) (acc : List Ver) (o : HOp) (l : List HOp) : needsS id acc (o :: l) = needsS id (if needsFR id o && !acc.contains (verOf o) then acc ++ [verOf o] else acc) l := rfl
/-- versions of the call's own (the document's) -/
def NewVR (w : World) (l : List Ver) (e : Ending) (w' : World) : Prop := ∃ A c, e = .returned (.slice A l.length c) ∧ w'.ownsRow w.heap.size 42 3 (.slice A l.length c) l.length (l.map Ver.cells).flatten ∧ Upd No w w'
set_option maxRecDepth 100000 in
set_option maxHeartbeats 1000000 in
theorem rNeeds (F : Nat → Prop) (w : World) (i0 : Int) (dn : Bool) (A : Option Addr) (c : Nat) (l : List HOp) (h : HOps F w A l) (hl : l.length ≤ 100000) :
    Calls Tryz.prog 123 #[.agg #[.int .i64 i0, .bool dn, .slice A l.length c]] w (NewVR w (needsS i0 [] l)) := by
  have uT := (Upd.refl No w).alloc (.cells #[.int .i64 i0, .bool dn, .slice A l.length c] 47)
  have bT := Lib.hid (Blk.new w 47 [.int .i64 i0, .bool dn, .slice A l.length c])
  go_enter Tryz.func123, Tryz.ntmps123
  go_wp2
  go_loopg [3, 10] l.length (fun gk s i wr => ∃ (k : Nat) (A3 : Option Addr) (c3 : Nat) (xs : List Ver), k + gk = l.length ∧ i = .int .i64 k ∧ s = .slice A3 xs.length c3 ∧ Hid (needsS i0 xs (l.drop k) = needsS i0 [] l) ∧ xs.length ≤ k ∧
    Hid (wr.ownsRow (w.heap.size + 1) 42 3 (.slice A3 xs.length c3) xs.length (xs.map Ver.cells).flatten) ∧ Upd No (w.alloc (.cells #[.int .i64 i0, .bool dn, .slice A l.length c] 47)) wr)
  case atStart => exact ⟨0, none, 0, [], by omega, rfl, rfl, Lib.hid rfl, by simp, Lib.hid (World.ownsRow_nil _ _ _ _), Upd.refl _ _⟩
  case round =>
    obtain ⟨k, A3, c3, xs, hgk, rfl, rfl, hs, hxl, hown, hu⟩ := hrel
    by_cases hlt : k < l.length
    · obtain ⟨ad, hAd, q0, q1, q2, q3⟩ := (h.upd (uT.trans hu) (fun _ _ => id)).at_ hlt
      obtain ⟨x, hx⟩ : ∃ x, l[k] = x := ⟨_, rfl⟩
      rw [hx] at q0 q1 q2 q3
      subst hAd
      have X := Lib.hid (show l.drop k = x :: l.drop (k + 1) by rw [← hx]; exact List.drop_eq_getElem_cons hlt)
      have b1 : (0 : Int) ≤ (k : Int) := Int.natCast_nonneg _
      have b2 : (k : Int) < (l.length : Int) := by omega
      clear hx
      obtain ⟨v, hv⟩ : ∃ v, verOf x = v := ⟨_, rfl⟩
      have bo := Blk.new wr 96 [.bool x.read, .int .i64 x.key, .int .i64 x.tx, .int .i64 x.nth]
      have uA := (Upd.refl No wr).alloc (.cells #[.bool x.read, .int .i64 x.key, .int .i64 x.tx, .int .i64 x.nth] 96)
      have hof := Lib.hid ((rof (wr.alloc (.cells #[.bool x.read, .int .i64 x.key, .int .i64 x.tx, .int .i64 x.nth] 96)) x).mono (R' := fun e w' => e = .returned (.agg #[.int .i64 v.tx, .int .i64 v.key, .int .i64 v.nth]) ∧ Upd No (wr.alloc (.cells #[.bool x.read, .int .i64 x.key, .int .i64 x.tx, .int .i64 x.nth] 96)) w') fun e w' h => by rw [hv] at h; exact h)
      have BO := Lib.hid bo
      have hst := hs.out
      rw [X.out, needsS_cons, hv] at hst
      have HST := Lib.hid hst
      have hz := hu.size
      clear hv hst bo
      go_wp2_with fail
      refine (hof.out).mono ?_
      rintro e w1 ⟨rfl, hu1⟩
      have uV := hu1.alloc (.cells #[.int .i64 v.tx, .int .i64 v.key, .int .i64 v.nth] 42)
      have bv := Blk.new w1 42 [.int .i64 v.tx, .int .i64 v.key, .int .i64 v.nth]
      have bo1 := BO.out.upd uV id
      have bT1 := ((bT.out.upd hu id).upd uA id).upd uV id
      have HO := own_upd ((own_upd hown.out uA (fun _ _ => id))) uV (fun _ _ => id)
      have HU := Lib.hid ((hu.trans uA).trans uV)
      have k0 := bo1.cell 0
      have k2 := bo1.cell 2
      have t0 := bT1.cell 0
      have hz1 := (uA.trans uV).size
      simp only [List.getElem?_cons_zero, List.getElem?_cons_succ, World.size_alloc] at k0 k2 t0 hz1 hz
      have hin := fun W (hW : Upd No (w1.alloc (.cells #[.int .i64 v.tx, .int .i64 v.key, .int .i64 v.nth] 42)) W) => rInV _ W A3 c3 xs v ((ver_new_own HO).upd hW (fun _ _ => id)) (by omega)
      have HIN := Lib.hid hin
      have HO' := Lib.hid HO
      have CV : ∀ W, Upd No (w1.alloc (.cells #[.int .i64 v.tx, .int .i64 v.key, .int .i64 v.nth] 42)) W → W.cell? ⟨w1.heap.size, 0, none⟩ = some (.int .i64 v.tx) ∧ W.cell? ⟨w1.heap.size, 1, none⟩ = some (.int .i64 v.key) ∧ W.cell? ⟨w1.heap.size, 2, none⟩ = some (.int .i64 v.nth) := fun W hW => ⟨(bv.upd hW id).cell 0, (bv.upd hW id).cell 1, (bv.upd hW id).cell 2⟩
      have HCV := Lib.hid CV
      clear CV uV uA hu1 bv bo1 bT1 hin HO
      cases hr : x.read
      · have HV := Lib.hid (show needsS i0 xs (l.drop (k + 1)) = needsS i0 [] l by rw [← HST.out]; unfold needsFR; rw [hr]; simp)
        rw [hr] at k0
        clear hr
        go_wp2
        go_roundg (gk - 1)
        case measure => omega
        case rel => exact ⟨k + 1, A3, c3, xs, by omega, by go_num, rfl, HV, by omega, HO', HU.out⟩
      · rw [hr] at k0
        by_cases h0 : x.tx = 0
        · have HV := Lib.hid (show needsS i0 xs (l.drop (k + 1)) = needsS i0 [] l by rw [← HST.out]; unfold needsFR; rw [h0]; simp)
          have h0b : (x.tx != 0) = false := by rw [h0]; rfl
          clear hr h0
          go_wp2
          go_roundg (gk - 1)
          case measure => omega
          case rel => exact ⟨k + 1, A3, c3, xs, by omega, by go_num, rfl, HV, by omega, HO', HU.out⟩
        · have h0b : (x.tx != 0) = true := by rw [bne_iff_ne]; exact h0
          by_cases h1 : x.tx = i0
          · have HV := Lib.hid (show needsS i0 xs (l.drop (k + 1)) = needsS i0 [] l by rw [← HST.out]; unfold needsFR; rw [h1]; simp)
            have h1b : (x.tx != i0) = false := by rw [h1]; simp
            clear hr h0 h1
            go_wp2
            go_roundg (gk - 1)
            case measure => omega
            case rel => exact ⟨k + 1, A3, c3, xs, by omega, by go_num, rfl, HV, by omega, HO', HU.out⟩
          · have h1b : (x.tx != i0) = true := by rw [bne_iff_ne]; exact h1
            have hq : needsFR i0 x = true := by unfold needsFR; rw [hr]; simp [h0, h1]
            have HV := Lib.hid (show needsS i0 (if !xs.contains v then xs ++ [v] else xs) (l.drop (k + 1)) = needsS i0 [] l by rw [← HST.out, hq]; rfl)
            have v0 := (HCV.out _ (Upd.refl _ _)).1
            have v1 := (HCV.out _ (Upd.refl _ _)).2.1
            have v2 := (HCV.out _ (Upd.refl _ _)).2.2
            clear hr h0 h1 hq
            go_wp2_with fail
            refine (HIN.out _ (Upd.refl _ _)).mono ?_
            rintro e w2 ⟨rfl, hu2⟩
            have HU2 := Lib.hid (HU.out.trans hu2)
            have hown3 := own_upd HO'.out hu2 (fun _ _ => id)
            have hz2 := hu2.size
            simp only [World.size_alloc] at hz2
            have v0' := (HCV.out _ hu2).1
            have v1' := (HCV.out _ hu2).2.1
            have v2' := (HCV.out _ hu2).2.2
            clear hu2 v0 v1 v2
            cases hc : xs.contains v
            · have HV2 := Lib.hid (show needsS i0 (xs ++ [v]) (l.drop (k + 1)) = needsS i0 [] l by rw [← HV.out, hc]; rfl)
              clear hc
              go_wp2_with (at_builtin; refine app1s rfl rfl slt_versR (v := .slice A3 xs.length c3) (cells := [.int .i64 v.tx, .int .i64 v.key, .int .i64 v.nth]) (by rfl) rfl hown3 rfl rfl (by omega) (by omega) (by omega) ?_; intro g' c' w4 hown4 hu4 hg4 hlt4)
              go_roundg (gk - 1)
              case measure => omega
              case rel => exact ⟨k + 1, some ⟨g', 0, none⟩, c', xs ++ [v], by omega, by go_num, by simp, HV2, by simp; omega, Lib.hid (by simpa [Ver.cells] using hown4), HU2.out.then_ hu4 fun i e => .inr (by have := (hown3.lt i e).1; simp only [World.size_alloc]; omega)⟩
            · have HV2 := Lib.hid (show needsS i0 xs (l.drop (k + 1)) = needsS i0 [] l by rw [← HV.out, hc]; rfl)
              clear hc
              go_wp2
              go_roundg (gk - 1)
              case measure => omega
              case rel => exact ⟨k + 1, A3, c3, xs, by omega, by go_num, rfl, HV2, by omega, Lib.hid hown3, HU2.out⟩
    · obtain rfl : k = l.length := by omega
      have HV := Lib.hid (show xs = needsS i0 [] l by rw [← hs.out, List.drop_length]; rfl)
      go_wp2
      go_ret
      exact ⟨A3, c3, by rw [← HV.out]; rfl, by rw [← HV.out]; exact own_base hown.out (by omega), uT.trans hu⟩
end Go.Proofs.YtaicemjckagcaaaGreat
