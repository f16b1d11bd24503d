/- The kinds of a phenomenon; who is next in an order. -/
import Derived.Test.YtaicemjckagcaaaGreatProg
import Derived.Test.YtaicemjckagcaaaGreatMav
import Derived.Test.YtaicemjckagcaaaGreatMax
import Derived.Test.YtaicemjckagcaaaGreatMay
namespace Go.Proofs.YtaicemjckagcaaaGreat
set_option linter.unusedVariables false
open Go.RowKit
def maskP (p : Int) : Int := if p = 1 then 2 else if p = 4 then 6 else if p = 5 then 14 else 0
def mustP (p : Int) : Int := if p = 5 then 8 else 0
/-- where a number stands first -/
def posI (l : List Int) (x : Int) : Nat := l.findIdx (· == x)
/-- the one behind another one; of 0 the first -/
def nextI (l : List Int) (tx : Int) : Option Int := if tx = 0 then l[0]? else if posI l tx < l.length then l[posI l tx + 1]? else none
def Nexted (w : World) (o : Option Int) (e : Ending) (w' : World) : Prop := e = .returned (match o with | some x => .tuple #[.int .i64 x, .bool true] | none => .tuple #[.int .i64 0, .bool false]) ∧ Upd No w w'
end Go.Proofs.YtaicemjckagcaaaGreat

/- The order of a key. -/
namespace Go.Proofs.YtaicemjckagcaaaGreat
set_option linter.unusedVariables false
open Go.RowKit
theorem kkeys1_ (w : World) (o : HOp) : Calls Tryz.prog 116 #[.agg o.cells.toArray] w fun e w' => e = .returned (.bool (!o.read)) ∧ Upd No w w' := by
  unfold HOp.cells
  go_enter Tryz.func116, Tryz.ntmps116
  go_wp2
  go_ret
  exact ⟨rfl, (Upd.refl _ _).alloc _⟩
/-- where the first order of a key stands -/
def posO (l : List HOrd) (key : Int) : Nat := l.findIdx fun o => o.key == key
theorem posO_hit {l : List HOrd} {key : Int} {k : Nat} (hk : k < l.length) (h : ∀ (j : Nat) (hj : j < k), ((l[j]'(by omega)).key == key) = false) (h1 : (l[k].key == key) = true) : posO l key = k := by
  unfold posO
  rw [List.findIdx_eq hk]
  exact ⟨h1, fun j hj => by simp only [h j hj]⟩
/-- the first order of a key -/
def orderOf (l : List HOrd) (key : Int) : List Int := match l[posO l key]? with | some o => o.txs | none => []
end Go.Proofs.YtaicemjckagcaaaGreat

/- The document on histories: orders, writers, keys. -/
namespace Go.Proofs.YtaicemjckagcaaaGreat
set_option linter.unusedVariables false
open Go.RowKit
def ordS (key : Int) : List HOrd → List Int
  | [] => []
  | o :: l => if o.key = key then o.txs else ordS key l
theorem ordS_cons (key : Int) (o : HOrd) (l : List HOrd) : ordS key (o :: l) = if o.key = key then o.txs else ordS key l := rfl
theorem ordS_eq (key : Int) : ∀ l : List HOrd, ordS key l = orderOf l key
  | [] => rfl
  | o :: l => by
    have ih := ordS_eq key l
    rw [ordS_cons, ih]
    unfold orderOf posO
    rw [List.findIdx_cons]
    by_cases h : o.key = key
    · rw [if_pos h, show (o.key == key) = true by simpa using h]; rfl
    · rw [if_neg h, show (o.key == key) = false by simpa using h]; rfl
/-- an order that lies there -/
def OrdR (F : Nat → Prop) (w : World) (l : List Int) (e : Ending) (w' : World) : Prop := ∃ A c, e = .returned (.slice A l.length c) ∧ Ints F w' A l ∧ l.length ≤ 17592186044415 ∧ Upd No w w'
set_option maxRecDepth 100000 in
theorem rOrder (F : Nat → Prop) (w : World) (txs : List HTx) (ords : List HOrd) (A : Option Addr) (c : Nat) (B : Option Addr) (d : Nat) (key : Int) (H : Hist.lies F w ⟨txs, ords, A, c, B, d⟩) :
    Calls Tryz.prog 103 #[.agg #[.slice A txs.length c, .slice B ords.length d], .int .i64 key] w (OrdR F w (ordS key ords)) := by
  have hfo := H.fewo
  simp only at hfo
  go_enter Tryz.func103, Tryz.ntmps103
  go_wp2
  go_loopg [10] ords.length (fun gk i wr => ∃ (k : Nat), k + gk = ords.length ∧ i = .int .i64 k ∧ Hid (ordS key (ords.drop k) = ordS key ords) ∧ Upd No w wr)
  case atStart => exact ⟨0, by omega, rfl, Lib.hid rfl, (Upd.refl No w).alloc _⟩
  case round =>
    obtain ⟨k, hgk, rfl, hs, hu⟩ := hrel
    by_cases hlt : k < ords.length
    · obtain ⟨ad, hAd, q0, q1⟩ := (H.upd hu (fun _ _ => id)).ord_at hlt
      have hlo := H.ord ords[k] (List.getElem_mem hlt)
      simp only at hAd q0 q1
      obtain ⟨x, hx⟩ : ∃ x, ords[k] = x := ⟨_, rfl⟩
      rw [hx] at q0 q1 hlo
      subst hAd
      have X := Lib.hid (show ords.drop k = x :: ords.drop (k + 1) by rw [← hx]; exact List.drop_eq_getElem_cons hlt)
      have HL := Lib.hid hlo
      have b1 : (0 : Int) ≤ (k : Int) := Int.natCast_nonneg _
      have b2 : (k : Int) < (ords.length : Int) := by omega
      have uA := hu.alloc (.cells #[.int .i64 x.key, .slice x.A x.txs.length x.c] 81)
      have hst := hs.out
      rw [X.out, ordS_cons] at hst
      clear hx hlo
      by_cases he : x.key = key
      · have heb : (x.key == key) = true := by simpa using he
        rw [if_pos he] at hst
        have HS := Lib.hid hst
        clear hst he
        go_wp2
        go_ret
        exact ⟨x.A, x.c, by rw [← HS.out]; rfl, by rw [← HS.out]; exact HL.out.1.upd uA (fun _ _ => id), by rw [← HS.out]; exact HL.out.2.2.1, uA⟩
      · have heb : (x.key == key) = false := by simpa using he
        rw [if_neg he] at hst
        have HS := Lib.hid hst
        clear hst he
        go_wp2
        go_roundg (gk - 1)
        case measure => omega
        case rel => exact ⟨k + 1, by omega, by go_num, HS, uA⟩
    · obtain rfl : k = ords.length := by omega
      have HS := Lib.hid (show ([] : List Int) = ordS key ords by rw [← hs.out, List.drop_length]; rfl)
      go_wp2
      go_ret
      exact ⟨none, 0, by rw [← HS.out]; rfl, by rw [← HS.out]; exact Ints.nil_, by rw [← HS.out]; simp, hu⟩
/-- the done ones that write a key -/
def wrS (key : Int) (acc : List Int) : List HTx → List Int
  | [] => acc
  | t :: l => wrS key (if t.done && decide (0 < writesN t.ops key) then acc ++ [t.id] else acc) l
theorem wrS_cons (key : Int) (acc : List Int) (t : HTx) (l : List HTx) : wrS key acc (t :: l) = wrS key (if t.done && decide (0 < writesN t.ops key) then acc ++ [t.id] else acc) l := rfl
set_option maxRecDepth 100000 in
set_option maxHeartbeats 1000000 in
theorem rWriters (F : Nat → Prop) (w : World) (txs : List HTx) (ords : List HOrd) (A : Option Addr) (c : Nat) (B : Option Addr) (d : Nat) (key : Int) (H : Hist.lies F w ⟨txs, ords, A, c, B, d⟩) :
    Calls Tryz.prog 69 #[.agg #[.slice A txs.length c, .slice B ords.length d], .int .i64 key] w (NewR w (wrS key [] txs)) := by
  have hfo := H.few
  simp only at hfo
  go_enter Tryz.func69, Tryz.ntmps69
  go_wp2
  go_loopg [5, 11] txs.length (fun gk s i wr => ∃ (k : Nat) (A3 : Option Addr) (c3 : Nat) (xs : List Int), k + gk = txs.length ∧ i = .int .i64 k ∧ s = .slice A3 xs.length c3 ∧ Hid (wrS key xs (txs.drop k) = wrS key [] txs) ∧ xs.length ≤ k ∧
    Hid (wr.ownsRow w.heap.size 3 1 (.slice A3 xs.length c3) xs.length (xs.map (Value.int .i64))) ∧ Upd No w wr)
  case atStart => exact ⟨0, none, 0, [], by omega, rfl, rfl, Lib.hid rfl, by simp, Lib.hid (World.ownsRow_nil _ _ _ _), (Upd.refl No w).alloc _⟩
  case round =>
    obtain ⟨k, A3, c3, xs, hgk, rfl, rfl, hs, hxl, hown, hu⟩ := hrel
    by_cases hlt : k < txs.length
    · obtain ⟨ad, hAd, q0, q1, q2⟩ := (H.upd hu (fun _ _ => id)).tx_at hlt
      have hlo := H.tx txs[k] (List.getElem_mem hlt)
      simp only at hAd q0 q1 q2
      obtain ⟨x, hx⟩ : ∃ x, txs[k] = x := ⟨_, rfl⟩
      rw [hx] at q0 q1 q2 hlo
      obtain ⟨xi, xd, xo, xA, xc⟩ := x
      simp only at q0 q1 q2
      subst hAd
      have X := Lib.hid (show txs.drop k = ⟨xi, xd, xo, xA, xc⟩ :: txs.drop (k + 1) by rw [← hx]; exact List.drop_eq_getElem_cons hlt)
      have HL := Lib.hid hlo
      have XM := Lib.hid (show (⟨xi, xd, xo, xA, xc⟩ : HTx) ∈ txs by rw [← hx]; exact List.getElem_mem hlt)
      have b1 : (0 : Int) ≤ (k : Int) := Int.natCast_nonneg _
      have b2 : (k : Int) < (txs.length : Int) := by omega
      have uA := hu.alloc (.cells #[.int .i64 xi, .bool xd, .slice xA xo.length xc] 47)
      clear hx hlo
      have hst := hs.out
      rw [X.out, wrS_cons] at hst
      have HST := Lib.hid hst
      have bb := Blk.new wr 47 [.int .i64 xi, .bool xd, .slice xA xo.length xc]
      have hz := hu.size
      have HO := Lib.hid (own_upd hown.out ((Upd.refl No wr).alloc (.cells #[.int .i64 xi, .bool xd, .slice xA xo.length xc] 47)) (fun _ _ => id))
      have BB := Lib.hid bb
      clear hst bb
      cases xd
      · have HS := Lib.hid (show wrS key xs (txs.drop (k + 1)) = wrS key [] txs from HST.out)
        go_wp2
        go_roundg (gk - 1)
        case measure => omega
        case rel => exact ⟨k + 1, A3, c3, xs, by omega, by go_num, rfl, HS, by omega, HO, uA⟩
      · have e2 : (wr.alloc (.cells #[.int .i64 xi, .bool true, .slice xA xo.length xc] 47)).cell? ⟨wr.heap.size, 0, none⟩ = some (.int .i64 xi) := BB.out.cell 0
        go_wp2_with fail
        refine (rwrites F _ xA xc xo key (HOps.upd HL.out.1 uA (fun _ _ => id)) HL.out.2.2.1).mono ?_
        rintro e w1 ⟨rfl, hu1⟩
        have e0 : w1.cell? ⟨wr.heap.size, 0, none⟩ = some (.int .i64 xi) := (BB.out.upd hu1 id).cell 0
        have HO1 := own_upd HO.out hu1 (fun _ _ => id)
        have hz1 := hu1.size
        simp only [World.size_alloc] at hz1
        have HU := Lib.hid (uA.trans hu1)
        clear hu1 e2
        by_cases hw : 0 < writesN xo key
        · have HS := Lib.hid (show wrS key (xs ++ [xi]) (txs.drop (k + 1)) = wrS key [] txs by rw [← HST.out, decide_eq_true hw]; rfl)
          have hwd : decide ((0 : Int) < ((writesN xo key : Nat) : Int)) = true := decide_eq_true (by omega)
          have hwd2 : decide (0 < writesN xo key) = true := decide_eq_true hw
          clear hw
          go_wp2_with (at_builtin; refine app1s rfl rfl slt_intR (v := .slice A3 xs.length c3) (cells := [.int .i64 xi]) (by rfl) rfl HO1 rfl rfl (by omega) (by omega) (by omega) ?_; intro g' c' w4 hown4 hu4 hg4 hlt4)
          go_roundg (gk - 1)
          case measure => omega
          case rel => exact ⟨k + 1, some ⟨g', 0, none⟩, c', xs ++ [xi], by omega, by go_num, by simp, HS, by simp; omega, Lib.hid (by simpa using hown4), HU.out.then_ hu4 fun i e => .inr (HO1.lt i e).1⟩
        · have HS := Lib.hid (show wrS key xs (txs.drop (k + 1)) = wrS key [] txs by rw [← HST.out, decide_eq_false hw]; rfl)
          have hwd : decide ((0 : Int) < ((writesN xo key : Nat) : Int)) = false := decide_eq_false (by omega)
          have hwd2 : decide (0 < writesN xo key) = false := decide_eq_false hw
          clear hw
          go_wp2
          go_roundg (gk - 1)
          case measure => omega
          case rel => exact ⟨k + 1, A3, c3, xs, by omega, by go_num, rfl, HS, by omega, Lib.hid HO1, HU.out⟩
    · obtain rfl : k = txs.length := by omega
      have HV := Lib.hid (show xs = wrS key [] txs by rw [← hs.out, List.drop_length]; rfl)
      go_wp2
      go_ret
      exact ⟨A3, c3, by rw [← HV.out]; rfl, by rw [← HV.out]; exact hown.out, hu⟩
end Go.Proofs.YtaicemjckagcaaaGreat

/- The document on histories: the keys that are written; whether one is right. -/
namespace Go.Proofs.YtaicemjckagcaaaGreat
set_option linter.unusedVariables false
open Go.RowKit
theorem newR_ints2 {w' : World} {base : Nat} {A : Option Addr} {c : Nat} {l : List Int} (h : w'.ownsRow base 3 1 (.slice A l.length c) l.length (l.map (Value.int .i64))) : Ints (fun i => base ≤ i) w' A l := Ints.of_own h
def keysHG (s : List Int) : List HTx → List Int
  | [] => s
  | t :: l => keysHG (if t.done then putAll s (keysG false [] t.ops) else s) l
theorem keysHG_cons (s : List Int) (t : HTx) (l : List HTx) : keysHG s (t :: l) = keysHG (if t.done then putAll s (keysG false [] t.ops) else s) l := rfl
theorem putAll_cons (s : List Int) (k : Int) (l : List Int) : putAll s (k :: l) = putAll (putL k s) l := rfl
theorem keysG_len (tch : Bool) : ∀ (l : List HOp) (s : List Int), (keysG tch s l).length ≤ s.length + l.length
  | [], s => by simp [keysG]
  | o :: l, s => by
    rw [keysG_cons]
    have := keysG_len tch l (if tch || !o.read then putL o.key s else s)
    have h2 : (if tch || !o.read then putL o.key s else s).length ≤ s.length + 1 := by
      split
      · exact putL_len _ _
      · omega
    rw [List.length_cons]; omega
set_option maxRecDepth 100000 in
set_option maxHeartbeats 1000000 in
theorem rKeysH (F : Nat → Prop) (w : World) (txs : List HTx) (ords : List HOrd) (A : Option Addr) (c : Nat) (B : Option Addr) (d : Nat) (H : Hist.lies F w ⟨txs, ords, A, c, B, d⟩) (hn : txs.length ≤ 4096) (ho : ∀ t ∈ txs, t.ops.length ≤ 4095) :
    Calls Tryz.prog 84 #[.agg #[.slice A txs.length c, .slice B ords.length d]] w (NewR w (keysHG [] txs)) := by
  go_enter Tryz.func84, Tryz.ntmps84
  go_wp2
  go_loopg [3, 11] txs.length (fun gk s i wr => ∃ (k : Nat) (A3 : Option Addr) (c3 : Nat) (xs : List Int), k + gk = txs.length ∧ i = .int .i64 k ∧ s = .slice A3 xs.length c3 ∧ Hid (keysHG xs (txs.drop k) = keysHG [] txs) ∧ xs.length ≤ 4095 * k ∧
    Hid (wr.ownsRow w.heap.size 3 1 (.slice A3 xs.length c3) xs.length (xs.map (Value.int .i64))) ∧ Upd No w wr)
  case atStart => exact ⟨0, none, 0, [], by omega, rfl, rfl, Lib.hid rfl, by simp, Lib.hid (World.ownsRow_nil _ _ _ _), (Upd.refl No w).alloc _⟩
  case round =>
    obtain ⟨k, A3, c3, xs, hgk, rfl, rfl, hs, hxl, hown, hu⟩ := hrel
    by_cases hlt : k < txs.length
    · obtain ⟨ad, hAd, q0, q1, q2⟩ := (H.upd hu (fun _ _ => id)).tx_at hlt
      have hlo := H.tx txs[k] (List.getElem_mem hlt)
      simp only at hAd q0 q1 q2
      obtain ⟨x, hx⟩ : ∃ x, txs[k] = x := ⟨_, rfl⟩
      rw [hx] at q0 q1 q2 hlo
      obtain ⟨xi, xd, xo, xA, xc⟩ := x
      simp only at q0 q1 q2
      subst hAd
      have X := Lib.hid (show txs.drop k = ⟨xi, xd, xo, xA, xc⟩ :: txs.drop (k + 1) by rw [← hx]; exact List.drop_eq_getElem_cons hlt)
      have HL := Lib.hid hlo
      have XM := Lib.hid (show (⟨xi, xd, xo, xA, xc⟩ : HTx) ∈ txs by rw [← hx]; exact List.getElem_mem hlt)
      have b1 : (0 : Int) ≤ (k : Int) := Int.natCast_nonneg _
      have b2 : (k : Int) < (txs.length : Int) := by omega
      have uA := hu.alloc (.cells #[.int .i64 xi, .bool xd, .slice xA xo.length xc] 47)
      clear hx hlo
      have hst := hs.out
      rw [X.out, keysHG_cons] at hst
      have HST := Lib.hid hst
      have hz := hu.size
      have HO := Lib.hid (own_upd hown.out ((Upd.refl No wr).alloc (.cells #[.int .i64 xi, .bool xd, .slice xA xo.length xc] 47)) (fun _ _ => id))
      have hol := ho _ XM.out
      simp only at hol
      clear hst
      cases xd
      · have HS := Lib.hid (show keysHG xs (txs.drop (k + 1)) = keysHG [] txs from HST.out)
        go_wp2
        go_roundg (gk - 1)
        case measure => omega
        case rel => exact ⟨k + 1, A3, c3, xs, by omega, by go_num, rfl, HS, by omega, HO, uA⟩
      · have hkl := keysG_len false xo []
        have HK := Lib.hid (rKeys F _ xi true xA xc xo false (HOps.upd HL.out.1 uA (fun _ _ => id)) (by omega))
        have HS0 := Lib.hid (show keysHG (putAll xs (keysG false [] xo)) (txs.drop (k + 1)) = keysHG [] txs from HST.out)
        obtain ⟨ks, hks⟩ : ∃ ks, keysG false [] xo = ks := ⟨_, rfl⟩
        rw [hks] at HK HS0 hkl
        simp only [List.length_nil, Nat.zero_add] at hkl
        clear hks
        go_wp2_with fail
        refine (HK.out).mono ?_
        rintro e w1 ⟨A5, c5, rfl, ho5, hu1⟩
        have HI := Lib.hid (newR_ints ho5)
        have HO1 := Lib.hid (own_upd HO.out hu1 (fun _ _ => id))
        have HU := Lib.hid (uA.trans hu1)
        clear ho5 hu1
        generalize gk = m0 at *
        go_wp2
        go_loopg [3, 20] ks.length (fun gm s i w2 => ∃ (j : Nat) (A4 : Option Addr) (c4 : Nat) (ys : List Int), j + gm = ks.length ∧ i = .int .i64 j ∧ s = .slice A4 ys.length c4 ∧ Hid (putAll ys (ks.drop j) = putAll xs ks) ∧ ys.length ≤ xs.length + j ∧
          Hid (w2.ownsRow w.heap.size 3 1 (.slice A4 ys.length c4) ys.length (ys.map (Value.int .i64))) ∧ Upd No w1 w2)
        case atStart => exact ⟨0, A3, c3, xs, by omega, rfl, rfl, Lib.hid rfl, by omega, HO1, Upd.refl _ _⟩
        case round =>
          obtain ⟨j, A4, c4, ys, hgm, rfl, rfl, hs2, hyl, hown2, hu2⟩ := hrel
          by_cases hlt2 : j < ks.length
          · obtain ⟨ad2, hA2, _, _, hc2⟩ := (HI.out.upd hu2 (fun _ _ => id)).at_ hlt2
            obtain ⟨y, hy⟩ : ∃ y, ks[j] = y := ⟨_, rfl⟩
            rw [hy] at hc2
            subst hA2
            have Y := Lib.hid (show ks.drop j = y :: ks.drop (j + 1) by rw [← hy]; exact List.drop_eq_getElem_cons hlt2)
            have c1 : (0 : Int) ≤ (j : Int) := Int.natCast_nonneg _
            have c2 : (j : Int) < (ks.length : Int) := by omega
            have hst := hs2.out
            rw [Y.out, putAll_cons] at hst
            have HS := Lib.hid hst
            have hpl := putL_len y ys
            have hmul : 4095 * k ≤ 4095 * 4096 := Nat.mul_le_mul_left _ (by omega)
            have hz2 := (HU.out.trans hu2).size
            clear hy hst
            go_wp2_with fail
            refine (rPut _ _ A4 c4 ys y (newR_ints2 hown2.out) (by omega)).mono ?_
            rintro e w3 ⟨A6, c6, rfl, ho6, hu3⟩
            go_wp2
            go_roundg (gk - 1)
            case measure => omega
            case rel => exact ⟨j + 1, A6, c6, putL y ys, by omega, by go_num, rfl, HS, by omega, Lib.hid (own_base ho6 hz2), hu2.trans hu3⟩
          · obtain rfl : j = ks.length := by omega
            have HV := Lib.hid (show ys = putAll xs ks by rw [← hs2.out, List.drop_length]; rfl)
            go_wp2
            go_roundg (m0 - 1)
            case measure => omega
            case rel => exact ⟨k + 1, A4, c4, ys, by omega, by go_num, rfl, Lib.hid (by rw [HV.out]; exact HS0.out), by omega, hown2, HU.out.trans hu2⟩
    · obtain rfl : k = txs.length := by omega
      have HV := Lib.hid (show xs = keysHG [] txs by rw [← hs.out, List.drop_length]; rfl)
      go_wp2
      go_ret
      exact ⟨A3, c3, by rw [← HV.out]; rfl, by rw [← HV.out]; exact hown.out, hu⟩
end Go.Proofs.YtaicemjckagcaaaGreat
