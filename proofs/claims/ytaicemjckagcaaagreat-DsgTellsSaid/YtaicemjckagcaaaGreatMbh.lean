/- What a transaction needs of others. -/
import Derived.Test.YtaicemjckagcaaaGreatMaq
import Derived.Test.YtaicemjckagcaaaGreatMbe
namespace Go.Proofs.YtaicemjckagcaaaGreat
set_option linter.unusedVariables false
open Go.RowKit
theorem slt_vers : SlT Tryz.prog 97 42 3 24 := SlT.mk_ Tryz.underlying97 (z := .agg #[.int .i64 0, .int .i64 0, .int .i64 0]) (by kernel_rfl) rfl (by omega)
/-- versions lie there -/
def Vers (F : Nat → Prop) (w : World) (A : Option Addr) (l : List Ver) : Prop := Recs F w A 3 (l.map Ver.cells)
theorem vers_len {l : List Ver} : ∀ r ∈ l.map Ver.cells, r.length = 3 := fun r hr => by
  obtain ⟨e, _, rfl⟩ := List.mem_map.1 hr
  rfl
/-- versions of the call's own -/
def NewVers (w : World) (l : List Ver) (e : Ending) (w' : World) : Prop := ∃ A c, e = .returned (.slice A l.length c) ∧ w'.ownsRow w.heap.size 42 3 (.slice A l.length c) l.length (l.map Ver.cells).flatten ∧ Upd No w w'
/-- what the map of those met tells -/
def MetV (m : List (Ver × Value)) (xs : List Ver) (k : Nat) : Prop := ∀ v : Ver, ∃ n : Nat, (mget m v).getD (.int .i64 0) = .int .i64 n ∧ n ≤ k ∧ (n = 0 ↔ v ∉ xs)
theorem MetV.nil : MetV [] [] 0 := fun v => ⟨0, by rw [mget_nil]; rfl, Nat.le_refl _, by simp⟩
theorem MetV.mono {m : List (Ver × Value)} {xs : List Ver} {k : Nat} (h : MetV m xs k) : MetV m xs (k + 1) := fun v => by
  obtain ⟨n, h1, h2, h3⟩ := h v
  exact ⟨n, h1, by omega, h3⟩
theorem MetV.put {m : List (Ver × Value)} {xs : List Ver} {k n : Nat} {v : Ver} (h : MetV m xs k) (hn : (mget m v).getD (.int .i64 0) = .int .i64 n) : MetV (mput m v (.int .i64 ((n : Int) + 1))) (if n = 0 then xs ++ [v] else xs) (k + 1) := fun u => by
  obtain ⟨n', h1, h2, h3⟩ := h v
  rw [h1] at hn
  obtain rfl : n' = n := by injection hn with _ hn; omega
  by_cases e : u = v
  · subst e
    refine ⟨n' + 1, by rw [mget_same]; rfl, by omega, ?_⟩
    constructor
    · intro e; omega
    · intro hn2
      split at hn2
      · simp at hn2
      · rename_i h0
        exact absurd (h3.2 hn2) h0
  · rw [mget_other _ _ e]
    obtain ⟨q, g1, g2, g3⟩ := h u
    refine ⟨q, g1, by omega, ?_⟩
    rw [g3]
    split
    · simp [e]
    · rfl
theorem needsN_no {id : Int} {l : List HOp} {k : Nat} {x : HOp} (hk : k < l.length) (hx : l[k] = x) (h : needsF id x = false) : needsN id l (k + 1) = needsN id l k := by
  show (match l[k]? with | some o => _ | none => _) = _
  rw [List.getElem?_eq_getElem hk, hx]
  simp [h]
theorem needsN_yes {id : Int} {l : List HOp} {k : Nat} {x : HOp} (hk : k < l.length) (hx : l[k] = x) (h : needsF id x = true) : needsN id l (k + 1) = if verOf x ∉ needsN id l k then needsN id l k ++ [verOf x] else needsN id l k := by
  show (match l[k]? with | some o => _ | none => _) = _
  rw [List.getElem?_eq_getElem hk, hx]
  simp [h]
theorem needsN_le (id : Int) (l : List HOp) : ∀ k, (needsN id l k).length ≤ k
  | 0 => Nat.le_refl _
  | k + 1 => by
    have ih := needsN_le id l k
    show (match l[k]? with | some o => _ | none => _ : List Ver).length ≤ _
    split
    · split
      · simp; omega
      · omega
    · omega
set_option maxRecDepth 100000 in
set_option maxHeartbeats 4000000 in
theorem tneeds (F : Nat → Prop) (w : World) (i0 : Int) (dn : Bool) (A : Option Addr) (c : Nat) (l : List HOp) (h : HOps F w A l) (hl : fewOps l.length) :
    Calls Tryz.prog 64 #[.agg #[.int .i64 i0, .bool dn, .slice A l.length c]] w (NewVers w (needsL i0 l)) := by
  unfold fewOps at hl
  have uT := (Upd.refl No w).alloc (.cells #[.int .i64 i0, .bool dn, .slice A l.length c] 47)
  have bT := Lib.hid (Blk.new w 47 [.int .i64 i0, .bool dn, .slice A l.length c])
  have hmm := @run_makeMap Tryz.prog
  have hn0 := MapE.new (w.alloc (.cells #[.int .i64 i0, .bool dn, .slice A l.length c] 47)) verV
  simp only [World.size_alloc] at hn0
  have HN := Lib.hid hn0
  clear hn0
  go_enter Tryz.func64, Tryz.ntmps64
  go_wp2
  go_loopg [3, 12] l.length (fun gk s i wr => ∃ (k : Nat) (A3 : Option Addr) (c3 : Nat) (xs : List Ver) (m : List (Ver × Value)), k + gk = l.length ∧ i = .int .i64 k ∧ s = .slice A3 xs.length c3 ∧ Hid (xs = needsN i0 l k) ∧ xs.length ≤ k ∧
    Hid (MapE wr (w.heap.size + 1) verV m) ∧ Hid (MetV m xs k) ∧ wr.ownsRow (w.heap.size + 2) 42 3 (.slice A3 xs.length c3) xs.length (xs.map Ver.cells).flatten ∧
    Upd No (w.alloc (.cells #[.int .i64 i0, .bool dn, .slice A l.length c] 47)) wr)
  case atStart => exact ⟨0, none, 0, [], [], by omega, rfl, rfl, Lib.hid rfl, by simp, Lib.hid HN.out, Lib.hid MetV.nil, World.ownsRow_nil _ _ _ _, (Upd.refl No _).alloc _⟩
  case round =>
    obtain ⟨k, A3, c3, xs, m, hgk, rfl, rfl, hxs, hxl, hm, hW, hown, hu⟩ := hrel
    clear hmm
    by_cases hlt : k < l.length
    · obtain ⟨ad, hAd, q0, q1, q2, q3⟩ := (h.upd (uT.trans hu) (fun _ _ => id)).at_ hlt
      obtain ⟨x, hx⟩ : ∃ x, l[k] = x := ⟨_, rfl⟩
      rw [hx] at q0 q1 q2 q3
      subst hAd
      have X := Lib.hid hx
      have b1 : (0 : Int) ≤ (k : Int) := Int.natCast_nonneg _
      have b2 : (k : Int) < (l.length : Int) := by omega
      have uA := (Upd.refl No wr).alloc (.cells #[.bool x.read, .int .i64 x.key, .int .i64 x.tx, .int .i64 x.nth] 96)
      have bo := Lib.hid (Blk.new wr 96 [.bool x.read, .int .i64 x.key, .int .i64 x.tx, .int .i64 x.nth])
      clear hx
      have hl1 := hm.out.lt
      have hm1 := hm.out.upd uA id
      have hown1 := own_upd hown uA (fun _ _ => id)
      have bT1 := Lib.hid ((bT.out.upd hu id).upd uA id)
      obtain ⟨v, hv⟩ : ∃ v, verOf x = v := ⟨_, rfl⟩
      have hof := oof (wr.alloc (.cells #[.bool x.read, .int .i64 x.key, .int .i64 x.tx, .int .i64 x.nth] 96)) x
      rw [hv] at hof
      have Hof := Lib.hid (hof.mono (R' := fun e w' => e = .returned (.agg #[.int .i64 v.tx, .int .i64 v.key, .int .i64 v.nth]) ∧ Upd No (wr.alloc (.cells #[.bool x.read, .int .i64 x.key, .int .i64 x.tx, .int .i64 x.nth] 96)) w') fun e w' h => h)
      have V := Lib.hid hv
      clear hof hv
      go_wp2_with fail
      refine (Hof.out).mono ?_
      rintro e w1 ⟨rfl, hu1⟩
      have uV := hu1.alloc (.cells #[.int .i64 v.tx, .int .i64 v.key, .int .i64 v.nth] 42)
      have bv := Blk.new w1 42 [.int .i64 v.tx, .int .i64 v.key, .int .i64 v.nth]
      have bo1 := bo.out.upd uV id
      have bT2 := bT1.out.upd uV id
      have hm2 := hm1.upd uV id
      have hown2 := own_upd hown1 uV (fun _ _ => id)
      have k0 := bo1.cell 0
      have t0 := bT2.cell 0
      have v0 := bv.cell 0
      have v1 := bv.cell 1
      have v2 := bv.cell 2
      simp only [List.getElem?_cons_zero, List.getElem?_cons_succ] at k0 t0 v0 v1 v2
      have HU := Lib.hid ((hu.trans uA).trans uV)
      have hz1 := uV.size
      simp only [World.size_alloc] at hz1
      have hz2 := hu1.size
      simp only [World.size_alloc] at hz2
      have hz3 := hu.size
      simp only [World.size_alloc] at hz3
      clear uA uV hm1 hown1 bo1 bT2 bv hu1
      cases hr : x.read
      · rw [hr] at k0
        have HS := Lib.hid (needsN_no (id := i0) hlt X.out (by unfold needsF; rw [hr]; rfl))
        clear hr
        go_wp2
        go_roundg (gk - 1)
        case measure => omega
        case rel => exact ⟨k + 1, A3, c3, xs, m, by omega, by go_num, rfl, Lib.hid (by rw [HS.out, hxs.out]), by omega, Lib.hid hm2, Lib.hid hW.out.mono, hown2, HU.out⟩
      · rw [hr] at k0
        by_cases h0 : v.tx = 0
        · have HS := Lib.hid (needsN_no (id := i0) hlt X.out (by unfold needsF; rw [V.out, h0]; simp))
          have h0b : (v.tx == 0) = true := by simpa using h0
          clear hr h0
          go_wp2
          go_roundg (gk - 1)
          case measure => omega
          case rel => exact ⟨k + 1, A3, c3, xs, m, by omega, by go_num, rfl, Lib.hid (by rw [HS.out, hxs.out]), by omega, Lib.hid hm2, Lib.hid hW.out.mono, hown2, HU.out⟩
        · have h0b : (v.tx == 0) = false := by simpa using h0
          clear h0
          by_cases h1 : v.tx = i0
          · have h1b : (v.tx == i0) = true := by simpa using h1
            have HS := Lib.hid (needsN_no (id := i0) hlt X.out (by unfold needsF; rw [V.out, h1b]; simp))
            clear hr h1
            go_wp2
            go_roundg (gk - 1)
            case measure => omega
            case rel => exact ⟨k + 1, A3, c3, xs, m, by omega, by go_num, rfl, Lib.hid (by rw [HS.out, hxs.out]), by omega, Lib.hid hm2, Lib.hid hW.out.mono, hown2, HU.out⟩
          · have h1b : (v.tx == i0) = false := by simpa using h1
            have HS := Lib.hid (show needsN i0 l (k + 1) = if v ∉ xs then xs ++ [v] else xs by rw [hxs.out, ← V.out]; exact needsN_yes (id := i0) hlt X.out (by unfold needsF; rw [V.out, h1b, hr, h0b]; rfl))
            clear hr h1
            obtain ⟨N, hN, hNk, hN0⟩ := hW.out v
            have HWp := Lib.hid (hW.out.put hN)
            have HN0 := Lib.hid hN0
            clear hN0
            have HZW := Lib.hid (show (w1.alloc (.cells #[.int .i64 v.tx, .int .i64 v.key, .int .i64 v.nth] 42)).heap.size = w1.heap.size + 1 by simp)
            go_wp2
            generalize hW0 : w1.alloc (.cells #[.int .i64 v.tx, .int .i64 v.key, .int .i64 v.nth] 42) = W0 at *
            clear hW0
            have hzw := HZW.out
            have HUW := HU
            have hwr : IntKind.i64.wrap ((N : Int) + 1) = (N : Int) + 1 := IntWalk.i64_in _ (by omega)
            have hwn : w1.heap.size ≠ w.heap.size + 1 := by omega
            have hun : ∀ i, One (w.heap.size + 1) i → w.heap.size + 1 ≤ i := fun i e => by cases e; exact Nat.le_refl _
            have hmd : MapE W0.drew (w.heap.size + 1) verV m := hm2
            obtain ⟨st, w2, e2, hm3, hu2, hst⟩ := run_entry kbyver Tryz.underlying170 zeroN hmd v
            have e1 := run_look kbyver Tryz.underlying170 zeroN hmd.is v
            have e3 := run_look kbyver Tryz.underlying170 zeroN hm3.is v
            rw [mget_same] at e3
            rw [hN] at e1 e2 e3
            obtain ⟨w3, e4, hm4, hu3⟩ := hst (.int .i64 ((N : Int) + 1))
            have e5 := run_look kbyver Tryz.underlying170 zeroN hm4.is v
            rw [mget_same] at e5
            change (Instr.lookup 170 (.map (some (w.heap.size + 1))) (.agg #[.int .i64 v.tx, .int .i64 v.key, .int .i64 v.nth]) false).run Tryz.prog W0.drew = .ok (.int .i64 N) W0.drew at e1
            change (Instr.lookup 170 (.map (some (w.heap.size + 1))) (.agg #[.int .i64 v.tx, .int .i64 v.key, .int .i64 v.nth]) false).run Tryz.prog w2 = .ok (.int .i64 N) w2 at e3
            change (Instr.mapEntry 170 (.map (some (w.heap.size + 1))) (.agg #[.int .i64 v.tx, .int .i64 v.key, .int .i64 v.nth])).run Tryz.prog W0.drew = .ok (.tuple #[.int .i64 N, .int .i64 st]) w2 at e2
            change (Instr.entryStore 170 (.map (some (w.heap.size + 1))) (.int .i64 st) (.int .i64 ((N : Int) + 1))).run Tryz.prog w2 = .ok () w3 at e4
            change (Instr.lookup 170 (.map (some (w.heap.size + 1))) (.agg #[.int .i64 v.tx, .int .i64 v.key, .int .i64 v.nth]) false).run Tryz.prog w3 = .ok (.int .i64 ((N : Int) + 1)) w3 at e5
            have a0 := Upd.keep hu2 (p := ⟨w1.heap.size, 0, none⟩) v0 hwn
            have a1 := Upd.keep hu2 (p := ⟨w1.heap.size, 1, none⟩) v1 hwn
            have a2 := Upd.keep hu2 (p := ⟨w1.heap.size, 2, none⟩) v2 hwn
            have c0 := Upd.keep hu3 (p := ⟨w1.heap.size, 0, none⟩) v0 hwn
            have c1 := Upd.keep hu3 (p := ⟨w1.heap.size, 1, none⟩) v1 hwn
            have c2 := Upd.keep hu3 (p := ⟨w1.heap.size, 2, none⟩) v2 hwn
            have hown3 := own_upd hown2 hu3.of_drew (fun i hi e => by have := (hown2.lt i hi).1; cases e; omega)
            have HU3 := Lib.hid (HUW.out.then_ hu3.of_drew fun i e => .inr (by simp only [World.size_alloc]; exact hun i e))
            have hz4 : W0.heap.size ≤ w3.heap.size := hu3.size
            have Hm4 := Lib.hid hm4
            clear hN hst hmd hm2 hm3 hm4 hown2 hu2 hu3
            go_region_held3 (fun w' => w'.cell? ⟨w1.heap.size, 0, none⟩ = some (.int .i64 v.tx) ∧ w'.cell? ⟨w1.heap.size, 1, none⟩ = some (.int .i64 v.key) ∧ w'.cell? ⟨w1.heap.size, 2, none⟩ = some (.int .i64 v.nth))
              (first | exact ⟨v0, v1, v2⟩ | exact ⟨a0, a1, a2⟩ | exact ⟨c0, c1, c2⟩) (fail)
            all_goals
              clear e1 e2 e3 e4 a0 a1 a2 v0 v1 v2 k0 t0 hwr
              have Hc := Lib.hid c0
              by_cases hN1 : N = 0
              · have HS2 := Lib.hid (show needsN i0 l (k + 1) = xs ++ [v] by rw [HS.out, if_pos (HN0.out.1 hN1)])
                have HW2 := HWp.out
                rw [if_pos hN1] at HW2
                have HW3 := Lib.hid HW2
                have e6 : (Instr.lookup 170 (.map (some (w.heap.size + 1))) (.agg #[.int .i64 v.tx, .int .i64 v.key, .int .i64 v.nth]) false).run Tryz.prog w3 = .ok (.int .i64 1) w3 := by rw [e5, hN1]; rfl
                clear hN1 e5 HW2
                go_wp2_with (at_builtin; refine app1s rfl rfl slt_vers (v := .slice A3 xs.length c3) (cells := [.int .i64 v.tx, .int .i64 v.key, .int .i64 v.nth]) (by rfl) rfl hown3 rfl rfl (by omega) (by omega) (by omega) ?_; intro g' c' w4 hown4 hu4 hg4 hlt4)
                go_roundg (gk - 1)
                case measure => omega
                case rel =>
                  refine ⟨k + 1, some ⟨g', 0, none⟩, c', xs ++ [v], _, by omega, by go_num, by simp, Lib.hid (by rw [HS2.out]), by simp; omega, Lib.hid (Hm4.out.upd hu4 (fun e => by have := (hown3.lt _ e).1; omega)), HW3, ?_, HU3.out.then_ hu4 fun i e => .inr (by have := (hown3.lt i e).1; simp only [World.size_alloc]; omega)⟩
                  simpa [Ver.cells] using hown4
              · have HS2 := Lib.hid (show needsN i0 l (k + 1) = xs by rw [HS.out, if_neg (fun e => hN1 (HN0.out.2 e))])
                have HW2 := HWp.out
                rw [if_neg hN1] at HW2
                have HW3 := Lib.hid HW2
                have hb1 : ((N : Int) + 1 == 1) = false := by rw [beq_eq_false_iff_ne]; omega
                clear hN1 HW2
                go_wp2
                go_roundg (gk - 1)
                case measure => omega
                case rel => exact ⟨k + 1, A3, c3, xs, _, by omega, by go_num, rfl, Lib.hid (by rw [HS2.out]), by omega, Hm4, HW3, hown3, HU3.out⟩
    · obtain rfl : k = l.length := by omega
      have Hx := Lib.hid (show xs = needsL i0 l by rw [hxs.out]; rfl)
      clear hxs
      go_wp2
      go_ret
      exact ⟨A3, c3, by rw [Hx.out]; rfl, by rw [← Hx.out]; exact own_base hown (by omega), uT.trans hu⟩
end Go.Proofs.YtaicemjckagcaaaGreat

/- Whether all that a transaction needs is there. -/
namespace Go.Proofs.YtaicemjckagcaaaGreat
set_option linter.unusedVariables false
open Go.RowKit
/-- the box of a history -/
def HBox (w : World) (g : Nat) (h : Hist) : Prop := Blk w g 25 h.cells
set_option maxRecDepth 100000 in
theorem nd1 (F : Nat → Prop) (w : World) (h : Hist) (g : Nat) (v : Ver) (H : h.lies F w) (hg : HBox w g h) :
    Calls Tryz.prog 180 #[.agg v.cells.toArray, .pointer (some ⟨g, 0, none⟩)] w fun e w' => e = .returned (.bool (!(hasB h.txs v))) ∧ Upd No w w' := by
  obtain ⟨txs, ords, A, c, B, d⟩ := h
  unfold HBox Hist.cells at hg
  obtain ⟨tx, key, nth⟩ := v
  unfold Ver.cells
  have uA := (Upd.refl No w).alloc (.cells #[.int .i64 tx, .int .i64 key, .int .i64 nth] 42)
  have g0 := (hg.upd uA id).cell 0
  have g1 := (hg.upd uA id).cell 1
  simp only [List.getElem?_cons_zero, List.getElem?_cons_succ] at g0 g1
  have hh := hhas F _ ⟨txs, ords, A, c, B, d⟩ ⟨tx, key, nth⟩ (H.upd uA (fun _ _ => id))
  obtain ⟨b, hb⟩ : ∃ b, hasB txs ⟨tx, key, nth⟩ = b := ⟨_, rfl⟩
  rw [show hasB (Hist.txs ⟨txs, ords, A, c, B, d⟩) ⟨tx, key, nth⟩ = b from hb] at hh
  have HH := Lib.hid hh
  have Hb := Lib.hid hb
  clear hh hb
  go_enter Tryz.func180, Tryz.ntmps180
  go_wp2_with fail
  refine (HH.out).mono ?_
  rintro e w1 ⟨rfl, hu1⟩
  go_wp2
  go_ret
  exact ⟨by rw [show hasB (Hist.txs ⟨txs, ords, A, c, B, d⟩) ⟨tx, key, nth⟩ = b from Hb.out]; rfl, uA.trans hu1⟩
/-- where the first version stands that is not there -/
def posN (txs : List HTx) (l : List Ver) : Nat := l.findIdx fun v => !(hasB txs v)
def idxN (txs : List HTx) (l : List Ver) : Int := if posN txs l < l.length then (posN txs l : Int) else -1
theorem posN_hit {txs : List HTx} {l : List Ver} {k : Nat} (hk : k < l.length) (h : ∀ (j : Nat) (hj : j < k), hasB txs (l[j]'(by omega)) = true) (h1 : hasB txs l[k] = false) : posN txs l = k := by
  unfold posN
  rw [List.findIdx_eq hk]
  refine ⟨by rw [h1]; rfl, fun j hj => by simp only [h j hj]; rfl⟩
theorem posN_miss {txs : List HTx} {l : List Ver} (h : ∀ (j : Nat) (hj : j < l.length), hasB txs l[j] = true) : posN txs l = l.length := by
  unfold posN
  rw [List.findIdx_eq_length]
  intro x hx
  obtain ⟨k, hk, rfl⟩ := List.mem_iff_getElem.1 hx
  simp only [h k hk]; rfl
theorem idxN_all (txs : List HTx) (l : List Ver) : decide (idxN txs l ≥ 0) = !(l.all (hasB txs)) := by
  by_cases h : l.all (hasB txs) = true
  · have hm : posN txs l = l.length := posN_miss fun j hj => by
      rw [List.all_eq_true] at h
      exact h _ (List.getElem_mem hj)
    unfold idxN
    rw [hm, if_neg (by omega), h]; decide
  · have hf : l.all (hasB txs) = false := by simpa using h
    have hm : posN txs l < l.length := by
      unfold posN
      rw [List.findIdx_lt_length]
      rw [List.all_eq_false] at hf
      obtain ⟨x, hx, hn⟩ := hf
      exact ⟨x, hx, by simpa using hn⟩
    unfold idxN
    rw [if_pos hm, hf]
    simp
set_option maxRecDepth 100000 in
theorem nfind (F G : Nat → Prop) (w : World) (A : Option Addr) (d : Nat) (l : List Ver) (h : Hist) (g : Nat) (L : Vers G w A l) (H : h.lies F w) (hg : HBox w g h) (hl : l.length ≤ 4398046511103) :
    Calls Tryz.prog 217 #[.slice A l.length d, .func (.func 180) #[] #[.pointer (some ⟨g, 0, none⟩)]] w fun e w' => e = .returned (.int .i64 (idxN h.txs l)) ∧ Upd No w w' := by
  go_enter Tryz.func217, Tryz.ntmps217
  go_wp2
  go_loopg [8] l.length (fun gk s wr => ∃ k : Nat, k + gk = l.length ∧ s = .int .i64 k ∧ Hid (∀ (j : Nat) (hj : j < l.length), j < k → hasB h.txs l[j] = true) ∧ Upd No w wr)
  case atStart => exact ⟨0, by omega, rfl, Lib.hid (fun j _ hj => by omega), Upd.refl _ _⟩
  case round =>
    obtain ⟨k, hgk, rfl, hall, hu⟩ := hrel
    by_cases hlt : k < l.length
    · have hk' : k < (l.map Ver.cells).length := by simpa using hlt
      obtain ⟨ad, hB, _, _, hc⟩ := Recs.at_ (Recs.upd L hu (fun _ _ => id)) hk'
      rw [List.getElem_map] at hc
      obtain ⟨x, hx⟩ : ∃ x, l[k] = x := ⟨_, rfl⟩
      rw [hx] at hc
      have c0 : wr.cell? (ad.add (k * 3)) = some (.int .i64 x.tx) := by simpa using hc 0 _ rfl
      have c1 : wr.cell? ⟨(ad.add (k * 3)).block, (ad.add (k * 3)).off + 1, none⟩ = some (.int .i64 x.key) := by simpa using hc 1 _ rfl
      have c2 : wr.cell? ⟨(ad.add (k * 3)).block, (ad.add (k * 3)).off + 2, none⟩ = some (.int .i64 x.nth) := by simpa using hc 2 _ rfl
      subst hB
      have X := Lib.hid hx
      have b2 : (k : Int) < (l.length : Int) := by omega
      have b1 : (0 : Int) ≤ (k : Int) := Int.natCast_nonneg _
      clear hx hc hk'
      have hn := nd1 F wr h g x (H.upd hu (fun _ _ => id)) (hg.upd hu id)
      cases he : hasB h.txs x
      · have hpos := Lib.hid (show idxN h.txs l = (k : Int) by unfold idxN; rw [posN_hit (txs := h.txs) (l := l) hlt (fun j hj => hall.out j (by omega) hj) (by rw [X.out]; exact he), if_pos hlt])
        rw [he] at hn
        have HN := Lib.hid hn
        clear he hn
        go_wp2_with fail
        refine (HN.out).mono ?_
        rintro e w1 ⟨rfl, hu1⟩
        go_wp2
        go_ret
        exact ⟨by rw [hpos.out]; rfl, hu.trans hu1⟩
      · rw [he] at hn
        have HN := Lib.hid hn
        have He := Lib.hid he
        clear he hn
        go_wp2_with fail
        refine (HN.out).mono ?_
        rintro e w1 ⟨rfl, hu1⟩
        go_wp2
        go_roundg (gk - 1)
        case measure => omega
        case rel => exact ⟨k + 1, by omega, by go_num, Lib.hid (fun j hj hjk => by
            by_cases e : j = k
            · subst e; rw [X.out]; exact He.out
            · exact hall.out j hj (by omega)), hu.trans hu1⟩
    · obtain rfl : k = l.length := by omega
      have hpos := Lib.hid (show idxN h.txs l = -1 by unfold idxN; rw [posN_miss (txs := h.txs) (l := l) fun j hj => hall.out j hj hj, if_neg (by omega)])
      go_wp2
      go_ret
      exact ⟨by rw [hpos.out]; rfl, hu⟩
set_option maxRecDepth 100000 in
theorem ncont (F G : Nat → Prop) (w : World) (A : Option Addr) (d : Nat) (l : List Ver) (h : Hist) (g : Nat) (L : Vers G w A l) (H : h.lies F w) (hg : HBox w g h) (hl : l.length ≤ 4398046511103) :
    Calls Tryz.prog 179 #[.slice A l.length d, .func (.func 180) #[] #[.pointer (some ⟨g, 0, none⟩)]] w fun e w' => e = .returned (.bool (!(l.all (hasB h.txs)))) ∧ Upd No w w' := by
  have hq := idxN_all h.txs l
  have hf := nfind F G w A d l h g L H hg hl
  obtain ⟨b, hb⟩ : ∃ b, l.all (hasB h.txs) = b := ⟨_, rfl⟩
  obtain ⟨i, hi⟩ : ∃ i, idxN h.txs l = i := ⟨_, rfl⟩
  rw [hb, hi] at hq
  rw [hi] at hf
  rw [hb]
  have HF := Lib.hid hf
  clear hf hb hi
  cases b
  · have hi0 : 0 ≤ i := by simpa using hq
    clear hq
    go_enter Tryz.func179, Tryz.ntmps179
    go_wp2_with fail
    refine (HF.out).mono ?_
    rintro e w1 ⟨rfl, hu1⟩
    go_wp2
    go_ret
    exact ⟨rfl, hu1⟩
  · have hi0 : decide (0 ≤ i) = false := by simpa using hq
    clear hq
    go_enter Tryz.func179, Tryz.ntmps179
    go_wp2_with fail
    refine (HF.out).mono ?_
    rintro e w1 ⟨rfl, hu1⟩
    go_wp2
    go_ret
    exact ⟨rfl, hu1⟩
theorem ver_new {w w' : World} {l : List Ver} {A : Option Addr} {c : Nat} (h : w'.ownsRow w.heap.size 42 3 (.slice A l.length c) l.length (l.map Ver.cells).flatten) : Vers (fun i => w.heap.size ≤ i) w' A l := by
  have h2 := Recs.of_own (n := l.length) (c := c) vers_len (by omega) h
  exact Recs.weak h2 fun i _ hi => (h.lt i hi).1
set_option maxRecDepth 100000 in
theorem hneeded (F : Nat → Prop) (w : World) (h : Hist) (i0 : Int) (dn : Bool) (A : Option Addr) (c : Nat) (l : List HOp) (H : h.lies F w) (hA : HOps F w A l) (hl : fewOps l.length) :
    Calls Tryz.prog 141 #[h.val, .agg #[.int .i64 i0, .bool dn, .slice A l.length c]] w fun e w' => e = .returned (.bool (neededB h.txs i0 l)) ∧ Upd No w w' := by
  have hle := needsN_le i0 l l.length
  obtain ⟨txs, ords, A', c', B, d⟩ := h
  have uu := ((Upd.refl No w).alloc (.cells #[.slice A' txs.length c', .slice B ords.length d] 25)).alloc (.cells #[.int .i64 i0, .bool dn, .slice A l.length c] 47)
  have hb : HBox ((w.alloc (.cells #[.slice A' txs.length c', .slice B ords.length d] 25)).alloc (.cells #[.int .i64 i0, .bool dn, .slice A l.length c] 47)) w.heap.size ⟨txs, ords, A', c', B, d⟩ := (Blk.new w _ _).alloc _
  have HB := Lib.hid hb
  have hA' := hA.upd uu (fun _ _ => id)
  obtain ⟨ns, hns⟩ : ∃ ns, needsL i0 l = ns := ⟨_, rfl⟩
  have htn := tneeds F _ i0 dn A c l hA' hl
  rw [hns] at htn
  have hns' : (needsN i0 l l.length) = ns := hns
  rw [hns'] at hle
  unfold fewOps at hl
  have HT := Lib.hid htn
  have HV := Lib.hid (show neededB txs i0 l = ns.all (hasB txs) by unfold neededB; rw [hns])
  clear hb hA' htn hns hns'
  unfold Hist.val
  go_enter Tryz.func141, Tryz.ntmps141
  go_wp2_with fail
  refine (HT.out).mono ?_
  rintro e w1 ⟨A1, c1, rfl, ho1, hu1⟩
  have hv1 := ver_new ho1
  have H1 := (H.upd (uu.trans hu1) (fun _ _ => id))
  have hc := ncont F _ w1 A1 c1 ns ⟨txs, ords, A', c', B, d⟩ w.heap.size hv1 H1 (HB.out.upd hu1 id) (by omega)
  obtain ⟨b, hb⟩ : ∃ b, ns.all (hasB txs) = b := ⟨_, rfl⟩
  rw [show ns.all (hasB (Hist.txs ⟨txs, ords, A', c', B, d⟩)) = b from hb] at hc
  have HC := Lib.hid hc
  have Hb := Lib.hid hb
  have HU := Lib.hid (uu.trans hu1)
  clear hc hb hv1 H1 ho1 hu1 uu
  go_wp2_with fail
  refine (HC.out).mono ?_
  rintro e w2 ⟨rfl, hu2⟩
  go_wp2
  go_ret
  exact ⟨by rw [show neededB (Hist.txs ⟨txs, ords, A', c', B, d⟩) i0 l = b from HV.out.trans Hb.out]; rfl, HU.out.trans hu2⟩
end Go.Proofs.YtaicemjckagcaaaGreat
