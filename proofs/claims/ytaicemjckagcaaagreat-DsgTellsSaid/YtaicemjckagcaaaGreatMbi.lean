/- Who writes each key. -/
import Derived.Test.YtaicemjckagcaaaGreatMaj
import Derived.Test.YtaicemjckagcaaaGreatMan
import Derived.Test.YtaicemjckagcaaaGreatMbg
namespace Go.Proofs.YtaicemjckagcaaaGreat
set_option linter.unusedVariables false
open Go.RowKit
/-- block b is a map of slices of numbers of the call's own, each in a block of its own -/
structure MapSl (w : World) (base b : Nat) (m : List (Int × Value)) (f : Int → List Int) : Prop where
  is : MapIs w b (fun n : Int => Value.int .i64 n) m
  row : ∀ key, ∃ A c, (mget m key).getD (.slice none 0 0) = .slice A (f key).length c ∧ w.ownsRow base 3 1 (.slice A (f key).length c) (f key).length ((f key).map (Value.int .i64))
  apart : ∀ k1 k2, k1 ≠ k2 → ∀ i, Own ((mget m k1).getD (.slice none 0 0)) i → ¬ Own ((mget m k2).getD (.slice none 0 0)) i
theorem MapSl.upd {S : Nat → Prop} {w w' : World} {base b : Nat} {m : List (Int × Value)} {f : Int → List Int} (h : MapSl w base b m f) (k : Upd S w w') (hb : ¬ S b) (hS : ∀ i, base ≤ i → i < w.heap.size → ¬ S i) : MapSl w' base b m f := by
  refine ⟨h.is.upd k hb, fun key => ?_, h.apart⟩
  obtain ⟨A, c, h1, h2⟩ := h.row key
  exact ⟨A, c, h1, own_upd h2 k fun i hi => by have := h2.lt i hi; exact hS i this.1 this.2⟩
theorem MapSl.new {w : World} {base b : Nat} (h : MapIs w b (fun n : Int => Value.int .i64 n) []) : MapSl w base b [] fun _ => [] :=
  ⟨h, fun _ => ⟨none, 0, rfl, World.ownsRow_nil _ _ _ _⟩, fun _ _ _ i hi => by simp [mget_nil, Own, Value.ownBlock] at hi⟩
theorem MapSl.congr {w : World} {base b : Nat} {m : List (Int × Value)} {f g : Int → List Int} (h : MapSl w base b m f) (hfg : ∀ key, f key = g key) : MapSl w base b m g := by
  have : f = g := funext hfg
  rw [← this]; exact h
/-- one more number behind a key's: the slice was appended to, then stored -/
theorem MapSl.put {w w1 w2 : World} {base b : Nat} {m : List (Int × Value)} {f : Int → List Int} {key x : Int} {A A' : Option Addr} {c c' : Nat} (h : MapSl w base b m f)
    (hA : (mget m key).getD (.slice none 0 0) = .slice A (f key).length c) (hb : b < base)
    (hown : w1.ownsRow base 3 1 (.slice A' ((f key).length + 1) c') ((f key).length + 1) ((f key ++ [x]).map (Value.int .i64)))
    (hu1 : Upd (Own (.slice A (f key).length c)) w w1) (hg : ∀ i, Own (.slice A' ((f key).length + 1) c') i → Own (.slice A (f key).length c) i ∨ w.heap.size ≤ i)
    (hm2 : MapIs w2 b (fun n : Int => Value.int .i64 n) (mput m key (.slice A' ((f key).length + 1) c'))) (hu2 : Upd (One b) w1 w2) :
    MapSl w2 base b (mput m key (.slice A' ((f key).length + 1) c')) (fun k => if k = key then f key ++ [x] else f k) := by
  have hB : ∀ i, base ≤ i → ¬ One b i := fun i hi e => by cases e; omega
  refine ⟨hm2, fun k => ?_, fun k1 k2 hne i hi hi2 => ?_⟩
  · by_cases hk : k = key
    · subst hk
      simp only [if_true]
      refine ⟨A', c', by rw [mget_same]; simp, ?_⟩
      have := own_upd hown hu2 fun i hi => hB i (hown.lt i hi).1
      simpa using this
    · simp only [if_neg hk]
      obtain ⟨B, d, h1, h2⟩ := h.row k
      refine ⟨B, d, by rw [mget_other _ _ hk]; exact h1, own_upd (own_upd h2 hu1 fun i hi e => ?_) hu2 fun i hi => hB i (h2.lt i hi).1⟩
      exact h.apart k key hk i (by rw [h1]; exact hi) (by rw [hA]; exact e)
  · by_cases e1 : k1 = key
    · subst e1
      have hne2 : k2 ≠ k1 := fun e => hne e.symm
      rw [mget_same] at hi
      rw [mget_other _ _ hne2] at hi2
      rcases hg i hi with hi | hi
      · exact h.apart k1 k2 hne i (by rw [hA]; exact hi) hi2
      · obtain ⟨B, d, h1, h2⟩ := h.row k2
        rw [h1] at hi2
        have := (h2.lt i hi2).2
        omega
    · rw [mget_other _ _ e1] at hi
      by_cases e2 : k2 = key
      · subst e2
        rw [mget_same] at hi2
        rcases hg i hi2 with hi2 | hi2
        · exact h.apart k1 k2 hne i hi (by rw [hA]; exact hi2)
        · obtain ⟨B, d, h1, h2⟩ := h.row k1
          rw [h1] at hi
          have := (h2.lt i hi).2
          omega
      · rw [mget_other _ _ e2] at hi2
        exact h.apart k1 k2 hne i hi hi2
theorem addK_append (s a b : List Int) : addK s (a ++ b) = addK (addK s a) b := by
  induction a generalizing s with
  | nil => rfl
  | cons x a ih => exact ih _
theorem addK_keys (m : List (Int × Value)) (key : Int) (v : Value) (s ks : List Int) (h : m.map (·.1) = addK s ks) : (mput m key v).map (·.1) = addK s (ks ++ [key]) := by
  rw [mput_keys, addK_append, h]
  rfl
theorem wkeys_append (a b : List HTx) (s : List Int) : wkeys (a ++ b) s = wkeys b (wkeys a s) := by
  induction a generalizing s with
  | nil => rfl
  | cons x a ih => exact ih _
theorem wkeys_succ {txs : List HTx} {k : Nat} {x : HTx} (hk : k < txs.length) (hx : txs[k] = x) : wkeys (txs.take (k + 1)) [] = if x.done then addK (wkeys (txs.take k) []) (keysW x.ops) else wkeys (txs.take k) [] := by
  subst hx
  rw [List.take_succ_eq_append_getElem hk, wkeys_append]
  rfl
theorem writers_succ {txs : List HTx} {k : Nat} {x : HTx} (hk : k < txs.length) (hx : txs[k] = x) (key : Int) : writersOf (txs.take (k + 1)) key = writersOf (txs.take k) key ++ if x.done = true ∧ key ∈ keysW x.ops then [x.id] else [] := by
  subst hx
  unfold writersOf
  rw [List.take_succ_eq_append_getElem hk, List.filter_append, List.map_append]
  congr 1
  by_cases h : txs[k].done = true ∧ key ∈ keysW txs[k].ops
  · rw [if_pos h, List.filter_cons_of_pos (by rw [h.1]; simpa using h.2)]
    rfl
  · rw [if_neg h, List.filter_cons_of_neg (by
      intro e
      simp only [Bool.and_eq_true, List.contains_iff_mem] at e
      exact h e)]
    rfl
/-- the map that the writers are told by: behind k transactions, and j keys of the next one -/
def wrF (txs : List HTx) (k : Nat) (id : Int) (ks : List Int) (key : Int) : List Int := writersOf (txs.take k) key ++ if key ∈ ks then [id] else []
theorem wrF_put (txs : List HTx) (k : Nat) (id key : Int) (ks : List Int) (hn : key ∉ ks) (u : Int) : (if u = key then wrF txs k id ks key ++ [id] else wrF txs k id ks u) = wrF txs k id (ks ++ [key]) u := by
  unfold wrF
  by_cases h : u = key
  · subst h
    rw [if_pos rfl, if_neg hn, if_pos (by simp), List.append_nil]
  · rw [if_neg h]
    congr 1
    simp [h]
theorem wrF_nil (txs : List HTx) (k : Nat) (id u : Int) : writersOf (txs.take k) u = wrF txs k id [] u := by unfold wrF; simp
theorem writers_le (txs : List HTx) (key : Int) : (writersOf txs key).length ≤ txs.length := by
  unfold writersOf; rw [List.length_map]; exact List.length_filter_le _ _
theorem wrF_le (txs : List HTx) (k : Nat) (id : Int) (ks : List Int) (key : Int) : (wrF txs k id ks key).length ≤ k + 1 := by
  unfold wrF
  rw [List.length_append]
  have h1 := writers_le (txs.take k) key
  have h2 := List.length_take_le k txs
  split <;> simp <;> omega
theorem zeroSl (w : World) : (zeroValue 72).run Tryz.prog w = .ok (.slice none 0 0) w := by kernel_rfl
/-- what telling the writers leaves -/
def Writ (w : World) (txs : List HTx) (e : Ending) (w' : World) : Prop := ∃ b m, e = .returned (.map (some b)) ∧ w.heap.size ≤ b ∧ b < w.heap.size + 2 ∧ m.map (·.1) = wkeys txs [] ∧ MapSl w' (w.heap.size + 2) b m (writersOf txs) ∧ Upd No w w'
/-- the map's slices lie neither in that block nor in that slice's -/
def Apart (m : List (Int × Value)) (g : Nat) (v : Value) : Prop := ∀ key i, Own ((mget m key).getD (.slice none 0 0)) i → i ≠ g ∧ ¬ Own v i
theorem Apart.put {m : List (Int × Value)} {g z : Nat} {v old new : Value} {key : Int} (h : Apart m g v) (ho : (mget m key).getD (.slice none 0 0) = old) (hn : ∀ i, Own new i → Own old i ∨ z ≤ i) (hg : g < z) (hv : ∀ i, Own v i → i < z) : Apart (mput m key new) g v := fun k i hi => by
  by_cases e : k = key
  · subst e
    rw [mget_same] at hi
    rcases hn i hi with h1 | h1
    · exact h k i (by rw [ho]; exact h1)
    · exact ⟨by omega, fun h2 => by have := hv i h2; omega⟩
  · rw [mget_other _ _ e] at hi
    exact h k i hi
theorem MapSl.block_lt {w : World} {base b : Nat} {m : List (Int × Value)} {f : Int → List Int} (h : MapSl w base b m f) (key : Int) (i : Nat) (hi : Own ((mget m key).getD (.slice none 0 0)) i) : base ≤ i ∧ i < w.heap.size := by
  obtain ⟨A, c, h1, h2⟩ := h.row key
  rw [h1] at hi
  exact h2.lt i hi
set_option maxRecDepth 100000 in
set_option maxHeartbeats 4000000 in
theorem hwriters (F : Nat → Prop) (w : World) (h : Hist) (H : h.lies F w) (hs : h.txs.length ≤ 4096) : Calls Tryz.prog 142 #[h.val] w (Writ w h.txs) := by
  obtain ⟨txs, ords, A, c, B, d⟩ := h
  simp only at hs
  unfold Hist.val
  have uH := (Upd.refl No w).alloc (.cells #[.slice A txs.length c, .slice B ords.length d] 25)
  have hmm := @run_makeMap Tryz.prog
  have hn0 := MapIs.new (α := Int) (w.alloc (.cells #[.slice A txs.length c, .slice B ords.length d] 25)) (fun n : Int => Value.int .i64 n)
  simp only [World.size_alloc] at hn0
  have HN := Lib.hid (MapSl.new (base := w.heap.size + 2) hn0)
  clear hn0
  go_enter Tryz.func142, Tryz.ntmps142
  go_wp2
  go_loopg [12] txs.length (fun gk i wr => ∃ (k : Nat) (m : List (Int × Value)), k + gk = txs.length ∧ i = .int .i64 k ∧ Hid (MapSl wr (w.heap.size + 2) (w.heap.size + 1) m (writersOf (txs.take k))) ∧ Hid (m.map (·.1) = wkeys (txs.take k) []) ∧
    Upd No (w.alloc (.cells #[.slice A txs.length c, .slice B ords.length d] 25)) wr)
  case atStart => exact ⟨0, [], by omega, rfl, Lib.hid HN.out, Lib.hid rfl, (Upd.refl No _).alloc _⟩
  case round =>
    obtain ⟨k, m, hgk, rfl, hm, hk, hu⟩ := hrel
    clear hmm
    by_cases hlt : k < txs.length
    · have H1 := H.upd (uH.trans hu) (fun _ _ => id)
      obtain ⟨ad, hAd, q0, q1, q2⟩ := H1.tx_at hlt
      simp only at hAd q0 q1 q2
      have hx1 := H1.tx txs[k] (List.getElem_mem hlt)
      obtain ⟨x, hx⟩ : ∃ x, txs[k] = x := ⟨_, rfl⟩
      rw [hx] at q0 q1 q2 hx1
      subst hAd
      have X := Lib.hid hx
      have XL := Lib.hid hx1
      have b1 : (0 : Int) ≤ (k : Int) := Int.natCast_nonneg _
      have b2 : (k : Int) < (txs.length : Int) := by omega
      have uA := (Upd.refl No wr).alloc (.cells #[.int .i64 x.id, .bool x.done, .slice x.A x.ops.length x.c] 47)
      have bo := Lib.hid (Blk.new wr 47 [.int .i64 x.id, .bool x.done, .slice x.A x.ops.length x.c])
      have hm1 := Lib.hid (hm.out.upd uA id (fun _ _ _ => id))
      clear hx hx1 H1
      cases hd : x.done
      · rw [hd] at q1 uA bo
        have HS := Lib.hid (show wkeys (txs.take (k + 1)) [] = wkeys (txs.take k) [] by rw [wkeys_succ hlt X.out, hd]; rfl)
        have HW := Lib.hid (show ∀ key, writersOf (txs.take k) key = writersOf (txs.take (k + 1)) key from fun key => by rw [writers_succ hlt X.out, hd]; simp)
        have hm2 := Lib.hid ((hm.out.upd uA id (fun _ _ _ => id)).congr HW.out)
        clear hd
        go_wp2
        go_roundg (gk - 1)
        case measure => omega
        case rel => exact ⟨k + 1, m, by omega, by go_num, hm2, Lib.hid (by rw [HS.out]; exact hk.out), hu.trans uA⟩
      · rw [hd] at q1 uA bo
        have HS := Lib.hid (show wkeys (txs.take (k + 1)) [] = addK (wkeys (txs.take k) []) (keysW x.ops) by rw [wkeys_succ hlt X.out, hd]; rfl)
        have HW := Lib.hid (show ∀ key, writersOf (txs.take (k + 1)) key = wrF txs k x.id (keysW x.ops) key from fun key => by rw [writers_succ hlt X.out, hd]; unfold wrF; simp)
        have hm2 := Lib.hid ((hm.out.upd uA id (fun _ _ _ => id)).congr (wrF_nil txs k x.id))
        clear hd
        have hkk := kKeys F _ x.id true x.A x.c x.ops (HOps.upd XL.out.1 uA (fun _ _ => id)) XL.out.2.2.1
        obtain ⟨ks, hks⟩ : ∃ ks, keysW x.ops = ks := ⟨_, rfl⟩
        rw [hks] at hkk
        have HK := Lib.hid hkk
        have HKS := Lib.hid hks
        have hnd := Lib.hid (show ks.Pairwise (· < ·) by rw [← hks]; exact setK_lt _)
        have hkl : ks.length ≤ x.ops.length := by rw [← hks]; exact Nat.le_trans (setK_len _) (keysOf_le _ _)
        have hxl := XL.out.2.2.1
        unfold fewOps at hxl
        clear hkk hks
        go_wp2_with fail
        refine (HK.out).mono ?_
        rintro e w1 ⟨A1, c1, rfl, ho1, hu1⟩
        have hm3 := Lib.hid (hm2.out.upd hu1 id (fun _ _ _ => id))
        have bo1 := Lib.hid (bo.out.upd hu1 id)
        have Ho1 := Lib.hid ho1
        have hz1 := uA.size
        have hz2 := hu1.size
        have hz3 := hu.size
        have hz4 := hm.out.is.lt
        simp only [World.size_alloc] at hz1 hz2 hz3
        have HUA := Lib.hid ((hu.trans uA).trans hu1)
        have hap : Apart m wr.heap.size (.slice A1 ks.length c1) := fun key i hi => by
          have h1 := hm.out.block_lt key i hi
          refine ⟨by omega, fun h2 => ?_⟩
          have h3 := (ho1.lt i h2).1
          simp only [World.size_alloc] at h3
          omega
        have Hap := Lib.hid hap
        clear hap ho1 hu1 uA
        have hoB := own_base (b2 := wr.heap.size + 1) Ho1.out (by simp)
        clear Ho1
        go_wp2
        generalize wr.heap.size = z5 at *
        generalize gk = GK at *
        go_loopg [22] ks.length (fun gj i wj => ∃ (j : Nat) (mj : List (Int × Value)), j + gj = ks.length ∧ i = .int .i64 j ∧ Hid (MapSl wj (w.heap.size + 2) (w.heap.size + 1) mj (wrF txs k x.id (ks.take j))) ∧
          Hid (mj.map (·.1) = addK (wkeys (txs.take k) []) (ks.take j)) ∧ Hid (Apart mj z5 (.slice A1 ks.length c1)) ∧ Hid (Blk wj z5 47 [.int .i64 x.id, .bool true, .slice x.A x.ops.length x.c]) ∧
          wj.ownsRow (z5 + 1) 3 1 (.slice A1 ks.length c1) ks.length (ks.map (Value.int .i64)) ∧ Upd No (w.alloc (.cells #[.slice (some ad) txs.length c, .slice B ords.length d] 25)) wj)
        case atStart => exact ⟨0, m, by omega, rfl, hm3, Lib.hid hk.out, Hap, bo1, hoB, HUA.out⟩
        case round =>
          obtain ⟨j, mj, hgj, rfl, hmj, hkj, hapj, boj, hoj, huj⟩ := hrel
          by_cases hltj : j < ks.length
          · have hI : Ints (fun i => z5 + 1 ≤ i) _ A1 ks := Ints.of_own hoj
            obtain ⟨ad1, hA1, _, _, c0⟩ := hI.at_ hltj
            obtain ⟨key, hkey⟩ : ∃ key, ks[j] = key := ⟨_, rfl⟩
            rw [hkey] at c0
            subst hA1
            have KE := Lib.hid hkey
            clear hkey hI
            have b3 : (j : Int) < (ks.length : Int) := by omega
            have b4 : (0 : Int) ≤ (j : Int) := Int.natCast_nonneg _
            obtain ⟨Ak, ck, hrow, howk⟩ := hmj.out.row key
            obtain ⟨fk, hfk⟩ : ∃ fk, wrF txs k x.id (ks.take j) key = fk := ⟨_, rfl⟩
            have hfl : fk.length ≤ k + 1 := by rw [← hfk]; exact wrF_le txs k x.id _ key
            rw [hfk] at hrow howk
            have e1 := run_look kbyint Tryz.underlying89 zeroSl hmj.out.is key
            rw [hrow] at e1
            have ob0 := boj.out.cell 0
            simp only [List.getElem?_cons_zero] at ob0
            have Hrow := Lib.hid hrow
            have Hfk := Lib.hid hfk
            have HP := Lib.hid (show ∀ u, (if u = key then wrF txs k x.id (ks.take j) key ++ [x.id] else wrF txs k x.id (ks.take j) u) = wrF txs k x.id (ks.take (j + 1)) u from fun u => by
              rw [List.take_succ_eq_append_getElem hltj, KE.out]
              refine wrF_put txs k x.id key (ks.take j) (fun hm => ?_) u
              rw [List.mem_take_iff_getElem] at hm
              obtain ⟨q, hq, e⟩ := hm
              have := List.pairwise_iff_getElem.1 hnd.out q j (by omega) (by omega) (by omega)
              rw [e, KE.out] at this
              exact Int.lt_irrefl _ this)
            have HKJ := Lib.hid (show ∀ v, (mput mj key v).map (·.1) = addK (wkeys (txs.take k) []) (ks.take (j + 1)) from fun v => by
              rw [List.take_succ_eq_append_getElem hltj, KE.out]
              exact addK_keys mj key v _ _ hkj.out)
            clear hrow hfk
            have hzj := huj.size
            simp only [World.size_alloc] at hzj
            have hob := boj.out.lt
            have hmi := Lib.hid hmj.out.is
            have hbl := hmi.out.lt
            go_wp2_with (first
              | (at_builtin; refine app1s rfl rfl slt_int (v := .slice Ak fk.length ck) (cells := [.int .i64 x.id]) (by rfl) rfl howk rfl rfl (by omega) (by omega) (by omega) ?_; intro g' c' w4 hown4 hu4 hg4 hlt4)
              | (at_mapUpdate; refine mapput rfl rfl kbyint Tryz.underlying89 (a := key) (val := .slice (some ⟨g', 0, none⟩) (fk.length + 1) c') (by rfl) (by rfl) (by rfl) (hmi.out.upd hu4 (fun e => by have := (howk.lt _ e).1; omega)) ?_; intro w5 hm5 hu5))
            go_roundg (gk - 1)
            case measure => omega
            case rel =>
              have hbase : ∀ i, Own (.slice Ak fk.length ck) i → w.heap.size + 2 ≤ i ∧ i < _ := fun i hi => howk.lt i hi
              have hgn : ∀ i, Own (.slice (some ⟨g', 0, none⟩) (fk.length + 1) c') i → Own (.slice Ak fk.length ck) i ∨ _ ≤ i := fun i hi => by
                have e : g' = i := by simpa [Own, Value.ownBlock] using hi
                rw [← e]
                exact hg4
              have hput := hmj.out.put (key := key) (x := x.id) (A := Ak) (c := ck) (by rw [Hrow.out, Hfk.out]) (by omega) (by rw [Hfk.out]; simpa using hown4) (by rw [Hfk.out]; exact hu4) (by rw [Hfk.out]; exact hgn) (by rw [Hfk.out]; exact hm5) hu5
              refine ⟨j + 1, _, by omega, by go_num, Lib.hid (hput.congr (g := wrF txs k x.id (ks.take (j + 1))) HP.out), Lib.hid ?_, Lib.hid ?_, Lib.hid ?_, ?_, ?_⟩
              · rw [Hfk.out]; exact HKJ.out _
              · rw [Hfk.out]
                exact hapj.out.put Hrow.out hgn hob (fun i hi => (hoj.lt i hi).2)
              · exact (boj.out.upd hu4 (fun e => (hapj.out key z5 (by rw [Hrow.out]; exact e)).1 rfl)).upd hu5 (fun e => by cases e; omega)
              · exact own_upd (own_upd hoj hu4 (fun i hi e => (hapj.out key i (by rw [Hrow.out]; exact e)).2 hi)) hu5 (fun i hi e => by have := (hoj.lt i hi).1; cases e; omega)
              · exact (huj.then_ hu4 fun i e => .inr (by have := (hbase i e).1; simp only [World.size_alloc]; omega)).then_ hu5 fun i e => .inr (by cases e; simp)
          · obtain rfl : j = ks.length := by omega
            have hmf := Lib.hid ((show MapSl _ (w.heap.size + 2) (w.heap.size + 1) mj (wrF txs k x.id ks) by have := hmj.out; rwa [List.take_length] at this).congr (g := writersOf (txs.take (k + 1))) (fun key => by rw [HW.out, HKS.out]))
            have hkf := Lib.hid (show mj.map (·.1) = wkeys (txs.take (k + 1)) [] by rw [HS.out, HKS.out]; have := hkj.out; rwa [List.take_length] at this)
            clear hoj
            go_wp2
            go_roundg (GK - 1)
            case measure => omega
            case rel => exact ⟨k + 1, mj, by omega, by go_num, hmf, hkf, huj⟩
    · obtain rfl : k = txs.length := by omega
      have hmf := Lib.hid (show MapSl _ (w.heap.size + 2) (w.heap.size + 1) m (writersOf txs) by have := hm.out; rwa [List.take_length] at this)
      have hkf := Lib.hid (show m.map (·.1) = wkeys txs [] by have := hk.out; rwa [List.take_length] at this)
      go_wp2
      go_ret
      exact ⟨w.heap.size + 1, m, rfl, by omega, by omega, hkf.out, hmf.out, uH.trans hu⟩
end Go.Proofs.YtaicemjckagcaaaGreat
