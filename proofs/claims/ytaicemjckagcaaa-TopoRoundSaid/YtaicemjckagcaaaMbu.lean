/- Closed walks: the first of the shortest. -/
import Derived.Test.YtaicemjckagcaaaMan
import Derived.Test.YtaicemjckagcaaaMbt
namespace Go.Proofs.Ytaicemjckagcaaa
set_option linter.unusedVariables false
open Go.RowKit
/-- what is told of the first of the shortest closed walks -/
def ToldC (w : World) (d : List Edge) (e : Ending) (w' : World) : Prop :=
  ∃ A c, e = .returned (.tuple #[.slice A d.length c, .int .i64 (if d.length = 0 then 3 else 0)]) ∧ w'.ownsRow w.heap.size 33 4 (.slice A d.length c) d.length (edgesF d) ∧ Upd No w w'
set_option maxRecDepth 100000 in
set_option maxHeartbeats 8000000 in
theorem cShortest (F : Nat → Prop) (w : World) (A : Option Addr) (c : Nat) (l : List Edge) (mask must : Int) (hW : Walk F w A l) (hl : l.length ≤ 2000) :
    Calls Try.prog 18 #[.slice A l.length c, .int .i64 mask, .int .i64 must] w (ToldC w (docS l mask must)) := by
  obtain ⟨ma, hma⟩ : ∃ ma, bits .and .i64 mask 14 = ma := ⟨_, rfl⟩
  obtain ⟨mu, hmu⟩ : ∃ mu, bits .and .i64 must 14 = mu := ⟨_, rfl⟩
  obtain ⟨wb, hwb⟩ : ∃ wb, (w.alloc (.cells #[.int .i64 mask] 3)).setCell ⟨w.heap.size, 0, none⟩ (.int .i64 ma) = wb := ⟨_, rfl⟩
  have u0 : Upd No w wb := by rw [← hwb]; exact ((Upd.refl No w).alloc _).then_ ((Upd.refl (One w.heap.size) _).setOne 0 _) (fun i e => .inr (by unfold One at e; omega))
  have hsz : wb.heap.size = w.heap.size + 1 := by rw [← hwb]; simp
  have bM : Blk wb w.heap.size 3 [.int .i64 ma] := by rw [← hwb]; exact (Blk.new w 3 [.int .i64 mask]).set_ 0 (.int .i64 ma)
  have qT : ∀ (w : World) (a : Option Addr) (n c : Nat), (binOp .eql 36 (.slice a n c) (.slice none 0 0)).run Try.prog w = .ok (.bool a.isNone) w := fun w a n c => Lib.run_eql_slice_nil w _ _ a n c 0 0 Try.underlying36
  have hneed : (mu != 0) = needR must := by rw [← hmu]; exact need14 must
  obtain ⟨need, hnd⟩ : ∃ need, needR must = need := ⟨_, rfl⟩
  rw [hnd] at hneed
  obtain ⟨D, hD⟩ : ∃ D, keptE l mask = D := ⟨_, rfl⟩
  have hDl : D.length ≤ 2000 := by rw [← hD]; exact Nat.le_trans (List.length_filter_le _ _) hl
  have hgl : goodL l ma = D := by rw [← hma, kept_good, hD]
  obtain ⟨ids, hids⟩ : ∃ ids, idsE D = ids := ⟨_, rfl⟩
  obtain ⟨keys, hkeys⟩ : ∃ keys, keysE D = keys := ⟨_, rfl⟩
  have hsi : ids.Pairwise (· < ·) := by rw [← hids]; exact setK_lt _
  have hsk : keys.Pairwise (· < ·) := by rw [← hkeys]; exact setK_lt _
  have hil : ids.length ≤ 4096 := by
    have h1 := setK_len (idsL D)
    rw [idsL_len] at h1
    have h2 : (idsE D).length ≤ 2 * D.length := h1
    rw [hids] at h2
    omega
  have hkl : keys.length ≤ 100000 := by
    have h1 := setK_len (D.map Edge.key)
    rw [List.length_map] at h1
    have h2 : (keysE D).length ≤ D.length := h1
    rw [hkeys] at h2
    omega
  have hne : D ≠ [] → ids ≠ [] ∧ keys ≠ [] := by
    intro h
    obtain ⟨e, m, rfl⟩ := List.exists_cons_of_ne_nil h
    have h1 := (idsE_mem (D := e :: m) (e := e) List.mem_cons_self).1
    have h2 := keysE_mem (D := e :: m) (e := e) List.mem_cons_self
    rw [hids] at h1
    rw [hkeys] at h2
    exact ⟨fun e2 => (by rw [e2] at h1; cases h1), fun e2 => (by rw [e2] at h2; cases h2)⟩
  obtain ⟨q, hq⟩ : ∃ q, arcsQ ids keys ids.length [] D = q := ⟨_, rfl⟩
  obtain ⟨ks, hks⟩ : ∃ ks : Int → Int, ks = fun i => if 0 ≤ i ∧ i < (ids.length : Int) then shortA (ofA ma q) mu i (anyD ids.length q ma i) (withF ids.length q ma mu i) need else 0 := ⟨_, rfl⟩
  obtain ⟨wf, hwf⟩ : ∃ wf : Int → List HArc, wf = fun i => walkC (ofA ma q) mu i (anyD ids.length q ma i) (withF ids.length q ma mu i) (ks i).toNat i need := ⟨_, rfl⟩
  have hks1 : ∀ i : Int, 0 ≤ i → i < (ids.length : Int) → ks i = shortA (ofA ma q) mu i (anyD ids.length q ma i) (withF ids.length q ma mu i) need := fun i h0 h1 => by rw [hks]; exact if_pos ⟨h0, h1⟩
  have hwf1 : ∀ i : Int, wf i = walkC (ofA ma q) mu i (anyD ids.length q ma i) (withF ids.length q ma mu i) (ks i).toNat i need := fun i => by rw [hwf]
  have hway : sortedA q → docS l mask must = (bestW ks wf ids.length).map (edgeA ids keys) ∧ ∀ a ∈ bestW ks wf ids.length, rightA ids.length a = true ∧ a.label < (keys.length : Int) := fun hs =>
    way_doc (by omega) ids keys (by rw [hD, hids]) (by rw [hD, hkeys]) (by rw [hD, hq]) hs ks wf (by rw [hma, hmu, hnd]; exact hks1) (fun i h0 h1 => by rw [hks]; exact if_neg (fun e => by omega)) (fun i h1 => by rw [hks]; exact if_neg (fun e => by omega)) (by rw [hma, hmu, hnd]; exact fun i _ _ => hwf1 i)
  obtain ⟨doc, hdoc⟩ : ∃ doc, docS l mask must = doc := ⟨_, rfl⟩
  rw [hdoc] at hway ⊢
  have HCl := Lib.hid (cclone F wb A c l (hW.upd u0 (fun _ _ => id)) (by omega))
  have m0 : ∀ W, Upd No wb W → W.cell? ⟨w.heap.size, 0, none⟩ = some (.int .i64 ma) := fun W u => by have := (bM.upd u id).cell 0; simpa using this
  have HDel := Lib.hid (fun (W : World) (A : Option Addr) (c : Nat) (u : Upd No wb W) (ho : W.ownsRow wb.heap.size 33 4 (.slice A l.length c) l.length (edgesF l)) => hgl ▸ cdelW W wb.heap.size A c l ⟨w.heap.size, 0, none⟩ ma ho (by omega) (m0 W u) (by show w.heap.size < wb.heap.size; omega))
  have HNm := Lib.hid (fun (W : World) (A : Option Addr) (c : Nat) (h : Walk (fun i => wb.heap.size ≤ i) W A D) => hkeys ▸ hids ▸ cnamed _ W A c D h (by omega))
  have HGr := Lib.hid (fun (W : World) (A : Option Addr) (c : Nat) (F0 F1 F2 : Nat → Prop) (h : Walk F0 W A D) (A1 A2 : Option Addr) (c1 c2 : Nat) (hA : Ints F1 W A1 ids) (hB : Ints F2 W A2 keys) => hq ▸ cgraph F0 F1 F2 W A c D h A1 A2 c1 c2 ids keys hA hB hsi hsk hne (by omega) hil hkl)
  have HWAY := Lib.hid hway
  have HKS1 := Lib.hid hks1
  have HWF1 := Lib.hid hwf1
  have U0 := Lib.hid u0
  have hrr : Upd No wb wb := Upd.refl _ _
  clear hW u0 bM hway hks1 hwf1 hks hwf hgl hD hids hkeys hsi hsk hne hq hnd hdoc
  go_enter Try.func18, Try.ntmps18
  go_wp2_with fail
  refine (HCl.out).mono ?_
  rintro e w1 ⟨A1, c1, rfl, ho1, hu1⟩
  have hu1' : Upd No wb w1 := hu1
  go_wp2_with fail
  refine (HDel.out w1 A1 c1 hu1' ho1).mono ?_
  rintro e w2 ⟨rfl, hw2, hu2⟩
  have HU2 := Lib.hid (hu1.then_ hu2 (fun i e => .inr (ho1.lt i e).1))
  have HW2 := Lib.hid hw2
  clear hu1 hu1' hu2 ho1 hw2 hwb hma hmu HCl HDel
  go_wp2_with fail
  refine (HNm.out w2 A1 c1 HW2.out).mono ?_
  rintro e w3 ⟨I1, d1, I2, d2, rfl, hi1, hi2, hu3⟩
  have hu23 := HU2.out.trans hu3
  obtain ⟨w4, hw4⟩ : ∃ w4, w3.alloc (.cells #[.slice I1 ids.length d1, .slice I2 keys.length d2] 106) = w4 := ⟨_, rfl⟩
  have u4 : Upd No w3 w4 := by rw [← hw4]; exact (Upd.refl No w3).alloc _
  have bN : Blk w4 w3.heap.size 106 [.slice I1 ids.length d1, .slice I2 keys.length d2] := by rw [← hw4]; exact Blk.new w3 _ _
  have s0 := bN.cell 0
  have s1 := bN.cell 1
  simp only [List.getElem?_cons_zero, List.getElem?_cons_succ] at s0 s1
  have HI1 := Lib.hid (hi1.upd u4 (fun _ _ => id))
  have HI2 := Lib.hid (hi2.upd u4 (fun _ _ => id))
  have HG4 := Lib.hid (HGr.out w4 A1 c1 _ _ _ (Recs.upd HW2.out (hu3.trans u4) (fun _ _ => id)) I1 I2 d1 d2 HI1.out HI2.out)
  have HU4 := Lib.hid (hu23.trans u4)
  have BN := Lib.hid bN
  clear hi1 hi2 hu3 hu23 u4 bN HNm HGr HU2 HW2
  go_wp2_with fail
  refine (HG4.out).mono ?_
  rintro e w5 ⟨G, g, K, rfl, hK, hdg, hu5⟩
  have HU5 := Lib.hid (HU4.out.trans hu5)
  have HDG := Lib.hid hdg
  have hr := hdg.right
  have hso := hdg.sorted
  have HR := Lib.hid hr
  have HSO := Lib.hid hso
  have HWY := Lib.hid (HWAY.out hso)
  have M0 : ∀ W, Upd No w5 W → W.cell? ⟨w.heap.size, 0, none⟩ = some (.int .i64 ma) := fun W u => m0 W (HU5.out.trans u)
  have N0 : ∀ W, Upd No w5 W → W.cell? ⟨w3.heap.size, 0, none⟩ = some (.slice I1 ids.length d1) := fun W u => by have := (BN.out.upd (hu5.trans u) id).cell 0; simpa using this
  have N1 : ∀ W, Upd No w5 W → W.cell? ⟨w3.heap.size, 1, none⟩ = some (.slice I2 keys.length d2) := fun W u => by have := (BN.out.upd (hu5.trans u) id).cell 1; simpa using this
  have HEd := Lib.hid (fun (W : World) (u : Upd No w5 W) (a : HArc) (ha : rightA ids.length a = true ∧ a.label < (keys.length : Int)) => (by
    have h := (rightA_iff _ _).1 ha.1
    exact cedge _ _ W I1 I2 d1 d2 ids keys (HI1.out.upd (hu5.trans u) (fun _ _ => id)) (HI2.out.upd (hu5.trans u) (fun _ _ => id)) a h.1 h.2.1 h.2.2.1 h.2.2.2.1 h.2.2.2.2.2.2.1 ha.2 : Calls Try.prog 71 #[.agg #[.slice I1 ids.length d1, .slice I2 keys.length d2], .agg a.cells.toArray] W fun e w' => e = .returned (.agg (edgeA ids keys a).cells.toArray) ∧ Upd No W w'))
  have HAt := Lib.hid (fun (W : World) (u : Upd No w5 W) (i : Int) => cat_ W G (some ⟨g, 0, none⟩) ids.length K q (hdg.no u) (by omega) ma mu i)
  have HSh := Lib.hid (fun (W : World) (u : Upd No w5 W) (B C : Option Addr) (n : Nat) (hn : n < ids.length) (h : LoopI W B C ids.length (anyD ids.length q ma n) (withF ids.length q ma mu n)) => cshortest W G (some ⟨g, 0, none⟩) B C ids.length K q (hdg.no u) (by omega) ma mu _ _ h (rows_bd (by omega) hr ma mu (n : Int) (by omega) (by omega)) (n : Int) need)
  have HWk := Lib.hid (fun (W : World) (u : Upd No w5 W) (B C : Option Addr) (n m : Nat) (hn : n < ids.length) (hm : m ≤ 1000000) (h : LoopI W B C ids.length (anyD ids.length q ma n) (withF ids.length q ma mu n)) => cwalk W G (some ⟨g, 0, none⟩) B C ids.length K q (hdg.no u) (by omega) ma mu _ _ h (rows_bd (by omega) hr ma mu (n : Int) (by omega) (by omega)) (n : Int) m hm need)
  have hr5 : Upd No w5 w5 := Upd.refl _ _
  clear hdg hu5 hr hso hw4 s0 s1 HI1 HI2 BN m0 HG4 HU4 hrr
  go_wp2
  go_loopg [11, 40] ids.length (fun gk way i wr => ∃ (n : Nat) (A5 : Option Addr) (c5 : Nat) (ws : List HArc), n + gk = ids.length ∧ i = .int .i64 n ∧ way = .slice A5 ws.length c5 ∧ Hid (bestW ks wf n = ws) ∧ Hid (A5 = none ↔ ws = []) ∧ Hid (ws.length ≤ 1000000) ∧
    wr.ownsRow w5.heap.size 41 4 (.slice A5 ws.length c5) ws.length (arcsF ws) ∧ Upd No w5 wr)
  case atStart => exact ⟨0, none, 0, [], by omega, rfl, rfl, Lib.hid rfl, Lib.hid ⟨fun _ => rfl, fun _ => rfl⟩, Lib.hid (by simp), World.ownsRow_nil _ _ _ _, Upd.refl _ _⟩
  case round =>
    obtain ⟨n, A5, c5, ws, hgk, rfl, rfl, HWS, HIF, HWN, hown, hu⟩ := hrel
    have i1 : (0 : Int) ≤ (n : Int) := Int.natCast_nonneg _
    by_cases hlt : n < ids.length
    · have i2 : (n : Int) < (ids.length : Int) := by omega
      obtain ⟨kk, hkk⟩ : ∃ kk, shortA (ofA ma q) mu (n : Int) (anyD ids.length q ma (n : Int)) (withF ids.length q ma mu (n : Int)) need = kk := ⟨_, rfl⟩
      obtain ⟨wk, hwk⟩ : ∃ wk, walkC (ofA ma q) mu (n : Int) (anyD ids.length q ma (n : Int)) (withF ids.length q ma mu (n : Int)) kk.toNat (n : Int) need = wk := ⟨_, rfl⟩
      have HKS := Lib.hid (show ks (n : Int) = kk by rw [HKS1.out _ i1 i2, hkk])
      have HWF := Lib.hid (show wf (n : Int) = wk by rw [HWF1.out, HKS.out, hwk])
      have hkb : 0 ≤ kk ∧ kk ≤ 1000000 := by rw [← hkk]; exact short_in (by omega) HR.out ma mu need i1 i2
      have HWL := Lib.hid (fun (h : 0 < kk) => (by rw [← hwk, ← hkk]; exact walk_len HR.out HSO.out ma mu need i1 i2 (by rw [hkk]; exact h) : (wk.length : Int) = kk))
      have HSX := Lib.hid (fun (W : World) (u : Upd No w5 W) (B C : Option Addr) (h : LoopI W B C ids.length (anyD ids.length q ma n) (withF ids.length q ma mu n)) => hkk ▸ HSh.out W u B C n hlt h)
      have HWX := Lib.hid (fun (W : World) (u : Upd No w5 W) (B C : Option Addr) (h : LoopI W B C ids.length (anyD ids.length q ma n) (withF ids.length q ma mu n)) => (by
        have h2 := HWk.out W u B C n kk.toNat hlt (by omega) h
        rw [Int.toNat_of_nonneg hkb.1, hwk] at h2
        exact h2 : Calls Try.prog 70 #[.agg #[.pointer (some ⟨g, 0, none⟩), .int .i64 ma, .int .i64 mu, .slice B ids.length ids.length, .slice C ids.length ids.length], .int .i64 n, .int .i64 kk, .bool need] W (NewA W wk)))
      have HA6 := Lib.hid (HAt.out wr hu (n : Int))
      have HKB := Lib.hid hkb
      clear hkk hwk hkb
      go_wp2_with fail
      refine (HA6.out).mono ?_
      rintro e w6 ⟨B, C, rfl, hli, hu6⟩
      obtain ⟨wl, hwl⟩ : ∃ wl, w6.alloc (.cells #[.pointer (some ⟨g, 0, none⟩), .int .i64 ma, .int .i64 mu, .slice B ids.length ids.length, .slice C ids.length ids.length] 111) = wl := ⟨_, rfl⟩
      have ul : Upd No w6 wl := by rw [← hwl]; exact (Upd.refl No w6).alloc _
      have bL : Blk wl w6.heap.size 111 [.pointer (some ⟨g, 0, none⟩), .int .i64 ma, .int .i64 mu, .slice B ids.length ids.length, .slice C ids.length ids.length] := by rw [← hwl]; exact Blk.new w6 _ _
      have l0 : ∀ W, Upd No wl W → W.cell? ⟨w6.heap.size, 0, none⟩ = some (.pointer (some ⟨g, 0, none⟩)) := fun W u => by have := (bL.upd u id).cell 0; simpa using this
      have l1 : ∀ W, Upd No wl W → W.cell? ⟨w6.heap.size, 1, none⟩ = some (.int .i64 ma) := fun W u => by have := (bL.upd u id).cell 1; simpa using this
      have l2 : ∀ W, Upd No wl W → W.cell? ⟨w6.heap.size, 2, none⟩ = some (.int .i64 mu) := fun W u => by have := (bL.upd u id).cell 2; simpa using this
      have l3 : ∀ W, Upd No wl W → W.cell? ⟨w6.heap.size, 3, none⟩ = some (.slice B ids.length ids.length) := fun W u => by have := (bL.upd u id).cell 3; simpa using this
      have l4 : ∀ W, Upd No wl W → W.cell? ⟨w6.heap.size, 4, none⟩ = some (.slice C ids.length ids.length) := fun W u => by have := (bL.upd u id).cell 4; simpa using this
      have hlr : Upd No wl wl := Upd.refl _ _
      have HLI := Lib.hid (hli.upd ul)
      have HUL0 := Lib.hid ((hu.trans hu6).trans ul)
      have HS8 := Lib.hid (HSX.out wl HUL0.out B C HLI.out)
      have HCW := Lib.hid (fun (W : World) (u : Upd No wl W) => HWX.out W (HUL0.out.trans u) B C (HLI.out.upd u))
      have HOW := Lib.hid (own_upd hown ((hu6.trans ul)) (fun _ _ => id))
      clear hli hu6 ul bL HA6 HSX HWX hown
      go_wp2_with fail
      refine (HS8.out).mono ?_
      rintro e w8 ⟨rfl, hu8⟩
      have HUL := Lib.hid (HUL0.out.trans hu8)
      have HOW8 := Lib.hid (own_upd HOW.out hu8 (fun _ _ => id))
      clear HS8 HOW hwl
      by_cases h0 : 0 < kk
      · have d0 : decide (0 < kk) = true := decide_eq_true h0
        by_cases hA : A5 = none
        · subst hA
          have HZ := Lib.hid (HIF.out.1 rfl)
          have HWK := Lib.hid (HCW.out w8 hu8)
          go_wp2_with fail
          refine (HWK.out).mono ?_
          rintro e w9 ⟨A9, c9, rfl, ho9, hu9⟩
          have hl9 : (0 : Int) < (wk.length : Int) := by have := HWL.out h0; omega
          have hA9 : ¬ A9 = none := fun e => by
            subst e
            rcases ho9.2 with ⟨_, h0⟩ | ⟨g9, _, _, h0, _⟩
            · omega
            · cases h0
          have HO9 := Lib.hid (own_base ho9 (show w5.heap.size ≤ w8.heap.size from HUL.out.size))
          have HU9 := Lib.hid (HUL.out.trans hu9)
          have HB9 := Lib.hid (show bestW ks wf (n + 1) = wk by
            show (if (decide (0 < ks (n : Int)) && (bestW ks wf n == [] || decide (ks (n : Int) < ((bestW ks wf n).length : Int)))) = true then wf (n : Int) else bestW ks wf n) = _
            rw [HWS.out, HKS.out, HWF.out]
            exact if_pos (by rw [decide_eq_true h0, HZ.out]; rfl))
          have HI9 := Lib.hid (show A9 = none ↔ wk = [] from ⟨fun e => absurd e hA9, fun e => by rw [e] at hl9; simp at hl9⟩)
          clear ho9 hu9 hl9 hA9
          go_wp2
          go_roundg (gk - 1)
          case measure => omega
          case rel => exact ⟨n + 1, A9, c9, wk, by omega, by go_num, rfl, HB9, HI9, Lib.hid (by have := HWL.out h0; have := HKB.out.2; omega), HO9.out, HU9.out⟩
        · have hAs : A5.isNone = false := by cases A5 with | none => exact absurd rfl hA | some _ => rfl
          by_cases hk : kk < (ws.length : Int)
          · have d1 : decide (kk < (ws.length : Int)) = true := decide_eq_true hk
            have HWK := Lib.hid (HCW.out w8 hu8)
            go_wp2_with fail
            refine (HWK.out).mono ?_
            rintro e w9 ⟨A9, c9, rfl, ho9, hu9⟩
            have hl9 : (0 : Int) < (wk.length : Int) := by have := HWL.out h0; omega
            have hA9 : ¬ A9 = none := fun e => by
              subst e
              rcases ho9.2 with ⟨_, h0⟩ | ⟨g9, _, _, h0, _⟩
              · omega
              · cases h0
            have HO9 := Lib.hid (own_base ho9 (show w5.heap.size ≤ w8.heap.size from HUL.out.size))
            have HU9 := Lib.hid (HUL.out.trans hu9)
            have HB9 := Lib.hid (show bestW ks wf (n + 1) = wk by
              show (if (decide (0 < ks (n : Int)) && (bestW ks wf n == [] || decide (ks (n : Int) < ((bestW ks wf n).length : Int)))) = true then wf (n : Int) else bestW ks wf n) = _
              rw [HWS.out, HKS.out, HWF.out]
              exact if_pos (by rw [decide_eq_true h0, decide_eq_true hk]; simp))
            have HI9 := Lib.hid (show A9 = none ↔ wk = [] from ⟨fun e => absurd e hA9, fun e => by rw [e] at hl9; simp at hl9⟩)
            clear ho9 hu9 hl9 hA9
            go_wp2
            go_roundg (gk - 1)
            case measure => omega
            case rel => exact ⟨n + 1, A9, c9, wk, by omega, by go_num, rfl, HB9, HI9, Lib.hid (by have := HWL.out h0; have := HKB.out.2; omega), HO9.out, HU9.out⟩
          · have d1 : decide (kk < (ws.length : Int)) = false := decide_eq_false hk
            have HB9 := Lib.hid (show bestW ks wf (n + 1) = ws by
              show (if (decide (0 < ks (n : Int)) && (bestW ks wf n == [] || decide (ks (n : Int) < ((bestW ks wf n).length : Int)))) = true then wf (n : Int) else bestW ks wf n) = _
              rw [HWS.out, HKS.out, d0, d1]
              have hw0 : ¬ ws = [] := fun e => hA (HIF.out.2 e)
              rw [if_neg (by simpa using hw0)])
            go_wp2
            go_roundg (gk - 1)
            case measure => omega
            case rel => exact ⟨n + 1, A5, c5, ws, by omega, by go_num, rfl, HB9, HIF, HWN, HOW8.out, HUL.out⟩
      · have d0 : decide (0 < kk) = false := decide_eq_false h0
        have HB9 := Lib.hid (show bestW ks wf (n + 1) = ws by
          show (if (decide (0 < ks (n : Int)) && (bestW ks wf n == [] || decide (ks (n : Int) < ((bestW ks wf n).length : Int)))) = true then wf (n : Int) else bestW ks wf n) = _
          rw [HWS.out, HKS.out, d0]
          exact if_neg (by simp))
        go_wp2
        go_roundg (gk - 1)
        case measure => omega
        case rel => exact ⟨n + 1, A5, c5, ws, by omega, by go_num, rfl, HB9, HIF, HWN, HOW8.out, HUL.out⟩
    · obtain rfl : n = ids.length := by omega
      have hdoc : doc = ws.map (edgeA ids keys) := by rw [HWY.out.1, HWS.out]
      have hgood : ∀ a ∈ ws, rightA ids.length a = true ∧ a.label < (keys.length : Int) := by have := HWY.out.2; rw [HWS.out] at this; exact this
      have HDoc := Lib.hid hdoc
      have HGd := Lib.hid hgood
      have hszw : w.heap.size ≤ w5.heap.size := (U0.out.trans HU5.out).size
      clear hdoc hgood HWS HAt HSh HWk HWY HWAY HKS1 HWF1
      by_cases hA : A5 = none
      · subst hA
        have hw0 := HIF.out.1 rfl
        have HD0 := Lib.hid (show doc = [] by rw [HDoc.out, hw0]; rfl)
        go_wp2
        go_ret2
        rw [HD0.out]
        exact ⟨none, 0, rfl, World.ownsRow_nil _ _ _ _, (U0.out.trans HU5.out).trans hu⟩
      · have hAs : A5.isNone = false := by cases A5 with | none => exact absurd rfl hA | some _ => rfl
        have hw0 : ¬ ws = [] := fun e => hA (HIF.out.2 e)
        obtain ⟨wo, hwo⟩ : ∃ wo, wo = wr := ⟨_, rfl⟩
        subst hwo
        have HY := Lib.hid (arcs_own' hown)
        have HDL := Lib.hid (show doc.length = ws.length by rw [HDoc.out, List.length_map])
        have HW0 := Lib.hid hw0
        have HUO := Lib.hid hu
        clear hown hgk hA hw0
        go_wp2
        go_loopg [15, 76] ws.length (fun gk out i wr => ∃ (k : Nat) (A6 : Option Addr) (c6 : Nat) (xs : List Edge), k + gk = ws.length ∧ i = .int .i64 k ∧ out = .slice A6 xs.length c6 ∧ Hid (xs ++ (ws.drop k).map (edgeA ids keys) = doc) ∧ Hid (xs.length = k) ∧
          wr.ownsRow wo.heap.size 33 4 (.slice A6 xs.length c6) xs.length (edgesF xs) ∧ Upd No wo wr)
        case atStart => exact ⟨0, none, 0, [], by omega, rfl, rfl, Lib.hid (by rw [HDoc.out]; rfl), Lib.hid rfl, World.ownsRow_nil _ _ _ _, Upd.refl _ _⟩
        case round =>
          obtain ⟨k, A6, c6, xs, hgk, rfl, rfl, hxs, HXL, hown, hu2⟩ := hrel
          by_cases hlt : k < ws.length
          · obtain ⟨ax, rfl, q0, q1, q2, q3⟩ := (HY.out.upd hu2 (fun _ _ => id)).at_ hlt
            obtain ⟨x, hxx⟩ : ∃ x, ws[k] = x := ⟨_, rfl⟩
            have hdr := List.drop_eq_getElem_cons hlt
            have hgx := HGd.out _ (List.getElem_mem hlt)
            rw [hxx] at q0 q1 q2 q3 hdr hgx
            have HX := Lib.hid (show (xs ++ [edgeA ids keys x]) ++ (ws.drop (k + 1)).map (edgeA ids keys) = doc by rw [← hxs.out, hdr]; simp)
            have i1 : (0 : Int) ≤ (k : Int) := Int.natCast_nonneg _
            have i2 : (k : Int) < (ws.length : Int) := by omega
            obtain ⟨wx, hwx⟩ : ∃ wx, wr.alloc (.cells #[.int .i64 x.f, .int .i64 x.t, .int .i64 x.kind, .int .i64 x.label] 41) = wx := ⟨_, rfl⟩
            have ux : Upd No wr wx := by rw [← hwx]; exact (Upd.refl No wr).alloc _
            have bo : Blk wx wr.heap.size 41 [.int .i64 x.f, .int .i64 x.t, .int .i64 x.kind, .int .i64 x.label] := by rw [← hwx]; exact Blk.new wr _ _
            have huw : Upd No w5 wx := HUO.out.trans (hu2.trans ux)
            have g0 := bo.cell 0
            have g1 := bo.cell 1
            have g2 := bo.cell 2
            have g3 := bo.cell 3
            simp only [List.getElem?_cons_zero, List.getElem?_cons_succ] at g0 g1 g2 g3
            have HC := Lib.hid (HEd.out wx huw x hgx)
            have HO := Lib.hid (own_upd hown ux (fun _ _ => id))
            have HUX := Lib.hid (hu2.trans ux)
            have hws : ws.length ≤ 1000000 := HWN.out
            generalize edgeA ids keys x = y at HC HX
            unfold HArc.cells Edge.cells at HC
            clear hdr hxx hgx ux bo hown hxs
            go_wp2_with fail
            refine (HC.out).mono ?_
            rintro e w7 ⟨rfl, hu7⟩
            have hown7 := own_upd HO.out hu7 (fun _ _ => id)
            have HU7 := Lib.hid (HUX.out.trans hu7)
            have hz7 := (HUX.out.trans hu7).size
            have HGE := Lib.hid (fun i e => (hown7.lt i e).1)
            have HL := Lib.hid (edgesF_len xs)
            clear hu7 HC HO
            go_wp2_with (at_builtin; refine app1s rfl rfl slt_edges (v := .slice A6 xs.length c6) (n := xs.length) (xs := edgesF xs) (cells := [.int .i64 y.f, .int .i64 y.t, .int .i64 y.k, .int .i64 y.key]) (by rfl) rfl hown7 rfl rfl (by have := HXL.out; omega) (by have := HXL.out; omega) (by omega) ?_; intro g8 c8 w8 hown8 hu8 hg8 hlt8)
            go_roundg (gk - 1)
            case measure => omega
            case rel => exact ⟨k + 1, some ⟨g8, 0, none⟩, c8, xs ++ [y], by omega, by go_num, by simp, HX, Lib.hid (by rw [List.length_append, HXL.out]; rfl), by simpa [edgesF, Edge.cells] using hown8, HU7.out.then_ hu8 fun i e => .inr (HGE.out i e)⟩
          · obtain rfl : k = ws.length := by omega
            have hxd : xs = doc := by have := hxs.out; rw [List.drop_length] at this; simpa using this
            have hl0 : ¬ doc.length = 0 := by rw [HDL.out]; exact fun e => HW0.out (List.eq_nil_of_length_eq_zero e)
            have HXD := Lib.hid hxd
            have HL0 := Lib.hid hl0
            clear hxd hl0 hxs
            go_wp2
            go_ret2
            refine ⟨A6, c6, ?_, ?_, (U0.out.trans HU5.out).trans (HUO.out.trans hu2)⟩
            · rw [if_neg HL0.out, ← HXD.out]; rfl
            · rw [← HXD.out]; exact own_base hown (Nat.le_trans hszw HUO.out.size)
end Go.Proofs.Ytaicemjckagcaaa

/- Closed walks: the answers that the document gives. -/
namespace Go.Proofs.Ytaicemjckagcaaa
set_option linter.unusedVariables false
open Go.RowKit
def ea : Edge := ⟨1, 2, 1, 5⟩
def eb : Edge := ⟨2, 1, 3, 5⟩
section
variable {F : Nat → Prop} {w : World} {A : Option Addr} {c : Nat} {l d : List Edge} {mask must : Int}
end
end Go.Proofs.Ytaicemjckagcaaa

/- Closed walks, the document's: edges in order, and their ids. -/
namespace Go.Proofs.Ytaicemjckagcaaa
set_option linter.unusedVariables false
open Go.RowKit
end Go.Proofs.Ytaicemjckagcaaa

/- Closed walks, the document's: the ids from which so many steps lead to one. -/
namespace Go.Proofs.Ytaicemjckagcaaa
set_option linter.unusedVariables false
open Go.RowKit
/-- a slice of numbers, lying in blocks of F -/
def RowOk (F : Nat → Prop) (w : World) (v : Value) (l : List Int) : Prop := ∃ B c, v = .slice B l.length c ∧ Ints F w B l
theorem RowOk.upd {F S : Nat → Prop} {w w' : World} {v : Value} {l : List Int} (h : RowOk F w v l) (u : Upd S w w') (hn : ∀ i, F i → ¬ S i) : RowOk F w' v l := by
  obtain ⟨B, c, e, h⟩ := h
  exact ⟨B, c, e, h.upd u hn⟩
theorem RowOk.weak {F G : Nat → Prop} {w : World} {v : Value} {l : List Int} (h : RowOk F w v l) (hg : ∀ i, i < w.heap.size → F i → G i) : RowOk G w v l := by
  obtain ⟨B, c, e, h⟩ := h
  exact ⟨B, c, e, h.weak hg⟩
/-- the rows of all steps up to one, as values -/
structure RowsOk (F : Nat → Prop) (w : World) (vs : List Value) (f : Nat → List Int) : Prop where
  ok : ∀ (j : Nat) (h : j < vs.length), RowOk F w vs[j] (f j)
theorem RowsOk.upd {F S : Nat → Prop} {w w' : World} {vs : List Value} {f : Nat → List Int} (h : RowsOk F w vs f) (u : Upd S w w') (hn : ∀ i, F i → ¬ S i) : RowsOk F w' vs f := ⟨fun j hj => (h.ok j hj).upd u hn⟩
theorem RowsOk.weak {F G : Nat → Prop} {w : World} {vs : List Value} {f : Nat → List Int} (h : RowsOk F w vs f) (hg : ∀ i, i < w.heap.size → F i → G i) : RowsOk G w vs f := ⟨fun j hj => (h.ok j hj).weak hg⟩
theorem RowsOk.app {F : Nat → Prop} {w : World} {vs : List Value} {f : Nat → List Int} {v : Value} (h : RowsOk F w vs f) (k : RowOk F w v (f vs.length)) : RowsOk F w (vs ++ [v]) f := ⟨fun j hj => by
  rw [List.length_append, List.length_singleton] at hj
  by_cases h1 : j < vs.length
  · rw [List.getElem_append_left h1]
    exact h.ok j h1
  · have h2 : j = vs.length := by omega
    subst h2
    rw [List.getElem_append_right (Nat.le_refl _)]
    simpa using k⟩
/-- rows of rows as they are read: at ad, so many, each a slice of numbers -/
structure RowsAt (w : World) (A : Option Addr) (n : Nat) (f : Nat → List Int) : Prop where
  at_ : ∀ j, j < n → ∃ ad B c, A = some ad ∧ w.cell? (ad.add j) = some (.slice B (f j).length c) ∧ Ints (fun _ => True) w B (f j)
theorem RowsAt.upd {w w' : World} {A : Option Addr} {n : Nat} {f : Nat → List Int} (h : RowsAt w A n f) (u : Upd No w w') : RowsAt w' A n f := ⟨fun j hj => by
  obtain ⟨ad, B, c, e, h1, h2⟩ := h.at_ j hj
  exact ⟨ad, B, c, e, u.keepNo h1, h2.upd u (fun _ _ => id)⟩⟩
end Go.Proofs.Ytaicemjckagcaaa

/- Closed walks, the document's: the search is walked. -/
namespace Go.Proofs.Ytaicemjckagcaaa
set_option linter.unusedVariables false
open Go.RowKit
theorem rin01u (w : World) (F : Nat → Prop) (A : Option Addr) (c : Nat) (l : List Int) (a : Int) (h : Ints F w A l) (hl : l.length ≤ 4398046511103) {v : Bool} (hv : decide (a ∈ l) = v) :
    Calls Try.prog 17 #[.slice A l.length c, .int .i64 a] w fun e w' => e = .returned (.bool v) ∧ Upd No w w' := by
  subst hv
  refine (rin01 w F A c l a h hl).mono ?_
  rintro e w' ⟨rfl, rfl⟩
  exact ⟨rfl, Upd.refl _ _⟩
end Go.Proofs.Ytaicemjckagcaaa

/- Closed walks, the document's: the first walk of so many steps. -/
namespace Go.Proofs.Ytaicemjckagcaaa
set_option linter.unusedVariables false
open Go.RowKit
end Go.Proofs.Ytaicemjckagcaaa

/- Orders, the document's: Along. -/
namespace Go.Proofs.Ytaicemjckagcaaa
set_option linter.unusedVariables false
open Go.RowKit
/-- one edge is gone along -/
def alongE (order : List Int) (e : Edge) : Bool := !(decide (0 ≤ idxS e.f order 0) && decide (0 ≤ idxS e.t order 0) && decide (idxS e.t order 0 ≤ idxS e.f order 0))
end Go.Proofs.Ytaicemjckagcaaa
