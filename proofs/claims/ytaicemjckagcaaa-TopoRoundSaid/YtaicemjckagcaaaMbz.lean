/- Orders: topo.Along is walked. -/
import Derived.Test.YtaicemjckagcaaaMaj
import Derived.Test.YtaicemjckagcaaaMbu
import Derived.Test.YtaicemjckagcaaaMbv
import Derived.Test.YtaicemjckagcaaaMbx
import Derived.Test.YtaicemjckagcaaaMby
namespace Go.Proofs.Ytaicemjckagcaaa
set_option linter.unusedVariables false
open Go.RowKit
theorem idxS_snoc (x y : Int) (l : List Int) : idxS x (l ++ [y]) 0 = if idxS x l 0 = -1 ∧ y = x then (l.length : Int) else idxS x l 0 := by
  rw [idxS_eq, idxS_eq]
  by_cases h : x ∈ l
  · rw [if_pos (List.mem_append_left _ h), if_pos h, if_neg (by omega), List.idxOf_append, if_pos h]
  · by_cases h2 : y = x
    · subst h2
      rw [if_pos (by simp), if_neg h, if_pos ⟨rfl, rfl⟩, List.idxOf_append, if_neg h]
      simp
    · rw [if_neg (by simp [h, Ne.symm h2]), if_neg h, if_neg (fun e => h2 e.2)]
theorem idxS_take {l : List Int} {k : Nat} {y : Int} (hk : k < l.length) (hy : l[k] = y) (x : Int) : idxS x (l.take (k + 1)) 0 = if idxS x (l.take k) 0 = -1 ∧ y = x then (k : Int) else idxS x (l.take k) 0 := by
  subst hy
  rw [List.take_succ_eq_append_getElem hk, idxS_snoc, List.length_take, Nat.min_eq_left (Nat.le_of_lt hk)]
/-- each id's first place, and one -/
def AtM (m : List (Int × Value)) (l : List Int) : Prop := ∀ x, (mget m x).getD (.int .i64 0) = .int .i64 (idxS x l 0 + 1)
set_option maxRecDepth 100000 in
set_option maxHeartbeats 4000000 in
theorem tAlong (F G : Nat → Prop) (w : World) (A B : Option Addr) (c d : Nat) (order : List Int) (l : List Edge) (ho : Ints F w A order) (h : Walk G w B l) (n1 : order.length ≤ 1000) (n2 : l.length ≤ 1000) :
    Calls Try.prog 15 #[.slice A order.length c, .slice B l.length d] w fun e w' => e = .returned (.bool (l.all (alongE order))) ∧ Upd No w w' := by
  have hmm := @run_makeMap Try.prog
  obtain ⟨wa, hwa⟩ : ∃ wa, w.alloc (.map #[] 0) = wa := ⟨_, rfl⟩
  have m0 : MapE wa w.heap.size (fun n : Int => Value.int .i64 n) [] := by rw [← hwa]; exact MapE.new w _
  have u0 : Upd No w wa := by rw [← hwa]; exact (Upd.refl No w).alloc _
  obtain ⟨ba, hba⟩ : ∃ ba, w.heap.size = ba := ⟨_, rfl⟩
  rw [hba] at m0
  have HBA := Lib.hid hba
  have HI := Lib.hid ho
  have HL := Lib.hid h
  have HM0 := Lib.hid m0
  have HU0 := Lib.hid u0
  clear ho h m0 u0
  go_enter Try.func15, Try.ntmps15
  go_wp2
  clear hba hwa
  go_loopg [13] order.length (fun gk i wr => ∃ (k : Nat) (m : List (Int × Value)), k + gk = order.length ∧ i = .int .i64 k ∧ Hid (MapE wr ba (fun n : Int => Value.int .i64 n) m) ∧ Hid (AtM m (order.take k)) ∧ Upd No w wr)
  case atStart => exact ⟨0, [], by omega, rfl, HM0, Lib.hid (fun x => by rw [mget_nil]; rfl), HU0.out⟩
  case round =>
    obtain ⟨k, m, hgk, rfl, hm, hg, hu⟩ := hrel
    by_cases hlt : k < order.length
    · clear hmm
      obtain ⟨ad, hAd, _, _, hc⟩ := (HI.out.upd hu (fun _ _ => id)).at_ hlt
      obtain ⟨x, hx⟩ : ∃ x, order[k] = x := ⟨_, rfl⟩
      rw [hx] at hc
      subst hAd
      have HT := Lib.hid (fun y => idxS_take hlt hx y)
      have b1 : (0 : Int) ≤ (k : Int) := Int.natCast_nonneg _
      have b2 : (k : Int) < (order.length : Int) := by omega
      have e1 := run_look kbyint Try.underlying93 zeroN' hm.out.is x
      rw [hg.out x] at e1
      obtain ⟨p, hp⟩ : ∃ p, idxS x (order.take k) 0 + 1 = p := ⟨_, rfl⟩
      rw [hp] at e1
      have HP := Lib.hid hp
      clear hx hp
      by_cases hp0 : p = 0
      · subst hp0
        obtain ⟨w5, hp5, hm5, hu5⟩ := run_putE kbyint Try.underlying93 hm.out x (.int .i64 ((k : Int) + 1))
        have HM5 := Lib.hid hm5
        have HU5 := Lib.hid (hu.then_ hu5 (fun i e => .inr (by have := HBA.out; unfold One at e; omega)))
        clear hm5 hu5
        go_wp2
        go_roundg (gk - 1)
        case measure => omega
        case rel =>
          refine ⟨k + 1, _, by omega, by go_num, HM5, Lib.hid (fun y => ?_), HU5.out⟩
          rw [mget_mput, HT.out]
          by_cases e : y = x
          · subst e
            rw [if_pos rfl, if_pos ⟨by have := HP.out; omega, rfl⟩]; rfl
          · rw [if_neg e, if_neg (fun h => e h.2.symm)]; exact hg.out y
      · have HG := Lib.hid (show AtM m (order.take (k + 1)) from fun y => by
          rw [HT.out]
          by_cases e : y = x
          · subst e
            rw [if_neg (fun h => hp0 (by have := HP.out; omega))]; exact hg.out y
          · rw [if_neg (fun h => e h.2.symm)]; exact hg.out y)
        go_wp2
        go_roundg (gk - 1)
        case measure => omega
        case rel => exact ⟨k + 1, m, by omega, by go_num, hm, HG, hu⟩
    · obtain rfl : k = order.length := by omega
      have HG : Hid (AtM m order) := Lib.hid (by have := hg.out; rwa [List.take_length] at this)
      have HME := hm
      have hur := hu
      clear hg hu hm hmm
      obtain ⟨wo, hwo⟩ : ∃ wo, wo = wr := ⟨_, rfl⟩
      subst hwo
      go_wp2
      go_loopg [29] l.length (fun gk i wl => ∃ k : Nat, k + gk = l.length ∧ i = .int .i64 k ∧ Hid ((l.drop k).all (alongE order) = l.all (alongE order)) ∧ Upd No wo wl)
      case atStart => exact ⟨0, by omega, rfl, Lib.hid rfl, Upd.refl _ _⟩
      case round =>
        obtain ⟨k, hgk, rfl, hs, hu⟩ := hrel
        by_cases hlt : k < l.length
        · obtain ⟨ax, rfl, q0, q1, q2, q3⟩ := (HL.out.upd (hur.trans hu) (fun _ _ => id)).at_ hlt
          obtain ⟨x, hxx⟩ : ∃ x, l[k] = x := ⟨_, rfl⟩
          have hdr := List.drop_eq_getElem_cons hlt
          rw [hxx] at q0 q1 q2 q3 hdr
          have HD := Lib.hid (show (alongE order x && (l.drop (k + 1)).all (alongE order)) = l.all (alongE order) by rw [← hs.out, hdr, List.all_cons])
          have i1 : (0 : Int) ≤ (k : Int) := Int.natCast_nonneg _
          have i2 : (k : Int) < (l.length : Int) := by omega
          obtain ⟨wx, hwx⟩ : ∃ wx, wr.alloc (.cells #[.int .i64 x.f, .int .i64 x.t, .int .i64 x.k, .int .i64 x.key] 33) = wx := ⟨_, rfl⟩
          have ux : Upd No wo wx := by rw [← hwx]; exact hu.alloc _
          have bo : Blk wx wr.heap.size 33 [.int .i64 x.f, .int .i64 x.t, .int .i64 x.k, .int .i64 x.key] := by rw [← hwx]; exact Blk.new wr _ _
          have hmx := HME.out.upd ux id
          have e1 := run_look kbyint Try.underlying93 zeroN' hmx.is x.f
          have e2 := run_look kbyint Try.underlying93 zeroN' hmx.is x.t
          rw [HG.out] at e1 e2
          have d0 := bo.cell 0
          have d1 := bo.cell 1
          simp only [List.getElem?_cons_zero, List.getElem?_cons_succ] at d0 d1
          obtain ⟨p, hp⟩ : ∃ p, idxS x.f order 0 + 1 = p := ⟨_, rfl⟩
          obtain ⟨q, hq⟩ : ∃ q, idxS x.t order 0 + 1 = q := ⟨_, rfl⟩
          rw [hp] at e1
          rw [hq] at e2
          have HV := Lib.hid (show alongE order x = !(decide (0 < p) && decide (0 < q) && decide (q ≤ p)) by
            unfold alongE; rw [← hp, ← hq]
            generalize idxS x.f order 0 = a
            generalize idxS x.t order 0 = b
            rw [Bool.eq_iff_iff]
            simp only [Bool.not_eq_true', Bool.and_eq_false_iff, decide_eq_false_iff_not]
            omega)
          have HUX := Lib.hid ux
          clear hp hq hs hdr hxx bo ux hmx hu
          by_cases e3 : 0 < p
          · by_cases e4 : 0 < q
            · by_cases e5 : q ≤ p
              · go_wp2
                go_ret
                exact ⟨by rw [← HD.out, HV.out, decide_eq_true e3, decide_eq_true e4, decide_eq_true e5]; rfl, hur.trans HUX.out⟩
              · have HN := Lib.hid (show (l.drop (k + 1)).all (alongE order) = l.all (alongE order) by rw [← HD.out, HV.out, decide_eq_true e3, decide_eq_true e4, decide_eq_false e5]; rfl)
                go_wp2
                go_roundg (gk - 1)
                case measure => omega
                case rel => exact ⟨k + 1, by omega, by go_num, HN, HUX.out⟩
            · have HN := Lib.hid (show (l.drop (k + 1)).all (alongE order) = l.all (alongE order) by rw [← HD.out, HV.out, decide_eq_true e3, decide_eq_false e4]; rfl)
              go_wp2
              go_roundg (gk - 1)
              case measure => omega
              case rel => exact ⟨k + 1, by omega, by go_num, HN, HUX.out⟩
          · have HN := Lib.hid (show (l.drop (k + 1)).all (alongE order) = l.all (alongE order) by rw [← HD.out, HV.out, decide_eq_false e3]; rfl)
            go_wp2
            go_roundg (gk - 1)
            case measure => omega
            case rel => exact ⟨k + 1, by omega, by go_num, HN, HUX.out⟩
        · obtain rfl : k = l.length := by omega
          have HV := Lib.hid (show l.all (alongE order) = true by rw [← hs.out, List.drop_length]; rfl)
          go_wp2
          go_ret
          exact ⟨by rw [HV.out]; rfl, hur.trans hu⟩
end Go.Proofs.Ytaicemjckagcaaa

/- Orders: the answers that the document gives. -/
namespace Go.Proofs.Ytaicemjckagcaaa
set_option linter.unusedVariables false
open Go.RowKit
def te : Edge := ⟨3, 1, 0, 0⟩
def tf : Edge := ⟨1, 3, 0, 0⟩
def tz : Edge := ⟨3, 3, 0, 0⟩
theorem od1 : ordD [3, 1, 2, 1] [te] = some [2, 3, 1] := by kernel_rfl
theorem od2 : ordD [3, 1] [te, tf] = none := by kernel_rfl
theorem od3 : ordD [3] [tz] = none := by kernel_rfl
theorem od4 : ordD [] [te, tf] = some [] := by kernel_rfl
theorem oa1 : [te].all (alongE [2, 3, 1]) = true := by kernel_rfl
theorem oa2 : [tf].all (alongE [2, 3, 1]) = false := by kernel_rfl
theorem oa3 : [te, tf].all (alongE [2]) = true := by kernel_rfl
theorem oa4 : [tz].all (alongE [3]) = false := by kernel_rfl
section
variable {F G : Nat → Prop} {w : World} {A B : Option Addr} {c d : Nat} {ids a : List Int} {l : List Edge}
theorem ordYes (hi : Ints F w A ids) (hl : Walk G w B l) (n1 : ids.length ≤ 1000) (n2 : l.length ≤ 1000) {n m p : Nat} (hn : ids.length = n) (hm : l.length = m) (hd : ordD ids l = some a) (hp : a.length = p) :
    Calls Try.prog 12 #[.slice A n c, .slice B m d] w fun e w' => ∃ A' c', e = .returned (.tuple #[.slice A' p c', .int .i64 0]) ∧ Ints (fun i => w.heap.size ≤ i) w' A' a ∧ Upd No w w' := by
  subst hn hm hp
  refine (tOrder F G w A B c d ids l hi hl n1 n2).mono ?_
  rw [hd]
  rintro e w' ⟨A', c', rfl, ho, hu⟩
  exact ⟨A', c', rfl, Ints.of_own ho, hu⟩
theorem ordNo (hi : Ints F w A ids) (hl : Walk G w B l) (n1 : ids.length ≤ 1000) (n2 : l.length ≤ 1000) {n m : Nat} (hn : ids.length = n) (hm : l.length = m) (hd : ordD ids l = none) :
    Calls Try.prog 12 #[.slice A n c, .slice B m d] w fun e w' => ∃ A' c', e = .returned (.tuple #[.slice A' 0 c', .int .i64 16]) ∧ Upd No w w' := by
  subst hn hm
  refine (tOrder F G w A B c d ids l hi hl n1 n2).mono ?_
  rw [hd]
  rintro e w' ⟨A', c', rfl, ho, hu⟩
  exact ⟨A', c', rfl, hu⟩
theorem alongV (hi : Ints F w A ids) (hl : Walk G w B l) (n1 : ids.length ≤ 1000) (n2 : l.length ≤ 1000) {n m : Nat} (hn : ids.length = n) (hm : l.length = m) {v : Bool} (hv : l.all (alongE ids) = v) :
    Calls Try.prog 15 #[.slice A n c, .slice B m d] w fun e w' => e = .returned (.bool v) ∧ Upd No w w' := by
  subst hn hm hv
  exact tAlong F G w A B c d ids l hi hl n1 n2
end
set_option maxRecDepth 100000 in
set_option maxHeartbeats 8000000 in
theorem lives29 (w : World) : Calls Try.prog 11 #[] w fun e w' => e = .returned (.bool true) ∧ Upd No w w' := by
  obtain ⟨wb, hwb⟩ : ∃ wb, (((w.alloc (.cells #[.int .i64 3, .int .i64 1, .int .i64 0, .int .i64 0] 33)).alloc (.cells #[.int .i64 1, .int .i64 3, .int .i64 0, .int .i64 0] 33)).alloc (.cells #[.int .i64 3, .int .i64 1, .int .i64 2, .int .i64 1] 3)).alloc (.cells #[.int .i64 3, .int .i64 1, .int .i64 0, .int .i64 0] 33) = wb := ⟨_, rfl⟩
  have u0 : Upd No w wb := by rw [← hwb]; exact ((((Upd.refl No w).alloc _).alloc _).alloc _).alloc _
  have bA : Blk wb w.heap.size 33 [.int .i64 3, .int .i64 1, .int .i64 0, .int .i64 0] := by rw [← hwb]; exact (((Blk.new w _ _).alloc _).alloc _).alloc _
  have bC : Blk wb (w.heap.size + 1) 33 [.int .i64 1, .int .i64 3, .int .i64 0, .int .i64 0] := by
    rw [← hwb]
    have := ((Blk.new (w.alloc (.cells #[.int .i64 3, .int .i64 1, .int .i64 0, .int .i64 0] 33)) 33 [.int .i64 1, .int .i64 3, .int .i64 0, .int .i64 0]).alloc (.cells #[.int .i64 3, .int .i64 1, .int .i64 2, .int .i64 1] 3)).alloc (.cells #[.int .i64 3, .int .i64 1, .int .i64 0, .int .i64 0] 33)
    simpa using this
  have hIb : Ints (fun _ => True) wb (some ⟨w.heap.size + 1 + 1, 0, none⟩) [3, 1, 2, 1] := by
    rw [← hwb]
    have := ((lit_ints (W := ((w.alloc (.cells #[.int .i64 3, .int .i64 1, .int .i64 0, .int .i64 0] 33)).alloc (.cells #[.int .i64 1, .int .i64 3, .int .i64 0, .int .i64 0] 33))) [3, 1, 2, 1] 3).upd ((Upd.refl No _).alloc (.cells #[.int .i64 3, .int .i64 1, .int .i64 0, .int .i64 0] 33)) (fun _ _ => id)).weak (G := fun _ => True) (fun _ _ _ => trivial)
    simpa using this
  have hLb : ∃ F, Walk F wb (some ⟨w.heap.size + 1 + 1 + 1, 0, none⟩) [te] := by
    rw [← hwb]
    have := walk_blk (l := [te]) (Blk.new (((w.alloc (.cells #[.int .i64 3, .int .i64 1, .int .i64 0, .int .i64 0] 33)).alloc (.cells #[.int .i64 1, .int .i64 3, .int .i64 0, .int .i64 0] 33)).alloc (.cells #[.int .i64 3, .int .i64 1, .int .i64 2, .int .i64 1] 3)) 33 [.int .i64 3, .int .i64 1, .int .i64 0, .int .i64 0]) rfl
    exact ⟨_, by simpa using this⟩
  obtain ⟨Gb, hLb⟩ := hLb
  have a0 : ∀ W, Upd No wb W → W.cell? ⟨w.heap.size, 0, none⟩ = some (.int .i64 3) := fun W u => (bA.upd u id).cell 0
  have a1 : ∀ W, Upd No wb W → W.cell? ⟨w.heap.size, 1, none⟩ = some (.int .i64 1) := fun W u => (bA.upd u id).cell 1
  have a2 : ∀ W, Upd No wb W → W.cell? ⟨w.heap.size, 2, none⟩ = some (.int .i64 0) := fun W u => (bA.upd u id).cell 2
  have a3 : ∀ W, Upd No wb W → W.cell? ⟨w.heap.size, 3, none⟩ = some (.int .i64 0) := fun W u => (bA.upd u id).cell 3
  have c0 : ∀ W, Upd No wb W → W.cell? ⟨w.heap.size + 1, 0, none⟩ = some (.int .i64 1) := fun W u => (bC.upd u id).cell 0
  have c1 : ∀ W, Upd No wb W → W.cell? ⟨w.heap.size + 1, 1, none⟩ = some (.int .i64 3) := fun W u => (bC.upd u id).cell 1
  have c2 : ∀ W, Upd No wb W → W.cell? ⟨w.heap.size + 1, 2, none⟩ = some (.int .i64 0) := fun W u => (bC.upd u id).cell 2
  have c3 : ∀ W, Upd No wb W → W.cell? ⟨w.heap.size + 1, 3, none⟩ = some (.int .i64 0) := fun W u => (bC.upd u id).cell 3
  have H1 := Lib.hid (ordYes (w := wb) (c := 4) (d := 1) hIb hLb (by simp) (by simp) rfl rfl od1 rfl)
  have H2 := Lib.hid (fun (W : World) => ordNo (w := ((W.alloc (.cells #[.int .i64 3, .int .i64 1] 3)).alloc (.cells #[.int .i64 3, .int .i64 1, .int .i64 0, .int .i64 0, .int .i64 1, .int .i64 3, .int .i64 0, .int .i64 0] 33))) (A := (some ⟨W.heap.size, 0, none⟩)) (B := some ⟨W.heap.size + 1, 0, none⟩) (c := 2) (d := 2) ((lit_ints (W := W) [3, 1] 3).upd ((Upd.refl No _).alloc _) (fun _ _ => id)) (by have := walk_blk (l := [te, tf]) (Blk.new (W.alloc (.cells #[.int .i64 3, .int .i64 1] 3)) 33 [.int .i64 3, .int .i64 1, .int .i64 0, .int .i64 0, .int .i64 1, .int .i64 3, .int .i64 0, .int .i64 0]) rfl; rw [show (W.alloc (.cells #[.int .i64 3, .int .i64 1] 3)).heap.size = W.heap.size + 1 by simp] at this; exact this) (by simp) (by simp) rfl rfl od2)
  have H3 := Lib.hid (fun (W : World) => ordNo (w := ((W.alloc (.cells #[.int .i64 3] 3)).alloc (.cells #[.int .i64 3, .int .i64 3, .int .i64 0, .int .i64 0] 33))) (A := (some ⟨W.heap.size, 0, none⟩)) (B := some ⟨W.heap.size + 1, 0, none⟩) (c := 1) (d := 1) ((lit_ints (W := W) [3] 3).upd ((Upd.refl No _).alloc _) (fun _ _ => id)) (by have := walk_blk (l := [tz]) (Blk.new (W.alloc (.cells #[.int .i64 3] 3)) 33 [.int .i64 3, .int .i64 3, .int .i64 0, .int .i64 0]) rfl; rw [show (W.alloc (.cells #[.int .i64 3] 3)).heap.size = W.heap.size + 1 by simp] at this; exact this) (by simp) (by simp) rfl rfl od3)
  have H4 := Lib.hid (fun (W : World) => ordYes (w := (W.alloc (.cells #[.int .i64 3, .int .i64 1, .int .i64 0, .int .i64 0, .int .i64 1, .int .i64 3, .int .i64 0, .int .i64 0] 33))) (A := none) (B := some ⟨W.heap.size, 0, none⟩) (c := 0) (d := 2) (F := fun _ => True) Ints.nil_ (by have := walk_blk (l := [te, tf]) (Blk.new W 33 [.int .i64 3, .int .i64 1, .int .i64 0, .int .i64 0, .int .i64 1, .int .i64 3, .int .i64 0, .int .i64 0]) rfl; rw [show W.heap.size = W.heap.size by simp] at this; exact this) (by simp) (by simp) rfl rfl od4 rfl)
  have H7 := Lib.hid (fun (W : World) => alongV (w := ((W.alloc (.cells #[.int .i64 2] 3)).alloc (.cells #[.int .i64 3, .int .i64 1, .int .i64 0, .int .i64 0, .int .i64 1, .int .i64 3, .int .i64 0, .int .i64 0] 33))) (A := (some ⟨W.heap.size, 0, none⟩)) (B := some ⟨W.heap.size + 1, 0, none⟩) (c := 1) (d := 2) ((lit_ints (W := W) [2] 3).upd ((Upd.refl No _).alloc _) (fun _ _ => id)) (by have := walk_blk (l := [te, tf]) (Blk.new (W.alloc (.cells #[.int .i64 2] 3)) 33 [.int .i64 3, .int .i64 1, .int .i64 0, .int .i64 0, .int .i64 1, .int .i64 3, .int .i64 0, .int .i64 0]) rfl; rw [show (W.alloc (.cells #[.int .i64 2] 3)).heap.size = W.heap.size + 1 by simp] at this; exact this) (by simp) (by simp) rfl rfl oa3)
  have H8 := Lib.hid (fun (W : World) => alongV (w := ((W.alloc (.cells #[.int .i64 3] 3)).alloc (.cells #[.int .i64 3, .int .i64 3, .int .i64 0, .int .i64 0] 33))) (A := (some ⟨W.heap.size, 0, none⟩)) (B := some ⟨W.heap.size + 1, 0, none⟩) (c := 1) (d := 1) ((lit_ints (W := W) [3] 3).upd ((Upd.refl No _).alloc _) (fun _ _ => id)) (by have := walk_blk (l := [tz]) (Blk.new (W.alloc (.cells #[.int .i64 3] 3)) 33 [.int .i64 3, .int .i64 3, .int .i64 0, .int .i64 0]) rfl; rw [show (W.alloc (.cells #[.int .i64 3] 3)).heap.size = W.heap.size + 1 by simp] at this; exact this) (by simp) (by simp) rfl rfl oa4)
  have U0 := Lib.hid u0
  have hr : Upd No wb wb := Upd.refl _ _
  clear u0 bA bC hIb hLb
  go_enter Try.func11, Try.ntmps11
  go_wp2_with fail
  refine (H1.out).mono ?_
  rintro e w1 ⟨X, cx, rfl, hx, hu1⟩
  have HX := Lib.hid hx
  clear hx hwb
  have hq1 : ∀ o, Upd No wb (w1.alloc o) := fun o => hu1.alloc o
  have H5 := Lib.hid (fun (W : World) (u : Upd No w1 W) => alongV (w := (W.alloc (.cells #[.int .i64 3, .int .i64 1, .int .i64 0, .int .i64 0] 33))) (A := X) (B := some ⟨W.heap.size, 0, none⟩) (c := cx) (d := 1) (HX.out.upd (u.alloc _) (fun _ _ => id)) (by have := walk_blk (l := [te]) (Blk.new W 33 [.int .i64 3, .int .i64 1, .int .i64 0, .int .i64 0]) rfl; rw [show W.heap.size = W.heap.size by simp] at this; exact this) (by simp) (by simp) rfl rfl oa1)
  have H6 := Lib.hid (fun (W : World) (u : Upd No w1 W) => alongV (w := (W.alloc (.cells #[.int .i64 1, .int .i64 3, .int .i64 0, .int .i64 0] 33))) (A := X) (B := some ⟨W.heap.size, 0, none⟩) (c := cx) (d := 1) (HX.out.upd (u.alloc _) (fun _ _ => id)) (by have := walk_blk (l := [tf]) (Blk.new W 33 [.int .i64 1, .int .i64 3, .int .i64 0, .int .i64 0]) rfl; rw [show W.heap.size = W.heap.size by simp] at this; exact this) (by simp) (by simp) rfl rfl oa2)
  go_wp2_with fail
  refine (H2.out w1).mono ?_
  rintro e w2 ⟨X2, cx2, rfl, hu2'⟩
  have hv2 := (((Upd.refl No w1).alloc (.cells #[.int .i64 3, .int .i64 1] 3)).alloc (.cells #[.int .i64 3, .int .i64 1, .int .i64 0, .int .i64 0, .int .i64 1, .int .i64 3, .int .i64 0, .int .i64 0] 33)).trans hu2'
  have hu2 := hu1.trans hv2
  clear hu2'
  have hq2 : ∀ o, Upd No wb (w2.alloc o) := fun o => hu2.alloc o
  go_wp2_with fail
  refine (H3.out w2).mono ?_
  rintro e w3 ⟨X3, cx3, rfl, hu3'⟩
  have hv3 := hv2.trans ((((Upd.refl No w2).alloc (.cells #[.int .i64 3] 3)).alloc (.cells #[.int .i64 3, .int .i64 3, .int .i64 0, .int .i64 0] 33)).trans hu3')
  have hu3 := hu1.trans hv3
  clear hu3'
  go_wp2_with fail
  refine (H4.out w3).mono ?_
  rintro e w4 ⟨X4, cx4, rfl, hx4, hu4'⟩
  have hv4 := hv3.trans (((Upd.refl No w3).alloc (.cells #[.int .i64 3, .int .i64 1, .int .i64 0, .int .i64 0, .int .i64 1, .int .i64 3, .int .i64 0, .int .i64 0] 33)).trans hu4')
  have hu4 := hu1.trans hv4
  have HX4 := Lib.hid (HX.out.upd (hv4.alloc (.cells #[.int .i64 2, .int .i64 3, .int .i64 1] 3)) (fun _ _ => id))
  clear hu4' hx4 hu2 hu3 hv2 hv3
  have HS := Lib.hid (samei (w4.alloc (.cells #[.int .i64 2, .int .i64 3, .int .i64 1] 3)) _ _ X (some ⟨w4.heap.size, 0, none⟩) cx 3 [2, 3, 1] [2, 3, 1] HX4.out (lit_ints (W := w4) [2, 3, 1] 3) (by simp) (by simp))
  rw [show (([2, 3, 1] : List Int) == [2, 3, 1]) = true from by decide] at HS
  go_wp2_with fail
  refine (HS.out).mono ?_
  rintro e w5 ⟨rfl, hu5'⟩
  have hv5 := hv4.trans (((Upd.refl No w4).alloc (.cells #[.int .i64 2, .int .i64 3, .int .i64 1] 3)).trans hu5')
  have hu5 := hu1.trans hv5
  clear hu5' hu4 hv4
  go_wp2_with fail
  refine (H5.out w5 hv5).mono ?_
  rintro e w6 ⟨rfl, hu6'⟩
  have hv6 := hv5.trans (((Upd.refl No w5).alloc (.cells #[.int .i64 3, .int .i64 1, .int .i64 0, .int .i64 0] 33)).trans hu6')
  have hu6 := hu1.trans hv6
  clear hu6' hu5 hv5
  go_wp2_with fail
  refine (H6.out w6 hv6).mono ?_
  rintro e w7 ⟨rfl, hu7'⟩
  have hv7 := hv6.trans (((Upd.refl No w6).alloc (.cells #[.int .i64 1, .int .i64 3, .int .i64 0, .int .i64 0] 33)).trans hu7')
  have hu7 := hu1.trans hv7
  clear hu7' hu6 hv6
  have hq7 : ∀ o, Upd No wb (w7.alloc o) := fun o => hu7.alloc o
  go_wp2_with fail
  refine (H7.out w7).mono ?_
  rintro e w8 ⟨rfl, hu8'⟩
  have hu8 := hu7.trans ((((Upd.refl No w7).alloc (.cells #[.int .i64 2] 3)).alloc (.cells #[.int .i64 3, .int .i64 1, .int .i64 0, .int .i64 0, .int .i64 1, .int .i64 3, .int .i64 0, .int .i64 0] 33)).trans hu8')
  clear hu8' hu7 hv7
  go_wp2_with fail
  refine (H8.out w8).mono ?_
  rintro e w9 ⟨rfl, hu9'⟩
  have hu9 := hu8.trans ((((Upd.refl No w8).alloc (.cells #[.int .i64 3] 3)).alloc (.cells #[.int .i64 3, .int .i64 3, .int .i64 0, .int .i64 0] 33)).trans hu9')
  clear hu9' hu8
  go_wp2
  go_ret
  exact ⟨rfl, U0.out.trans hu9⟩
end Go.Proofs.Ytaicemjckagcaaa

/- Orders, the document's: the first order that goes along. -/
namespace Go.Proofs.Ytaicemjckagcaaa
set_option linter.unusedVariables false
open Go.RowKit
end Go.Proofs.Ytaicemjckagcaaa

/- Orders, the document's: the first order that goes along is walked. -/
namespace Go.Proofs.Ytaicemjckagcaaa
set_option linter.unusedVariables false
open Go.RowKit
end Go.Proofs.Ytaicemjckagcaaa

/- Orders: the laws that orders are told as the document says, and that none is ahead of the one that is told. -/
namespace Go.Proofs.Ytaicemjckagcaaa
set_option linter.unusedVariables false
open Go.RowKit
theorem ints_row {w : World} {A : Option Addr} {len cap : Nat} {zs : List Int} (h : (A = none ∧ len = 0 ∧ cap = 0 ∧ zs = []) ∨ ∃ x, A = some x ∧ len ≤ cap ∧ cap ≤ maxLen ∧ zs.length = cap ∧ (∀ i, i < zs.length → w.cell? (x.add i) = some (.int .i64 (zs.getD i 0))) ∧ ∀ n ∈ zs, (Lit.int .i64 n).wf = true) : ∃ l : List Int, Ints (fun _ => True) w A l ∧ l.length = len := by
  rcases h with ⟨rfl, rfl, rfl, rfl⟩ | ⟨ad, rfl, hl, hm, hz, hcell, _⟩
  · exact ⟨[], Ints.nil_, rfl⟩
  · exact ⟨zs.take len, (Ints.of_cells hcell).take, by rw [List.length_take]; omega⟩
theorem told_len (ids : List Int) (l : List Edge) (n : ids.length ≤ 1000) : (toldO (ordD ids l) 16).1.length ≤ 1000 := by
  cases h : ordD ids l with
  | none => simp [toldO]
  | some a =>
    have := (goes_perm _ _ _ (ordD_some h)).length_eq
    have := setK_len ids
    show a.length ≤ 1000
    omega
def Live29 : Prop := ∀ w, Calls Try.prog 11 #[] w fun e w' => e = .returned (.bool true) ∧ Upd No w w'
end Go.Proofs.Ytaicemjckagcaaa

/- Orders: the law that none is ahead of the one that is told. -/
namespace Go.Proofs.Ytaicemjckagcaaa
set_option linter.unusedVariables false
open Go.RowKit
theorem ordYesR {F G : Nat → Prop} {w : World} {A B : Option Addr} {c d : Nat} {ids a : List Int} {l : List Edge} (hi : Ints F w A ids) (hl : Walk G w B l) (n1 : ids.length ≤ 1000) (n2 : l.length ≤ 1000) (hd : ordD ids l = some a) :
    Calls Try.prog 12 #[.slice A ids.length c, .slice B l.length d] w fun e w' => ∃ A' c', e = .returned (.tuple #[.slice A' a.length c', .int .i64 0]) ∧ Ints (fun i => w.heap.size ≤ i) w' A' a ∧ Upd No w w' := ordYes hi hl n1 n2 rfl rfl hd rfl
end Go.Proofs.Ytaicemjckagcaaa

/- Orders: the law that there is an order just if no closed walk goes through the ids. -/
namespace Go.Proofs.Ytaicemjckagcaaa
set_option linter.unusedVariables false
open Go.RowKit
theorem qR_take {ids : List Int} {l : List Edge} {k : Nat} {e : Edge} (hk : k < l.length) (he : l[k] = e) : qR ids (l.take (k + 1)) = qR ids (l.take k) ++ if e.f ∈ ids ∧ e.t ∈ ids then [⟨e.f, e.t, 1, e.key⟩] else [] := by
  subst he
  unfold qR
  rw [List.take_succ_eq_append_getElem hk, List.filter_append, List.map_append]
  congr 1
  split
  · rename_i h; rw [List.filter_cons_of_pos (by simpa using h)]; rfl
  · rename_i h; rw [List.filter_cons_of_neg (by simpa using h)]; rfl
theorem edgesF_snoc (xs : List Edge) (e : Edge) : edgesF (xs ++ [e]) = edgesF xs ++ e.cells := by unfold edgesF; simp
theorem ordD_of {ids : List Int} {l : List Edge} (h : ordD ids l ≠ none) : ∃ a, ordD ids l = some a := by
  cases hd : ordD ids l with
  | none => exact absurd hd h
  | some a => exact ⟨a, rfl⟩
set_option maxRecDepth 100000 in
set_option maxHeartbeats 8000000 in
theorem round29 (G H : Nat → Prop) (w : World) (B C : Option Addr) (b c : Nat) (ids : List Int) (l : List Edge) (ho : Ints G w B ids) (hl : Walk H w C l) (L : Hid Live29) :
    Calls Try.prog 5 #[.slice B ids.length b, .slice C l.length c] w fun e w' => e = .returned (.bool true) ∧ Upd No w w' := by
  by_cases h2 : 30 < ids.length
  · have i2 : (30 : Int) < (ids.length : Int) := by omega
    go_enter Try.func5, Try.ntmps5
    go_wp2_with fail
    refine (L.out _).mono ?_
    rintro e w1 ⟨rfl, hu1⟩
    go_wp2
    go_ret
    exact ⟨rfl, hu1⟩
  · have i2 : ¬ (30 : Int) < (ids.length : Int) := by omega
    by_cases h3 : 60 < l.length
    · have i3 : (60 : Int) < (l.length : Int) := by omega
      go_enter Try.func5, Try.ntmps5
      go_wp2_with fail
      refine (L.out _).mono ?_
      rintro e w1 ⟨rfl, hu1⟩
      go_wp2
      go_ret
      exact ⟨rfl, hu1⟩
    · have i3 : ¬ (60 : Int) < (l.length : Int) := by omega
      have HO := Lib.hid ho
      have HL := Lib.hid hl
      have n1 : ids.length ≤ 30 := by omega
      have n2 : l.length ≤ 60 := by omega
      clear ho hl h2 h3
      go_enter Try.func5, Try.ntmps5
      go_wp2_with fail
      refine (L.out _).mono ?_
      rintro e w1 ⟨rfl, hu1⟩
      have HU1 := Lib.hid hu1
      clear hu1
      go_wp2
      go_loopg [5, 24] l.length (fun gk s i wr => ∃ (k : Nat) (A5 : Option Addr) (c5 : Nat) (xs : List Edge), k + gk = l.length ∧ i = .int .i64 k ∧ s = .slice A5 xs.length c5 ∧ Hid (xs = qR ids (l.take k)) ∧ Hid (wr.ownsRow w1.heap.size 33 4 (.slice A5 xs.length c5) xs.length (edgesF xs)) ∧ Upd No w1 wr)
      case atStart => exact ⟨0, none, 0, [], by omega, rfl, rfl, Lib.hid rfl, Lib.hid (World.ownsRow_nil _ _ _ _), Upd.refl _ _⟩
      case round =>
        obtain ⟨k, A5, c5, xs, hgk, rfl, rfl, hs, hown, hu⟩ := hrel
        have hxl : xs.length ≤ 60 := by rw [hs.out]; unfold qR; rw [List.length_map]; exact Nat.le_trans (List.length_filter_le _ _) (by rw [List.length_take]; omega)
        by_cases hlt : k < l.length
        · obtain ⟨ax, rfl, q0, q1, q2, q3⟩ := (HL.out.upd (HU1.out.trans hu) (fun _ _ => id)).at_ hlt
          obtain ⟨x, hxx⟩ : ∃ x, l[k] = x := ⟨_, rfl⟩
          rw [hxx] at q0 q1 q2 q3
          have HT := Lib.hid (qR_take (ids := ids) hlt hxx)
          have i1 : (0 : Int) ≤ (k : Int) := Int.natCast_nonneg _
          have i4 : (k : Int) < (l.length : Int) := by omega
          obtain ⟨wx, hwx⟩ : ∃ wx, wr.alloc (.cells #[.int .i64 x.f, .int .i64 x.t, .int .i64 x.k, .int .i64 x.key] 33) = wx := ⟨_, rfl⟩
          have hux : Upd No w1 wx := by rw [← hwx]; exact hu.alloc _
          have hux1 : Upd No wr wx := by rw [← hwx]; exact (Upd.refl No wr).alloc _
          have bo : Blk wx wr.heap.size 33 [.int .i64 x.f, .int .i64 x.t, .int .i64 x.k, .int .i64 x.key] := by rw [← hwx]; exact Blk.new wr _ _
          have d0 : ∀ W, Upd No wx W → W.cell? ⟨wr.heap.size, 0, none⟩ = some (.int .i64 x.f) := fun W u => by have := (bo.upd u id).cell 0; simpa using this
          have d1 : ∀ W, Upd No wx W → W.cell? ⟨wr.heap.size, 1, none⟩ = some (.int .i64 x.t) := fun W u => by have := (bo.upd u id).cell 1; simpa using this
          have d3 : ∀ W, Upd No wx W → W.cell? ⟨wr.heap.size, 3, none⟩ = some (.int .i64 x.key) := fun W u => by have := (bo.upd u id).cell 3; simpa using this
          have hxz : Upd No wx wx := Upd.refl _ _
          have HOX := Lib.hid (own_upd hown.out hux1 (fun _ _ => id))
          have HUX := Lib.hid hux
          clear hxx bo hux hux1 hown
          by_cases hf : x.f ∈ ids
          · have HC1 := Lib.hid (fun W (u : Upd No wx W) => rin01u W G B b ids x.f (HO.out.upd ((HU1.out.trans HUX.out).trans u) (fun _ _ => id)) (by omega) (v := true) (by simpa using hf))
            by_cases ht : x.t ∈ ids
            · have HC2 := Lib.hid (fun W (u : Upd No wx W) => rin01u W G B b ids x.t (HO.out.upd ((HU1.out.trans HUX.out).trans u) (fun _ _ => id)) (by omega) (v := true) (by simpa using ht))
              have HS := Lib.hid (show xs ++ [⟨x.f, x.t, 1, x.key⟩] = qR ids (l.take (k + 1)) by rw [HT.out, if_pos ⟨hf, ht⟩, hs.out])
              clear hf ht
              go_wp2_with fail
              refine (HC1.out _ hxz).mono ?_
              rintro e w3 ⟨rfl, hu3⟩
              go_wp2_with fail
              refine (HC2.out w3 hu3).mono ?_
              rintro e w4 ⟨rfl, hu4⟩
              have hv4 := hu3.trans hu4
              have HO4 := Lib.hid (own_upd HOX.out hv4 (fun _ _ => id))
              have hz4 := (HUX.out.trans hv4).size
              go_wp2_with (at_builtin; refine app1s rfl rfl slt_edges (base := w1.heap.size) (v := .slice A5 xs.length c5) (n := xs.length) (xs := edgesF xs) (cells := [.int .i64 x.f, .int .i64 x.t, .int .i64 1, .int .i64 x.key]) (by rfl) (by rfl) HO4.out rfl rfl (by omega) (by omega) (by omega) ?_; intro g9 c9 w9 hown9 hu9 hg9 hlt9)
              go_roundg (gk - 1)
              case measure => omega
              case rel =>
                have hl1 : (xs ++ [(⟨x.f, x.t, 1, x.key⟩ : Edge)]).length = xs.length + 1 := by simp
                exact ⟨k + 1, some ⟨g9, 0, none⟩, c9, xs ++ [⟨x.f, x.t, 1, x.key⟩], by omega, by go_num, by rw [hl1], HS, Lib.hid (by rw [hl1, edgesF_snoc]; exact hown9), (HUX.out.trans hv4).then_ hu9 (fun i e => Or.inr (HO4.out.lt i e).1)⟩
            · have HC2 := Lib.hid (fun W (u : Upd No wx W) => rin01u W G B b ids x.t (HO.out.upd ((HU1.out.trans HUX.out).trans u) (fun _ _ => id)) (by omega) (v := false) (by simpa using ht))
              have HS := Lib.hid (show xs = qR ids (l.take (k + 1)) by rw [HT.out, if_neg (fun h => ht h.2), List.append_nil, hs.out])
              clear hf ht
              go_wp2_with fail
              refine (HC1.out _ hxz).mono ?_
              rintro e w3 ⟨rfl, hu3⟩
              go_wp2_with fail
              refine (HC2.out w3 hu3).mono ?_
              rintro e w4 ⟨rfl, hu4⟩
              have hv4 := hu3.trans hu4
              go_wp2
              go_roundg (gk - 1)
              case measure => omega
              case rel => exact ⟨k + 1, A5, c5, xs, by omega, by go_num, rfl, HS, Lib.hid (own_upd HOX.out hv4 (fun _ _ => id)), HUX.out.trans hv4⟩
          · have HC1 := Lib.hid (fun W (u : Upd No wx W) => rin01u W G B b ids x.f (HO.out.upd ((HU1.out.trans HUX.out).trans u) (fun _ _ => id)) (by omega) (v := false) (by simpa using hf))
            have HS := Lib.hid (show xs = qR ids (l.take (k + 1)) by rw [HT.out, if_neg (fun h => hf h.1), List.append_nil, hs.out])
            clear hf
            go_wp2_with fail
            refine (HC1.out _ hxz).mono ?_
            rintro e w3 ⟨rfl, hu3⟩
            go_wp2
            go_roundg (gk - 1)
            case measure => omega
            case rel => exact ⟨k + 1, A5, c5, xs, by omega, by go_num, rfl, HS, Lib.hid (own_upd HOX.out hu3 (fun _ _ => id)), HUX.out.trans hu3⟩
        · obtain rfl : k = l.length := by omega
          have HQ : xs = qR ids l := by rw [hs.out, List.take_length]
          have HR := round_iff ids l (by omega)
          rw [← HQ] at HR
          have hW : Walk (Own (.slice A5 xs.length c5)) wr A5 xs := Recs.of_own edges_len (by omega) hown.out
          have HC := Lib.hid (fun W (u : Upd No wr W) => cShortest _ W A5 c5 xs 14 0 (Walk.upd hW u (fun _ _ => id)) (by omega))
          have HU := Lib.hid (HU1.out.trans hu)
          obtain ⟨ds, hds⟩ : ∃ ds, docS xs 14 0 = ds := ⟨_, rfl⟩
          rw [hds] at HR HC
          clear hs hown hW HQ hds
          by_cases h0 : ds.length = 0
          · obtain ⟨a, ha⟩ := ordD_of (HR.1 h0)
            have H1 := Lib.hid (fun W (u : Upd No w W) => ordYesR (w := W) (c := b) (d := c) (HO.out.upd u (fun _ _ => id)) (HL.out.upd u (fun _ _ => id)) (by omega) (by omega) ha)
            have hal : a.length ≤ 1000 := by have := told_len ids l (by omega); rw [ha] at this; exact this
            have H4 := Lib.hid (fun W (A2 : Option Addr) (c2 : Nat) (F2 : Nat → Prop) (u : Upd No w W) (hi : Ints F2 W A2 a) => alongV (w := W) (c := c2) (d := c) hi (HL.out.upd u (fun _ _ => id)) (by omega) (by omega) rfl rfl (ordD_along ha))
            have hds : ds = [] := List.eq_nil_of_length_eq_zero h0
            subst hds
            clear ha HR h0
            unfold ToldC at HC
            simp only [List.length_nil, if_true] at HC
            go_wp2_with fail
            refine (HC.out _ (Upd.refl _ _)).mono ?_
            rintro e w2 ⟨A2, c2, rfl, ho2, hu2⟩
            have hv2 := HU.out.trans hu2
            clear ho2
            go_wp2_with fail
            refine (H1.out w2 hv2).mono ?_
            rintro e w3 ⟨A3, c3, rfl, hi3, hu3⟩
            have hv3 := hv2.trans hu3
            have HI3 := Lib.hid (H4.out w3 A3 c3 _ hv3 hi3)
            clear hi3
            go_wp2_with fail
            refine (HI3.out).mono ?_
            rintro e w4 ⟨rfl, hu4⟩
            go_wp2
            go_ret
            exact ⟨rfl, hv3.trans hu4⟩
          · have ha : ordD ids l = none := Classical.byContradiction fun hn => h0 (HR.2 hn)
            have H1 := Lib.hid (fun W (u : Upd No w W) => ordNo (w := W) (c := b) (d := c) (HO.out.upd u (fun _ _ => id)) (HL.out.upd u (fun _ _ => id)) (by omega) (by omega) rfl rfl ha)
            clear HR ha
            unfold ToldC at HC
            simp only [if_neg h0] at HC
            clear h0
            go_wp2_with fail
            refine (HC.out _ (Upd.refl _ _)).mono ?_
            rintro e w2 ⟨A2, c2, rfl, ho2, hu2⟩
            have hv2 := HU.out.trans hu2
            clear ho2
            go_wp2_with fail
            refine (H1.out w2 hv2).mono ?_
            rintro e w3 ⟨A3, c3, rfl, hu3⟩
            go_wp2
            go_ret
            exact ⟨rfl, hv2.trans hu3⟩
end Go.Proofs.Ytaicemjckagcaaa
