/- Orders: topo.Along is walked. -/
import Derived.Test.YtaicemjckagcaaaMbt
import Derived.Test.YtaicemjckagcaaaMbv
namespace Go.Proofs.Ytaicemjckagcaaa
set_option linter.unusedVariables false
open Go.RowKit
theorem idxS_snoc (x y : Int) (l : List Int) : idxS x (l ++ [y]) 0 = if idxS x l 0 = -1 ∧ y = x then (l.length : Int) else idxS x l 0 := by
  rw [idxS_eq, idxS_eq]
  by_cases h : x ∈ l
  · rw [if_pos (List.mem_append_left _ h), if_pos h, if_neg (by omega), List.idxOf_append, if_pos h]
  · by_cases h2 : y = x
    · subst h2
      rw [if_pos (by simp), if_neg h, if_pos ⟨rfl, rfl⟩, List.idxOf_append, if_neg h]
      simp
    · rw [if_neg (by simp [h, Ne.symm h2]), if_neg h, if_neg (fun e => h2 e.2)]
theorem idxS_take {l : List Int} {k : Nat} {y : Int} (hk : k < l.length) (hy : l[k] = y) (x : Int) : idxS x (l.take (k + 1)) 0 = if idxS x (l.take k) 0 = -1 ∧ y = x then (k : Int) else idxS x (l.take k) 0 := by
  subst hy
  rw [List.take_succ_eq_append_getElem hk, idxS_snoc, List.length_take, Nat.min_eq_left (Nat.le_of_lt hk)]
/-- each id's first place, and one -/
def AtM (m : List (Int × Value)) (l : List Int) : Prop := ∀ x, (mget m x).getD (.int .i64 0) = .int .i64 (idxS x l 0 + 1)
set_option maxRecDepth 100000 in
set_option maxHeartbeats 4000000 in
theorem tAlong (F G : Nat → Prop) (w : World) (A B : Option Addr) (c d : Nat) (order : List Int) (l : List Edge) (ho : Ints F w A order) (h : Walk G w B l) (n1 : order.length ≤ 1000) (n2 : l.length ≤ 1000) :
    Calls Try.prog 15 #[.slice A order.length c, .slice B l.length d] w fun e w' => e = .returned (.bool (l.all (alongE order))) ∧ Upd No w w' := by
  have hmm := @run_makeMap Try.prog
  obtain ⟨wa, hwa⟩ : ∃ wa, w.alloc (.map #[] 0) = wa := ⟨_, rfl⟩
  have m0 : MapE wa w.heap.size (fun n : Int => Value.int .i64 n) [] := by rw [← hwa]; exact MapE.new w _
  have u0 : Upd No w wa := by rw [← hwa]; exact (Upd.refl No w).alloc _
  obtain ⟨ba, hba⟩ : ∃ ba, w.heap.size = ba := ⟨_, rfl⟩
  rw [hba] at m0
  have HBA := Lib.hid hba
  have HI := Lib.hid ho
  have HL := Lib.hid h
  have HM0 := Lib.hid m0
  have HU0 := Lib.hid u0
  clear ho h m0 u0
  go_enter Try.func15, Try.ntmps15
  go_wp2
  clear hba hwa
  go_loopg [13] order.length (fun gk i wr => ∃ (k : Nat) (m : List (Int × Value)), k + gk = order.length ∧ i = .int .i64 k ∧ Hid (MapE wr ba (fun n : Int => Value.int .i64 n) m) ∧ Hid (AtM m (order.take k)) ∧ Upd No w wr)
  case atStart => exact ⟨0, [], by omega, rfl, HM0, Lib.hid (fun x => by rw [mget_nil]; rfl), HU0.out⟩
  case round =>
    obtain ⟨k, m, hgk, rfl, hm, hg, hu⟩ := hrel
    by_cases hlt : k < order.length
    · clear hmm
      obtain ⟨ad, hAd, _, _, hc⟩ := (HI.out.upd hu (fun _ _ => id)).at_ hlt
      obtain ⟨x, hx⟩ : ∃ x, order[k] = x := ⟨_, rfl⟩
      rw [hx] at hc
      subst hAd
      have HT := Lib.hid (fun y => idxS_take hlt hx y)
      have b1 : (0 : Int) ≤ (k : Int) := Int.natCast_nonneg _
      have b2 : (k : Int) < (order.length : Int) := by omega
      have e1 := run_look kbyint Try.underlying93 zeroN' hm.out.is x
      rw [hg.out x] at e1
      obtain ⟨p, hp⟩ : ∃ p, idxS x (order.take k) 0 + 1 = p := ⟨_, rfl⟩
      rw [hp] at e1
      have HP := Lib.hid hp
      clear hx hp
      by_cases hp0 : p = 0
      · subst hp0
        obtain ⟨w5, hp5, hm5, hu5⟩ := run_putE kbyint Try.underlying93 hm.out x (.int .i64 ((k : Int) + 1))
        have HM5 := Lib.hid hm5
        have HU5 := Lib.hid (hu.then_ hu5 (fun i e => .inr (by have := HBA.out; unfold One at e; omega)))
        clear hm5 hu5
        go_wp2
        go_roundg (gk - 1)
        case measure => omega
        case rel =>
          refine ⟨k + 1, _, by omega, by go_num, HM5, Lib.hid (fun y => ?_), HU5.out⟩
          rw [mget_mput, HT.out]
          by_cases e : y = x
          · subst e
            rw [if_pos rfl, if_pos ⟨by have := HP.out; omega, rfl⟩]; rfl
          · rw [if_neg e, if_neg (fun h => e h.2.symm)]; exact hg.out y
      · have HG := Lib.hid (show AtM m (order.take (k + 1)) from fun y => by
          rw [HT.out]
          by_cases e : y = x
          · subst e
            rw [if_neg (fun h => hp0 (by have := HP.out; omega))]; exact hg.out y
          · rw [if_neg (fun h => e h.2.symm)]; exact hg.out y)
        go_wp2
        go_roundg (gk - 1)
        case measure => omega
        case rel => exact ⟨k + 1, m, by omega, by go_num, hm, HG, hu⟩
    · obtain rfl : k = order.length := by omega
      have HG : Hid (AtM m order) := Lib.hid (by have := hg.out; rwa [List.take_length] at this)
      have HME := hm
      have hur := hu
      clear hg hu hm hmm
      obtain ⟨wo, hwo⟩ : ∃ wo, wo = wr := ⟨_, rfl⟩
      subst hwo
      go_wp2
      go_loopg [29] l.length (fun gk i wl => ∃ k : Nat, k + gk = l.length ∧ i = .int .i64 k ∧ Hid ((l.drop k).all (alongE order) = l.all (alongE order)) ∧ Upd No wo wl)
      case atStart => exact ⟨0, by omega, rfl, Lib.hid rfl, Upd.refl _ _⟩
      case round =>
        obtain ⟨k, hgk, rfl, hs, hu⟩ := hrel
        by_cases hlt : k < l.length
        · obtain ⟨ax, rfl, q0, q1, q2, q3⟩ := (HL.out.upd (hur.trans hu) (fun _ _ => id)).at_ hlt
          obtain ⟨x, hxx⟩ : ∃ x, l[k] = x := ⟨_, rfl⟩
          have hdr := List.drop_eq_getElem_cons hlt
          rw [hxx] at q0 q1 q2 q3 hdr
          have HD := Lib.hid (show (alongE order x && (l.drop (k + 1)).all (alongE order)) = l.all (alongE order) by rw [← hs.out, hdr, List.all_cons])
          have i1 : (0 : Int) ≤ (k : Int) := Int.natCast_nonneg _
          have i2 : (k : Int) < (l.length : Int) := by omega
          obtain ⟨wx, hwx⟩ : ∃ wx, wr.alloc (.cells #[.int .i64 x.f, .int .i64 x.t, .int .i64 x.k, .int .i64 x.key] 33) = wx := ⟨_, rfl⟩
          have ux : Upd No wo wx := by rw [← hwx]; exact hu.alloc _
          have bo : Blk wx wr.heap.size 33 [.int .i64 x.f, .int .i64 x.t, .int .i64 x.k, .int .i64 x.key] := by rw [← hwx]; exact Blk.new wr _ _
          have hmx := HME.out.upd ux id
          have e1 := run_look kbyint Try.underlying93 zeroN' hmx.is x.f
          have e2 := run_look kbyint Try.underlying93 zeroN' hmx.is x.t
          rw [HG.out] at e1 e2
          have d0 := bo.cell 0
          have d1 := bo.cell 1
          simp only [List.getElem?_cons_zero, List.getElem?_cons_succ] at d0 d1
          obtain ⟨p, hp⟩ : ∃ p, idxS x.f order 0 + 1 = p := ⟨_, rfl⟩
          obtain ⟨q, hq⟩ : ∃ q, idxS x.t order 0 + 1 = q := ⟨_, rfl⟩
          rw [hp] at e1
          rw [hq] at e2
          have HV := Lib.hid (show alongE order x = !(decide (0 < p) && decide (0 < q) && decide (q ≤ p)) by
            unfold alongE; rw [← hp, ← hq]
            generalize idxS x.f order 0 = a
            generalize idxS x.t order 0 = b
            rw [Bool.eq_iff_iff]
            simp only [Bool.not_eq_true', Bool.and_eq_false_iff, decide_eq_false_iff_not]
            omega)
          have HUX := Lib.hid ux
          clear hp hq hs hdr hxx bo ux hmx hu
          by_cases e3 : 0 < p
          · by_cases e4 : 0 < q
            · by_cases e5 : q ≤ p
              · go_wp2
                go_ret
                exact ⟨by rw [← HD.out, HV.out, decide_eq_true e3, decide_eq_true e4, decide_eq_true e5]; rfl, hur.trans HUX.out⟩
              · have HN := Lib.hid (show (l.drop (k + 1)).all (alongE order) = l.all (alongE order) by rw [← HD.out, HV.out, decide_eq_true e3, decide_eq_true e4, decide_eq_false e5]; rfl)
                go_wp2
                go_roundg (gk - 1)
                case measure => omega
                case rel => exact ⟨k + 1, by omega, by go_num, HN, HUX.out⟩
            · have HN := Lib.hid (show (l.drop (k + 1)).all (alongE order) = l.all (alongE order) by rw [← HD.out, HV.out, decide_eq_true e3, decide_eq_false e4]; rfl)
              go_wp2
              go_roundg (gk - 1)
              case measure => omega
              case rel => exact ⟨k + 1, by omega, by go_num, HN, HUX.out⟩
          · have HN := Lib.hid (show (l.drop (k + 1)).all (alongE order) = l.all (alongE order) by rw [← HD.out, HV.out, decide_eq_false e3]; rfl)
            go_wp2
            go_roundg (gk - 1)
            case measure => omega
            case rel => exact ⟨k + 1, by omega, by go_num, HN, HUX.out⟩
        · obtain rfl : k = l.length := by omega
          have HV := Lib.hid (show l.all (alongE order) = true by rw [← hs.out, List.drop_length]; rfl)
          go_wp2
          go_ret
          exact ⟨by rw [HV.out]; rfl, hur.trans hu⟩
end Go.Proofs.Ytaicemjckagcaaa
