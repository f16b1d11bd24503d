/- Orders: the law that none is ahead of the one that is told. -/
import Derived.Test.YtaicemjckagcaaaMbt
import Derived.Test.YtaicemjckagcaaaMby
namespace Go.Proofs.Ytaicemjckagcaaa
set_option linter.unusedVariables false
open Go.RowKit
theorem take_nodup {a : List Int} (h : a.Nodup) {k : Nat} (hk : k < a.length) : a[k] ∉ a.take k := fun hm => by
  rw [List.mem_take_iff_getElem] at hm
  obtain ⟨j, hj, e⟩ := hm
  have := (List.getElem_inj h).1 e
  omega
theorem ordYesR {F G : Nat → Prop} {w : World} {A B : Option Addr} {c d : Nat} {ids a : List Int} {l : List Edge} (hi : Ints F w A ids) (hl : Walk G w B l) (n1 : ids.length ≤ 1000) (n2 : l.length ≤ 1000) (hd : ordD ids l = some a) :
    Calls Try.prog 12 #[.slice A ids.length c, .slice B l.length d] w fun e w' => ∃ A' c', e = .returned (.tuple #[.slice A' a.length c', .int .i64 0]) ∧ Ints (fun i => w.heap.size ≤ i) w' A' a ∧ Upd No w w' := ordYes hi hl n1 n2 rfl rfl hd rfl
set_option maxRecDepth 100000 in
set_option maxHeartbeats 8000000 in
theorem first29 (G H : Nat → Prop) (w : World) (B C : Option Addr) (b c : Nat) (order : List Int) (l : List Edge) (ho : Ints G w B order) (hl : Walk H w C l) (L : Hid Live29) :
    Calls Try.prog 4 #[.slice B order.length b, .slice C l.length c] w fun e w' => e = .returned (.bool true) ∧ Upd No w w' := by
  by_cases h2 : 30 < order.length
  · have i2 : (30 : Int) < (order.length : Int) := by omega
    go_enter Try.func4, Try.ntmps4
    go_wp2_with fail
    refine (L.out _).mono ?_
    rintro e w1 ⟨rfl, hu1⟩
    go_wp2
    go_ret
    exact ⟨rfl, hu1⟩
  · have i2 : ¬ (30 : Int) < (order.length : Int) := by omega
    by_cases h3 : 60 < l.length
    · have i3 : (60 : Int) < (l.length : Int) := by omega
      go_enter Try.func4, Try.ntmps4
      go_wp2_with fail
      refine (L.out _).mono ?_
      rintro e w1 ⟨rfl, hu1⟩
      go_wp2
      go_ret
      exact ⟨rfl, hu1⟩
    · have i3 : ¬ (60 : Int) < (l.length : Int) := by omega
      have HO := Lib.hid ho
      have HL := Lib.hid hl
      have n1 : order.length ≤ 30 := by omega
      have n2 : l.length ≤ 60 := by omega
      clear ho hl h2 h3
      cases hd : ordD order l with
      | none =>
        have HV := ordD_none hd
        have H1 := Lib.hid (fun W (u : Upd No w W) => ordNo (w := W) (c := b) (d := c) (HO.out.upd u (fun _ _ => id)) (HL.out.upd u (fun _ _ => id)) (by omega) (by omega) rfl rfl hd)
        have H3 := Lib.hid (fun W (u : Upd No w W) => alongV (w := W) (c := b) (d := c) (HO.out.upd u (fun _ _ => id)) (HL.out.upd u (fun _ _ => id)) (by omega) (by omega) rfl rfl HV)
        clear hd HV
        go_enter Try.func4, Try.ntmps4
        go_wp2_with fail
        refine (L.out _).mono ?_
        rintro e w1 ⟨rfl, hu1⟩
        go_wp2_with fail
        refine (H1.out w1 hu1).mono ?_
        rintro e w2 ⟨A2, c2, rfl, hu2⟩
        have hv2 := hu1.trans hu2
        go_wp2_with fail
        refine (H3.out w2 hv2).mono ?_
        rintro e w3 ⟨rfl, hu3⟩
        go_wp2
        go_ret
        exact ⟨rfl, hv2.trans hu3⟩
      | some a =>
        have H1 := Lib.hid (fun W (u : Upd No w W) => ordYesR (w := W) (c := b) (d := c) (HO.out.upd u (fun _ _ => id)) (HL.out.upd u (fun _ _ => id)) (by omega) (by omega) hd)
        have hal : a.length ≤ 1000 := by have := told_len order l (by omega); rw [hd] at this; exact this
        obtain ⟨v, hv⟩ : ∃ v, l.all (alongE order) = v := ⟨_, rfl⟩
        have H3 := Lib.hid (fun W (u : Upd No w W) => alongV (w := W) (c := b) (d := c) (HO.out.upd u (fun _ _ => id)) (HL.out.upd u (fun _ _ => id)) (by omega) (by omega) rfl rfl hv)
        have HND := Lib.hid (ordD_nodup hd)
        have HMEM := Lib.hid (ordD_mem hd)
        have HAL := Lib.hid (ordD_along hd)
        have HFI := Lib.hid (fun h1 h2 => ordD_first hd h1 h2)
        have HV := Lib.hid hv
        clear hd hv
        go_enter Try.func4, Try.ntmps4
        go_wp2_with fail
        refine (L.out _).mono ?_
        rintro e w1 ⟨rfl, hu1⟩
        go_wp2_with fail
        refine (H1.out w1 hu1).mono ?_
        rintro e w2 ⟨A2, c2, rfl, hi2, hu2⟩
        have HU2 := Lib.hid (hu1.trans hu2)
        have HI2 := Lib.hid (hi2.weak (G := fun i => w.heap.size ≤ i ∧ i < w2.heap.size) (fun i h1 h => ⟨Nat.le_trans hu1.size h, h1⟩))
        clear hu1 hu2 hi2
        go_wp2
        go_loopg [7, 37] a.length (fun gk s i wr => ∃ (k : Nat) (A7 : Option Addr) (c7 : Nat) (xs : List Int), k + gk = a.length ∧ i = .int .i64 k ∧ s = .slice A7 xs.length c7 ∧ Hid (xs = a.take k) ∧ Hid (wr.ownsRow w2.heap.size 3 1 (.slice A7 xs.length c7) xs.length (xs.map (Value.int .i64))) ∧ Upd No w2 wr)
        case atStart => exact ⟨0, none, 0, [], by omega, rfl, rfl, Lib.hid rfl, Lib.hid (World.ownsRow_nil _ _ _ _), Upd.refl _ _⟩
        case round =>
          obtain ⟨k, A7, c7, xs, hgk, rfl, rfl, hs, hown, hu⟩ := hrel
          by_cases hlt : k < a.length
          · have hxl : xs.length ≤ 1000 := by rw [hs.out, List.length_take]; omega
            obtain ⟨ad, hAd, _, _, hc⟩ := (HI2.out.upd hu (fun _ _ => id)).at_ hlt
            obtain ⟨x, hx⟩ : ∃ x, a[k] = x := ⟨_, rfl⟩
            rw [hx] at hc
            subst hAd
            have HC1 := Lib.hid (rin01u wr _ A7 c7 xs x (Ints.of_own hown.out) (by omega) (v := false) (by rw [hs.out, ← hx]; simpa using take_nodup HND.out hlt))
            have HC2 := Lib.hid (fun W (u : Upd No wr W) => rin01u W G B b order x (HO.out.upd ((HU2.out.trans hu).trans u) (fun _ _ => id)) (by omega) (v := true) (by rw [← hx]; simpa using (HMEM.out _).1 (List.getElem_mem hlt)))
            have HS := Lib.hid (show xs ++ [x] = a.take (k + 1) by rw [hs.out, ← hx]; exact (List.take_succ_eq_append_getElem hlt).symm)
            have b1 : (0 : Int) ≤ (k : Int) := Int.natCast_nonneg _
            have b2 : (k : Int) < (a.length : Int) := by omega
            clear hx
            go_wp2_with fail
            refine (HC1.out).mono ?_
            rintro e w3 ⟨rfl, hu3⟩
            go_wp2_with fail
            refine (HC2.out w3 hu3).mono ?_
            rintro e w4 ⟨rfl, hu4⟩
            have hv4 := hu3.trans hu4
            have HO4 := Lib.hid (own_upd hown.out hv4 (fun _ _ => id))
            have HU4 := Lib.hid (hu.trans hv4)
            have hz4 := (hu.trans hv4).size
            go_wp2_with (at_builtin; refine app1s rfl rfl slt_int (base := w2.heap.size) (v := .slice A7 xs.length c7) (n := xs.length) (xs := xs.map (Value.int .i64)) (cells := [.int .i64 x]) (by rfl) (by rfl) HO4.out rfl rfl (by omega) (by omega) (by omega) ?_; intro g9 c9 w9 hown9 hu9 hg9 hlt9)
            go_roundg (gk - 1)
            case measure => omega
            case rel =>
              have hl1 : (xs ++ [x]).length = xs.length + 1 := by simp
              exact ⟨k + 1, some ⟨g9, 0, none⟩, c9, xs ++ [x], by omega, by go_num, by rw [hl1], HS, Lib.hid (by rw [hl1, List.map_append]; exact hown9), HU4.out.then_ hu9 (fun i e => Or.inr (HO4.out.lt i e).1)⟩
          · obtain rfl : k = a.length := by omega
            obtain ⟨wo, hwo⟩ : ∃ wo, wo = wr := ⟨_, rfl⟩
            subst hwo
            have HI3 := Lib.hid (HI2.out.upd hu (fun _ _ => id))
            have HU3 := Lib.hid (HU2.out.trans hu)
            clear hs hown hu
            go_wp2
            go_loopg [57] order.length (fun gk i wr => ∃ k : Nat, k + gk = order.length ∧ i = .int .i64 k ∧ Upd No wo wr)
            case atStart => exact ⟨0, by omega, rfl, Upd.refl _ _⟩
            case round =>
              obtain ⟨k, hgk, rfl, hu⟩ := hrel
              by_cases hlt : k < order.length
              · obtain ⟨ad, hAd, _, _, hc⟩ := (HO.out.upd (HU3.out.trans hu) (fun _ _ => id)).at_ hlt
                obtain ⟨x, hx⟩ : ∃ x, order[k] = x := ⟨_, rfl⟩
                rw [hx] at hc
                subst hAd
                have HC1 := Lib.hid (rin01u wr _ A2 c2 a x (HI3.out.upd hu (fun _ _ => id)) (by omega) (v := true) (by rw [← hx]; simpa using (HMEM.out _).2 (List.getElem_mem hlt)))
                have b1 : (0 : Int) ≤ (k : Int) := Int.natCast_nonneg _
                have b2 : (k : Int) < (order.length : Int) := by omega
                clear hx
                go_wp2_with fail
                refine (HC1.out).mono ?_
                rintro e w3 ⟨rfl, hu3⟩
                go_wp2
                go_roundg (gk - 1)
                case measure => omega
                case rel => exact ⟨k + 1, by omega, by go_num, hu.trans hu3⟩
              · obtain rfl : k = order.length := by omega
                have H4 := Lib.hid (fun W (u : Upd No wo W) => alongV (w := W) (c := c2) (d := c) (HI3.out.upd u (fun _ _ => id)) (HL.out.upd (HU3.out.trans u) (fun _ _ => id)) (by omega) (by omega) rfl rfl HAL.out)
                go_wp2_with fail
                refine (H4.out _ hu).mono ?_
                rintro e w4 ⟨rfl, hu4⟩
                have hv4 := hu.trans hu4
                go_wp2_with fail
                · have HLE := Lib.hid (show a.length = order.length by omega)
                  refine (H3.out w4 (HU3.out.trans hv4)).mono ?_
                  rintro e w5 ⟨rfl, hu5⟩
                  have hv5 := hv4.trans hu5
                  cases v
                  · go_wp2_with fail
                    refine (H4.out w5 hv5).mono ?_
                    rintro e w6 ⟨rfl, hu6⟩
                    go_wp2
                    go_ret
                    exact ⟨rfl, HU3.out.trans (hv5.trans hu6)⟩
                  · have HLX := Lib.hid (HFI.out HLE.out HV.out)
                    go_wp2
                    go_loopg [88] a.length (fun gk i wr => ∃ k : Nat, k + gk = a.length ∧ i = .int .i64 k ∧ Hid (lexF (a.drop k) (order.drop k) = true) ∧ Upd No w5 wr)
                    case atStart => exact ⟨0, by omega, rfl, HLX, Upd.refl _ _⟩
                    case round =>
                      obtain ⟨k, hgk, rfl, hs, hu9⟩ := hrel
                      have hv9 := hv5.trans hu9
                      by_cases hlt : k < a.length
                      · have hl2 : k < order.length := by have := HLE.out; omega
                        obtain ⟨ad, hAd, _, _, hc⟩ := (HI3.out.upd hv9 (fun _ _ => id)).at_ hlt
                        obtain ⟨ad2, hAd2, _, _, hc2⟩ := (HO.out.upd (HU3.out.trans hv9) (fun _ _ => id)).at_ hl2
                        obtain ⟨x, hx⟩ : ∃ x, a[k] = x := ⟨_, rfl⟩
                        obtain ⟨y, hy⟩ : ∃ y, order[k] = y := ⟨_, rfl⟩
                        rw [hx] at hc
                        rw [hy] at hc2
                        have HST := Lib.hid (lexF_step hlt hl2 hx hy)
                        subst hAd hAd2
                        have b1 : (0 : Int) ≤ (k : Int) := Int.natCast_nonneg _
                        have b2 : (k : Int) < (a.length : Int) := by omega
                        have b3 : (k : Int) < (order.length : Int) := by omega
                        clear hx hy
                        by_cases hxy : x = y
                        · have HN := Lib.hid (show lexF (a.drop (k + 1)) (order.drop (k + 1)) = true by have := HST.out; rw [if_pos hxy] at this; rw [← this]; exact hs.out)
                          subst hxy
                          go_wp2
                          go_quiet (fail)
                          go_wp2
                          go_roundg (gk - 1)
                          case measure => omega
                          case rel => exact ⟨k + 1, by omega, by go_num, HN, hu9.drewN _⟩
                        · have hxy2 : (x != y) = true := by simpa using hxy
                          have hxl : x < y := by have := HST.out; rw [if_neg hxy, hs.out] at this; simpa using this.symm
                          go_wp2
                          go_quiet (fail)
                          go_wp2
                          go_quiet (fail)
                          go_wp2
                          go_ret
                          exact ⟨rfl, ((HU3.out.trans hv9).drewN _).drewN _⟩
                      · obtain rfl : k = a.length := by omega
                        go_wp2
                        go_ret
                        exact ⟨rfl, HU3.out.trans hv9⟩
                · refine (H4.out w4 hv4).mono ?_
                  rintro e w6 ⟨rfl, hu6⟩
                  go_wp2
                  go_ret
                  exact ⟨rfl, HU3.out.trans (hv4.trans hu6)⟩
end Go.Proofs.Ytaicemjckagcaaa

/- Orders: the law that there is an order just if no closed walk goes through the ids. -/
namespace Go.Proofs.Ytaicemjckagcaaa
set_option linter.unusedVariables false
open Go.RowKit
end Go.Proofs.Ytaicemjckagcaaa
