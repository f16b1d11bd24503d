/- Digraphs: an end taken out from among others. -/
import Derived.Test.YtmnhgdedkniafaaMae
namespace Go.Proofs.Ytmnhgdedkniafaa
set_option linter.unusedVariables false
open Go.RowKit
def delAt (l : List DEnd) (i : Nat) : List DEnd := l.take i ++ l.drop (i + 1)
theorem delAt_len (l : List DEnd) (i : Nat) (hi : i < l.length) : (delAt l i).length = l.length - 1 := by
  unfold delAt; simp; omega
/-- what an end's being taken out comes to -/
def Deld (w : World) (base : Nat) (v : Value) (l : List DEnd) (e : Ending) (w' : World) : Prop :=
  ∃ A' c', e = .returned (.slice A' l.length c') ∧ w'.ownsRow base 138 3 (.slice A' l.length c') l.length (l.map DEnd.cells).flatten ∧ Upd (Own v) w w' ∧ Grew w v (.slice A' l.length c')
set_option maxRecDepth 100000 in
set_option maxHeartbeats 2000000 in
theorem ddel (w : World) (base : Nat) (A : Option Addr) (c : Nat) (l : List DEnd) (i : Nat) (hown : w.ownsRow base 138 3 (.slice A l.length c) l.length (l.map DEnd.cells).flatten) (hi : i < l.length) (hl : l.length ≤ 100000) :
    Calls Try.prog 158 #[.slice A l.length c, .int .i64 (i : Int), .int .i64 ((i : Int) + 1)] w (Deld w base (.slice A l.length c) (delAt l i)) := by
  have hil := delAt_len l i hi
  have hpos : 0 < l.length := by omega
  obtain ⟨g, cur, rfl, hgb, hB, hnc, hcl, hct, hcm⟩ := own_blk hown hpos
  have hcs : ((l.drop (i + 1)).map DEnd.cells).flatten = (cur.take (l.length * 3)).drop ((i + 1) * 3) := by rw [hct, dflat_drop l (i + 1) (by omega)]
  have hcsl : ((l.drop (i + 1)).map DEnd.cells).flatten.length = (l.length - (i + 1)) * 3 := by rw [dflat_len, List.length_drop]
  have htk : cur.take (i * 3) = ((l.take i).map DEnd.cells).flatten := by rw [← dflat_take l i (by omega), ← hct, List.take_take, Nat.min_eq_left (by omega)]
  have b0 : (0 : Int) ≤ (i : Int) := Int.natCast_nonneg _
  have b1 : (i : Int) < (l.length : Int) := by omega
  have b2 : (l.length : Int) ≤ 100000 := by omega
  have b3 : (l.length : Int) ≤ (c : Int) := by omega
  have heq : ((i : Int) == (i : Int) + 1) = false := by rw [beq_eq_false_iff_ne]; omega
  have hsrc : ∃ ad, (∀ W, (Instr.slice 141 (.slice (some ⟨g, 0, none⟩) l.length c) (some (.int .i64 ((i : Int) + 1))) none none).run Try.prog W = .ok (.slice (some ad) (l.length - (i + 1)) (c - (i + 1))) W) ∧
      ∀ (j : Nat) v, ((l.drop (i + 1)).map DEnd.cells).flatten[j]? = some v → w.cell? (ad.add j) = some v := by
    have hr := fun W => run_cut_l W slt_dends (some ⟨g, 0, none⟩) l.length c (i + 1) (by omega)
    by_cases hci : c = i + 1
    · refine ⟨⟨g, 0, none⟩, fun W => ?_, fun j v hj => ?_⟩
      · have := hr W
        unfold cutA at this
        rw [if_pos hci] at this
        exact this
      · have h0 : ((l.drop (i + 1)).map DEnd.cells).flatten = [] := List.eq_nil_of_length_eq_zero (by rw [hcsl]; omega)
        rw [h0] at hj
        simp at hj
    · refine ⟨⟨g, (i + 1) * 3, none⟩, fun W => ?_, fun j v hj => ?_⟩
      · have := hr W
        rwa [cutAi hci] at this
      · rw [blk_lit_add, hB.cell]
        rw [hcs, List.getElem?_drop, List.getElem?_take] at hj
        split at hj
        · exact hj
        · cases hj
  obtain ⟨ad, k1, hsrc2⟩ := hsrc
  have k2 : ∀ W, (Instr.slice 141 (.slice (some ⟨g, 0, none⟩) l.length c) none (some (.int .i64 (i : Int))) none).run Try.prog W = .ok (.slice (some ⟨g, 0, none⟩) i c) W := fun W => by
    have := run_cut_h W slt_dends (some ⟨g, 0, none⟩) l.length c i (by omega)
    rwa [cutA0] at this
  obtain ⟨p, hp⟩ : ∃ p, l.length = p + 1 := ⟨l.length - 1, by omega⟩
  have hsum : i + (l.length - (i + 1)) = p := by omega
  have k3 : ∀ W, (Instr.slice 141 (.slice (some ⟨g, 0, none⟩) p c) (some (.int .i64 (p : Int))) (some (.int .i64 (l.length : Int))) none).run Try.prog W = .ok (.slice (some ⟨g, p * 3, none⟩) 1 (c - p)) W := fun W => by
    have := run_cut_lh W slt_dends (some ⟨g, 0, none⟩) p c p l.length (by omega) (by omega)
    rwa [cutAi (by omega), show l.length - p = 1 by omega] at this
  have HP := Lib.hid hp
  have HB := Lib.hid hB
  have HS := Lib.hid hsrc2
  have HCL := Lib.hid hcsl
  have HTK := Lib.hid htk
  have HCl := Lib.hid hcl
  have HI := Lib.hid hil
  have b5 : IntKind.i64.wrap ((i : Int) + 1) = (i : Int) + 1 := IntWalk.i64_in _ (by omega)
  have b4 : (0 : Int) ≤ (p : Int) := Int.natCast_nonneg _
  clear hB hsrc2 hcs hcsl htk hcl hct hil hown hp
  go_enter Try.func158, Try.ntmps158
  go_wp2
  refine wp_region_noPanic ?_
  refine wp_region_held_drew (S := (fun w' => Upd (One g) w w')) (by kernel_rfl) ?_ (fun hHeld => ?_)
  · (first | exact (Upd.refl _ _).drew | exact hU5)
  refine wpT 0 ⟨some 20, .move (.tmp 0), 141, "slices.go:232", #[], none⟩ ?_ (.inl ⟨by rfl, ?_⟩) ?_
  rotate_left
  · (intro W hSw; (try dsimp only at hSw); go_simp; try (with_reducible rfl))
  try simp only [Act.put, List.setIfInBounds_toArray, List.set_cons_zero, List.set_cons_succ]
  refine wpT 1 ⟨some 21, .move (.tmp 1), 3, "slices.go:232", #[], none⟩ ?_ (.inl ⟨by rfl, ?_⟩) ?_
  rotate_left
  · (intro W hSw; (try dsimp only at hSw); go_simp; try (with_reducible rfl))
  try simp only [Act.put, List.setIfInBounds_toArray, List.set_cons_zero, List.set_cons_succ]
  refine wpT 2 ⟨some 22, .slice 141 (.tmp 20) none (some (.tmp 21)) none, 141, "slices.go:232", #[⟨0, .data⟩, ⟨1, .data⟩], none⟩ ?_ (.inl ⟨by rfl, ?_⟩) ?_
  rotate_left
  · (intro W hSw; (try dsimp only at hSw); go_simp; try (with_reducible rfl))
  try simp only [Act.put, List.setIfInBounds_toArray, List.set_cons_zero, List.set_cons_succ]
  refine wpT 3 ⟨some 23, .move (.tmp 0), 141, "slices.go:232", #[], none⟩ ?_ (.inl ⟨by rfl, ?_⟩) ?_
  rotate_left
  · (intro W hSw; (try dsimp only at hSw); go_simp; try (with_reducible rfl))
  try simp only [Act.put, List.setIfInBounds_toArray, List.set_cons_zero, List.set_cons_succ]
  refine wpT 4 ⟨some 24, .move (.tmp 2), 3, "slices.go:232", #[], none⟩ ?_ (.inl ⟨by rfl, ?_⟩) ?_
  rotate_left
  · (intro W hSw; (try dsimp only at hSw); go_simp; try (with_reducible rfl))
  try simp only [Act.put, List.setIfInBounds_toArray, List.set_cons_zero, List.set_cons_succ]
  refine wpT 5 ⟨some 25, .slice 141 (.tmp 23) (some (.tmp 24)) none none, 141, "slices.go:232", #[⟨3, .data⟩, ⟨4, .data⟩], none⟩ ?_ (.inl ⟨by rfl, ?_⟩) ?_
  rotate_left
  · (intro W hSw; (try dsimp only at hSw); go_simp; try (with_reducible rfl))
  try simp only [Act.put, List.setIfInBounds_toArray, List.set_cons_zero, List.set_cons_succ]
  refine wpAnyH_ready (rs := [6]) (by kernel_rfl) (by simp) ?_
  refine AllReadyH.cons (o := ⟨some 26, .call { callee := .builtin .append, args := #[.tmp 22, .tmp 25], argTypes := #[141, 141] }, 141, "slices.go:232", #[⟨2, .data⟩, ⟨5, .data⟩], none⟩) rfl (fun K hK => ?_) AllReadyH.nil
  (first
    | (refine step_appRoomB rfl rfl slt_dends (g := g) (n := i) (m := l.length - (i + 1)) (news := ((l.drop (i + 1)).map DEnd.cells).flatten) rfl rfl (show Blk _ g 138 cur from HB.out) HCL.out HS.out (by omega) (by rw [HCL.out, HCl.out]; omega) dends_one ?_; intro w5 hB5 hu5; have hU5 : Upd (One g) w w5 := hu5.of_drew))
  refine hK.out _ _ ?_ (fun hHeld => ?_)
  · (first | exact (Upd.refl _ _).drew | exact hU5)
  clear hK K
  try simp only [Act.put, List.setIfInBounds_toArray, List.set_cons_zero, List.set_cons_succ]
  refine wpT 7 ⟨some 0, .assign (.tmp 26), 141, "slices.go:232", #[⟨6, .data⟩, ⟨6, .chain⟩, ⟨0, .phase⟩, ⟨1, .phase⟩, ⟨2, .phase⟩, ⟨3, .phase⟩, ⟨4, .phase⟩, ⟨5, .phase⟩, ⟨6, .phase⟩], none⟩ ?_ (.inl ⟨by rfl, ?_⟩) ?_
  rotate_left
  · (intro W hSw; (try dsimp only at hSw); go_simp; try (with_reducible rfl))
  try simp only [Act.put, List.setIfInBounds_toArray, List.set_cons_zero, List.set_cons_succ]
  refine wpAnyH_done (by kernel_rfl) (NoPanic.normal ?_) _
  have HU5 := Lib.hid hU5
  have HB5 := Lib.hid hB5
  have hlen5 : (cur.take (i * 3) ++ ((l.drop (i + 1)).map DEnd.cells).flatten ++ cur.drop (i * 3 + ((l.drop (i + 1)).map DEnd.cells).flatten.length)).length = c * 3 := by
    have h1 := HP.out
    simp only [List.length_append, List.length_take, List.length_drop, HCL.out, HCl.out]
    omega
  have HL5 := Lib.hid hlen5
  clear hHeld hU5 hu5 hB5 b5 hlen5
  go_wp2_with (refine wp_clearB rfl rfl slt_dends (z := .agg #[.int .i64 0, .int .i64 0, .int .i64 0]) (fun w => by kernel_rfl) rfl (by intro v hv; simp [Value.cells] at hv; subst hv; rfl) (g := g) (off := p * 3) (n := 1) rfl (by omega) HB5.out (by rw [HL5.out]; have := HP.out; omega) ?_; intro zs w6 hzs hB6 hu6)
  have hp := HP.out
  have hfin : (((cur.take (i * 3) ++ ((l.drop (i + 1)).map DEnd.cells).flatten ++ cur.drop (i * 3 + ((l.drop (i + 1)).map DEnd.cells).flatten.length)).take (p * 3) ++ zs ++ (cur.take (i * 3) ++ ((l.drop (i + 1)).map DEnd.cells).flatten ++ cur.drop (i * 3 + ((l.drop (i + 1)).map DEnd.cells).flatten.length)).drop (p * 3 + zs.length))).take (p * 3) = ((delAt l i).map DEnd.cells).flatten := by
    have e : ((delAt l i).map DEnd.cells).flatten = cur.take (i * 3) ++ ((l.drop (i + 1)).map DEnd.cells).flatten := by rw [HTK.out]; unfold delAt; simp
    have hl2 : (cur.take (i * 3) ++ ((l.drop (i + 1)).map DEnd.cells).flatten).length = p * 3 := by rw [← e, dflat_len, HI.out]; omega
    rw [e, List.append_assoc (List.take (p * 3) _), List.take_append_of_le_length (by simp only [List.length_take, HL5.out]; omega), List.take_take, Nat.min_self, List.take_append_of_le_length (by omega), List.take_of_length_le (by omega)]
  have hlen6 : ((cur.take (i * 3) ++ ((l.drop (i + 1)).map DEnd.cells).flatten ++ cur.drop (i * 3 + ((l.drop (i + 1)).map DEnd.cells).flatten.length)).take (p * 3) ++ zs ++ (cur.take (i * 3) ++ ((l.drop (i + 1)).map DEnd.cells).flatten ++ cur.drop (i * 3 + ((l.drop (i + 1)).map DEnd.cells).flatten.length)).drop (p * 3 + zs.length)).length = c * 3 := by
    rw [List.length_append, List.length_append, List.length_take, List.length_drop, HL5.out, hzs]
    omega
  have hown6 := own_of_blk (size := 3) (n := p) (xs := ((delAt l i).map DEnd.cells).flatten) hB6 hgb (by omega) hlen6 hfin hcm (by rw [dflat_len, HI.out]; omega)
  have H6 := Lib.hid (And.intro hown6 (HU5.out.trans hu6))
  clear hfin hlen6 hown6 hB6 hu6 hp
  go_wp2
  go_ret
  have hip : (delAt l i).length = p := by rw [HI.out, HP.out]; rfl
  refine ⟨some ⟨g, 0, none⟩, c, by rw [hip]; rfl, ?_, H6.out.2.mono (fun j _ e => by cases e; rfl), .inl rfl⟩
  rw [hip]
  exact H6.out.1
end Go.Proofs.Ytmnhgdedkniafaa

/- Digraphs: ends put in and taken out. -/
namespace Go.Proofs.Ytmnhgdedkniafaa
set_option linter.unusedVariables false
open Go.RowKit
theorem dends_own {w : World} {base : Nat} {A : Option Addr} {c : Nat} {l : List DEnd} (h : w.ownsRow base 138 3 (.slice A l.length c) l.length (l.map DEnd.cells).flatten) : DEnds (Own (.slice A l.length c)) w A l :=
  Recs.of_own (n := l.length) (c := c) dends_len (by omega) h
theorem Grew.older {w W : World} {v v' : Value} (h : Grew W v v') (k : w.heap.size ≤ W.heap.size) : Grew w v v' := by
  rcases h with h | ⟨j, h1, h2⟩
  · exact .inl h
  · exact .inr ⟨j, h1, Nat.le_trans k h2⟩
set_option maxRecDepth 100000 in
theorem dput (w : World) (base : Nat) (A : Option Addr) (c : Nat) (l : List DEnd) (e : DEnd) (p : Nat) (hown : w.ownsRow base 138 3 (.slice A l.length c) l.length (l.map DEnd.cells).flatten) (hp : Parts l e p) (hl : l.length ≤ 100000) (hbase : base ≤ w.heap.size) :
    Calls Try.prog 102 #[.slice A l.length c, .agg e.cells.toArray] w (Insd w base (.slice A l.length c) (insAt l p e)) := by
  have u0 := (Upd.refl No w).alloc (.cells e.cells.toArray 138)
  have bE := Lib.hid (Blk.new w 138 e.cells)
  have hf := Lib.hid (dfind _ (w.alloc (.cells e.cells.toArray 138)) A c l e p ((dends_own hown).upd u0 (fun _ _ => id)) (by omega) hp)
  have hp1 := hp.1
  have HO := Lib.hid hown
  have U0 := Lib.hid u0
  obtain ⟨ek, el, en⟩ := e
  unfold DEnd.cells at *
  clear hown hp u0
  go_enter Try.func102, Try.ntmps102
  go_wp2_with fail
  refine (hf.out).mono ?_
  rintro e w1 ⟨rfl, hu1⟩
  have b1 := bE.out.upd hu1 id
  have c0 := b1.cell 0
  have c1 := b1.cell 1
  have c2 := b1.cell 2
  simp only [List.getElem?_cons_zero, List.getElem?_cons_succ] at c0 c1 c2
  have hU := U0.out.trans hu1
  have uV := hU.alloc (.cells #[.int .i64 ek, .int .i64 el, .int .i64 en] 138)
  have hown2 := own_upd HO.out uV (fun _ _ => id)
  have hnv : ¬ Own (.slice A l.length c) w1.heap.size := fun e => by
    have h1 := (HO.out.lt _ e).2
    have h2 := hU.size
    omega
  have hd := Lib.hid (dins (w1.alloc (.cells #[.int .i64 ek, .int .i64 el, .int .i64 en] 138)) base A c l p ⟨ek, el, en⟩ w1.heap.size hown2 (Blk.new w1 138 [.int .i64 ek, .int .i64 el, .int .i64 en]) hnv hp1 hl (Nat.le_trans hbase uV.size))
  have UV := Lib.hid uV
  clear b1 hu1 hU uV hown2 hnv
  go_wp2_with fail
  refine (hd.out).mono ?_
  rintro e w2 ⟨A4, c4, rfl, ho4, hu4, hg4⟩
  have H4 := Lib.hid (And.intro ho4 (And.intro hu4 hg4))
  clear ho4 hu4 hg4
  go_wp2
  go_ret
  exact ⟨A4, c4, rfl, H4.out.1, (UV.out.mono (fun _ _ e => e.elim)).trans H4.out.2.1, H4.out.2.2.older UV.out.size⟩
set_option maxRecDepth 100000 in
theorem dtake (w : World) (base : Nat) (A : Option Addr) (c : Nat) (l : List DEnd) (e : DEnd) (p : Nat) (hown : w.ownsRow base 138 3 (.slice A l.length c) l.length (l.map DEnd.cells).flatten) (hp : Parts l e p) (hpl : p < l.length) (hl : l.length ≤ 100000) :
    Calls Try.prog 103 #[.slice A l.length c, .agg e.cells.toArray] w (Deld w base (.slice A l.length c) (delAt l p)) := by
  have u0 := (Upd.refl No w).alloc (.cells e.cells.toArray 138)
  have hf := Lib.hid (dfind _ (w.alloc (.cells e.cells.toArray 138)) A c l e p ((dends_own hown).upd u0 (fun _ _ => id)) (by omega) hp)
  have hp1 := hp.1
  have HO := Lib.hid hown
  have U0 := Lib.hid u0
  obtain ⟨ek, el, en⟩ := e
  unfold DEnd.cells at *
  have b1 : (0 : Int) ≤ (p : Int) := Int.natCast_nonneg _
  have b2 : (p : Int) < (l.length : Int) := by omega
  clear hown hp u0
  go_enter Try.func103, Try.ntmps103
  go_wp2_with fail
  refine (hf.out).mono ?_
  rintro e w1 ⟨rfl, hu1⟩
  have hU := U0.out.trans hu1
  have hd := Lib.hid (ddel w1 base A c l p (own_upd HO.out hU (fun _ _ => id)) hpl hl)
  have HU := Lib.hid hU
  clear hu1 hU
  go_wp2_with fail
  refine (hd.out).mono ?_
  rintro e w2 ⟨A4, c4, rfl, ho4, hu4, hg4⟩
  have H4 := Lib.hid (And.intro ho4 (And.intro hu4 hg4))
  clear ho4 hu4 hg4
  go_wp2
  go_ret
  exact ⟨A4, c4, rfl, H4.out.1, (HU.out.mono (fun _ _ e => e.elim)).trans H4.out.2.1, H4.out.2.2.older HU.out.size⟩
/-! rising ends -/
def riseD (l : List DEnd) : Prop := l.Pairwise fun a b => cmpD a b < 0
theorem cmpI_lt {a b : Int} : cmpI a b < 0 ↔ a < b := by unfold cmpI; split <;> (try split) <;> omega
theorem cmpI_eq {a b : Int} : cmpI a b = 0 ↔ a = b := by unfold cmpI; split <;> (try split) <;> omega
theorem cmpD_lt (a b : DEnd) : cmpD a b < 0 ↔ a.kind < b.kind ∨ (a.kind = b.kind ∧ (a.label < b.label ∨ (a.label = b.label ∧ a.node < b.node))) := by
  unfold cmpD
  simp only [orI_cons]
  by_cases h1 : a.kind = b.kind
  · rw [if_pos (cmpI_eq.2 h1)]
    by_cases h2 : a.label = b.label
    · rw [if_pos (cmpI_eq.2 h2)]
      by_cases h3 : a.node = b.node
      · rw [if_pos (cmpI_eq.2 h3)]
        simp [orI, h1, h2, h3]
      · rw [if_neg (fun e => h3 (cmpI_eq.1 e)), cmpI_lt]
        simp [h1, h2]
    · rw [if_neg (fun e => h2 (cmpI_eq.1 e)), cmpI_lt]
      simp [h1, h2]
  · rw [if_neg (fun e => h1 (cmpI_eq.1 e)), cmpI_lt]
    simp [h1]
theorem cmpD_eq (a b : DEnd) : cmpD a b = 0 ↔ a = b := by
  obtain ⟨ak, al, an⟩ := a
  obtain ⟨bk, bl, bn⟩ := b
  unfold cmpD
  simp only [orI_cons, DEnd.mk.injEq]
  by_cases h1 : ak = bk
  · rw [if_pos (cmpI_eq.2 h1)]
    by_cases h2 : al = bl
    · rw [if_pos (cmpI_eq.2 h2)]
      by_cases h3 : an = bn
      · rw [if_pos (cmpI_eq.2 h3)]
        simp [orI, h1, h2, h3]
      · rw [if_neg (fun e => h3 (cmpI_eq.1 e)), cmpI_eq]
        simp [h1, h2]
    · rw [if_neg (fun e => h2 (cmpI_eq.1 e)), cmpI_eq]
      simp [h2]
  · rw [if_neg (fun e => h1 (cmpI_eq.1 e)), cmpI_eq]
    simp [h1]
theorem cmpD_trans {a b c : DEnd} (h : cmpD a b < 0) (k : cmpD b c < 0) : cmpD a c < 0 := by
  rw [cmpD_lt] at *; omega
/-- where an end stands, or would -/
def posD (l : List DEnd) (e : DEnd) : Nat := l.countP fun x => decide (cmpD x e < 0)
theorem posD_parts {l : List DEnd} (h : riseD l) (e : DEnd) : Parts l e (posD l e) := by
  refine ⟨List.countP_le_length, ?_⟩
  induction l with
  | nil => intro k hk; simp at hk
  | cons a l ih =>
    have h' := List.pairwise_cons.1 h
    intro k hk
    unfold posD
    rw [List.countP_cons]
    by_cases ha : cmpD a e < 0
    · rw [if_pos (by simpa using ha)]
      cases k with
      | zero => simp only [List.getElem_cons_zero, ha, true_iff]; omega
      | succ k =>
        rw [List.getElem_cons_succ, ih h'.2 k (by simpa using hk)]
        unfold posD
        omega
    · rw [if_neg (by simpa using ha)]
      have h0 : l.countP (fun x => decide (cmpD x e < 0)) = 0 := by
        rw [List.countP_eq_zero]
        intro x hx
        simp only [decide_eq_true_eq]
        exact fun hxe => ha (cmpD_trans (h'.1 x hx) hxe)
      rw [h0]
      cases k with
      | zero => simp only [List.getElem_cons_zero, ha, false_iff]; omega
      | succ k =>
        rw [List.getElem_cons_succ]
        constructor
        · intro hx
          exact absurd (cmpD_trans (h'.1 _ (List.getElem_mem _)) hx) ha
        · intro hx; omega
theorem isAt_mem {l : List DEnd} (h : riseD l) (e : DEnd) : isAt l e (posD l e) = decide (e ∈ l) := by
  have hp := posD_parts h e
  rw [Bool.eq_iff_iff, decide_eq_true_eq]
  unfold isAt
  constructor
  · intro hi
    split at hi
    · rename_i x hx
      have := (cmpD_eq x e).1 (by simpa using hi)
      subst this
      exact List.mem_of_getElem? hx
    · cases hi
  · intro hm
    obtain ⟨k, hk, rfl⟩ := List.mem_iff_getElem.1 hm
    have h1 : ¬ k < posD l l[k] := fun hlt => by
      have := (hp.2 k hk).2 hlt
      rw [(cmpD_eq _ _).2 rfl] at this
      omega
    have h2 : ¬ posD l l[k] < k := fun hlt => by
      have h3 := List.pairwise_iff_getElem.1 h (posD l l[k]) k (by omega) hk hlt
      have := (hp.2 _ (by omega)).1 h3
      omega
    have h3 : posD l l[k] = k := by omega
    rw [h3, List.getElem?_eq_getElem hk]
    simp [(cmpD_eq _ _).2 rfl]
end Go.Proofs.Ytmnhgdedkniafaa
