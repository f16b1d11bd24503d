/- Digraphs: whether an arc is there. -/
import Derived.Test.YtmnhgdedkniafaaMaw
namespace Go.Proofs.Ytmnhgdedkniafaa
set_option linter.unusedVariables false
open Go.RowKit
theorem rightA_node {N : Nat} {a : HArc} (h : rightA N a = true) : ∃ i j : Nat, a.f = (i : Int) ∧ a.t = (j : Int) ∧ i < N ∧ j < N := by
  simp only [rightA, nodeB, Bool.and_eq_true, decide_eq_true_eq] at h
  exact ⟨a.f.toNat, a.t.toNat, by omega, by omega, by omega, by omega⟩
theorem two_new (w0 w2 : World) (h : Upd No w0 w2) (t : TypeId) (c1 c2 : List Value) (wb : World) (e : (w2.alloc (.cells c1.toArray t)).alloc (.cells c2.toArray t) = wb) : Blk wb w2.heap.size t c1 ∧ Blk wb (w2.heap.size + 1) t c2 ∧ Upd No w0 wb ∧ Upd No w2 wb := by
  subst e
  refine ⟨(Blk.new w2 t c1).alloc _, ?_, (h.alloc _).alloc _, ((Upd.refl No w2).alloc _).alloc _⟩
  have := Blk.new (w2.alloc (.cells c1.toArray t)) t c2
  simpa using this
def hasA (out : List (List DEnd)) (a : HArc) : Bool := rightA out.length a && (match out[a.f.toNat]? with | some l => decide (outE a ∈ l) | none => false)
section
variable {w : World} {G : Nat → Prop} {g : Nat} {out inn : List (List DEnd)} {n : Int} {ob ib : Nat} {oh ih : List Value} {base : Nat}
set_option maxRecDepth 100000 in
theorem dhas (h : GIs w G g out inn n ob ib oh ih base) (hr : ∀ l ∈ out, riseD l) (a : HArc) : Calls Try.prog 49 #[.pointer (some ⟨g, 0, none⟩), .agg a.cells.toArray] w fun e w' => e = .returned (.bool (hasA out a)) ∧ Upd No w w' := by
  have u0 := (Upd.refl No w).alloc (.cells a.cells.toArray 63)
  have hn := Lib.hid (dright (h.upd u0 (fun _ _ => id)) a)
  have bA := Lib.hid (Blk.new w 63 a.cells)
  have HH := Lib.hid h
  have U0 := Lib.hid u0
  by_cases hR : rightA out.length a = true
  · obtain ⟨i, j, e1, e2, hi, hj⟩ := rightA_node hR
    have hv : hasA out a = decide (outE a ∈ out[i]) := by
      unfold hasA; rw [hR, e1]; simp [List.getElem?_eq_getElem hi]
    have HV := Lib.hid hv
    have HE := Lib.hid (fun (W : World) => dends W a)
    rw [hR] at hn
    obtain ⟨A, c, hoi, hown⟩ := h.ro.2 i hi
    have HO := Lib.hid hown
    have HRi := Lib.hid (hr _ (List.getElem_mem hi))
    have hfew := h.few.2.1 _ (List.getElem_mem hi)
    obtain ⟨af, at', ak, al⟩ := a
    subst e1 e2
    unfold HArc.cells at *
    simp only [outE, inE, DEnd.cells] at HE
    clear hR hv h u0 hr hown
    go_enter Try.func49, Try.ntmps49
    go_wp2_with fail
    refine (hn.out).mono ?_
    rintro e w1 ⟨rfl, hu1⟩
    have b1 := bA.out.upd hu1 id
    have c0 := b1.cell 0
    have c1 := b1.cell 1
    have c2 := b1.cell 2
    have c3 := b1.cell 3
    simp only [List.getElem?_cons_zero, List.getElem?_cons_succ] at c0 c1 c2 c3
    have U1 := Lib.hid (U0.out.trans hu1)
    have B1 := Lib.hid b1
    clear b1 hu1 hn bA U0
    go_wp2_with fail
    refine ((HE.out _)).mono ?_
    rintro e w2 ⟨rfl, hu2⟩
    have U2 := Lib.hid (U1.out.trans hu2)
    have B2 := Lib.hid (B1.out.upd hu2 id)
    clear B1 U1 hu2 c0 c1 c2 c3 HE
    go_wp2
    obtain ⟨wb, hwb⟩ : ∃ wb, (w2.alloc (.cells #[.int .i64 ak, .int .i64 al, .int .i64 (j : Int)] 138)).alloc (.cells #[.int .i64 ak, .int .i64 al, .int .i64 (i : Int)] 138) = wb := ⟨_, rfl⟩
    obtain ⟨n1, n2, n3, n4⟩ := two_new w w2 U2.out 138 [.int .i64 ak, .int .i64 al, .int .i64 (j : Int)] [.int .i64 ak, .int .i64 al, .int .i64 (i : Int)] wb hwb
    have b4 := B2.out.upd n4 id
    have hg := HH.out.upd n3 (fun _ _ => id)
    have hoiL := List.getElem?_eq_some_iff.1 hoi
    have g0 : ∀ W, Upd No wb W → W.cell? ⟨g, 0, none⟩ = some (.slice (some ⟨ob, 0, none⟩) out.length out.length) := fun W hW => (hg.blk.upd hW id).cell 0
    have a0 : ∀ W, Upd No wb W → W.cell? ⟨w.heap.size, 0, none⟩ = some (.int .i64 (i : Int)) := fun W hW => (b4.upd hW id).cell 0
    have oi : ∀ W, Upd No wb W → W.cell? ⟨ob, i, none⟩ = some (.slice A out[i].length c) := fun W hW => by rw [(hg.ob_.upd hW id).cell i]; exact hoi
    have e0 : ∀ W, Upd No wb W → W.cell? ⟨w2.heap.size, 0, none⟩ = some (.int .i64 ak) := fun W hW => (n1.upd hW id).cell 0
    have e1 : ∀ W, Upd No wb W → W.cell? ⟨w2.heap.size, 1, none⟩ = some (.int .i64 al) := fun W hW => (n1.upd hW id).cell 1
    have e2 : ∀ W, Upd No wb W → W.cell? ⟨w2.heap.size, 2, none⟩ = some (.int .i64 (j : Int)) := fun W hW => (n1.upd hW id).cell 2
    have HC := Lib.hid (fun (W : World) (hW : Upd No wb W) => dfind _ W A c out[i] ⟨ak, al, (j : Int)⟩ (posD out[i] ⟨ak, al, (j : Int)⟩) ((dends_own (own_upd HO.out n3 (fun _ _ => id))).upd hW (fun _ _ => id)) (by omega) (posD_parts HRi.out _))
    have k1 : (0 : Int) ≤ (i : Int) := Int.natCast_nonneg _
    have k2 : (i : Int) < (out.length : Int) := by omega
    rw [isAt_mem HRi.out] at HC
    unfold DEnd.cells at HC
    obtain ⟨bv, hbv⟩ : ∃ b, decide ((⟨ak, al, (j : Int)⟩ : DEnd) ∈ out[i]) = b := ⟨_, rfl⟩
    rw [hbv] at HC
    have HV := Lib.hid (HV.out.trans hbv)
    have N3 := Lib.hid n3
    rw [hwb]
    clear hwb n1 n2 n3 n4 b4 hg B2 U2 HH hoi hoiL HO HRi hfew hbv
    refine wp_region_noPanic ?_
    refine wp_region_held_drew (S := (fun w' => Upd No wb w')) (by kernel_rfl) ?_ (fun hHeld => ?_)
    · (first | exact (Upd.refl No _).drew | exact hHeld.trans hu3)
    refine wpT 0 ⟨some 19, .move (.tmp 0), 58, "digraph.go:67", #[], none⟩ ?_ (.inl ⟨by rfl, ?_⟩) ?_
    rotate_left
    · (intro W hSw; (try dsimp only at hSw); go_simp; try (with_reducible rfl))
    try simp only [Act.put]
    try simp only [List.setIfInBounds_toArray]
    try simp only [List.set_cons_succ]
    try simp only [List.set_cons_zero]
    refine wpT 1 ⟨some 20, .nilCheck (.tmp 19), 0, "digraph.go:67", #[⟨0, .data⟩], none⟩ ?_ (.inl ⟨by rfl, ?_⟩) ?_
    rotate_left
    · (intro W hSw; (try dsimp only at hSw); go_simp; try (with_reducible rfl))
    try simp only [Act.put]
    try simp only [List.setIfInBounds_toArray]
    try simp only [List.set_cons_succ]
    try simp only [List.set_cons_zero]
    refine wpT 2 ⟨some 21, .fieldAddr 135 (.tmp 20) 0, 0, "digraph.go:67", #[⟨1, .data⟩], none⟩ ?_ (.inl ⟨by rfl, ?_⟩) ?_
    rotate_left
    · (intro W hSw; (try dsimp only at hSw); go_simp; try (with_reducible rfl))
    try simp only [Act.put]
    try simp only [List.setIfInBounds_toArray]
    try simp only [List.set_cons_succ]
    try simp only [List.set_cons_zero]
    refine wpT 3 ⟨some 22, .load 133 (.tmp 21), 133, "digraph.go:67", #[⟨2, .data⟩], none⟩ ?_ (.inl ⟨by rfl, ?_⟩) ?_
    rotate_left
    · (intro W hSw; (try dsimp only at hSw); go_simp; try (with_reducible rfl))
    try simp only [Act.put]
    try simp only [List.setIfInBounds_toArray]
    try simp only [List.set_cons_succ]
    try simp only [List.set_cons_zero]
    refine wpT 4 ⟨some 23, .fieldAddr 63 (.tmp 3) 0, 0, "digraph.go:67", #[], none⟩ ?_ (.inl ⟨by rfl, ?_⟩) ?_
    rotate_left
    · (intro W hSw; (try dsimp only at hSw); go_simp; try (with_reducible rfl))
    try simp only [Act.put]
    try simp only [List.setIfInBounds_toArray]
    try simp only [List.set_cons_succ]
    try simp only [List.set_cons_zero]
    refine wpT 5 ⟨some 24, .load 3 (.tmp 23), 3, "digraph.go:67", #[⟨4, .data⟩], none⟩ ?_ (.inl ⟨by rfl, ?_⟩) ?_
    rotate_left
    · (intro W hSw; (try dsimp only at hSw); go_simp; try (with_reducible rfl))
    try simp only [Act.put]
    try simp only [List.setIfInBounds_toArray]
    try simp only [List.set_cons_succ]
    try simp only [List.set_cons_zero]
    refine wpT 6 ⟨some 25, .indexAddr 133 (.tmp 22) (.tmp 24), 0, "digraph.go:67", #[⟨3, .data⟩, ⟨5, .data⟩], none⟩ ?_ (.inl ⟨by rfl, ?_⟩) ?_
    rotate_left
    · (intro W hSw; (try dsimp only at hSw); go_simp; try (with_reducible rfl))
    try simp only [Act.put]
    try simp only [List.setIfInBounds_toArray]
    try simp only [List.set_cons_succ]
    try simp only [List.set_cons_zero]
    refine wpT 7 ⟨some 26, .load 141 (.tmp 25), 141, "digraph.go:67", #[⟨6, .data⟩], none⟩ ?_ (.inl ⟨by rfl, ?_⟩) ?_
    rotate_left
    · (intro W hSw; (try dsimp only at hSw); go_simp; try (with_reducible rfl))
    try simp only [Act.put]
    try simp only [List.setIfInBounds_toArray]
    try simp only [List.set_cons_succ]
    try simp only [List.set_cons_zero]
    refine wpT 8 ⟨some 27, .load 138 (.tmp 5), 138, "digraph.go:67", #[], none⟩ ?_ (.inl ⟨by rfl, ?_⟩) ?_
    rotate_left
    · (intro W hSw; (try dsimp only at hSw); go_simp; try (with_reducible rfl))
    try simp only [Act.put]
    try simp only [List.setIfInBounds_toArray]
    try simp only [List.set_cons_succ]
    try simp only [List.set_cons_zero]
    refine wpAnyH_ready (rs := [9]) (by kernel_rfl) (by simp) ?_
    refine AllReadyH.cons (o := ⟨some 28, .call { callee := .value (.func 105), args := #[.tmp 26, .tmp 27, .func 106], argTypes := #[141, 138, 146] }, 144, "digraph.go:67", #[⟨7, .data⟩, ⟨8, .data⟩], none⟩) rfl (fun K hK => ?_) AllReadyH.nil
    go_simp
    (first
    | (go_at_call 105; refine (HC.out _ hHeld).mono ?_; rintro e w3 ⟨rfl, hu3⟩))
    try (go_wp2_with fail)
    refine hK.out _ _ ?_ (fun hHeld => ?_)
    · (first | exact (Upd.refl No _).drew | exact hHeld.trans hu3)
    clear hK K
    try simp only [Act.put]
    try simp only [List.setIfInBounds_toArray]
    try simp only [List.set_cons_succ]
    try simp only [List.set_cons_zero]
    refine wpT 10 ⟨some 18, .move (.tmp 28), 144, "digraph.go:67", #[⟨9, .data⟩], none⟩ ?_ (.inl ⟨by rfl, ?_⟩) ?_
    rotate_left
    · (intro W hSw; (try dsimp only at hSw); go_simp; try (with_reducible rfl))
    try simp only [Act.put]
    try simp only [List.setIfInBounds_toArray]
    try simp only [List.set_cons_succ]
    try simp only [List.set_cons_zero]
    refine wpT 11 ⟨some 29, .extract (.tmp 18) 0, 3, "digraph.go:67", #[⟨10, .data⟩], none⟩ ?_ (.inl ⟨by rfl, ?_⟩) ?_
    rotate_left
    · (intro W hSw; (try dsimp only at hSw); go_simp; try (with_reducible rfl))
    try simp only [Act.put]
    try simp only [List.setIfInBounds_toArray]
    try simp only [List.set_cons_succ]
    try simp only [List.set_cons_zero]
    refine wpT 12 ⟨some 30, .extract (.tmp 18) 1, 4, "digraph.go:67", #[⟨10, .data⟩, { on := 13, ground := Go.Ground.gcOnly Go.Departure.lateStores }], none⟩ ?_ (.inl ⟨by rfl, ?_⟩) ?_
    rotate_left
    · (intro W hSw; (try dsimp only at hSw); go_simp; try (with_reducible rfl))
    try simp only [Act.put]
    try simp only [List.setIfInBounds_toArray]
    try simp only [List.set_cons_succ]
    try simp only [List.set_cons_zero]
    refine wpT 13 ⟨some 7, .assign (.tmp 29), 3, "digraph.go:67", #[⟨11, .data⟩, ⟨9, .chain⟩, ⟨0, .phase⟩, ⟨1, .phase⟩, ⟨2, .phase⟩, ⟨3, .phase⟩, ⟨4, .phase⟩, ⟨5, .phase⟩, ⟨6, .phase⟩, ⟨7, .phase⟩, ⟨8, .phase⟩, ⟨9, .phase⟩, ⟨10, .phase⟩, ⟨11, .phase⟩, { on := 12, ground := Go.Ground.textOnly Go.Departure.lateStores }], none⟩ ?_ (.inl ⟨by rfl, ?_⟩) ?_
    rotate_left
    · (intro W hSw; (try dsimp only at hSw); go_simp; try (with_reducible rfl))
    try simp only [Act.put]
    try simp only [List.setIfInBounds_toArray]
    try simp only [List.set_cons_succ]
    try simp only [List.set_cons_zero]
    refine wpT 14 ⟨some 8, .assign (.tmp 30), 4, "digraph.go:67", #[⟨12, .data⟩, ⟨13, .chain⟩, ⟨0, .phase⟩, ⟨1, .phase⟩, ⟨2, .phase⟩, ⟨3, .phase⟩, ⟨4, .phase⟩, ⟨5, .phase⟩, ⟨6, .phase⟩, ⟨7, .phase⟩, ⟨8, .phase⟩, ⟨9, .phase⟩, ⟨10, .phase⟩, ⟨11, .phase⟩, ⟨12, .phase⟩, ⟨13, .phase⟩], none⟩ ?_ (.inl ⟨by rfl, ?_⟩) ?_
    rotate_left
    · (intro W hSw; (try dsimp only at hSw); go_simp; try (with_reducible rfl))
    try simp only [Act.put]
    try simp only [List.setIfInBounds_toArray]
    try simp only [List.set_cons_succ]
    try simp only [List.set_cons_zero]
    refine wpAnyH_done (by kernel_rfl) (NoPanic.normal ?_) _
    all_goals
      have HU := Lib.hid (N3.out.trans hHeld)
      clear hHeld g0 a0 oi e0 e1 e2
      go_wp2
      go_ret
      exact ⟨by rw [HV.out]; rfl, HU.out⟩
  · have hR' : rightA out.length a = false := by simpa using hR
    rw [hR'] at hn
    have HV := Lib.hid (show hasA out a = false by unfold hasA; rw [hR']; rfl)
    obtain ⟨af, at', ak, al⟩ := a
    unfold HArc.cells at *
    clear hR hR' h u0 bA
    go_enter Try.func49, Try.ntmps49
    go_wp2_with fail
    refine (hn.out).mono ?_
    rintro e w1 ⟨rfl, hu1⟩
    have hu := Lib.hid (U0.out.trans hu1)
    clear hu1 hn
    go_wp2
    go_ret
    exact ⟨by rw [HV.out]; rfl, hu.out⟩
end
end Go.Proofs.Ytmnhgdedkniafaa

/- Digraphs: a row of ends put in another's place. -/
namespace Go.Proofs.Ytmnhgdedkniafaa
set_option linter.unusedVariables false
open Go.RowKit
/-- a slice stored in one of a block's cells -/
theorem step_store1 {P : Program} {ops : Array Oper} {o : Oper} {a : Act} {W : World} {K : Act → World → Prop} {Q : Exit → Act → World → Prop} {E : Prop} (hgd : o.guard = none) {ty : TypeId} {x y : Operand} (ho : o.op = .store ty x y)
    {g i : Nat} {t : TypeId} {old : List Value} {A : Option Addr} {n c : Nat} (hx : a.eval x = .pointer (some ⟨g, i, none⟩)) (hy : a.eval y = .slice A n c) (hb : Blk W g t old) (hi : (P.info? ty).map (·.size) = some 1) (hlt : i < old.length)
    (h : ∀ w', Blk w' g t (old.set i (.slice A n c)) → Upd (One g) W w' → K (a.put o.dst undef) w') : if Region.wanted o (yielded ops a.tmps) = true then Oper.wp P o a W K Q else E := by
  rw [if_pos (by simp [Region.wanted, hgd])]
  have hst := run_storeCells_at P g i t [.slice A n c] 0 old.toArray W hb (by simp; omega) (by simp [Value.oneCell'])
  have he : old.take i ++ [.slice A n c] ++ old.drop (i + 1) = old.set i (.slice A n c) := by
    rw [List.set_eq_take_append_cons_drop, if_pos hlt]; simp
  simp only [Nat.add_zero, List.length_cons, List.length_nil, Nat.zero_add, he] at hst
  cases hq : P.info? ty with
  | none => simp [hq] at hi
  | some z =>
    have hs : z.size = 1 := by simpa [hq] using hi
    have hrun : (storeVar ty ⟨g, i, none⟩ (.slice A n c)).run P W = .ok () (W.setRow g (old.set i (.slice A n c)).toArray) := by
      simp [storeVar, sizeOf, typeInfo, hq, Value.cells, hs, hst]
    unfold Oper.wp execOp
    simp only [ho, hx, hy, Instr.storeAt, Instr.sureAddr, Sem.run_bind, Sem.run_pure, Result.andThen_ok, hrun]
    exact h _ (blk_setRow hb) (upd_setRow _ _)
theorem RowsD.set {w w' : World} {base : Nat} {hs : List Value} {ls : List (List DEnd)} (h : RowsD w base hs ls) (hA : ApartD hs) {i : Nat} (hi : i < ls.length) {v : Value} (hv : hs[i]? = some v) {S : Nat → Prop} (hu : Upd S w w')
    (hS : ∀ (j : Nat) u k, hs[j]? = some u → j ≠ i → Own u k → ¬ S k) {l : List DEnd} {A : Option Addr} {c : Nat} (hn : w'.ownsRow base 138 3 (.slice A l.length c) l.length (l.map DEnd.cells).flatten) :
    RowsD w' base (hs.set i (.slice A l.length c)) (ls.set i l) := by
  refine ⟨by simpa using h.1, fun j hj => ?_⟩
  have hj' : j < ls.length := by simpa using hj
  by_cases e : j = i
  · subst e
    refine ⟨A, c, ?_, ?_⟩
    · rw [List.getElem?_set_self (by rw [h.1]; exact hi)]; simp
    · simpa using hn
  · obtain ⟨B, d, h1, h2⟩ := h.2 j hj'
    have hl : (ls.set i l)[j] = ls[j] := by rw [List.getElem_set_ne (fun x => e x.symm)]
    rw [hl]
    refine ⟨B, d, ?_, own_upd h2 hu (fun k hk => hS j _ k h1 e hk)⟩
    rw [List.getElem?_set_ne (fun x => e x.symm)]; exact h1
theorem ApartD.set {hs : List Value} (h : ApartD hs) {N i : Nat} {v u : Value} (hv : hs[i]? = some v) (hlt : ∀ x ∈ hs, ∀ k, Own x k → k < N) (hu : ∀ k, Own u k → Own v k ∨ N ≤ k) : ApartD (hs.set i u) := by
  intro a b x y k ha hb hab hx hy
  have hil := (List.getElem?_eq_some_iff.1 hv).1
  have mem : ∀ {j : Nat} {z : Value}, hs[j]? = some z → z ∈ hs := fun e => List.mem_of_getElem? e
  by_cases e1 : a = i
  · subst e1
    rw [List.getElem?_set_self hil] at ha
    rw [List.getElem?_set_ne hab] at hb
    cases ha
    rcases hu k hx with h1 | h1
    · exact h _ _ _ _ _ hv hb hab h1 hy
    · have := hlt _ (mem hb) _ hy; omega
  · rw [List.getElem?_set_ne (fun x => e1 x.symm)] at ha
    by_cases e2 : b = i
    · subst e2
      rw [List.getElem?_set_self hil] at hb
      cases hb
      rcases hu k hy with h1 | h1
      · exact h _ _ _ _ _ ha hv hab hx h1
      · have := hlt _ (mem ha) _ hx; omega
    · rw [List.getElem?_set_ne (fun x => e2 x.symm)] at hb
      exact h _ _ _ _ _ ha hb hab hx hy
/-- the blocks of G, and new ones -/
def GG (w w' : World) (G : Nat → Prop) : Nat → Prop := fun k => G k ∨ (w.heap.size ≤ k ∧ k < w'.heap.size)
theorem Grew.own {w : World} {v u : Value} (h : Grew w v u) : ∀ k, Own u k → Own v k ∨ w.heap.size ≤ k := by
  intro k hk
  unfold Own at *
  rcases h with h | ⟨j, h1, h2⟩
  · left; rw [← h]; exact hk
  · right; rw [h1] at hk; cases hk; exact h2
section
variable {w w' : World} {G : Nat → Prop} {g : Nat} {out inn : List (List DEnd)} {n : Int} {ob ib : Nat} {oh ih : List Value} {base : Nat}
theorem GIs.rowO (h : GIs w G g out inn n ob ib oh ih base) {i : Nat} {l' : List DEnd} {v : Value} {A4 : Option Addr} {c4 : Nat} (hi : i < out.length) (hv : oh[i]? = some v)
    (hu : Upd (fun k => Own v k ∨ k = ob) w w') (hB : Blk w' ob 141 (oh.set i (.slice A4 l'.length c4))) (ho : w'.ownsRow base 138 3 (.slice A4 l'.length c4) l'.length (l'.map DEnd.cells).flatten)
    (hg : Grew w v (.slice A4 l'.length c4)) (hf : l'.length ≤ 100000) : GIs w' (GG w w' G) g (out.set i l') inn n ob ib (oh.set i (.slice A4 l'.length c4)) ih base := by
  have hlow : ∀ x ∈ oh ++ ih, ∀ k, Own x k → base ≤ k := by
    intro x hx k hk
    rcases List.mem_append.1 hx with hx | hx
    · obtain ⟨j, hj, rfl⟩ := List.getElem_of_mem hx
      obtain ⟨B, d, h1, h2⟩ := h.ro.2 j (by rw [← h.ro.1]; exact hj)
      rw [List.getElem?_eq_getElem hj] at h1
      rw [Option.some.inj h1] at hk
      exact (h2.lt _ hk).1
    · obtain ⟨j, hj, rfl⟩ := List.getElem_of_mem hx
      obtain ⟨B, d, h1, h2⟩ := h.ri.2 j (by rw [← h.ri.1]; exact hj)
      rw [List.getElem?_eq_getElem hj] at h1
      rw [Option.some.inj h1] at hk
      exact (h2.lt _ hk).1
  have hl := h.low
  have hvg : Own v g → False := fun e => by have := hlow v (List.mem_append_left _ (List.mem_of_getElem? hv)) g e; omega
  have hvi : Own v ib → False := fun e => by have := hlow v (List.mem_append_left _ (List.mem_of_getElem? hv)) ib e; omega
  have hset : (oh.set i (.slice A4 l'.length c4)) ++ ih = (oh ++ ih).set i (.slice A4 l'.length c4) := by
    rw [List.set_append_left]; rw [h.ro.1]; exact hi
  have hva : (oh ++ ih)[i]? = some v := by rw [List.getElem?_append_left (by rw [h.ro.1]; exact hi)]; exact hv
  have hold : ∀ x ∈ oh ++ ih, ∀ k, Own x k → k < w.heap.size := fun x hx k hk => h.old k (h.inG.2.2.2 x hx k hk)
  constructor
  case blk => simpa using h.blk.upd hu (fun e => e.elim hvg h.ne.1)
  case ob_ => exact hB
  case ib_ => exact h.ib_.upd hu (fun e => e.elim hvi (fun e => h.ne.2.2 e.symm))
  case len => simpa using h.len
  case ro =>
    refine h.ro.set (fun a b x y k ha hb => h.dis a b x y k ?_ ?_) hi hv hu ?_ ho
    · rw [List.getElem?_append_left (List.getElem?_eq_some_iff.1 ha).1]; exact ha
    · rw [List.getElem?_append_left (List.getElem?_eq_some_iff.1 hb).1]; exact hb
    · rintro j u k hj hne hk (e | e)
      · exact h.dis j i u v k (by rw [List.getElem?_append_left (List.getElem?_eq_some_iff.1 hj).1]; exact hj) hva hne hk e
      · have := hlow u (List.mem_append_left _ (List.mem_of_getElem? hj)) k hk; omega
  case ri =>
    refine h.ri.upd hu ?_
    rintro u hx k hk (e | e)
    · obtain ⟨j, hj, rfl⟩ := List.getElem_of_mem hx
      refine h.dis (oh.length + j) i _ v k (by rw [List.getElem?_append_right (by omega)]; simp [hj]) hva (by rw [h.ro.1]; omega) hk e
    · have := hlow u (List.mem_append_right _ hx) k hk; omega
  case dis => rw [hset]; exact h.dis.set hva hold hg.own
  case low => exact h.low
  case ne => exact h.ne
  case inG =>
    refine ⟨.inl h.inG.1, .inl h.inG.2.1, .inl h.inG.2.2.1, ?_⟩
    rw [hset]
    intro x hx k hk
    rcases List.mem_or_eq_of_mem_set hx with hx | rfl
    · exact .inl (h.inG.2.2.2 x hx k hk)
    · rcases hg.own k hk with e | e
      · exact .inl (h.inG.2.2.2 v (List.mem_of_getElem? hva) k e)
      · exact .inr ⟨e, (ho.lt _ hk).2⟩
  case old =>
    rintro k (hk | hk)
    · exact Nat.lt_of_lt_of_le (h.old k hk) hu.size
    · exact hk.2
  case few =>
    refine ⟨by simpa using h.few.1, fun x hx => ?_, h.few.2.2⟩
    rcases List.mem_or_eq_of_mem_set hx with hx | rfl
    · exact h.few.2.1 x hx
    · exact hf
theorem GIs.rowI (h : GIs w G g out inn n ob ib oh ih base) {i : Nat} {l' : List DEnd} {v : Value} {A4 : Option Addr} {c4 : Nat} (hi : i < inn.length) (hv : ih[i]? = some v)
    (hu : Upd (fun k => Own v k ∨ k = ib) w w') (hB : Blk w' ib 141 (ih.set i (.slice A4 l'.length c4))) (ho : w'.ownsRow base 138 3 (.slice A4 l'.length c4) l'.length (l'.map DEnd.cells).flatten)
    (hg : Grew w v (.slice A4 l'.length c4)) (hf : l'.length ≤ 100000) : GIs w' (GG w w' G) g out (inn.set i l') n ob ib oh (ih.set i (.slice A4 l'.length c4)) base := by
  have hlow : ∀ x ∈ oh ++ ih, ∀ k, Own x k → base ≤ k := by
    intro x hx k hk
    rcases List.mem_append.1 hx with hx | hx
    · obtain ⟨j, hj, rfl⟩ := List.getElem_of_mem hx
      obtain ⟨B, d, h1, h2⟩ := h.ro.2 j (by rw [← h.ro.1]; exact hj)
      rw [List.getElem?_eq_getElem hj] at h1
      rw [Option.some.inj h1] at hk
      exact (h2.lt _ hk).1
    · obtain ⟨j, hj, rfl⟩ := List.getElem_of_mem hx
      obtain ⟨B, d, h1, h2⟩ := h.ri.2 j (by rw [← h.ri.1]; exact hj)
      rw [List.getElem?_eq_getElem hj] at h1
      rw [Option.some.inj h1] at hk
      exact (h2.lt _ hk).1
  have hl := h.low
  have hvg : Own v g → False := fun e => by have := hlow v (List.mem_append_right _ (List.mem_of_getElem? hv)) g e; omega
  have hvi : Own v ob → False := fun e => by have := hlow v (List.mem_append_right _ (List.mem_of_getElem? hv)) ob e; omega
  have hset : oh ++ (ih.set i (.slice A4 l'.length c4)) = (oh ++ ih).set (oh.length + i) (.slice A4 l'.length c4) := by
    rw [List.set_append_right _ _ (by omega)]; simp
  have hva : (oh ++ ih)[oh.length + i]? = some v := by rw [List.getElem?_append_right (by omega)]; simpa using hv
  have hold : ∀ x ∈ oh ++ ih, ∀ k, Own x k → k < w.heap.size := fun x hx k hk => h.old k (h.inG.2.2.2 x hx k hk)
  constructor
  case blk => simpa using h.blk.upd hu (fun e => e.elim hvg h.ne.2.1)
  case ob_ => exact h.ob_.upd hu (fun e => e.elim hvi h.ne.2.2)
  case ib_ => exact hB
  case len => simpa using h.len
  case ri =>
    refine h.ri.set (fun a b x y k ha hb hab => h.dis (oh.length + a) (oh.length + b) x y k ?_ ?_ (by omega)) hi hv hu ?_ ho
    · rw [List.getElem?_append_right (by omega)]; simpa using ha
    · rw [List.getElem?_append_right (by omega)]; simpa using hb
    · rintro j u k hj hne hk (e | e)
      · exact h.dis (oh.length + j) (oh.length + i) u v k (by rw [List.getElem?_append_right (by omega)]; simpa using hj) hva (by omega) hk e
      · have := hlow u (List.mem_append_right _ (List.mem_of_getElem? hj)) k hk; omega
  case ro =>
    refine h.ro.upd hu ?_
    rintro u hx k hk (e | e)
    · obtain ⟨j, hj, rfl⟩ := List.getElem_of_mem hx
      refine h.dis j (oh.length + i) _ v k (by rw [List.getElem?_append_left hj]; simp [hj]) hva (by omega) hk e
    · have := hlow u (List.mem_append_left _ hx) k hk; omega
  case dis => rw [hset]; exact h.dis.set hva hold hg.own
  case low => exact h.low
  case ne => exact h.ne
  case inG =>
    refine ⟨.inl h.inG.1, .inl h.inG.2.1, .inl h.inG.2.2.1, ?_⟩
    rw [hset]
    intro x hx k hk
    rcases List.mem_or_eq_of_mem_set hx with hx | rfl
    · exact .inl (h.inG.2.2.2 x hx k hk)
    · rcases hg.own k hk with e | e
      · exact .inl (h.inG.2.2.2 v (List.mem_of_getElem? hva) k e)
      · exact .inr ⟨e, (ho.lt _ hk).2⟩
  case old =>
    rintro k (hk | hk)
    · exact Nat.lt_of_lt_of_le (h.old k hk) hu.size
    · exact hk.2
  case few =>
    refine ⟨h.few.1, h.few.2.1, fun x hx => ?_⟩
    rcases List.mem_or_eq_of_mem_set hx with hx | rfl
    · exact h.few.2.2 x hx
    · exact hf
end
end Go.Proofs.Ytmnhgdedkniafaa
