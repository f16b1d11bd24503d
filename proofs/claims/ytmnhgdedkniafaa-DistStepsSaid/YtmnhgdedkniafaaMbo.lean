/- Ways: the first of the shortest. -/
import Derived.Test.YtmnhgdedkniafaaMbn
namespace Go.Proofs.Ytmnhgdedkniafaa
set_option linter.unusedVariables false
open Go.RowKit
/-- the next arc of the way -/
def isStep (d : Int → Int) (least at' : Int) (a : HArc) : Bool := decide (least ≤ a.t) && decide (d a.t = d at' - 1)
def stepW (p : List HArc) (d : Int → Int) (least at' : Int) : Option HArc := (p.filter fun a => a.f == at').find? (isStep d least at')
def wayF (p : List HArc) (d : Int → Int) (least : Int) : Nat → Int → List HArc
  | 0, _ => []
  | k + 1, at' => match stepW p d least at' with
    | some a => a :: wayF p d least k a.t
    | none => []
theorem wayF_succ {p : List HArc} {d : Int → Int} {least at' : Int} {a : HArc} (k : Nat) (h : stepW p d least at' = some a) : wayF p d least (k + 1) at' = a :: wayF p d least k a.t := by
  show (match stepW p d least at' with | some a => a :: wayF p d least k a.t | none => []) = _
  rw [h]
def wayB (N : Nat) (p : List HArc) (least from' to' : Int) : Bool := startB N least from' && decide (0 ≤ distL N p least to' from')
def wayL (N : Nat) (p : List HArc) (least from' to' : Int) : List HArc := if wayB N p least from' to' = true then wayF p (distL N p least to') least (distL N p least to' from').toNat from' else []
/-- what the distances are: known by this alone -/
structure DistOf (N : Nat) (p : List HArc) (least node : Int) (d : Int → Int) : Prop where
  lo : ∀ u, -1 ≤ d u
  hi : ∀ u, d u < (N : Int) ∨ d u < 0
  inn : ∀ u, 0 ≤ d u → 0 ≤ u ∧ u < (N : Int)
  clo : ∀ v, 0 ≤ d v → ∀ u ∈ prevF p v, least ≤ u → 0 ≤ d u ∧ d u ≤ d v + 1
  par : ∀ u, 0 ≤ d u → (u = node ∧ startB N least node = true) ∨ ∃ v, u ∈ prevF p v ∧ least ≤ u ∧ 0 ≤ d v ∧ d v + 1 = d u
  z : ∀ u, d u = 0 ↔ (u = node ∧ startB N least node = true)
theorem distL_is {N : Nat} {p : List HArc} (hp : ∀ x ∈ p, 0 ≤ x.f ∧ x.f < (N : Int)) (least node : Int) : DistOf N p least node (distL N p least node) := by
  unfold distL
  by_cases hs : startB N least node = true
  · rw [if_pos hs]
    have hs' := hs
    unfold startB at hs'
    rw [Bool.and_eq_true, decide_eq_true_eq, decide_eq_true_eq] at hs'
    have hdm : node ∈ nodesZ N := mem_nodesZ.2 ⟨by omega, hs'.2⟩
    have hcl : ∀ v ∈ nodesZ N, ∀ u ∈ prevF p v, okL least u = true → u ∈ nodesZ N := fun v _ u hu _ => prevF_in hp v u hu
    have B0 := BInv.start (ok := okL least) (ps := prevF p) hdm (nodesZ_nodup N)
    have B1 : BInv (okL least) (prevF p) (nodesZ N) node (bfsA (okL least) (prevF p) N (rootF node, [node])) [] := bfsA_end (nodesZ_nodup N) hcl N _ _ B0 (by have := B0.fit; unfold Fits at this; rw [nodesZ_len] at this; exact this)
    refine ⟨B1.lo, fun u => ?_, fun u hu => mem_nodesZ.1 (B1.dm u hu), fun v hv u hu hl => B1.clo v hv (by simp) u hu (decide_eq_true hl), fun u hu => ?_, fun u => ?_⟩
    · have := B1.cap u
      rw [nodesZ_len] at this
      exact .inl (by show bfsA _ _ _ _ u < _; omega)
    · rcases B1.par u hu with e | ⟨v, h1, h2, h3⟩
      · exact .inl ⟨e, hs⟩
      · exact .inr ⟨v, h1, of_decide_eq_true h2, h3⟩
    · rw [hs]
      simp only [and_true]
      exact B1.z u
  · rw [if_neg hs]
    refine ⟨fun u => by omega, fun u => .inr (by omega), fun u hu => by omega, fun v hv => by omega, fun u hu => by omega, fun u => ?_⟩
    constructor
    · intro h; omega
    · intro h; exact absurd h.2 hs
theorem mem_prevF {p : List HArc} {u v : Int} : u ∈ prevF p v ↔ ∃ x ∈ p, x.t = v ∧ u = x.f := by
  unfold prevF nxA
  rw [mem_nxS]
  simp
theorem DistOf.le {N : Nat} {p : List HArc} {least node : Int} {d : Int → Int} (h : DistOf N p least node d) {u : Int} (hu : 0 ≤ d u) : least ≤ u := by
  rcases h.par u hu with ⟨e, hs⟩ | ⟨v, h1, h2, h3, h4⟩
  · unfold startB at hs
    rw [Bool.and_eq_true, decide_eq_true_eq] at hs
    omega
  · exact h2
/-- there is a next arc, as long as the end is not reached -/
theorem stepW_some {N : Nat} {p : List HArc} {least node : Int} {d : Int → Int} (h : DistOf N p least node d) {u : Int} (hu : 0 < d u) : ∃ a, stepW p d least u = some a ∧ a ∈ p ∧ a.f = u ∧ least ≤ a.t ∧ d a.t = d u - 1 := by
  have hex : ∃ a, stepW p d least u = some a := by
    unfold stepW
    rw [← Option.isSome_iff_exists, List.find?_isSome]
    rcases h.par u (by omega) with ⟨e, hs⟩ | ⟨v, h1, h2, h3, h4⟩
    · have := (h.z u).2 ⟨e, hs⟩
      omega
    · obtain ⟨x, hx, hxt, hxf⟩ := mem_prevF.1 h1
      refine ⟨x, List.mem_filter.2 ⟨hx, by simp [hxf]⟩, ?_⟩
      unfold isStep
      rw [hxt, decide_eq_true (h.le h3), decide_eq_true (by omega)]
      rfl
  obtain ⟨a, ha⟩ := hex
  have h1 := List.find?_some ha
  have h2 := List.mem_of_find?_eq_some ha
  rw [List.mem_filter] at h2
  unfold isStep at h1
  rw [Bool.and_eq_true, decide_eq_true_eq, decide_eq_true_eq] at h1
  exact ⟨a, ha, h2.1, by simpa using h2.2, h1.1, h1.2⟩
theorem drop_find {P : HArc → Bool} {l : List HArc} {j : Nat} {x : HArc} (hj : j < l.length) (hx : l[j] = x) (hP : P x = true) : (l.drop j).find? P = some x := by
  rw [List.drop_eq_getElem_cons hj, hx, List.find?_cons, hP]
theorem drop_skip {P : HArc → Bool} {l : List HArc} {j : Nat} {x : HArc} (hj : j < l.length) (hx : l[j] = x) (hP : P x = false) : (l.drop j).find? P = (l.drop (j + 1)).find? P := by
  rw [List.drop_eq_getElem_cons hj, hx, List.find?_cons, hP]
theorem last_arc {w : World} {base g c : Nat} {xs : List HArc} {x : HArc} (h : w.ownsRow base 63 4 (.slice (some ⟨g, 0, none⟩) (xs.length + 1) c) (xs.length + 1) (arcsF xs ++ [.int .i64 x.f, .int .i64 x.t, .int .i64 x.kind, .int .i64 x.label])) :
    w.cell? ⟨g, xs.length * 4 + 1, none⟩ = some (.int .i64 x.t) := by
  have h2 : w.ownsRow base 63 4 (.slice (some ⟨g, 0, none⟩) (xs ++ [x]).length c) (xs ++ [x]).length (arcsF (xs ++ [x])) := by
    rw [List.length_append, List.length_singleton]
    simpa [arcsF, HArc.cells] using h
  obtain ⟨ad, e, _, z1, _⟩ := (arcs_own' h2).at_ (k := xs.length) (by simp)
  cases e
  rw [blk_lit_add] at z1
  simpa using z1
set_option maxRecDepth 100000 in
set_option maxHeartbeats 4000000 in
theorem dway (w : World) (G : Nat → Prop) (p0 : Option Addr) (N K : Nat) (q : List HArc) (h : DG w G p0 N K q) (hK : K ≤ 100000) (mask from' to' least : Int) :
    Calls Try.prog 67 #[.pointer p0, .int .i64 mask, .int .i64 from', .int .i64 to', .int .i64 least] w fun e w' => ∃ A c, e = .returned (.tuple #[.slice A (wayL N (ofA mask q) least from' to').length c, .bool (wayB N (ofA mask q) least from' to')]) ∧
      w'.ownsRow w.heap.size 63 4 (.slice A (wayL N (ofA mask q) least from' to').length c) (wayL N (ofA mask q) least from' to').length (arcsF (wayL N (ofA mask q) least from' to')) ∧ Upd No w w' := by
  have hN := h.nodes_le
  obtain ⟨p, hp⟩ : ∃ p, ofA mask q = p := ⟨_, rfl⟩
  have hpr : ∀ x ∈ p, (0 ≤ x.f ∧ x.f < (N : Int)) ∧ 0 ≤ x.t ∧ x.t < (N : Int) := fun x hx => by
    rw [← hp] at hx
    have := (rightA_iff _ _).1 (h.right x (mem_ofA.1 hx).1)
    exact ⟨⟨this.1, this.2.1⟩, this.2.2.1, this.2.2.2.1⟩
  have hpl : p.length ≤ 100000 := by rw [← hp]; have := List.length_filter_le (fun x => bitM mask x.kind) q; have := h.few; unfold ofA; omega
  obtain ⟨wb, hwb⟩ : ∃ wb, w.alloc (.cells #[.pointer p0, .int .i64 mask, .int .i64 least] 163) = wb := ⟨_, rfl⟩
  have u0 : Upd No w wb := by rw [← hwb]; exact (Upd.refl No w).alloc _
  have bS : Blk wb w.heap.size 163 [.pointer p0, .int .i64 mask, .int .i64 least] := by rw [← hwb]; exact Blk.new w _ _
  have HG := Lib.hid (fun (W : World) (u : Upd No wb W) => h.no (u0.trans u))
  have HO := Lib.hid (fun (W : World) (u : Upd No wb W) (i : Int) => hp ▸ dgout (h.no (u0.trans u)) i mask)
  have HS := Lib.hid (fun (W : World) (u : Upd No wb W) => (⟨(bS.upd u id).cell 0, (bS.upd u id).cell 1, (bS.upd u id).cell 2⟩ : W.cell? ⟨w.heap.size, 0, none⟩ = some (.pointer p0) ∧ W.cell? ⟨w.heap.size, 1, none⟩ = some (.int .i64 mask) ∧ W.cell? ⟨w.heap.size, 2, none⟩ = some (.int .i64 least)))
  have HPR := Lib.hid hpr
  have HPL := Lib.hid hpl
  have U0 := Lib.hid u0
  have HT := Lib.hid (fun (W : World) (u : Upd No wb W) => hp ▸ dto W G p0 N K q (h.no (u0.trans u)) hK mask to' least)
  rw [hp]
  obtain ⟨d, hd⟩ : ∃ d, distL N p least to' = d := ⟨_, rfl⟩
  have HDi := Lib.hid (show DistOf N p least to' d from hd ▸ distL_is (fun x hx => (hpr x hx).1) least to')
  rw [hd] at HT
  have HLb := Lib.hid (show wayB N p least from' to' = (startB N least from' && decide (0 ≤ d from')) by unfold wayB; rw [hd])
  have HLl := Lib.hid (show wayL N p least from' to' = if wayB N p least from' to' = true then wayF p d least (d from').toNat from' else [] by unfold wayL; rw [hd])
  generalize wayB N p least from' to' = B at *
  generalize wayL N p least from' to' = R at *
  clear hp hpr hpl h bS hd
  go_enter Try.func67, Try.ntmps67
  go_wp2_with fail
  refine (HT.out wb (Upd.refl _ _)).mono ?_
  rintro e w1 ⟨dg, rfl, hb1, hg1, hu1⟩
  rw [rowD_len] at *
  have HB1 := Lib.hid (fun (W : World) (u : Upd No w1 W) (i : Nat) (hi : i < N) => (show W.cell? ⟨dg, i, none⟩ = some (.int .i64 (d (i : Int))) from by rw [(hb1.upd u id).cell i, List.getElem?_map, rowD_at d hi]; rfl))
  obtain ⟨c0, c1, c2⟩ := HS.out w1 hu1
  cases hs : startB N least from'
  · have hst := Lib.hid (hs ▸ dstart (HG.out w1 hu1) mask least from')
    have hB : B = false := by rw [HLb.out, hs]; rfl
    subst hB
    have hR : R = [] := by rw [HLl.out]; rfl
    subst hR
    go_wp2_with fail
    refine (hst.out).mono ?_
    rintro e w2 ⟨rfl, hu2⟩
    go_wp2
    go_ret2
    exact ⟨none, 0, rfl, World.ownsRow_nil _ _ _ _, (U0.out.trans hu1).trans hu2⟩
  · have hst := Lib.hid (hs ▸ dstart (HG.out w1 hu1) mask least from')
    have hs' := hs
    unfold startB at hs'
    rw [Bool.and_eq_true, decide_eq_true_eq, decide_eq_true_eq] at hs'
    obtain ⟨fr, rfl⟩ : ∃ fr : Nat, from' = (fr : Int) := ⟨from'.toNat, by omega⟩
    have hfr : fr < N := by omega
    have i1 : (0 : Int) ≤ (fr : Int) := by omega
    have i2 : (fr : Int) < (N : Int) := by omega
    clear hs'
    by_cases hdf : d (fr : Int) < 0
    · have hB : B = false := by rw [HLb.out, hs, decide_eq_false (by omega)]; rfl
      subst hB
      have hR : R = [] := by rw [HLl.out]; rfl
      subst hR
      clear hs
      go_wp2_with fail
      refine (hst.out).mono ?_
      rintro e w2 ⟨rfl, hu2⟩
      have cf := HB1.out w2 hu2 fr hfr
      go_wp2
      go_ret2
      exact ⟨none, 0, rfl, World.ownsRow_nil _ _ _ _, (U0.out.trans hu1).trans hu2⟩
    · have hB : B = true := by rw [HLb.out, hs, decide_eq_true (by omega)]; rfl
      subst hB
      have hR := HLl.out
      rw [if_pos rfl] at hR
      have HR := Lib.hid hR
      clear hs hR HLl HLb
      go_wp2_with fail
      refine (hst.out).mono ?_
      rintro e w2 ⟨rfl, hu2⟩
      have cf := HB1.out w2 hu2 fr hfr
      have HU2 := Lib.hid (hu1.trans hu2)
      have Hu2 := Lib.hid hu2
      clear hu1 hu2 hb1 hst c0 c1 c2
      go_wp2
      go_loopg [14, 15] (d (fr : Int)).toNat (fun gk s a wr => ∃ (A5 : Option Addr) (c5 : Nat) (xs : List HArc) (ai : Nat), s = .slice A5 xs.length c5 ∧ a = .int .i64 (ai : Int) ∧ ai < N ∧ Hid (d (ai : Int) = (gk : Int)) ∧ Hid (xs ++ wayF p d least gk (ai : Int) = R) ∧
        xs.length + gk ≤ 5000 ∧ wr.ownsRow w2.heap.size 63 4 (.slice A5 xs.length c5) xs.length (arcsF xs) ∧ Upd No w2 wr)
      case atStart =>
        refine ⟨none, 0, [], fr, rfl, rfl, hfr, Lib.hid (by omega), Lib.hid HR.out.symm, ?_, World.ownsRow_nil _ _ _ _, Upd.refl _ _⟩
        have := HDi.out.hi (fr : Int)
        simp only [List.length_nil]
        omega
      case round =>
        obtain ⟨A5, c5, xs, ai, rfl, rfl, hai, hda, hR, hxl, hown, hu⟩ := hrel
        have j1 : (0 : Int) ≤ (ai : Int) := by omega
        have j2 : (ai : Int) < (N : Int) := by omega
        have ca := HB1.out wr (Hu2.out.trans hu) ai hai
        have hda' := hda.out
        cases gk with
        | zero =>
          have hz : d (ai : Int) = 0 := by simpa using hda'
          have HRx := Lib.hid (show xs = R by have := hR.out; simpa [wayF] using this)
          rw [hz] at ca
          clear hda hda' hR hz
          go_wp2
          go_ret2
          have := (U0.out.trans HU2.out).size
          rw [← HRx.out]
          exact ⟨A5, c5, rfl, own_base hown this, (U0.out.trans HU2.out).trans hu⟩
        | succ g1 =>
          have hz : d (ai : Int) = (g1 : Int) + 1 := by simpa using hda'
          obtain ⟨st, hst, hsp, hsf, hsl, hsd⟩ := stepW_some HDi.out (u := (ai : Int)) (by omega)
          have hR2 := hR.out
          rw [wayF_succ g1 hst] at hR2
          obtain ⟨ys, hys⟩ : ∃ ys, (p.filter fun a => a.f == (ai : Int)) = ys := ⟨_, rfl⟩
          have hyl : ys.length ≤ 100000 := by rw [← hys]; exact Nat.le_trans (List.length_filter_le _ _) HPL.out
          have hyp : ∀ y ∈ ys, y ∈ p := fun y hy => by rw [← hys] at hy; exact (List.mem_filter.1 hy).1
          unfold stepW at hst
          rw [hys] at hst
          have hO := Lib.hid (hys ▸ HO.out wr (HU2.out.trans hu) (ai : Int))
          have hgt : (0 : Int) < d (ai : Int) := by omega
          have HST := Lib.hid hst
          have HR2 := Lib.hid hR2
          have HYP := Lib.hid hyp
          have HSX := Lib.hid (And.intro hsp (And.intro hsl hsd))
          have HZ := Lib.hid hz
          obtain ⟨da, hda2⟩ : ∃ v, d (ai : Int) = v := ⟨_, rfl⟩
          rw [hda2] at ca hgt HZ
          have HDA := Lib.hid hda2
          have hgt' : da ≤ 5000 ∧ 0 < da := by have := HZ.out; omega
          clear hda hda' hR hR2 hst hys hyp hz hsp hsf hsl hsd hda2
          generalize hgg : g1 + 1 = m0 at *
          go_wp2_with fail
          refine (hO.out).mono ?_
          rintro e w3 ⟨A7, c7, rfl, ho7, hu7⟩
          have hown3 := own_upd hown hu7 (fun _ _ => id)
          have HY := Lib.hid (arcs_own' ho7)
          have HO3 := Lib.hid hown3
          have HU3 := Lib.hid (hu.trans hu7)
          clear hO ho7 hu7 hown hown3 hu ca
          go_wp2
          go_loopg [14, 56] ys.length (fun gk s i wr => ∃ (j : Nat), j + gk = ys.length ∧ i = .int .i64 j ∧ s = .slice A5 xs.length c5 ∧ Hid ((ys.drop j).find? (isStep d least (ai : Int)) = some st) ∧ Upd No w3 wr)
          case atStart => exact ⟨0, by omega, rfl, rfl, Lib.hid HST.out, Upd.refl _ _⟩
          case round =>
            obtain ⟨j, hgj, rfl, rfl, hf, hu⟩ := hrel
            by_cases hlt : j < ys.length
            · obtain ⟨ax, rfl, q0, q1, q2, q3⟩ := (HY.out.upd hu (fun _ _ => id)).at_ hlt
              obtain ⟨x, hx⟩ : ∃ x, ys[j] = x := ⟨_, rfl⟩
              rw [hx] at q0 q1 q2 q3
              have hxp := HYP.out x (hx ▸ List.getElem_mem hlt)
              have hxr := (HPR.out x hxp).2
              obtain ⟨xf, xt, xk, xl⟩ := x
              simp only at q0 q1 q2 q3 hxr
              obtain ⟨ti, rfl⟩ : ∃ ti : Nat, xt = (ti : Int) := ⟨xt.toNat, by omega⟩
              have hti : ti < N := by omega
              have k1 : (0 : Int) ≤ (ti : Int) := by omega
              have k2 : (ti : Int) < (N : Int) := by omega
              have b1 : (0 : Int) ≤ (j : Int) := Int.natCast_nonneg _
              have b2 : (j : Int) < (ys.length : Int) := by omega
              obtain ⟨wx, hwx⟩ : ∃ wx, wr.alloc (.cells #[.int .i64 xf, .int .i64 (ti : Int), .int .i64 xk, .int .i64 xl] 63) = wx := ⟨_, rfl⟩
              have ux : Upd No wr wx := by rw [← hwx]; exact (Upd.refl No wr).alloc _
              have bo : Blk wx wr.heap.size 63 [.int .i64 xf, .int .i64 (ti : Int), .int .i64 xk, .int .i64 xl] := by rw [← hwx]; exact Blk.new wr _ _
              have HUX := Lib.hid (hu.trans ux)
              have r0 := bo.cell 0
              have r1 := bo.cell 1
              have r2 := bo.cell 2
              have r3 := bo.cell 3
              simp only [List.getElem?_cons_zero, List.getElem?_cons_succ] at r0 r1 r2 r3
              have ct := HB1.out wx (Hu2.out.trans (HU3.out.trans HUX.out)) ti hti
              have ca := HB1.out wx (Hu2.out.trans (HU3.out.trans HUX.out)) ai hai
              rw [HDA.out] at ca
              have hlow := HDi.out.lo (ti : Int)
              have hupp := HDi.out.hi (ti : Int)
              have BO := Lib.hid bo
              clear ux bo hu
              obtain ⟨dt, hdt⟩ : ∃ v, d (ti : Int) = v := ⟨_, rfl⟩
              rw [hdt] at ct hlow hupp
              have hw1 : IntKind.i64.wrap (da - 1) = da - 1 := IntWalk.i64_in _ (by omega)
              have hfo := hf.out
              by_cases hl : least ≤ (ti : Int)
              · have hlb : decide (least ≤ (ti : Int)) = true := decide_eq_true hl
                by_cases he : dt = da - 1
                · have hst : isStep d least (ai : Int) ⟨xf, (ti : Int), xk, xl⟩ = true := by unfold isStep; rw [hdt, HDA.out, hlb, decide_eq_true he]; rfl
                  rw [drop_find hlt hx hst] at hfo
                  have hsx : st = ⟨xf, (ti : Int), xk, xl⟩ := (Option.some.inj hfo).symm
                  have heb : (dt == da - 1) = true := by simpa using he
                  have HSX2 := Lib.hid hsx
                  have hownX := own_upd HO3.out HUX.out (fun _ _ => id)
                  have HGE := Lib.hid (fun i e => (HO3.out.lt i e).1)
                  have hzx' := (HU3.out.trans HUX.out).size
                  have HL := Lib.hid (arcsF_len xs)
                  clear hst hfo hsx he hf hx hxp hdt
                  go_wp2
                  go_quiet (fail)
                  have HUD := Lib.hid (HUX.out.drewN nq)
                  have bD : Blk (wx.drewN nq) wr.heap.size 63 [.int .i64 xf, .int .i64 (ti : Int), .int .i64 xk, .int .i64 xl] := BO.out
                  have hownD := own_upd HO3.out (HUX.out.drewN nq) (fun _ _ => id)
                  have hzd : w2.heap.size ≤ (wx.drewN nq).heap.size := hzx'
                  clear HUX BO hownX r0 r1 r2 r3 ct ca hzx'
                  generalize wx.drewN nq = wd at *
                  have r0 := bD.cell 0
                  have r1 := bD.cell 1
                  have r2 := bD.cell 2
                  have r3 := bD.cell 3
                  simp only [List.getElem?_cons_zero, List.getElem?_cons_succ] at r0 r1 r2 r3
                  have hn1 : (0 : Int) ≤ (xs.length : Int) := Int.natCast_nonneg _
                  have hw3 : IntKind.i64.wrap (xs.length : Int) = (xs.length : Int) := IntWalk.i64_in _ (by omega)
                  have hw2 : IntKind.i64.wrap ((xs.length : Int) + 1 - 1) = (xs.length : Int) := by
                    rw [show (xs.length : Int) + 1 - 1 = (xs.length : Int) by omega]
                    exact hw3
                  have hn2 : (xs.length : Int) < (xs.length : Int) + 1 := by omega
                  go_wp2_with (at_builtin; refine app1s rfl rfl slt_arc (v := .slice A5 xs.length c5) (n := xs.length) (xs := arcsF xs) (cells := [.int .i64 xf, .int .i64 (ti : Int), .int .i64 xk, .int .i64 xl]) (by rfl) rfl hownD rfl rfl (by omega) (by omega) hzd ?_; intro g9 c9 w9 hown9 hu9 hg9 hlt9; have z1 := last_arc (x := ⟨xf, (ti : Int), xk, xl⟩) hown9; have HO9 := Lib.hid hown9; have HU9 := Lib.hid hu9; clear hown9 hu9 hg9)
                  have hsx2 := HSX2.out
                  subst hsx2
                  go_roundg g1
                  case measure => omega
                  case rel =>
                    refine ⟨some ⟨g9, 0, none⟩, c9, xs ++ [⟨xf, (ti : Int), xk, xl⟩], ti, by simp, rfl, hti, Lib.hid ?_, Lib.hid ?_, by simp; omega, ?_, ?_⟩
                    · have h1 := HSX.out.2.2
                      rw [HDA.out, HZ.out] at h1
                      simp only at h1
                      omega
                    · have h1 := HR2.out
                      simpa using h1
                    · rw [List.length_append, List.length_singleton]
                      simpa [arcsF, HArc.cells] using HO9.out
                    · exact (HU3.out.trans HUD.out).then_ HU9.out fun i e => .inr (HGE.out i e)
                · have hst : isStep d least (ai : Int) ⟨xf, (ti : Int), xk, xl⟩ = false := by unfold isStep; rw [hdt, HDA.out, hlb, decide_eq_false he]; rfl
                  rw [drop_skip hlt hx hst] at hfo
                  have heb : (dt == da - 1) = false := by simpa using he
                  have HF := Lib.hid hfo
                  clear hst hfo he hf hx hxp hdt
                  go_wp2
                  go_quiet (fail)
                  go_wp2
                  go_roundg (gk - 1)
                  case measure => omega
                  case rel => exact ⟨j + 1, by omega, by go_num, rfl, HF, HUX.out.drewN _⟩
              · have hlb : decide (least ≤ (ti : Int)) = false := decide_eq_false hl
                have hst : isStep d least (ai : Int) ⟨xf, (ti : Int), xk, xl⟩ = false := by unfold isStep; rw [hlb]; rfl
                rw [drop_skip hlt hx hst] at hfo
                have HF := Lib.hid hfo
                clear hst hfo hf hx hxp hdt
                go_wp2
                go_quiet (fail)
                go_wp2
                go_roundg (gk - 1)
                case measure => omega
                case rel => exact ⟨j + 1, by omega, by go_num, rfl, HF, HUX.out.drewN _⟩
            · exfalso
              have := hf.out
              rw [List.drop_of_length_le (by omega)] at this
              cases this
end Go.Proofs.Ytmnhgdedkniafaa
