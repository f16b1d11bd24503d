/- Digraphs: the nodes of some ends. -/
import Derived.Laws.StructEq
import Derived.Test.YtaicemjckagcaaaMan
import Derived.Test.YtaicemjckagcaaaMbb
import Derived.Test.YtaicemjckagcaaaMbf
namespace Go.Proofs.Ytaicemjckagcaaa
set_option linter.unusedVariables false
open Go.RowKit
def pickN (mask : Int) (l : List DEnd) : List Int := (l.filter fun e => bitM mask e.kind).map (·.node)
def nodesD (mask : Int) (l : List DEnd) : List Int := Lib.compact (sortI (pickN mask l))
theorem pickN_yes {mask : Int} {l : List DEnd} {k : Nat} {x : DEnd} (hk : k < l.length) (hx : l[k] = x) (hr : bitM mask x.kind = true) : pickN mask (l.take (k + 1)) = pickN mask (l.take k) ++ [x.node] := by
  subst hx
  unfold pickN
  rw [List.take_succ_eq_append_getElem hk, List.filter_append, List.map_append, List.filter_cons_of_pos (by rw [hr])]
  rfl
theorem pickN_no {mask : Int} {l : List DEnd} {k : Nat} {x : DEnd} (hk : k < l.length) (hx : l[k] = x) (hr : bitM mask x.kind = false) : pickN mask (l.take (k + 1)) = pickN mask (l.take k) := by
  subst hx
  unfold pickN
  rw [List.take_succ_eq_append_getElem hk, List.filter_append, List.map_append, List.filter_cons_of_neg (by rw [hr]; decide)]
  simp
theorem dofU (w : World) (mask kind : Int) (h1 : 1 ≤ kind) (h2 : kind ≤ 3) : Calls Try.prog 136 #[.int .i64 mask, .int .i64 kind] w fun e w' => e = .returned (.bool (bitM mask kind)) ∧ Upd No w w' :=
  (dof w mask kind h1 h2).mono fun _ _ h => ⟨h.1, h.2 ▸ Upd.refl No w⟩
set_option maxRecDepth 100000 in
set_option maxHeartbeats 1000000 in
theorem dpick (F : Nat → Prop) (w : World) (mask : Int) (A : Option Addr) (c : Nat) (l : List DEnd) (h : DEnds F w A l) (hkd : ∀ e ∈ l, 1 ≤ e.kind ∧ e.kind ≤ 3) (hl : l.length ≤ 1000000) :
    Calls Try.prog 85 #[.slice A l.length c, .int .i64 mask] w (NewI w (nodesD mask l)) := by
  go_enter Try.func85, Try.ntmps85
  go_wp2
  go_loopg [5, 10] l.length (fun gk s i wr => ∃ (k : Nat) (A5 : Option Addr) (c5 : Nat) (xs : List Int), k + gk = l.length ∧ i = .int .i64 k ∧ s = .slice A5 xs.length c5 ∧ Hid (xs = pickN mask (l.take k)) ∧ xs.length ≤ k ∧
    wr.ownsRow w.heap.size 3 1 (.slice A5 xs.length c5) xs.length (xs.map (Value.int .i64)) ∧ Upd No w wr)
  case atStart => exact ⟨0, none, 0, [], by omega, rfl, rfl, Lib.hid (by simp [pickN]), by simp, World.ownsRow_nil _ _ _ _, Upd.refl _ _⟩
  case round =>
    obtain ⟨k, A5, c5, xs, hgk, rfl, rfl, hxs, hxl, hown, hu⟩ := hrel
    by_cases hlt : k < l.length
    · obtain ⟨ad, hAd, q0, q1, q2⟩ := (h.upd hu (fun _ _ => id)).at_ hlt
      obtain ⟨hk1, hk2⟩ := hkd _ (List.getElem_mem hlt)
      obtain ⟨x, hx⟩ : ∃ x, l[k] = x := ⟨_, rfl⟩
      rw [hx] at q0 q1 q2 hk1 hk2
      subst hAd
      have X := Lib.hid hx
      clear hx
      have b1 : (0 : Int) ≤ (k : Int) := Int.natCast_nonneg _
      have b2 : (k : Int) < (l.length : Int) := by omega
      have uA := (Upd.refl No wr).alloc (.cells #[.int .i64 x.kind, .int .i64 x.label, .int .i64 x.node] 139)
      have bo := Blk.new wr 139 [.int .i64 x.kind, .int .i64 x.label, .int .i64 x.node]
      have hown1 := own_upd hown uA (fun _ _ => id)
      have g0 := bo.cell 0
      simp only [List.getElem?_cons_zero] at g0
      have hof := Lib.hid (fun W => dofU W mask x.kind hk1 hk2)
      cases hr : bitM mask x.kind
      · rw [hr] at hof
        have HS := Lib.hid (pickN_no hlt X.out hr)
        clear hr
        go_wp2_with fail
        refine (hof.out _).mono ?_
        rintro e w1 ⟨rfl, hu1⟩
        have Hu1 := Lib.hid ((hu.trans uA).trans hu1)
        have hown2 := own_upd hown1 hu1 (fun _ _ => id)
        clear hown1 uA hu1
        go_wp2
        go_roundg (gk - 1)
        case measure => omega
        case rel => exact ⟨k + 1, A5, c5, xs, by omega, by go_num, rfl, Lib.hid (by rw [HS.out, hxs.out]), by omega, hown2, Hu1.out⟩
      · rw [hr] at hof
        have HS := Lib.hid (pickN_yes hlt X.out hr)
        clear hr
        go_wp2_with fail
        refine (hof.out _).mono ?_
        rintro e w1 ⟨rfl, hu1⟩
        have bo1 := bo.upd hu1 id
        have g1 := bo1.cell 2
        simp only [List.getElem?_cons_zero, List.getElem?_cons_succ] at g1
        have hown2 := own_upd hown1 hu1 (fun _ _ => id)
        have hz1 := (uA.trans hu1).size
        have hz0 := hu.size
        have Hu1 := Lib.hid ((hu.trans uA).trans hu1)
        clear hown1 uA hu1
        go_wp2_with (at_builtin; refine app1s rfl rfl slt_int (v := .slice A5 xs.length c5) (cells := [.int .i64 x.node]) (by rfl) rfl hown2 rfl rfl (by omega) (by omega) (by omega) ?_; intro g' c' w2 hown3 hu3 hg3 hlt3)
        go_roundg (gk - 1)
        case measure => omega
        case rel =>
          refine ⟨k + 1, some ⟨g', 0, none⟩, c', xs ++ [x.node], by omega, by go_num, by simp, Lib.hid (by rw [HS.out, hxs.out]), by simp; omega, by simpa using hown3, Hu1.out.then_ hu3 fun i e => ?_⟩
          exact .inr (hown2.lt i e).1
    · obtain rfl : k = l.length := by omega
      have Hx := Lib.hid (show xs = pickN mask l by rw [hxs.out, List.take_length])
      clear hxs
      have hsl := Lib.hid (sortI_len xs)
      have Hk := Lib.hid (show Lib.compact (sortI xs) = nodesD mask l by rw [Hx.out]; rfl)
      go_wp2_with fail
      refine (isort _ _ A5 c5 xs hown (by omega)).mono ?_
      rintro e w1 ⟨rfl, ho1, hu1⟩
      have ho1' : w1.ownsRow w.heap.size 3 1 (.slice A5 (sortI xs).length c5) (sortI xs).length ((sortI xs).map (Value.int .i64)) := by rw [hsl.out]; exact ho1
      have hic := icompact w1 w.heap.size A5 c5 (sortI xs) ho1' (by rw [hsl.out]; omega)
      rw [Hk.out, hsl.out] at hic
      have Hic := Lib.hid hic
      have hge := Lib.hid (show ∀ i, Own (.slice A5 xs.length c5) i → w.heap.size ≤ i from fun i e => (hown.lt i e).1)
      clear hic ho1 ho1' hown
      go_wp2_with fail
      refine (Hic.out).mono ?_
      rintro e w2 ⟨rfl, ho2, hu2⟩
      go_wp2
      go_ret
      exact ⟨A5, c5, rfl, ho2, (hu.then_ hu1 fun i e => .inr (hge.out i e)).then_ hu2 fun i e => .inr (hge.out i e)⟩
end Go.Proofs.Ytaicemjckagcaaa

/- Digraphs: the nodes next to one, and those ahead of it. -/
namespace Go.Proofs.Ytaicemjckagcaaa
set_option linter.unusedVariables false
open Go.RowKit
def nextD (mask : Int) (ls : List (List DEnd)) (i : Int) : List Int := match (if nodeB ls.length i then ls[i.toNat]? else none) with | some l => nodesD mask l | none => []
def kindsD (ls : List (List DEnd)) : Prop := ∀ l ∈ ls, ∀ e ∈ l, 1 ≤ e.kind ∧ e.kind ≤ 3
theorem newI_nil (w w' : World) (u : Upd No w w') : NewI w [] (.returned (.slice none 0 0)) w' := ⟨none, 0, rfl, World.ownsRow_nil _ _ _ _, u⟩
section
variable {w : World} {G : Nat → Prop} {g : Nat} {out inn : List (List DEnd)} {n : Int} {ob ib : Nat} {oh ih : List Value} {base : Nat}
set_option maxRecDepth 100000 in
theorem dprev (h : GIs w G g out inn n ob ib oh ih base) (hk : kindsD inn) (i mask : Int) : Calls Try.prog 167 #[.pointer (some ⟨g, 0, none⟩), .int .i64 i, .int .i64 mask] w (NewI w (nextD mask inn i)) := by
  have HN := Lib.hid (dnode h i)
  have hlen := h.len
  by_cases hb : nodeB out.length i = true
  · have hb' := hb
    simp only [nodeB, Bool.and_eq_true, decide_eq_true_eq] at hb'
    obtain ⟨j, rfl⟩ : ∃ j : Nat, i = (j : Int) := ⟨i.toNat, by omega⟩
    have hj : j < inn.length := by omega
    obtain ⟨A, c, hoi, hown⟩ := h.ri.2 j hj
    have hv := Lib.hid (show nextD mask inn (j : Int) = nodesD mask inn[j] by unfold nextD; rw [hlen, if_pos hb]; simp [List.getElem?_eq_getElem hj])
    have c0 := h.blk.cell 1
    have c1 : w.cell? ⟨ib, j, none⟩ = some (.slice A inn[j].length c) := by rw [h.ib_.cell j]; exact hoi
    have hc := Lib.hid (dpick _ w mask A c inn[j] (dends_own hown) (hk _ (List.getElem_mem hj)) (Nat.le_trans (h.few.2.2 _ (List.getElem_mem hj)) (by omega)))
    have k1 : (0 : Int) ≤ (j : Int) := Int.natCast_nonneg _
    have k2 : (j : Int) < (out.length : Int) := by omega
    simp only [List.getElem?_cons_zero, List.getElem?_cons_succ] at c0
    rw [hb] at HN
    clear hb hb' hoi hown h hk hlen
    go_enter Try.func167, Try.ntmps167
    go_wp2_with fail
    refine (HN.out).mono ?_
    rintro e w1 ⟨rfl, rfl⟩
    go_wp2_with fail
    refine (hc.out).mono ?_
    rintro e w2 ⟨A2, c2, rfl, ho, hu⟩
    go_wp2
    go_ret
    rw [hv.out]
    exact ⟨A2, c2, rfl, ho, hu⟩
  · have hb' : nodeB out.length i = false := by simpa using hb
    have hv := Lib.hid (show nextD mask inn i = [] by unfold nextD; rw [hlen, if_neg hb])
    rw [hb'] at HN
    clear hb hb' h hk hlen
    go_enter Try.func167, Try.ntmps167
    go_wp2_with fail
    refine (HN.out).mono ?_
    rintro e w1 ⟨rfl, rfl⟩
    go_wp2
    go_ret
    rw [hv.out]
    exact newI_nil _ _ (Upd.refl _ _)
end
end Go.Proofs.Ytaicemjckagcaaa

/- Digraphs: the arcs that go out of a node. -/
namespace Go.Proofs.Ytaicemjckagcaaa
set_option linter.unusedVariables false
open Go.RowKit
theorem slt_arc : SlT Try.prog 36 41 4 32 := SlT.mk_ Try.underlying36 (z := .agg #[.int .i64 0, .int .i64 0, .int .i64 0, .int .i64 0]) (by kernel_rfl) rfl (by omega)
def arcsF (l : List HArc) : List Value := (l.map HArc.cells).flatten
/-- a new row of arcs -/
def NewA (w : World) (l : List HArc) (e : Ending) (w' : World) : Prop := ∃ A c, e = .returned (.slice A l.length c) ∧ w'.ownsRow w.heap.size 41 4 (.slice A l.length c) l.length (arcsF l) ∧ Upd No w w'
def pickA (mask i : Int) (l : List DEnd) : List HArc := (l.filter fun e => bitM mask e.kind).map fun e => ⟨i, e.node, e.kind, e.label⟩
theorem pickA_yes {mask i : Int} {l : List DEnd} {k : Nat} {x : DEnd} (hk : k < l.length) (hx : l[k] = x) (hr : bitM mask x.kind = true) : pickA mask i (l.take (k + 1)) = pickA mask i (l.take k) ++ [⟨i, x.node, x.kind, x.label⟩] := by
  subst hx
  unfold pickA
  rw [List.take_succ_eq_append_getElem hk, List.filter_append, List.map_append, List.filter_cons_of_pos (by rw [hr])]
  rfl
theorem pickA_no {mask i : Int} {l : List DEnd} {k : Nat} {x : DEnd} (hk : k < l.length) (hx : l[k] = x) (hr : bitM mask x.kind = false) : pickA mask i (l.take (k + 1)) = pickA mask i (l.take k) := by
  subst hx
  unfold pickA
  rw [List.take_succ_eq_append_getElem hk, List.filter_append, List.map_append, List.filter_cons_of_neg (by rw [hr]; decide)]
  simp
theorem arcsF_len (l : List HArc) : (arcsF l).length = l.length * 4 := by
  unfold arcsF
  induction l with
  | nil => rfl
  | cons a l ih => simp only [List.map_cons, List.flatten_cons, List.length_append, List.length_cons, ih]; simp [HArc.cells]; omega
def outD (mask : Int) (ls : List (List DEnd)) (i : Int) : List HArc := match (if nodeB ls.length i then ls[i.toNat]? else none) with | some l => pickA mask i l | none => []
section
variable {w : World} {G : Nat → Prop} {g : Nat} {out inn : List (List DEnd)} {n : Int} {ob ib : Nat} {oh ih : List Value} {base : Nat}
set_option maxRecDepth 100000 in
set_option maxHeartbeats 1000000 in
theorem dout (h : GIs w G g out inn n ob ib oh ih base) (hkd : kindsD out) (i mask : Int) : Calls Try.prog 83 #[.pointer (some ⟨g, 0, none⟩), .int .i64 i, .int .i64 mask] w (NewA w (outD mask out i)) := by
  have HN := Lib.hid (dnode h i)
  by_cases hb : nodeB out.length i = true
  · have hb' := hb
    simp only [nodeB, Bool.and_eq_true, decide_eq_true_eq] at hb'
    obtain ⟨j, rfl⟩ : ∃ j : Nat, i = (j : Int) := ⟨i.toNat, by omega⟩
    have hj : j < out.length := by omega
    obtain ⟨A, c, hoi, hown0⟩ := h.ro.2 j hj
    have hv := Lib.hid (show outD mask out (j : Int) = pickA mask j out[j] by unfold outD; rw [if_pos hb]; simp [List.getElem?_eq_getElem hj])
    have c0 := h.blk.cell 0
    have c1 : w.cell? ⟨ob, j, none⟩ = some (.slice A out[j].length c) := by rw [h.ob_.cell j]; exact hoi
    have hde := dends_own hown0
    have hkl := hkd _ (List.getElem_mem hj)
    have hl : out[j].length ≤ 1000000 := Nat.le_trans (h.few.2.1 _ (List.getElem_mem hj)) (by omega)
    obtain ⟨l, hlq⟩ : ∃ l, out[j] = l := ⟨_, rfl⟩
    rw [hlq] at hde hkl hl hv c1
    have k1 : (0 : Int) ≤ (j : Int) := Int.natCast_nonneg _
    have k2 : (j : Int) < (out.length : Int) := by omega
    simp only [List.getElem?_cons_zero] at c0
    rw [hb] at HN
    clear hb hb' hoi hown0 h hkd hlq
    go_enter Try.func83, Try.ntmps83
    go_wp2_with fail
    refine (HN.out).mono ?_
    rintro e w1 ⟨rfl, rfl⟩
    go_wp2
    go_loopg [7, 23] l.length (fun gk s i wr => ∃ (k : Nat) (A5 : Option Addr) (c5 : Nat) (xs : List HArc), k + gk = l.length ∧ i = .int .i64 k ∧ s = .slice A5 xs.length c5 ∧ Hid (xs = pickA mask j (l.take k)) ∧ xs.length ≤ k ∧
      wr.ownsRow w.heap.size 41 4 (.slice A5 xs.length c5) xs.length (arcsF xs) ∧ Upd No w wr)
    case atStart => exact ⟨0, none, 0, [], by omega, rfl, rfl, Lib.hid (by simp [pickA]), by simp, World.ownsRow_nil _ _ _ _, Upd.refl _ _⟩
    case round =>
      obtain ⟨k, A5, c5, xs, hgk, rfl, rfl, hxs, hxl, hown, hu⟩ := hrel
      by_cases hlt : k < l.length
      · obtain ⟨ad, hAd, q0, q1, q2⟩ := (hde.upd hu (fun _ _ => id)).at_ hlt
        obtain ⟨hk1, hk2⟩ := hkl _ (List.getElem_mem hlt)
        obtain ⟨x, hx⟩ : ∃ x, l[k] = x := ⟨_, rfl⟩
        rw [hx] at q0 q1 q2 hk1 hk2
        subst hAd
        have X := Lib.hid hx
        clear hx
        have b1 : (0 : Int) ≤ (k : Int) := Int.natCast_nonneg _
        have b2 : (k : Int) < (l.length : Int) := by omega
        have uA := (Upd.refl No wr).alloc (.cells #[.int .i64 x.kind, .int .i64 x.label, .int .i64 x.node] 139)
        have bo := Blk.new wr 139 [.int .i64 x.kind, .int .i64 x.label, .int .i64 x.node]
        have hown1 := own_upd hown uA (fun _ _ => id)
        have g0 := bo.cell 0
        simp only [List.getElem?_cons_zero] at g0
        have hof := Lib.hid (fun W => dofU W mask x.kind hk1 hk2)
        cases hr : bitM mask x.kind
        · rw [hr] at hof
          have HS := Lib.hid (pickA_no (i := (j : Int)) hlt X.out hr)
          clear hr
          go_wp2_with fail
          refine (hof.out _).mono ?_
          rintro e w1 ⟨rfl, hu1⟩
          have Hu1 := Lib.hid ((hu.trans uA).trans hu1)
          have hown2 := own_upd hown1 hu1 (fun _ _ => id)
          clear hown1 uA hu1
          go_wp2
          go_roundg (gk - 1)
          case measure => omega
          case rel => exact ⟨k + 1, A5, c5, xs, by omega, by go_num, rfl, Lib.hid (by rw [HS.out, hxs.out]), by omega, hown2, Hu1.out⟩
        · rw [hr] at hof
          have HS := Lib.hid (pickA_yes (i := (j : Int)) hlt X.out hr)
          clear hr
          go_wp2_with fail
          refine (hof.out _).mono ?_
          rintro e w1 ⟨rfl, hu1⟩
          have bo1 := bo.upd hu1 id
          have g1 := bo1.cell 0
          have g2 := bo1.cell 1
          have g3 := bo1.cell 2
          simp only [List.getElem?_cons_zero, List.getElem?_cons_succ] at g1 g2 g3
          have hown2 := own_upd hown1 hu1 (fun _ _ => id)
          have hz1 := (uA.trans hu1).size
          have hz0 := hu.size
          have Hu1 := Lib.hid ((hu.trans uA).trans hu1)
          have HL := Lib.hid (arcsF_len xs)
          clear hown1 uA hu1 bo1
          go_wp2_with (at_builtin; refine app1s rfl rfl slt_arc (v := .slice A5 xs.length c5) (cells := [.int .i64 (j : Int), .int .i64 x.node, .int .i64 x.kind, .int .i64 x.label]) (by rfl) rfl hown2 rfl rfl (by omega) (by omega) (by omega) ?_; intro g' c' w2 hown3 hu3 hg3 hlt3)
          go_roundg (gk - 1)
          case measure => omega
          case rel =>
            refine ⟨k + 1, some ⟨g', 0, none⟩, c', xs ++ [⟨j, x.node, x.kind, x.label⟩], by omega, by go_num, by simp, Lib.hid (by rw [HS.out, hxs.out]), by simp; omega, by simpa [arcsF, HArc.cells] using hown3, Hu1.out.then_ hu3 fun i e => ?_⟩
            exact .inr (hown2.lt i e).1
      · obtain rfl : k = l.length := by omega
        have Hx := Lib.hid (show pickA mask j l = xs by rw [hxs.out, List.take_length])
        clear hxs
        go_wp2
        go_ret
        rw [hv.out, Hx.out]
        exact ⟨A5, c5, rfl, hown, hu⟩
  · have hb' : nodeB out.length i = false := by simpa using hb
    have hv := Lib.hid (show outD mask out i = [] by unfold outD; rw [if_neg hb])
    rw [hb'] at HN
    clear hb hb' h hkd
    go_enter Try.func83, Try.ntmps83
    go_wp2_with fail
    refine (HN.out).mono ?_
    rintro e w1 ⟨rfl, rfl⟩
    go_wp2
    go_ret
    rw [hv.out]
    exact ⟨none, 0, rfl, World.ownsRow_nil _ _ _ _, Upd.refl _ _⟩
end
end Go.Proofs.Ytaicemjckagcaaa

/- Digraphs: all arcs. -/
namespace Go.Proofs.Ytaicemjckagcaaa
set_option linter.unusedVariables false
open Go.RowKit
theorem arc_len (l : List HArc) : ∀ r ∈ l.map HArc.cells, r.length = 4 := by
  intro r hr
  rw [List.mem_map] at hr
  obtain ⟨a, _, rfl⟩ := hr
  rfl
section
variable {w : World} {G : Nat → Prop} {g : Nat} {out inn : List (List DEnd)} {n : Int} {ob ib : Nat} {oh ih : List Value} {base : Nat}
end
end Go.Proofs.Ytaicemjckagcaaa

/- Digraphs: lists of arcs; when two are one. -/
namespace Go.Proofs.Ytaicemjckagcaaa
set_option linter.unusedVariables false
open Go.RowKit
/-- arcs lie there -/
def ArcsL (F : Nat → Prop) (w : World) (A : Option Addr) (l : List HArc) : Prop := Recs F w A 4 (l.map HArc.cells)
theorem ArcsL.at_ {F : Nat → Prop} {w : World} {A : Option Addr} {l : List HArc} (h : ArcsL F w A l) {k : Nat} (hk : k < l.length) : ∃ ad, A = some ad ∧
    w.cell? (ad.add (k * 4)) = some (.int .i64 l[k].f) ∧ w.cell? ⟨(ad.add (k * 4)).block, (ad.add (k * 4)).off + 1, none⟩ = some (.int .i64 l[k].t) ∧
    w.cell? ⟨(ad.add (k * 4)).block, (ad.add (k * 4)).off + 2, none⟩ = some (.int .i64 l[k].kind) ∧ w.cell? ⟨(ad.add (k * 4)).block, (ad.add (k * 4)).off + 3, none⟩ = some (.int .i64 l[k].label) := by
  have hk' : k < (l.map HArc.cells).length := by simpa using hk
  obtain ⟨ad, e, _, _, hc⟩ := Recs.at_ h hk'
  rw [List.getElem_map] at hc
  exact ⟨ad, e, by simpa using hc 0 _ rfl, by simpa using hc 1 _ rfl, by simpa using hc 2 _ rfl, by simpa using hc 3 _ rfl⟩
theorem ArcsL.upd {F S : Nat → Prop} {w w' : World} {A : Option Addr} {l : List HArc} (h : ArcsL F w A l) (k : Upd S w w') (hn : ∀ i, F i → ¬ S i) : ArcsL F w' A l := Recs.upd h k hn

end Go.Proofs.Ytaicemjckagcaaa

/- The document's digraph: whether an arc is among some. -/
namespace Go.Proofs.Ytaicemjckagcaaa
set_option linter.unusedVariables false
open Go.RowKit
end Go.Proofs.Ytaicemjckagcaaa

/- The document's digraph: arcs left out, arcs from a node. -/
namespace Go.Proofs.Ytaicemjckagcaaa
set_option linter.unusedVariables false
open Go.RowKit
end Go.Proofs.Ytaicemjckagcaaa

/- The document's digraph: an arc left out. -/
namespace Go.Proofs.Ytaicemjckagcaaa
set_option linter.unusedVariables false
open Go.RowKit
end Go.Proofs.Ytaicemjckagcaaa

/- The document's digraph: the arcs of a mask. -/
namespace Go.Proofs.Ytaicemjckagcaaa
set_option linter.unusedVariables false
open Go.RowKit
end Go.Proofs.Ytaicemjckagcaaa

/- The document's digraph: the order of arcs; how many nodes there may be. -/
namespace Go.Proofs.Ytaicemjckagcaaa
set_option linter.unusedVariables false
open Go.RowKit
def lessA (a b : HArc) : Bool := if a.f = b.f then (if a.kind = b.kind then (if a.label = b.label then decide (a.t < b.t) else decide (a.label < b.label)) else decide (a.kind < b.kind)) else decide (a.f < b.f)
end Go.Proofs.Ytaicemjckagcaaa

/- A nil digraph. -/
namespace Go.Proofs.Ytaicemjckagcaaa
set_option linter.unusedVariables false
open Go.RowKit
theorem dnodes0 (w : World) : Calls Try.prog 76 #[.pointer none] w fun e w' => e = .returned (.int .i64 0) ∧ w = w' := by
  go_enter Try.func76, Try.ntmps76
  go_wp2
  go_ret
  exact ⟨rfl, rfl⟩
theorem dnode0 (w : World) (i : Int) : Calls Try.prog 84 #[.pointer none, .int .i64 i] w fun e w' => e = .returned (.bool false) ∧ w = w' := by
  have HN := Lib.hid (dnodes0 w)
  by_cases h0 : 0 ≤ i
  · have hb : decide (i < 0) = false := decide_eq_false (by omega)
    go_enter Try.func84, Try.ntmps84
    go_wp2_with fail
    refine (HN.out).mono ?_
    rintro e w1 ⟨rfl, rfl⟩
    go_wp2
    go_ret
    exact ⟨by simp, rfl⟩
  · have hb : decide (0 ≤ i) = false := decide_eq_false h0
    clear h0
    go_enter Try.func84, Try.ntmps84
    go_wp2
    go_ret
    exact ⟨rfl, rfl⟩
theorem dright0 (w : World) (a : HArc) : Calls Try.prog 86 #[.pointer none, .agg a.cells.toArray] w fun e w' => e = .returned (.bool false) ∧ Upd No w w' := by
  have HN := Lib.hid (fun W => dnode0 W a.f)
  have U0 := Lib.hid ((Upd.refl No w).alloc (.cells a.cells.toArray 41))
  unfold HArc.cells at *
  go_enter Try.func86, Try.ntmps86
  go_wp2_with fail
  refine (HN.out _).mono ?_
  rintro e w1 ⟨rfl, rfl⟩
  go_wp2
  go_ret
  exact ⟨rfl, U0.out⟩
theorem dadd0 (w : World) (a : HArc) : Calls Try.prog 33 #[.pointer none, .agg a.cells.toArray] w fun e w' => e = .returned (.int .i64 1) ∧ Upd No w w' := by
  have HN := Lib.hid (fun W => dright0 W a)
  have U0 := Lib.hid ((Upd.refl No w).alloc (.cells a.cells.toArray 41))
  unfold HArc.cells at *
  go_enter Try.func33, Try.ntmps33
  go_wp2_with fail
  refine (HN.out _).mono ?_
  rintro e w1 ⟨rfl, hu⟩
  have HU := Lib.hid (U0.out.trans hu)
  clear hu
  go_wp2
  go_ret
  exact ⟨rfl, HU.out⟩
end Go.Proofs.Ytaicemjckagcaaa

/- Digraphs, plain: arcs in order, and the rows that hold them. -/
namespace Go.Proofs.Ytaicemjckagcaaa
set_option linter.unusedVariables false
open Go.RowKit
/-! lists in strict order -/
theorem eq_of_strict {α : Type} {r : α → α → Prop} (irr : ∀ a, ¬ r a a) (tr : ∀ a b c, r a b → r b c → r a c) : ∀ {l m : List α}, l.Pairwise r → m.Pairwise r → (∀ x, x ∈ l ↔ x ∈ m) → l = m
  | [], [], _, _, _ => rfl
  | [], b :: m, _, _, h => absurd ((h b).2 List.mem_cons_self) (by simp)
  | a :: l, [], _, _, h => absurd ((h a).1 List.mem_cons_self) (by simp)
  | a :: l, b :: m, hl, hm, h => by
    have hl' := List.pairwise_cons.1 hl
    have hm' := List.pairwise_cons.1 hm
    have hab : a = b := by
      rcases List.mem_cons.1 ((h a).1 List.mem_cons_self) with e | e
      · exact e
      rcases List.mem_cons.1 ((h b).2 List.mem_cons_self) with f | f
      · exact f.symm
      exact absurd (tr _ _ _ (hm'.1 a e) (hl'.1 b f)) (irr b)
    subst hab
    have : l = m := eq_of_strict irr tr hl'.2 hm'.2 fun x => by
      constructor
      · intro hx
        rcases List.mem_cons.1 ((h x).1 (List.mem_cons_of_mem _ hx)) with e | e
        · subst e; exact absurd (hl'.1 x hx) (irr x)
        · exact e
      · intro hx
        rcases List.mem_cons.1 ((h x).2 (List.mem_cons_of_mem _ hx)) with e | e
        · subst e; exact absurd (hm'.1 x hx) (irr x)
        · exact e
    rw [this]
theorem rises_eq {l m : List Int} (hl : l.Pairwise (· < ·)) (hm : m.Pairwise (· < ·)) (h : ∀ x, x ∈ l ↔ x ∈ m) : l = m :=
  eq_of_strict (r := (· < ·)) (fun a => by omega) (fun a b c => by omega) hl hm h
theorem lessA_iff (a b : HArc) : lessA a b = true ↔ a.f < b.f ∨ (a.f = b.f ∧ (a.kind < b.kind ∨ (a.kind = b.kind ∧ (a.label < b.label ∨ (a.label = b.label ∧ a.t < b.t))))) := by
  unfold lessA
  split
  · split
    · split
      · simp_all
      · simp_all
    · simp_all
  · simp_all
theorem lessA_irr (a : HArc) : ¬ lessA a a = true := by rw [lessA_iff]; omega
theorem lessA_trans (a b c : HArc) (h : lessA a b = true) (k : lessA b c = true) : lessA a c = true := by rw [lessA_iff] at *; omega
theorem lessA_tri (a b : HArc) (h : ¬ lessA a b = true) (k : a ≠ b) : lessA b a = true := by
  rw [lessA_iff] at *
  have : ¬ (a.f = b.f ∧ a.kind = b.kind ∧ a.label = b.label ∧ a.t = b.t) := by
    rintro ⟨e1, e2, e3, e4⟩
    obtain ⟨af, at', ak, al⟩ := a
    obtain ⟨bf, bt, bk, bl⟩ := b
    simp only at e1 e2 e3 e4
    subst e1 e2 e3 e4
    exact k rfl
  omega
def sortedA (q : List HArc) : Prop := q.Pairwise fun a b => lessA a b = true
theorem sortedA_eq {l m : List HArc} (hl : sortedA l) (hm : sortedA m) (h : ∀ x, x ∈ l ↔ x ∈ m) : l = m := eq_of_strict lessA_irr lessA_trans hl hm h
def putA (a : HArc) : List HArc → List HArc
  | [] => [a]
  | x :: l => if lessA x a = true then x :: putA a l else a :: (x :: l).filter (fun y => !(y == a))
theorem mem_putA (a b : HArc) : ∀ l, b ∈ putA a l ↔ b = a ∨ b ∈ l
  | [] => by simp [putA]
  | x :: l => by
    have ih := mem_putA a b l
    unfold putA
    split
    · simp only [List.mem_cons, ih]; grind
    · rw [List.mem_cons, List.mem_filter]
      by_cases h : b = a <;> simp [h]
theorem putA_sorted (a : HArc) : ∀ l, sortedA l → sortedA (putA a l)
  | [], _ => by simp [putA, sortedA]
  | x :: l, h => by
    have h' := List.pairwise_cons.1 h
    unfold putA
    split
    · rename_i hx
      refine List.pairwise_cons.2 ⟨fun b hb => ?_, putA_sorted a l h'.2⟩
      rcases (mem_putA a b l).1 hb with rfl | h2
      · exact hx
      · exact h'.1 b h2
    · rename_i hx
      refine List.pairwise_cons.2 ⟨fun b hb => ?_, h.filter _⟩
      rw [List.mem_filter] at hb
      have h1 : b ≠ a := by simpa using hb.2
      by_cases hxa : x = a
      · subst hxa
        rcases List.mem_cons.1 hb.1 with rfl | h2
        · exact absurd rfl h1
        · exact h'.1 b h2
      · have h3 := lessA_tri x a hx hxa
        rcases List.mem_cons.1 hb.1 with rfl | h2
        · exact h3
        · exact lessA_trans _ _ _ h3 (h'.1 b h2)
theorem putA_len (a : HArc) (l : List HArc) : (putA a l).length ≤ l.length + 1 := by
  induction l with
  | nil => simp [putA]
  | cons x l ih =>
    unfold putA
    split
    · simp only [List.length_cons] at *; omega
    · have := List.length_filter_le (fun y => !(y == a)) (x :: l)
      simp only [List.length_cons] at *; omega
theorem putA_new (a : HArc) : ∀ l, a ∉ l → (putA a l).length = l.length + 1
  | [], _ => by simp [putA]
  | x :: l, h => by
    have ih := putA_new a l (fun e => h (List.mem_cons_of_mem _ e))
    unfold putA
    split
    · simp only [List.length_cons, ih]
    · rw [List.filter_eq_self.2 (fun y hy => by
        have : y ≠ a := fun e => h (e ▸ hy)
        simpa using this)]
      simp
/-- the nodes next to one, by the document -/
def nxS (node : Int) (back : Bool) (s : List Int) : List HArc → List Int
  | [] => s
  | x :: l => nxS node back (if back = true then (if x.t = node then putL x.f s else s) else (if x.f = node then putL x.t s else s)) l
def nxA (node : Int) (back : Bool) (p : List HArc) : List Int := nxS node back [] p
theorem mem_nxS (node : Int) (back : Bool) (v : Int) : ∀ (l : List HArc) (s : List Int), v ∈ nxS node back s l ↔ v ∈ s ∨ ∃ x ∈ l, (if back then x.t = node ∧ v = x.f else x.f = node ∧ v = x.t)
  | [], s => by simp [nxS]
  | x :: l, s => by
    show v ∈ nxS node back (if back = true then (if x.t = node then putL x.f s else s) else (if x.f = node then putL x.t s else s)) l ↔ _
    rw [mem_nxS node back v l]
    cases back
    · by_cases h : x.f = node <;> simp [h, mem_putL] <;> grind
    · by_cases h : x.t = node <;> simp [h, mem_putL] <;> grind
theorem nxS_lt (node : Int) (back : Bool) : ∀ (l : List HArc) (s : List Int), s.Pairwise (· < ·) → (nxS node back s l).Pairwise (· < ·)
  | [], _, h => h
  | x :: l, s, h => by
    show (nxS node back (if back = true then (if x.t = node then putL x.f s else s) else (if x.f = node then putL x.t s else s)) l).Pairwise (· < ·)
    apply nxS_lt node back l
    cases back
    · by_cases h2 : x.f = node
      · simpa [h2] using putL_lt _ _ h
      · simpa [h2] using h
    · by_cases h2 : x.t = node
      · simpa [h2] using putL_lt _ _ h
      · simpa [h2] using h
theorem nxS_len (node : Int) (back : Bool) : ∀ (l : List HArc) (s : List Int), (nxS node back s l).length ≤ s.length + l.length
  | [], s => by simp [nxS]
  | x :: l, s => by
    show (nxS node back (if back = true then (if x.t = node then putL x.f s else s) else (if x.f = node then putL x.t s else s)) l).length ≤ _
    have := nxS_len node back l (if back = true then (if x.t = node then putL x.f s else s) else (if x.f = node then putL x.t s else s))
    have h1 := putL_len x.f s
    have h2 := putL_len x.t s
    have : (if back = true then (if x.t = node then putL x.f s else s) else (if x.f = node then putL x.t s else s)).length ≤ s.length + 1 := by
      split <;> split <;> omega
    simp only [List.length_cons]
    omega
/-! rows of ends -/
theorem cmpD_irr (a : DEnd) : ¬ cmpD a a < 0 := by rw [cmpD_lt]; omega
theorem cmpD_tri (a b : DEnd) (h : ¬ cmpD a b < 0) (k : a ≠ b) : cmpD b a < 0 := by
  rw [cmpD_lt] at *
  have : ¬ (a.kind = b.kind ∧ a.label = b.label ∧ a.node = b.node) := by
    rintro ⟨e1, e2, e3⟩
    obtain ⟨ak, al, an⟩ := a
    obtain ⟨bk, bl, bn⟩ := b
    simp only at e1 e2 e3
    subst e1 e2 e3
    exact k rfl
  omega
theorem mem_putE (l : List DEnd) (e x : DEnd) : x ∈ putE l e ↔ x = e ∨ x ∈ l := by
  unfold putE insAt
  have := List.take_append_drop (posD l e) l
  have h2 : x ∈ l ↔ x ∈ l.take (posD l e) ∨ x ∈ l.drop (posD l e) := by rw [← List.mem_append, this]
  rw [h2]
  simp only [List.mem_append, List.mem_singleton]
  grind
theorem mem_take_lt {l : List DEnd} {p : Nat} {x : DEnd} (h : x ∈ l.take p) : ∃ k, ∃ hk : k < l.length, k < p ∧ l[k] = x := by
  obtain ⟨k, hk, rfl⟩ := List.mem_iff_getElem.1 h
  rw [List.length_take] at hk
  exact ⟨k, by omega, by omega, by simp⟩
theorem mem_drop_ge {l : List DEnd} {p : Nat} {x : DEnd} (h : x ∈ l.drop p) : ∃ k, ∃ hk : k < l.length, p ≤ k ∧ l[k] = x := by
  obtain ⟨k, hk, rfl⟩ := List.mem_iff_getElem.1 h
  rw [List.length_drop] at hk
  exact ⟨p + k, by omega, by omega, by simp⟩
theorem putE_rise {l : List DEnd} (h : riseD l) {e : DEnd} (hn : e ∉ l) : riseD (putE l e) := by
  have hp := posD_parts h e
  unfold putE insAt riseD
  rw [List.pairwise_append, List.pairwise_append]
  have h1 : (l.take (posD l e) ++ l.drop (posD l e)).Pairwise fun a b => cmpD a b < 0 := by rw [List.take_append_drop]; exact h
  rw [List.pairwise_append] at h1
  have hd : ∀ x ∈ l.drop (posD l e), cmpD e x < 0 := fun x hx => by
    obtain ⟨k, hk, hkp, rfl⟩ := mem_drop_ge hx
    exact cmpD_tri _ _ (fun e2 => by have := (hp.2 k hk).1 e2; omega) (fun e2 => hn (e2 ▸ List.getElem_mem hk))
  have ht : ∀ x ∈ l.take (posD l e), cmpD x e < 0 := fun x hx => by
    obtain ⟨k, hk, hkp, rfl⟩ := mem_take_lt hx
    exact (hp.2 k hk).2 hkp
  refine ⟨⟨h1.1, List.pairwise_singleton _ _, fun a ha b hb => ?_⟩, h1.2.1, fun a ha b hb => ?_⟩
  · rw [List.mem_singleton] at hb
    subst hb
    exact ht a ha
  · rcases List.mem_append.1 ha with ha | ha
    · exact h1.2.2 a ha b hb
    · rw [List.mem_singleton] at ha
      subst ha
      exact hd b hb
theorem takeE_rise {l : List DEnd} (h : riseD l) (e : DEnd) : riseD (takeE l e) := by
  unfold takeE delAt riseD
  have h1 : (l.take (posD l e) ++ l.drop (posD l e)).Pairwise fun a b => cmpD a b < 0 := by rw [List.take_append_drop]; exact h
  rw [List.pairwise_append] at h1
  rw [List.pairwise_append]
  have hs : (l.drop (posD l e + 1)).Sublist (l.drop (posD l e)) := by
    have : l.drop (posD l e + 1) = (l.drop (posD l e)).drop 1 := by rw [List.drop_drop]
    rw [this]; exact List.drop_sublist _ _
  exact ⟨h1.1, h1.2.1.sublist hs, fun a ha b hb => h1.2.2 a ha b (hs.subset hb)⟩
theorem mem_takeE {l : List DEnd} (h : riseD l) {e : DEnd} (hm : e ∈ l) (x : DEnd) : x ∈ takeE l e ↔ x ≠ e ∧ x ∈ l := by
  have hlt := posD_lt h hm
  have hat := isAt_mem h e
  rw [decide_eq_true hm] at hat
  have he : l[posD l e] = e := by
    unfold isAt at hat
    rw [List.getElem?_eq_getElem hlt] at hat
    exact (cmpD_eq _ _).1 (by simpa using hat)
  have hsplit : l = l.take (posD l e) ++ e :: l.drop (posD l e + 1) := by
    have h1 := List.take_append_drop (posD l e) l
    rw [List.drop_eq_getElem_cons hlt, he] at h1
    exact h1.symm
  have hpw : (l.take (posD l e) ++ e :: l.drop (posD l e + 1)).Pairwise fun a b => cmpD a b < 0 := by rw [← hsplit]; exact h
  rw [List.pairwise_append] at hpw
  have hc := List.pairwise_cons.1 hpw.2.1
  have hx : x ∈ l ↔ x ∈ l.take (posD l e) ∨ x = e ∨ x ∈ l.drop (posD l e + 1) := by
    conv => lhs; rw [hsplit]
    rw [List.mem_append, List.mem_cons]
  rw [hx]
  unfold takeE delAt
  rw [List.mem_append]
  constructor
  · rintro (h1 | h1)
    · exact ⟨fun e2 => cmpD_irr e (by have := hpw.2.2 x h1 e List.mem_cons_self; rwa [e2] at this), .inl h1⟩
    · exact ⟨fun e2 => cmpD_irr e (by have := hc.1 x h1; rwa [e2] at this), .inr (.inr h1)⟩
  · rintro ⟨h1, h2 | h2 | h2⟩
    · exact .inl h2
    · exact absurd h2 h1
    · exact .inr h2
end Go.Proofs.Ytaicemjckagcaaa
