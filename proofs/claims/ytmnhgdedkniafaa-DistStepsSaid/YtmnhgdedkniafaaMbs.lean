/- Ways: the law's asking for some answers. -/
import Derived.Test.YtmnhgdedkniafaaMaj
import Derived.Test.YtmnhgdedkniafaaMal
import Derived.Test.YtmnhgdedkniafaaMbo
import Derived.Test.YtmnhgdedkniafaaMbr
namespace Go.Proofs.Ytmnhgdedkniafaa
set_option linter.unusedVariables false
open Go.RowKit
def q26 : List HArc := [⟨0, 1, 1, 0⟩, ⟨0, 2, 1, 0⟩, ⟨1, 2, 3, 0⟩]
theorem made26 : madeQ 3 [] [⟨0, 1, 1, 0⟩, ⟨1, 2, 3, 0⟩, ⟨0, 2, 1, 0⟩] = q26 := by kernel_rfl
theorem v26a : wayL 3 (ofA 14 q26) 0 0 2 = [⟨0, 2, 1, 0⟩] ∧ wayB 3 (ofA 14 q26) 0 0 2 = true := ⟨by kernel_rfl, by kernel_rfl⟩
theorem v26b : wayL 3 (ofA 14 q26) 0 1 1 = [] ∧ wayB 3 (ofA 14 q26) 0 1 1 = true := ⟨by kernel_rfl, by kernel_rfl⟩
theorem v26c : wayL 3 (ofA 14 q26) 0 2 0 = [] ∧ wayB 3 (ofA 14 q26) 0 2 0 = false := ⟨by kernel_rfl, by kernel_rfl⟩
theorem v26d : wayL 3 (ofA 14 q26) 0 0 3 = [] ∧ wayB 3 (ofA 14 q26) 0 0 3 = false := ⟨by kernel_rfl, by kernel_rfl⟩
theorem v26e : wayL 0 (ofA 14 []) 0 0 0 = [] ∧ wayB 0 (ofA 14 []) 0 0 0 = false := ⟨by kernel_rfl, by kernel_rfl⟩
theorem t26a : rowD 3 (distL 3 (ofA 14 q26) 0 2) = [1, 1, 0] := by kernel_rfl
theorem t26b : row0 3 (mustL 3 (ofA (bits .andNot .i64 14 8) q26) (ofA (bits .and .i64 14 8) q26) (bits .andNot .i64 14 8) (bits .and .i64 14 8) 0 2) 1 = [2, 1, -1] := by kernel_rfl
theorem t26c : rowD 3 (distL 3 (ofA 2 q26) 0 2) = [1, -1, 0] := by kernel_rfl
theorem t26d : rowD 3 (distL 3 (ofA 14 q26) 1 2) = [-1, 1, 0] := by kernel_rfl
theorem t26e : rowD 3 (distL 3 (ofA 14 q26) 1 0) = [-1, -1, -1] := by kernel_rfl
theorem t26f : rowD 3 (distL 3 (ofA 14 q26) 0 5) = [-1, -1, -1] := by kernel_rfl
theorem t26g : rowD 0 (distL 0 (ofA 14 []) 0 0) = [] := by kernel_rfl
/-- what a way tells, named -/
def NewW (w : World) (l : List HArc) (b : Bool) (e : Ending) (w' : World) : Prop :=
  ∃ A c, e = .returned (.tuple #[.slice A l.length c, .bool b]) ∧ w'.ownsRow w.heap.size 63 4 (.slice A l.length c) l.length (arcsF l) ∧ Upd No w w'
theorem dwayV {w : World} {G : Nat → Prop} {p0 : Option Addr} {N K : Nat} {q : List HArc} (h : DG w G p0 N K q) (hK : K ≤ 100000) (mask from' to' least : Int) (l : List HArc) (b : Bool) (e : wayL N (ofA mask q) least from' to' = l ∧ wayB N (ofA mask q) least from' to' = b) :
    Calls Try.prog 67 #[.pointer p0, .int .i64 mask, .int .i64 from', .int .i64 to', .int .i64 least] w (NewW w l b) := by
  obtain ⟨rfl, rfl⟩ := e
  exact dway w G p0 N K q h hK mask from' to' least
theorem dtoV {w : World} {G : Nat → Prop} {p0 : Option Addr} {N K : Nat} {q : List HArc} (h : DG w G p0 N K q) (hK : K ≤ 100000) (mask node least : Int) (l : List Int) (e : rowD N (distL N (ofA mask q) least node) = l) :
    Calls Try.prog 66 #[.pointer p0, .int .i64 mask, .int .i64 node, .int .i64 least] w (NewD w l) := e ▸ dto w G p0 N K q h hK mask node least
theorem blk_ints {w : World} {g : Nat} {xs : List Int} (h : Blk w g 3 (xs.map (Value.int .i64))) : Ints (fun i => i = g) w (some ⟨g, 0, none⟩) xs :=
  Ints.of_row h rfl fun j v hj => by rw [List.getElem?_toArray, List.getElem?_map, hj]; rfl
theorem lit_arcs26 {W : World} (l : List HArc) (e : TypeId) : ArcsL (fun i => i = W.heap.size) (W.alloc (.cells (arcsF l).toArray e)) (some ⟨W.heap.size, 0, none⟩) l := fun _ => by
  refine ⟨_, rfl, rfl, by simp, fun i row hi j v hj => ?_⟩
  rw [List.getElem?_map, Option.map_eq_some_iff] at hi
  obtain ⟨a, ha, rfl⟩ := hi
  have e1 : (⟨W.heap.size, 0, none⟩ : Addr).add (i * 4 + j) = ⟨W.heap.size, i * 4 + j, none⟩ := by unfold Addr.add; split <;> simp_all
  rw [e1, cell_of_row _ _ _ _ e (0, 0) (heap_alloc_new W _), List.getElem?_toArray]
  unfold arcsF
  exact flat_get (arc_len l) (by rw [List.getElem?_map, ha]; rfl) hj
theorem way_one {w w' : World} {A : Option Addr} {c : Nat} {a : HArc} (h : w'.ownsRow w.heap.size 63 4 (.slice A [a].length c) [a].length (arcsF [a])) : ∃ ga, A = some ⟨ga, 0, none⟩ ∧ w'.cell? ⟨ga, 1, none⟩ = some (.int .i64 a.t) := by
  obtain ⟨g, cap, hv, _⟩ := h.form (by simp)
  cases hv
  obtain ⟨ad, e, _, z1, _⟩ := (arcs_own' (l := [a]) h).at_ (k := 0) (by simp)
  cases e
  exact ⟨g, rfl, by simpa [blk_lit_add] using z1⟩
set_option maxRecDepth 100000 in
set_option maxHeartbeats 40000000 in
theorem lives26 (w : World) : Calls Try.prog 65 #[] w fun e w' => e = .returned (.bool true) ∧ Upd No w w' := by
  have HMa := Lib.hid (fun (W : World) (F : Nat → Prop) (A : Option Addr) (c : Nat) (h : ArcsL F W A [⟨0, 1, 1, 0⟩, ⟨1, 2, 3, 0⟩, ⟨0, 2, 1, 0⟩]) => made26 ▸ (show roomN 3 = 3 by decide) ▸ dmade F W 3 A c [⟨0, 1, 1, 0⟩, ⟨1, 2, 3, 0⟩, ⟨0, 2, 1, 0⟩] h (by decide))
  go_enter Try.func65, Try.ntmps65
  go_wp2_with fail
  refine (HMa.out _ _ _ 3 (lit_arcs26 [⟨0, 1, 1, 0⟩, ⟨1, 2, 3, 0⟩, ⟨0, 2, 1, 0⟩] _)).mono ?_
  rintro e w1 ⟨g, rfl, hd⟩
  have u1 := ((Upd.refl No w).alloc _).trans hd.upd
  obtain ⟨G, hdg⟩ := hd.is
  have U1 := Lib.hid u1
  have HWa := Lib.hid (fun (W : World) (u : Upd No w1 W) => dwayV (hdg.no u) (by decide) 14 0 2 0 _ _ v26a)
  have HWb := Lib.hid (fun (W : World) (u : Upd No w1 W) => dwayV (hdg.no u) (by decide) 14 1 1 0 _ _ v26b)
  have HWc := Lib.hid (fun (W : World) (u : Upd No w1 W) => dwayV (hdg.no u) (by decide) 14 2 0 0 _ _ v26c)
  have HWd := Lib.hid (fun (W : World) (u : Upd No w1 W) => dwayV (hdg.no u) (by decide) 14 0 3 0 _ _ v26d)
  have HWe := Lib.hid (fun (W : World) => dwayV (DG.nil W (fun _ => False)) (by decide) 14 0 0 0 _ _ v26e)
  have HTa := Lib.hid (fun (W : World) (u : Upd No w1 W) => dtoV (hdg.no u) (by decide) 14 2 0 _ t26a)
  have HTb := Lib.hid (fun (W : World) (u : Upd No w1 W) => t26b ▸ dmust W G (some ⟨g, 0, none⟩) 3 _ q26 (hdg.no u) (by decide) 14 8 2 0)
  have HTc := Lib.hid (fun (W : World) (u : Upd No w1 W) => dtoV (hdg.no u) (by decide) 2 2 0 _ t26c)
  have HTd := Lib.hid (fun (W : World) (u : Upd No w1 W) => dtoV (hdg.no u) (by decide) 14 2 1 _ t26d)
  have HTe := Lib.hid (fun (W : World) (u : Upd No w1 W) => dtoV (hdg.no u) (by decide) 14 0 1 _ t26e)
  have HTf := Lib.hid (fun (W : World) (u : Upd No w1 W) => dtoV (hdg.no u) (by decide) 14 5 0 _ t26f)
  have HTg := Lib.hid (fun (W : World) (_u : Upd No w1 W) => dtoV (DG.nil W (fun _ => False)) (by decide) 14 0 0 _ t26g)
  clear hd hdg u1 HMa
  go_wp2_with fail
  refine (HWa.out w1 (Upd.refl _ _)).mono ?_
  rintro e w2 ⟨A2, c2, rfl, ho2, hu2⟩
  obtain ⟨ga, rfl, hca⟩ := way_one ho2
  go_wp2_with fail
  refine (HWb.out w2 hu2).mono ?_
  rintro e w3 ⟨A3, c3, rfl, ho3, hu3⟩
  go_wp2_with fail
  refine (HWc.out w3 (hu2.trans hu3)).mono ?_
  rintro e w4 ⟨A4, c4, rfl, ho4, hu4⟩
  go_wp2_with fail
  refine (HWd.out w4 ((hu2.trans hu3).trans hu4)).mono ?_
  rintro e w5 ⟨A5, c5, rfl, ho5, hu5⟩
  go_wp2_with fail
  refine (HWe.out w5).mono ?_
  rintro e w6 ⟨A6, c6, rfl, ho6, hu6⟩
  have u26 := ((hu3.trans hu4).trans hu5).trans hu6
  have HU6 := Lib.hid (hu2.trans u26)
  have HW1 := Lib.hid U1.out
  have ALLC := Lib.hid (show ∀ W, Upd No w2 W → Upd No w2 W ∧ W.cell? ⟨ga, 1, none⟩ = some (.int .i64 2) from fun W u => ⟨u, u.keepNo hca⟩)
  have HX6 := Lib.hid u26
  clear ho2 ho3 ho4 ho5 ho6 hu2 hu3 hu4 hu5 hu6 u26 hca HWa HWb HWc HWd HWe U1
  go_wp2_with fail
  refine (HTa.out w6 HU6.out).mono ?_
  rintro e wa0 ⟨g0, rfl, hb0, hg0, hu0⟩
  go_wp2_with fail
  refine (samei _ _ _ (some ⟨g0, 0, none⟩) _ 3 3 [1, 1, 0] [1, 1, 0] ((blk_ints (xs := [1, 1, 0]) hb0).upd ((Upd.refl No _).alloc _) (fun _ _ => id)) (lit_ints [1, 1, 0] _) (by decide) (by decide)).mono ?_
  rintro e wb0 ⟨rfl, hv0⟩
  have HV0 := Lib.hid (((HU6.out.trans hu0).alloc _).trans hv0)
  have HXn0 := Lib.hid (((HX6.out.trans hu0).alloc _).trans hv0)
  clear hb0 hg0 hu0 hv0
  go_wp2_with fail
  refine (HTb.out wb0 HV0.out).mono ?_
  rintro e wa1 ⟨g1, rfl, hb1, hg1, hu1⟩
  go_wp2_with fail
  refine (samei _ _ _ (some ⟨g1, 0, none⟩) _ 3 3 [2, 1, -1] [2, 1, -1] ((blk_ints (xs := [2, 1, -1]) hb1).upd ((Upd.refl No _).alloc _) (fun _ _ => id)) (lit_ints [2, 1, -1] _) (by decide) (by decide)).mono ?_
  rintro e wb1 ⟨rfl, hv1⟩
  have HV1 := Lib.hid (((HV0.out.trans hu1).alloc _).trans hv1)
  have HXn1 := Lib.hid (((HXn0.out.trans hu1).alloc _).trans hv1)
  clear hb1 hg1 hu1 hv1
  go_wp2_with fail
  refine (HTc.out wb1 HV1.out).mono ?_
  rintro e wa2 ⟨g2, rfl, hb2, hg2, hu2⟩
  go_wp2_with fail
  refine (samei _ _ _ (some ⟨g2, 0, none⟩) _ 3 3 [1, -1, 0] [1, -1, 0] ((blk_ints (xs := [1, -1, 0]) hb2).upd ((Upd.refl No _).alloc _) (fun _ _ => id)) (lit_ints [1, -1, 0] _) (by decide) (by decide)).mono ?_
  rintro e wb2 ⟨rfl, hv2⟩
  have HV2 := Lib.hid (((HV1.out.trans hu2).alloc _).trans hv2)
  have HXn2 := Lib.hid (((HXn1.out.trans hu2).alloc _).trans hv2)
  clear hb2 hg2 hu2 hv2
  go_wp2_with fail
  refine (HTd.out wb2 HV2.out).mono ?_
  rintro e wa3 ⟨g3, rfl, hb3, hg3, hu3⟩
  go_wp2_with fail
  refine (samei _ _ _ (some ⟨g3, 0, none⟩) _ 3 3 [-1, 1, 0] [-1, 1, 0] ((blk_ints (xs := [-1, 1, 0]) hb3).upd ((Upd.refl No _).alloc _) (fun _ _ => id)) (lit_ints [-1, 1, 0] _) (by decide) (by decide)).mono ?_
  rintro e wb3 ⟨rfl, hv3⟩
  have HV3 := Lib.hid (((HV2.out.trans hu3).alloc _).trans hv3)
  have HXn3 := Lib.hid (((HXn2.out.trans hu3).alloc _).trans hv3)
  clear hb3 hg3 hu3 hv3
  go_wp2_with fail
  refine (HTe.out wb3 HV3.out).mono ?_
  rintro e wa4 ⟨g4, rfl, hb4, hg4, hu4⟩
  go_wp2_with fail
  refine (samei _ _ _ (some ⟨g4, 0, none⟩) _ 3 3 [-1, -1, -1] [-1, -1, -1] ((blk_ints (xs := [-1, -1, -1]) hb4).upd ((Upd.refl No _).alloc _) (fun _ _ => id)) (lit_ints [-1, -1, -1] _) (by decide) (by decide)).mono ?_
  rintro e wb4 ⟨rfl, hv4⟩
  have HV4 := Lib.hid (((HV3.out.trans hu4).alloc _).trans hv4)
  have HXn4 := Lib.hid (((HXn3.out.trans hu4).alloc _).trans hv4)
  clear hb4 hg4 hu4 hv4
  go_wp2_with fail
  refine (HTf.out wb4 HV4.out).mono ?_
  rintro e wa5 ⟨g5, rfl, hb5, hg5, hu5⟩
  go_wp2_with fail
  refine (samei _ _ _ (some ⟨g5, 0, none⟩) _ 3 3 [-1, -1, -1] [-1, -1, -1] ((blk_ints (xs := [-1, -1, -1]) hb5).upd ((Upd.refl No _).alloc _) (fun _ _ => id)) (lit_ints [-1, -1, -1] _) (by decide) (by decide)).mono ?_
  rintro e wb5 ⟨rfl, hv5⟩
  have HV5 := Lib.hid (((HV4.out.trans hu5).alloc _).trans hv5)
  have HX5 := Lib.hid (((HXn4.out.trans hu5).alloc _).trans hv5)
  clear hb5 hg5 hu5 hv5
  have hcw := (ALLC.out _ HX5.out).2
  go_wp2_with fail
  refine (HTg.out wb5 HV5.out).mono ?_
  rintro e w9 ⟨g9, rfl, hb9, hg9, hu9⟩
  go_wp2
  go_ret
  exact ⟨rfl, (HW1.out.trans HV5.out).trans hu9⟩
end Go.Proofs.Ytmnhgdedkniafaa
