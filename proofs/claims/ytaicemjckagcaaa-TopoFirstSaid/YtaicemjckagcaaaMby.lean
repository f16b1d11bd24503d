/- Orders: the answers that the document gives. -/
import Derived.Test.YtaicemjckagcaaaMak
import Derived.Test.YtaicemjckagcaaaMbs
import Derived.Test.YtaicemjckagcaaaMbw
import Derived.Test.YtaicemjckagcaaaMbx
namespace Go.Proofs.Ytaicemjckagcaaa
set_option linter.unusedVariables false
open Go.RowKit
def te : Edge := ⟨3, 1, 0, 0⟩
def tf : Edge := ⟨1, 3, 0, 0⟩
def tz : Edge := ⟨3, 3, 0, 0⟩
theorem od1 : ordD [3, 1, 2, 1] [te] = some [2, 3, 1] := by kernel_rfl
theorem od2 : ordD [3, 1] [te, tf] = none := by kernel_rfl
theorem od3 : ordD [3] [tz] = none := by kernel_rfl
theorem od4 : ordD [] [te, tf] = some [] := by kernel_rfl
theorem oa1 : [te].all (alongE [2, 3, 1]) = true := by kernel_rfl
theorem oa2 : [tf].all (alongE [2, 3, 1]) = false := by kernel_rfl
theorem oa3 : [te, tf].all (alongE [2]) = true := by kernel_rfl
theorem oa4 : [tz].all (alongE [3]) = false := by kernel_rfl
section
variable {F G : Nat → Prop} {w : World} {A B : Option Addr} {c d : Nat} {ids a : List Int} {l : List Edge}
theorem ordYes (hi : Ints F w A ids) (hl : Walk G w B l) (n1 : ids.length ≤ 1000) (n2 : l.length ≤ 1000) {n m p : Nat} (hn : ids.length = n) (hm : l.length = m) (hd : ordD ids l = some a) (hp : a.length = p) :
    Calls Try.prog 12 #[.slice A n c, .slice B m d] w fun e w' => ∃ A' c', e = .returned (.tuple #[.slice A' p c', .int .i64 0]) ∧ Ints (fun i => w.heap.size ≤ i) w' A' a ∧ Upd No w w' := by
  subst hn hm hp
  refine (tOrder F G w A B c d ids l hi hl n1 n2).mono ?_
  rw [hd]
  rintro e w' ⟨A', c', rfl, ho, hu⟩
  exact ⟨A', c', rfl, Ints.of_own ho, hu⟩
theorem ordNo (hi : Ints F w A ids) (hl : Walk G w B l) (n1 : ids.length ≤ 1000) (n2 : l.length ≤ 1000) {n m : Nat} (hn : ids.length = n) (hm : l.length = m) (hd : ordD ids l = none) :
    Calls Try.prog 12 #[.slice A n c, .slice B m d] w fun e w' => ∃ A' c', e = .returned (.tuple #[.slice A' 0 c', .int .i64 16]) ∧ Upd No w w' := by
  subst hn hm
  refine (tOrder F G w A B c d ids l hi hl n1 n2).mono ?_
  rw [hd]
  rintro e w' ⟨A', c', rfl, ho, hu⟩
  exact ⟨A', c', rfl, hu⟩
theorem alongV (hi : Ints F w A ids) (hl : Walk G w B l) (n1 : ids.length ≤ 1000) (n2 : l.length ≤ 1000) {n m : Nat} (hn : ids.length = n) (hm : l.length = m) {v : Bool} (hv : l.all (alongE ids) = v) :
    Calls Try.prog 15 #[.slice A n c, .slice B m d] w fun e w' => e = .returned (.bool v) ∧ Upd No w w' := by
  subst hn hm hv
  exact tAlong F G w A B c d ids l hi hl n1 n2
end
set_option maxRecDepth 100000 in
set_option maxHeartbeats 8000000 in
theorem lives29 (w : World) : Calls Try.prog 11 #[] w fun e w' => e = .returned (.bool true) ∧ Upd No w w' := by
  obtain ⟨wb, hwb⟩ : ∃ wb, (((w.alloc (.cells #[.int .i64 3, .int .i64 1, .int .i64 0, .int .i64 0] 33)).alloc (.cells #[.int .i64 1, .int .i64 3, .int .i64 0, .int .i64 0] 33)).alloc (.cells #[.int .i64 3, .int .i64 1, .int .i64 2, .int .i64 1] 3)).alloc (.cells #[.int .i64 3, .int .i64 1, .int .i64 0, .int .i64 0] 33) = wb := ⟨_, rfl⟩
  have u0 : Upd No w wb := by rw [← hwb]; exact ((((Upd.refl No w).alloc _).alloc _).alloc _).alloc _
  have bA : Blk wb w.heap.size 33 [.int .i64 3, .int .i64 1, .int .i64 0, .int .i64 0] := by rw [← hwb]; exact (((Blk.new w _ _).alloc _).alloc _).alloc _
  have bC : Blk wb (w.heap.size + 1) 33 [.int .i64 1, .int .i64 3, .int .i64 0, .int .i64 0] := by
    rw [← hwb]
    have := ((Blk.new (w.alloc (.cells #[.int .i64 3, .int .i64 1, .int .i64 0, .int .i64 0] 33)) 33 [.int .i64 1, .int .i64 3, .int .i64 0, .int .i64 0]).alloc (.cells #[.int .i64 3, .int .i64 1, .int .i64 2, .int .i64 1] 3)).alloc (.cells #[.int .i64 3, .int .i64 1, .int .i64 0, .int .i64 0] 33)
    simpa using this
  have hIb : Ints (fun _ => True) wb (some ⟨w.heap.size + 1 + 1, 0, none⟩) [3, 1, 2, 1] := by
    rw [← hwb]
    have := ((lit_ints (W := ((w.alloc (.cells #[.int .i64 3, .int .i64 1, .int .i64 0, .int .i64 0] 33)).alloc (.cells #[.int .i64 1, .int .i64 3, .int .i64 0, .int .i64 0] 33))) [3, 1, 2, 1] 3).upd ((Upd.refl No _).alloc (.cells #[.int .i64 3, .int .i64 1, .int .i64 0, .int .i64 0] 33)) (fun _ _ => id)).weak (G := fun _ => True) (fun _ _ _ => trivial)
    simpa using this
  have hLb : ∃ F, Walk F wb (some ⟨w.heap.size + 1 + 1 + 1, 0, none⟩) [te] := by
    rw [← hwb]
    have := walk_blk (l := [te]) (Blk.new (((w.alloc (.cells #[.int .i64 3, .int .i64 1, .int .i64 0, .int .i64 0] 33)).alloc (.cells #[.int .i64 1, .int .i64 3, .int .i64 0, .int .i64 0] 33)).alloc (.cells #[.int .i64 3, .int .i64 1, .int .i64 2, .int .i64 1] 3)) 33 [.int .i64 3, .int .i64 1, .int .i64 0, .int .i64 0]) rfl
    exact ⟨_, by simpa using this⟩
  obtain ⟨Gb, hLb⟩ := hLb
  have a0 : ∀ W, Upd No wb W → W.cell? ⟨w.heap.size, 0, none⟩ = some (.int .i64 3) := fun W u => (bA.upd u id).cell 0
  have a1 : ∀ W, Upd No wb W → W.cell? ⟨w.heap.size, 1, none⟩ = some (.int .i64 1) := fun W u => (bA.upd u id).cell 1
  have a2 : ∀ W, Upd No wb W → W.cell? ⟨w.heap.size, 2, none⟩ = some (.int .i64 0) := fun W u => (bA.upd u id).cell 2
  have a3 : ∀ W, Upd No wb W → W.cell? ⟨w.heap.size, 3, none⟩ = some (.int .i64 0) := fun W u => (bA.upd u id).cell 3
  have c0 : ∀ W, Upd No wb W → W.cell? ⟨w.heap.size + 1, 0, none⟩ = some (.int .i64 1) := fun W u => (bC.upd u id).cell 0
  have c1 : ∀ W, Upd No wb W → W.cell? ⟨w.heap.size + 1, 1, none⟩ = some (.int .i64 3) := fun W u => (bC.upd u id).cell 1
  have c2 : ∀ W, Upd No wb W → W.cell? ⟨w.heap.size + 1, 2, none⟩ = some (.int .i64 0) := fun W u => (bC.upd u id).cell 2
  have c3 : ∀ W, Upd No wb W → W.cell? ⟨w.heap.size + 1, 3, none⟩ = some (.int .i64 0) := fun W u => (bC.upd u id).cell 3
  have H1 := Lib.hid (ordYes (w := wb) (c := 4) (d := 1) hIb hLb (by simp) (by simp) rfl rfl od1 rfl)
  have H2 := Lib.hid (fun (W : World) => ordNo (w := ((W.alloc (.cells #[.int .i64 3, .int .i64 1] 3)).alloc (.cells #[.int .i64 3, .int .i64 1, .int .i64 0, .int .i64 0, .int .i64 1, .int .i64 3, .int .i64 0, .int .i64 0] 33))) (A := (some ⟨W.heap.size, 0, none⟩)) (B := some ⟨W.heap.size + 1, 0, none⟩) (c := 2) (d := 2) ((lit_ints (W := W) [3, 1] 3).upd ((Upd.refl No _).alloc _) (fun _ _ => id)) (by have := walk_blk (l := [te, tf]) (Blk.new (W.alloc (.cells #[.int .i64 3, .int .i64 1] 3)) 33 [.int .i64 3, .int .i64 1, .int .i64 0, .int .i64 0, .int .i64 1, .int .i64 3, .int .i64 0, .int .i64 0]) rfl; rw [show (W.alloc (.cells #[.int .i64 3, .int .i64 1] 3)).heap.size = W.heap.size + 1 by simp] at this; exact this) (by simp) (by simp) rfl rfl od2)
  have H3 := Lib.hid (fun (W : World) => ordNo (w := ((W.alloc (.cells #[.int .i64 3] 3)).alloc (.cells #[.int .i64 3, .int .i64 3, .int .i64 0, .int .i64 0] 33))) (A := (some ⟨W.heap.size, 0, none⟩)) (B := some ⟨W.heap.size + 1, 0, none⟩) (c := 1) (d := 1) ((lit_ints (W := W) [3] 3).upd ((Upd.refl No _).alloc _) (fun _ _ => id)) (by have := walk_blk (l := [tz]) (Blk.new (W.alloc (.cells #[.int .i64 3] 3)) 33 [.int .i64 3, .int .i64 3, .int .i64 0, .int .i64 0]) rfl; rw [show (W.alloc (.cells #[.int .i64 3] 3)).heap.size = W.heap.size + 1 by simp] at this; exact this) (by simp) (by simp) rfl rfl od3)
  have H4 := Lib.hid (fun (W : World) => ordYes (w := (W.alloc (.cells #[.int .i64 3, .int .i64 1, .int .i64 0, .int .i64 0, .int .i64 1, .int .i64 3, .int .i64 0, .int .i64 0] 33))) (A := none) (B := some ⟨W.heap.size, 0, none⟩) (c := 0) (d := 2) (F := fun _ => True) Ints.nil_ (by have := walk_blk (l := [te, tf]) (Blk.new W 33 [.int .i64 3, .int .i64 1, .int .i64 0, .int .i64 0, .int .i64 1, .int .i64 3, .int .i64 0, .int .i64 0]) rfl; rw [show W.heap.size = W.heap.size by simp] at this; exact this) (by simp) (by simp) rfl rfl od4 rfl)
  have H7 := Lib.hid (fun (W : World) => alongV (w := ((W.alloc (.cells #[.int .i64 2] 3)).alloc (.cells #[.int .i64 3, .int .i64 1, .int .i64 0, .int .i64 0, .int .i64 1, .int .i64 3, .int .i64 0, .int .i64 0] 33))) (A := (some ⟨W.heap.size, 0, none⟩)) (B := some ⟨W.heap.size + 1, 0, none⟩) (c := 1) (d := 2) ((lit_ints (W := W) [2] 3).upd ((Upd.refl No _).alloc _) (fun _ _ => id)) (by have := walk_blk (l := [te, tf]) (Blk.new (W.alloc (.cells #[.int .i64 2] 3)) 33 [.int .i64 3, .int .i64 1, .int .i64 0, .int .i64 0, .int .i64 1, .int .i64 3, .int .i64 0, .int .i64 0]) rfl; rw [show (W.alloc (.cells #[.int .i64 2] 3)).heap.size = W.heap.size + 1 by simp] at this; exact this) (by simp) (by simp) rfl rfl oa3)
  have H8 := Lib.hid (fun (W : World) => alongV (w := ((W.alloc (.cells #[.int .i64 3] 3)).alloc (.cells #[.int .i64 3, .int .i64 3, .int .i64 0, .int .i64 0] 33))) (A := (some ⟨W.heap.size, 0, none⟩)) (B := some ⟨W.heap.size + 1, 0, none⟩) (c := 1) (d := 1) ((lit_ints (W := W) [3] 3).upd ((Upd.refl No _).alloc _) (fun _ _ => id)) (by have := walk_blk (l := [tz]) (Blk.new (W.alloc (.cells #[.int .i64 3] 3)) 33 [.int .i64 3, .int .i64 3, .int .i64 0, .int .i64 0]) rfl; rw [show (W.alloc (.cells #[.int .i64 3] 3)).heap.size = W.heap.size + 1 by simp] at this; exact this) (by simp) (by simp) rfl rfl oa4)
  have U0 := Lib.hid u0
  have hr : Upd No wb wb := Upd.refl _ _
  clear u0 bA bC hIb hLb
  go_enter Try.func11, Try.ntmps11
  go_wp2_with fail
  refine (H1.out).mono ?_
  rintro e w1 ⟨X, cx, rfl, hx, hu1⟩
  have HX := Lib.hid hx
  clear hx hwb
  have hq1 : ∀ o, Upd No wb (w1.alloc o) := fun o => hu1.alloc o
  have H5 := Lib.hid (fun (W : World) (u : Upd No w1 W) => alongV (w := (W.alloc (.cells #[.int .i64 3, .int .i64 1, .int .i64 0, .int .i64 0] 33))) (A := X) (B := some ⟨W.heap.size, 0, none⟩) (c := cx) (d := 1) (HX.out.upd (u.alloc _) (fun _ _ => id)) (by have := walk_blk (l := [te]) (Blk.new W 33 [.int .i64 3, .int .i64 1, .int .i64 0, .int .i64 0]) rfl; rw [show W.heap.size = W.heap.size by simp] at this; exact this) (by simp) (by simp) rfl rfl oa1)
  have H6 := Lib.hid (fun (W : World) (u : Upd No w1 W) => alongV (w := (W.alloc (.cells #[.int .i64 1, .int .i64 3, .int .i64 0, .int .i64 0] 33))) (A := X) (B := some ⟨W.heap.size, 0, none⟩) (c := cx) (d := 1) (HX.out.upd (u.alloc _) (fun _ _ => id)) (by have := walk_blk (l := [tf]) (Blk.new W 33 [.int .i64 1, .int .i64 3, .int .i64 0, .int .i64 0]) rfl; rw [show W.heap.size = W.heap.size by simp] at this; exact this) (by simp) (by simp) rfl rfl oa2)
  go_wp2_with fail
  refine (H2.out w1).mono ?_
  rintro e w2 ⟨X2, cx2, rfl, hu2'⟩
  have hv2 := (((Upd.refl No w1).alloc (.cells #[.int .i64 3, .int .i64 1] 3)).alloc (.cells #[.int .i64 3, .int .i64 1, .int .i64 0, .int .i64 0, .int .i64 1, .int .i64 3, .int .i64 0, .int .i64 0] 33)).trans hu2'
  have hu2 := hu1.trans hv2
  clear hu2'
  have hq2 : ∀ o, Upd No wb (w2.alloc o) := fun o => hu2.alloc o
  go_wp2_with fail
  refine (H3.out w2).mono ?_
  rintro e w3 ⟨X3, cx3, rfl, hu3'⟩
  have hv3 := hv2.trans ((((Upd.refl No w2).alloc (.cells #[.int .i64 3] 3)).alloc (.cells #[.int .i64 3, .int .i64 3, .int .i64 0, .int .i64 0] 33)).trans hu3')
  have hu3 := hu1.trans hv3
  clear hu3'
  go_wp2_with fail
  refine (H4.out w3).mono ?_
  rintro e w4 ⟨X4, cx4, rfl, hx4, hu4'⟩
  have hv4 := hv3.trans (((Upd.refl No w3).alloc (.cells #[.int .i64 3, .int .i64 1, .int .i64 0, .int .i64 0, .int .i64 1, .int .i64 3, .int .i64 0, .int .i64 0] 33)).trans hu4')
  have hu4 := hu1.trans hv4
  have HX4 := Lib.hid (HX.out.upd (hv4.alloc (.cells #[.int .i64 2, .int .i64 3, .int .i64 1] 3)) (fun _ _ => id))
  clear hu4' hx4 hu2 hu3 hv2 hv3
  have HS := Lib.hid (samei (w4.alloc (.cells #[.int .i64 2, .int .i64 3, .int .i64 1] 3)) _ _ X (some ⟨w4.heap.size, 0, none⟩) cx 3 [2, 3, 1] [2, 3, 1] HX4.out (lit_ints (W := w4) [2, 3, 1] 3) (by simp) (by simp))
  rw [show (([2, 3, 1] : List Int) == [2, 3, 1]) = true from by decide] at HS
  go_wp2_with fail
  refine (HS.out).mono ?_
  rintro e w5 ⟨rfl, hu5'⟩
  have hv5 := hv4.trans (((Upd.refl No w4).alloc (.cells #[.int .i64 2, .int .i64 3, .int .i64 1] 3)).trans hu5')
  have hu5 := hu1.trans hv5
  clear hu5' hu4 hv4
  go_wp2_with fail
  refine (H5.out w5 hv5).mono ?_
  rintro e w6 ⟨rfl, hu6'⟩
  have hv6 := hv5.trans (((Upd.refl No w5).alloc (.cells #[.int .i64 3, .int .i64 1, .int .i64 0, .int .i64 0] 33)).trans hu6')
  have hu6 := hu1.trans hv6
  clear hu6' hu5 hv5
  go_wp2_with fail
  refine (H6.out w6 hv6).mono ?_
  rintro e w7 ⟨rfl, hu7'⟩
  have hv7 := hv6.trans (((Upd.refl No w6).alloc (.cells #[.int .i64 1, .int .i64 3, .int .i64 0, .int .i64 0] 33)).trans hu7')
  have hu7 := hu1.trans hv7
  clear hu7' hu6 hv6
  have hq7 : ∀ o, Upd No wb (w7.alloc o) := fun o => hu7.alloc o
  go_wp2_with fail
  refine (H7.out w7).mono ?_
  rintro e w8 ⟨rfl, hu8'⟩
  have hu8 := hu7.trans ((((Upd.refl No w7).alloc (.cells #[.int .i64 2] 3)).alloc (.cells #[.int .i64 3, .int .i64 1, .int .i64 0, .int .i64 0, .int .i64 1, .int .i64 3, .int .i64 0, .int .i64 0] 33)).trans hu8')
  clear hu8' hu7 hv7
  go_wp2_with fail
  refine (H8.out w8).mono ?_
  rintro e w9 ⟨rfl, hu9'⟩
  have hu9 := hu8.trans ((((Upd.refl No w8).alloc (.cells #[.int .i64 3] 3)).alloc (.cells #[.int .i64 3, .int .i64 3, .int .i64 0, .int .i64 0] 33)).trans hu9')
  clear hu9' hu8
  go_wp2
  go_ret
  exact ⟨rfl, U0.out.trans hu9⟩
end Go.Proofs.Ytaicemjckagcaaa

/- Orders, the document's: the first order that goes along. -/
namespace Go.Proofs.Ytaicemjckagcaaa
set_option linter.unusedVariables false
open Go.RowKit
end Go.Proofs.Ytaicemjckagcaaa

/- Orders, the document's: the first order that goes along is walked. -/
namespace Go.Proofs.Ytaicemjckagcaaa
set_option linter.unusedVariables false
open Go.RowKit
end Go.Proofs.Ytaicemjckagcaaa

/- Orders: the laws that orders are told as the document says, and that none is ahead of the one that is told. -/
namespace Go.Proofs.Ytaicemjckagcaaa
set_option linter.unusedVariables false
open Go.RowKit
theorem ints_row {w : World} {A : Option Addr} {len cap : Nat} {zs : List Int} (h : (A = none ∧ len = 0 ∧ cap = 0 ∧ zs = []) ∨ ∃ x, A = some x ∧ len ≤ cap ∧ cap ≤ maxLen ∧ zs.length = cap ∧ (∀ i, i < zs.length → w.cell? (x.add i) = some (.int .i64 (zs.getD i 0))) ∧ ∀ n ∈ zs, (Lit.int .i64 n).wf = true) : ∃ l : List Int, Ints (fun _ => True) w A l ∧ l.length = len := by
  rcases h with ⟨rfl, rfl, rfl, rfl⟩ | ⟨ad, rfl, hl, hm, hz, hcell, _⟩
  · exact ⟨[], Ints.nil_, rfl⟩
  · exact ⟨zs.take len, (Ints.of_cells hcell).take, by rw [List.length_take]; omega⟩
theorem told_len (ids : List Int) (l : List Edge) (n : ids.length ≤ 1000) : (toldO (ordD ids l) 16).1.length ≤ 1000 := by
  cases h : ordD ids l with
  | none => simp [toldO]
  | some a =>
    have := (goes_perm _ _ _ (ordD_some h)).length_eq
    have := setK_len ids
    show a.length ≤ 1000
    omega
def Live29 : Prop := ∀ w, Calls Try.prog 11 #[] w fun e w' => e = .returned (.bool true) ∧ Upd No w w'
theorem lexF_step {p q : List Int} {k : Nat} {x y : Int} (h1 : k < p.length) (h2 : k < q.length) (e1 : p[k] = x) (e2 : q[k] = y) : lexF (p.drop k) (q.drop k) = if x = y then lexF (p.drop (k + 1)) (q.drop (k + 1)) else decide (x < y) := by
  rw [List.drop_eq_getElem_cons h1, List.drop_eq_getElem_cons h2, e1, e2]; rfl
end Go.Proofs.Ytaicemjckagcaaa
