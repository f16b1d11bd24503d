/- Looking at a history: the exported functions, with their values named. -/
import Derived.Test.YtgakhpdclhlmpaaChkE
namespace Go.Proofs.Ytgakhpdclhlmpaa
set_option linter.unusedVariables false
open Go.RowKit
section
variable {F G : Nat → Prop} {w : World} {txs : List HTx} {ords : List HOrd} {A B : Option Addr} {c d n1 n2 : Nat}
set_option maxRecDepth 100000 in
theorem cEdgeV {e : Edge} {v : Bool} (H : Hist.lies F w ⟨txs, ords, A, c, B, d⟩) (e1 : txs.length = n1) (e2 : ords.length = n2) (hv : (rightB ⟨txs, ords, A, c, B, d⟩ && edgeB ⟨txs, ords, A, c, B, d⟩ e) = v) :
    Calls Try.prog 132 #[.agg #[.slice A n1 c, .slice B n2 d], .agg #[.int .i64 e.f, .int .i64 e.t, .int .i64 e.k, .int .i64 e.key]] w fun r w' => r = .returned (.bool v) ∧ Upd No w w' := by
  subst e1 e2
  have u0 := ((Upd.refl No w).alloc (.cells #[.slice A txs.length c, .slice B ords.length d] 45)).alloc (.cells #[.int .i64 e.f, .int .i64 e.t, .int .i64 e.k, .int .i64 e.key] 89)
  have bH := Lib.hid ((Blk.new w 45 [.slice A txs.length c, .slice B ords.length d]).alloc (.cells #[.int .i64 e.f, .int .i64 e.t, .int .i64 e.k, .int .i64 e.key] 89))
  have b1 := Blk.new (w.alloc (.cells #[.slice A txs.length c, .slice B ords.length d] 45)) 89 [.int .i64 e.f, .int .i64 e.t, .int .i64 e.k, .int .i64 e.key]
  simp only [World.size_alloc] at b1
  have bE := Lib.hid b1
  have H0 := Lib.hid (H.upd u0 (fun _ _ => id))
  clear b1
  cases hr : rightB ⟨txs, ords, A, c, B, d⟩
  · rw [hr] at hv
    have HV := Lib.hid hv
    have Hr := Lib.hid hr
    clear hr hv
    go_enter Try.func132, Try.ntmps132
    go_wp2_with fail
    refine (hrightV H0.out Hr.out).mono ?_
    rintro e w1 ⟨rfl, hu1⟩
    go_wp2
    go_ret
    exact ⟨by rw [← HV.out]; rfl, u0.trans hu1⟩
  · rw [hr, Bool.true_and] at hv
    have HV := Lib.hid hv
    have Hr := Lib.hid hr
    clear hr hv
    go_enter Try.func132, Try.ntmps132
    go_wp2_with fail
    refine (hrightV H0.out Hr.out).mono ?_
    rintro e w1 ⟨rfl, hu1⟩
    have h0 := (bH.out.upd hu1 id).cell 0
    have h1 := (bH.out.upd hu1 id).cell 1
    have y0 := (bE.out.upd hu1 id).cell 0
    have y1 := (bE.out.upd hu1 id).cell 1
    have y2 := (bE.out.upd hu1 id).cell 2
    have y3 := (bE.out.upd hu1 id).cell 3
    simp only [List.getElem?_cons_zero, List.getElem?_cons_succ] at h0 h1 y0 y1 y2 y3
    have H1 := Lib.hid (H.upd (u0.trans hu1) (fun _ _ => id))
    go_wp2_with fail
    refine (cedgeV H1.out HV.out).mono ?_
    rintro e w2 ⟨rfl, hu2⟩
    go_wp2
    go_ret
    exact ⟨rfl, (u0.trans hu1).trans hu2⟩
set_option maxRecDepth 100000 in
theorem cReadV {p x pl vt vk vn : Int} {v : Bool} (H : Hist.lies F w ⟨txs, ords, A, c, B, d⟩) (e1 : txs.length = n1) (e2 : ords.length = n2) (hv : (rightB ⟨txs, ords, A, c, B, d⟩ && badB txs p ⟨x, pl, ⟨vt, vk, vn⟩⟩) = v) :
    Calls Try.prog 133 #[.agg #[.slice A n1 c, .slice B n2 d], .int .i64 p, .agg #[.int .i64 x, .int .i64 pl, .int .i64 vt, .int .i64 vk, .int .i64 vn]] w fun r w' => r = .returned (.bool v) ∧ Upd No w w' := by
  subst e1 e2
  have u0 := ((Upd.refl No w).alloc (.cells #[.slice A txs.length c, .slice B ords.length d] 45)).alloc (.cells #[.int .i64 x, .int .i64 pl, .int .i64 vt, .int .i64 vk, .int .i64 vn] 36)
  have bH := Lib.hid ((Blk.new w 45 [.slice A txs.length c, .slice B ords.length d]).alloc (.cells #[.int .i64 x, .int .i64 pl, .int .i64 vt, .int .i64 vk, .int .i64 vn] 36))
  have b1 := Blk.new (w.alloc (.cells #[.slice A txs.length c, .slice B ords.length d] 45)) 36 [.int .i64 x, .int .i64 pl, .int .i64 vt, .int .i64 vk, .int .i64 vn]
  simp only [World.size_alloc] at b1
  have bE := Lib.hid b1
  have H0 := Lib.hid (H.upd u0 (fun _ _ => id))
  clear b1
  cases hr : rightB ⟨txs, ords, A, c, B, d⟩
  · rw [hr] at hv
    have HV := Lib.hid hv
    have Hr := Lib.hid hr
    clear hr hv
    go_enter Try.func133, Try.ntmps133
    go_wp2_with fail
    refine (hrightV H0.out Hr.out).mono ?_
    rintro e w1 ⟨rfl, hu1⟩
    go_wp2
    go_ret
    exact ⟨by rw [← HV.out]; rfl, u0.trans hu1⟩
  · rw [hr, Bool.true_and] at hv
    have HV := Lib.hid hv
    have Hr := Lib.hid hr
    clear hr hv
    go_enter Try.func133, Try.ntmps133
    go_wp2_with fail
    refine (hrightV H0.out Hr.out).mono ?_
    rintro e w1 ⟨rfl, hu1⟩
    have h0 := (bH.out.upd hu1 id).cell 0
    have h1 := (bH.out.upd hu1 id).cell 1
    have y0 := (bE.out.upd hu1 id).cell 0
    have y1 := (bE.out.upd hu1 id).cell 1
    have y2 := (bE.out.upd hu1 id).cell 2
    have y3 := (bE.out.upd hu1 id).cell 3
    have y4 := (bE.out.upd hu1 id).cell 4
    simp only [List.getElem?_cons_zero, List.getElem?_cons_succ] at h0 h1 y0 y1 y2 y3 y4
    have H1 := Lib.hid (H.upd (u0.trans hu1) (fun _ _ => id))
    go_wp2_with fail
    refine (cbadV H1.out HV.out).mono ?_
    rintro e w2 ⟨rfl, hu2⟩
    go_wp2
    go_ret
    exact ⟨rfl, (u0.trans hu1).trans hu2⟩
theorem caccV {X : Option Addr} {xc n : Nat} {l : List Edge} {p x pl vt vk vn : Int} {v : Bool} (H : Hist.lies F w ⟨txs, ords, A, c, B, d⟩) (W : ∃ G, Walk G w X l) (hl : l.length ≤ 1000000) (e1 : txs.length = n1) (e2 : ords.length = n2) (e3 : l.length = n)
    (hv : acceptB ⟨txs, ords, A, c, B, d⟩ p l ⟨x, pl, ⟨vt, vk, vn⟩⟩ = v) :
    Calls Try.prog 75 #[.agg #[.slice A n1 c, .slice B n2 d], .agg #[.int .i64 p, .slice X n xc, .int .i64 x, .int .i64 pl, .int .i64 vt, .int .i64 vk, .int .i64 vn]] w fun r w' => r = .returned (.bool v) ∧ Upd No w w' := by
  subst e1 e2 e3 hv
  obtain ⟨G, W⟩ := W
  exact caccept F G w ⟨txs, ords, A, c, B, d⟩ p X xc l ⟨x, pl, ⟨vt, vk, vn⟩⟩ H W hl
end
theorem recs_blk {w : World} {g size : Nat} {t : TypeId} {rows : List (List Value)} (hr : ∀ r ∈ rows, r.length = size) (h : Blk w g t rows.flatten) : Recs (fun i => i = g) w (some ⟨g, 0, none⟩) size rows := fun _ => by
  refine ⟨_, rfl, rfl, h.lt, fun i row hi j v hj => ?_⟩
  have e1 : (⟨g, 0, none⟩ : Addr).add (i * size + j) = ⟨g, i * size + j, none⟩ := by unfold Addr.add; split <;> simp_all
  rw [e1, h.cell]
  exact flat_get hr hi hj
theorem ints_blk {w : World} {g : Nat} {t : TypeId} {xs : List Int} (h : Blk w g t (xs.map (Value.int .i64))) : Ints (fun i => i = g) w (some ⟨g, 0, none⟩) xs :=
  Ints.of_row h rfl fun j v hj => by rw [List.getElem?_toArray, List.getElem?_map, hj]; rfl
/-- the history of the chapter's example, at such places -/
def skewH (n : Nat) : Hist :=
  ⟨[⟨1, true, [⟨true, 1, 0, 0⟩, ⟨false, 2, 0, 0⟩], some ⟨n + 1, 0, none⟩, 2⟩, ⟨2, true, [⟨true, 2, 0, 0⟩, ⟨false, 1, 0, 0⟩], some ⟨n + 1 + 1, 0, none⟩, 2⟩],
   [⟨1, [2], some ⟨n + 1 + 1 + 1 + 1, 0, none⟩, 1⟩, ⟨2, [1], some ⟨n + 1 + 1 + 1 + 1 + 1, 0, none⟩, 1⟩], some ⟨n + 1 + 1 + 1, 0, none⟩, 2, some ⟨n + 1 + 1 + 1 + 1 + 1 + 1, 0, none⟩, 2⟩
theorem skew_lies {W : World} {n : Nat} {t1 t2 t3 t4 : TypeId}
    (b1 : Blk W (n + 1) t1 [.bool true, .int .i64 1, .int .i64 0, .int .i64 0, .bool false, .int .i64 2, .int .i64 0, .int .i64 0])
    (b2 : Blk W (n + 1 + 1) t1 [.bool true, .int .i64 2, .int .i64 0, .int .i64 0, .bool false, .int .i64 1, .int .i64 0, .int .i64 0])
    (b3 : Blk W (n + 1 + 1 + 1) t2 [.int .i64 1, .bool true, .slice (some ⟨n + 1, 0, none⟩) 2 2, .int .i64 2, .bool true, .slice (some ⟨n + 1 + 1, 0, none⟩) 2 2])
    (b4 : Blk W (n + 1 + 1 + 1 + 1) t3 [.int .i64 2]) (b5 : Blk W (n + 1 + 1 + 1 + 1 + 1) t3 [.int .i64 1])
    (b6 : Blk W (n + 1 + 1 + 1 + 1 + 1 + 1) t4 [.int .i64 1, .slice (some ⟨n + 1 + 1 + 1 + 1, 0, none⟩) 1 1, .int .i64 2, .slice (some ⟨n + 1 + 1 + 1 + 1 + 1, 0, none⟩) 1 1]) :
    (skewH n).lies (fun _ => True) W := by
  have h3 : ∀ (l : List HTx), ∀ r ∈ l.map HTx.cells, r.length = 3 := fun l r hr => by
    obtain ⟨e, _, rfl⟩ := List.mem_map.1 hr
    rfl
  have h2 : ∀ (l : List HOrd), ∀ r ∈ l.map HOrd.cells, r.length = 2 := fun l r hr => by
    obtain ⟨e, _, rfl⟩ := List.mem_map.1 hr
    rfl
  refine ⟨(recs_blk (h3 _) b3).weak fun _ _ _ => trivial, (recs_blk (h2 _) b6).weak fun _ _ _ => trivial, ?_, ?_, by simp [skewH], by simp [skewH], by simp [skewH], by simp [skewH]⟩
  · intro t ht
    simp only [skewH, List.mem_cons, List.not_mem_nil, or_false] at ht
    rcases ht with rfl | rfl
    · refine ⟨Recs.weak (recs_blk hops_len b1) fun _ _ _ => trivial, by simp, by unfold fewOps; simp, by unfold i64; simp, ?_⟩
      intro o ho
      simp only [List.mem_cons, List.not_mem_nil, or_false] at ho
      rcases ho with rfl | rfl <;> (unfold HOp.ok i64; decide)
    · refine ⟨Recs.weak (recs_blk hops_len b2) fun _ _ _ => trivial, by simp, by unfold fewOps; simp, by unfold i64; simp, ?_⟩
      intro o ho
      simp only [List.mem_cons, List.not_mem_nil, or_false] at ho
      rcases ho with rfl | rfl <;> (unfold HOp.ok i64; decide)
  · intro o ho
    simp only [skewH, List.mem_cons, List.not_mem_nil, or_false] at ho
    rcases ho with rfl | rfl
    · refine ⟨(ints_blk (xs := [2]) b4).weak fun _ _ _ => trivial, by simp, by simp, by unfold i64; simp, ?_⟩
      intro n hn
      simp only [List.mem_cons, List.not_mem_nil, or_false] at hn
      subst hn
      unfold i64; decide
    · refine ⟨(ints_blk (xs := [1]) b5).weak fun _ _ _ => trivial, by simp, by simp, by unfold i64; simp, ?_⟩
      intro n hn
      simp only [List.mem_cons, List.not_mem_nil, or_false] at hn
      subst hn
      unfold i64; decide
set_option maxRecDepth 100000 in
theorem sskew (w : World) : Calls Try.prog 97 #[] w fun e w' => e = .returned (.agg #[.slice (some ⟨w.heap.size + 1 + 1 + 1, 0, none⟩) 2 2, .slice (some ⟨w.heap.size + 1 + 1 + 1 + 1 + 1 + 1, 0, none⟩) 2 2]) ∧ (skewH w.heap.size).lies (fun _ => True) w' ∧ Upd No w w' := by
  go_enter Try.func97, Try.ntmps97
  go_wp2
  refine bodyPost_ret (v := .agg #[.slice (some ⟨w.heap.size + 1 + 1 + 1, 0, none⟩) 2 2, .slice (some ⟨w.heap.size + 1 + 1 + 1 + 1 + 1 + 1, 0, none⟩) 2 2]) (by simp [results, Try.results97, go_sem]) rfl ⟨rfl, ?_, ((((((((Upd.refl No w).alloc _).alloc _).alloc _).alloc _).alloc _).alloc _).alloc _)⟩
  exact skew_lies (((((((Blk.new_at (by simp only [World.size_alloc])).alloc _).alloc _).alloc _).alloc _).alloc _)) ((((((Blk.new_at (by simp only [World.size_alloc])).alloc _).alloc _).alloc _).alloc _)) (((((Blk.new_at (by simp only [World.size_alloc])).alloc _).alloc _).alloc _)) ((((Blk.new_at (by simp only [World.size_alloc])).alloc _).alloc _)) (((Blk.new_at (by simp only [World.size_alloc])).alloc _)) (Blk.new_at (by simp only [World.size_alloc]))
/-- the history of a bad read, at such places -/
def badH (n : Nat) : Hist :=
  ⟨[⟨1, false, [⟨false, 5, 0, 0⟩], some ⟨n, 0, none⟩, 1⟩, ⟨2, true, [⟨true, 5, 1, 1⟩], some ⟨n + 1, 0, none⟩, 1⟩], [], some ⟨n + 1 + 1, 0, none⟩, 2, none, 0⟩
theorem bad_lies {W : World} {n : Nat} {t1 t2 : TypeId}
    (b1 : Blk W n t1 [.bool false, .int .i64 5, .int .i64 0, .int .i64 0]) (b2 : Blk W (n + 1) t1 [.bool true, .int .i64 5, .int .i64 1, .int .i64 1])
    (b3 : Blk W (n + 1 + 1) t2 [.int .i64 1, .bool false, .slice (some ⟨n, 0, none⟩) 1 1, .int .i64 2, .bool true, .slice (some ⟨n + 1, 0, none⟩) 1 1]) :
    (badH n).lies (fun _ => True) W := by
  have h3 : ∀ (l : List HTx), ∀ r ∈ l.map HTx.cells, r.length = 3 := fun l r hr => by
    obtain ⟨e, _, rfl⟩ := List.mem_map.1 hr
    rfl
  refine ⟨(recs_blk (h3 _) b3).weak fun _ _ _ => trivial, fun h => absurd rfl h, ?_, fun o ho => by simp [badH] at ho, by simp [badH], by simp [badH], by simp [badH], by simp [badH]⟩
  intro t ht
  simp only [badH, List.mem_cons, List.not_mem_nil, or_false] at ht
  rcases ht with rfl | rfl
  · refine ⟨Recs.weak (recs_blk hops_len b1) fun _ _ _ => trivial, by simp, by unfold fewOps; simp, by unfold i64; simp, ?_⟩
    intro o ho
    simp only [List.mem_cons, List.not_mem_nil, or_false] at ho
    subst ho
    unfold HOp.ok i64; decide
  · refine ⟨Recs.weak (recs_blk hops_len b2) fun _ _ _ => trivial, by simp, by unfold fewOps; simp, by unfold i64; simp, ?_⟩
    intro o ho
    simp only [List.mem_cons, List.not_mem_nil, or_false] at ho
    subst ho
    unfold HOp.ok i64; decide
def e1 : Edge := ⟨1, 2, 3, 1⟩
def e2 : Edge := ⟨2, 1, 3, 2⟩
section
variable (n : Nat)
theorem a1 : acceptB (skewH n) 5 [e1, e2] noBad = true := by kernel_rfl
theorem a2 : acceptB (skewH n) 5 [e1, e2, e1, e2] noBad = true := by kernel_rfl
theorem a3 : acceptB (skewH n) 4 [e1, e2] noBad = false := by kernel_rfl
theorem a4 : acceptB (skewH n) 5 [e1] noBad = false := by kernel_rfl
theorem a5 : acceptB (skewH n) 5 [e1, e2] ⟨2, 0, ⟨1, 5, 1⟩⟩ = false := by kernel_rfl
theorem a6 (B : Option Addr) : acceptB ⟨(skewH n).txs, [], (skewH n).A, 2, B, 0⟩ 5 [e1, e2] noBad = false := by kernel_rfl
theorem a7 : acceptB (skewH n) 5 [] noBad = false := by kernel_rfl
theorem a8 : (rightB (skewH n) && edgeB (skewH n) e1) = true := by kernel_rfl
theorem a9 : (rightB (skewH n) && edgeB (skewH n) ⟨1, 2, 3, 2⟩) = false := by kernel_rfl
theorem a10 : (rightB (skewH n) && edgeB (skewH n) ⟨1, 2, 9, 1⟩) = false := by kernel_rfl
theorem a11 : (rightB (badH n) && badB (badH n).txs 2 ⟨2, 0, ⟨1, 5, 1⟩⟩) = true := by kernel_rfl
theorem a12 : (rightB (badH n) && badB (badH n).txs 3 ⟨2, 0, ⟨1, 5, 1⟩⟩) = false := by kernel_rfl
theorem a13 : (rightB (badH n) && badB (badH n).txs 1 ⟨2, 0, ⟨1, 5, 1⟩⟩) = false := by kernel_rfl
theorem a14 : acceptB (badH n) 2 [] ⟨2, 0, ⟨1, 5, 1⟩⟩ = true := by kernel_rfl
theorem a15 : acceptB (badH n) 2 [e1, e2] ⟨2, 0, ⟨1, 5, 1⟩⟩ = false := by kernel_rfl
end
end Go.Proofs.Ytgakhpdclhlmpaa
