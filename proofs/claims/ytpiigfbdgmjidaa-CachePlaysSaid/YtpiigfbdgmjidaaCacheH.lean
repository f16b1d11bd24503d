/- The document's entries: lists of them in memory; one is found, left out, put, used; those of a label are forgotten. -/
import Derived.Test.YtpiigfbdgmjidaaProg
import Derived.Test.YtpiigfbdgmjidaaCacheG
namespace Go.Proofs.Ytpiigfbdgmjidaa
set_option linter.unusedVariables false
open Go.RowKit

/-- an entry as it lies in a list -/
structure EntP where
  e : Ent
  A : Option Addr
  c : Nat
def EntP.cells (p : EntP) : List Value :=
  [.int .i64 p.e.l, .int .i64 p.e.p, .int .i64 p.e.w.phen, .slice p.A p.e.w.walk.length p.c, .int .i64 p.e.w.r0, .int .i64 p.e.w.r1, .int .i64 p.e.w.r2, .int .i64 p.e.w.r3, .int .i64 p.e.w.r4, .bool p.e.has]
structure Ents (F : Nat → Prop) (w : World) (A : Option Addr) (ps : List EntP) : Prop where
  recs : Recs F w A 10 (ps.map EntP.cells)
  walks : ∀ p ∈ ps, Walk F w p.A p.e.w.walk ∧ short p.e.w.walk.length
theorem slt_ent : SlT Try.prog 40 49 10 96 := SlT.mk_ Try.underlying40
  (z := .agg #[.int .i64 0, .int .i64 0, .int .i64 0, .slice none 0 0, .int .i64 0, .int .i64 0, .int .i64 0, .int .i64 0, .int .i64 0, .bool false]) (by kernel_rfl) rfl (by omega)
theorem ents_len {ps : List EntP} : ∀ r ∈ ps.map EntP.cells, r.length = 10 := fun r hr => by
  obtain ⟨p, _, rfl⟩ := List.mem_map.1 hr
  rfl
theorem ents_one {ps : List EntP} : ∀ u ∈ (ps.map EntP.cells).flatten, u.oneCell' = true := fun u hu => by
  obtain ⟨r, hr, hu⟩ := List.mem_flatten.1 hu
  obtain ⟨p, _, rfl⟩ := List.mem_map.1 hr
  simp only [EntP.cells, List.mem_cons, List.not_mem_nil, or_false] at hu
  rcases hu with rfl | rfl | rfl | rfl | rfl | rfl | rfl | rfl | rfl | rfl <;> rfl
namespace Ents
variable {F G S : Nat → Prop} {w w' : World} {A : Option Addr} {ps qs : List EntP}
theorem nil_ : Ents F w A [] := ⟨fun h => absurd rfl h, fun p hp => by simp at hp⟩
theorem upd (h : Ents F w A ps) (k : Upd S w w') (hn : ∀ i, F i → ¬ S i) : Ents F w' A ps := ⟨h.recs.upd k hn, fun p hp => ⟨Recs.upd (h.walks p hp).1 k hn, (h.walks p hp).2⟩⟩
theorem weak (h : Ents F w A ps) (hg : ∀ i, i < w.heap.size → F i → G i) : Ents G w A ps := ⟨h.recs.weak hg, fun p hp => ⟨Recs.weak (h.walks p hp).1 hg, (h.walks p hp).2⟩⟩
theorem lt' (h : Ents F w A ps) : Ents (fun i => i < w.heap.size ∧ F i) w A ps := ⟨h.recs.lt', fun p hp => ⟨Recs.lt' (h.walks p hp).1, (h.walks p hp).2⟩⟩
theorem take (h : Ents F w A ps) (i : Nat) : Ents F w A (ps.take i) := ⟨by rw [List.map_take]; exact h.recs.take, fun p hp => h.walks p (List.mem_of_mem_take hp)⟩
theorem cut (h : Ents F w A ps) {i c : Nat} (hc : ps.length ≤ c) : Ents F w (cutA A c i 10) (ps.drop i) := ⟨by rw [List.map_drop]; exact h.recs.cut (by simpa using hc), fun p hp => h.walks p (List.mem_of_mem_drop hp)⟩
/-- rows that an append has laid -/
theorem of_own {n c : Nat} (h : w.ownsRow 0 49 10 (.slice A n c) n (ps.map EntP.cells).flatten) (hF : ∀ i, Own (.slice A n c) i → F i) (hw : ∀ p ∈ ps, Walk F w p.A p.e.w.walk ∧ short p.e.w.walk.length) : Ents F w A ps :=
  ⟨(Recs.of_own ents_len (by omega) h).weak fun i _ hi => hF i hi, hw⟩
end Ents
def findI (ks : List (Int × Int)) (k : Int × Int) : Int := if k ∈ ks then (ks.idxOf k : Int) else -1
theorem findI_at {ks : List (Int × Int)} {k : Int × Int} {j : Nat} (hj : j < ks.length) (hk : ks[j] = k) (hn : k ∉ ks.take j) : findI ks k = j := by
  have hm : k ∈ ks := by rw [← hk]; exact List.getElem_mem _
  unfold findI
  rw [if_pos hm]
  congr 1
  conv => lhs; rw [← List.take_append_drop j ks]
  rw [List.idxOf_append, if_neg hn, List.drop_eq_getElem_cons hj, hk]
  simp
  omega
theorem findI_no {ks : List (Int × Int)} {k : Int × Int} (hn : k ∉ ks) : findI ks k = -1 := if_neg hn

set_option maxRecDepth 100000 in
theorem rfind (w : World) (F : Nat → Prop) (A : Option Addr) (c : Nat) (ps : List EntP) (a b : Int) (h : Ents F w A ps) (hl : ps.length ≤ 1000000) :
    Calls Try.prog 27 #[.slice A ps.length c, .int .i64 a, .int .i64 b] w fun e w' => e = .returned (.int .i64 (findI (ps.map (·.e.key)) (a, b))) ∧ Upd No w w' := by
  go_enter Try.func27, Try.ntmps27
  go_wp2
  go_loopg [11] ps.length (fun gk i wr => ∃ k : Nat, k + gk = ps.length ∧ i = .int .i64 k ∧ Hid ((a, b) ∉ (ps.map (·.e.key)).take k) ∧ Upd No w wr)
  case atStart => exact ⟨0, by omega, rfl, Lib.hid (by simp), Upd.refl _ _⟩
  case round =>
    obtain ⟨k, hgk, rfl, hno, hu⟩ := hrel
    by_cases hlt : k < ps.length
    · obtain ⟨ad, rfl, _, hadl, hcell⟩ := (h.upd hu (fun _ _ => id)).recs.at_ (k := k) (by simpa using hlt)
      obtain ⟨x, hxk⟩ : ∃ x, ps[k] = x := ⟨_, rfl⟩
      have e0 := hcell 0 (.int .i64 x.e.l) (by simp [hxk, EntP.cells])
      have e1 := hcell 1 (.int .i64 x.e.p) (by simp [hxk, EntP.cells])
      have e2 := hcell 2 (.int .i64 x.e.w.phen) (by simp [hxk, EntP.cells])
      have e3 := hcell 3 (.slice x.A x.e.w.walk.length x.c) (by simp [hxk, EntP.cells])
      have e4 := hcell 4 (.int .i64 x.e.w.r0) (by simp [hxk, EntP.cells])
      have e5 := hcell 5 (.int .i64 x.e.w.r1) (by simp [hxk, EntP.cells])
      have e6 := hcell 6 (.int .i64 x.e.w.r2) (by simp [hxk, EntP.cells])
      have e7 := hcell 7 (.int .i64 x.e.w.r3) (by simp [hxk, EntP.cells])
      have e8 := hcell 8 (.int .i64 x.e.w.r4) (by simp [hxk, EntP.cells])
      have e9 := hcell 9 (.bool x.e.has) (by simp [hxk, EntP.cells])
      simp only [if_true, if_neg (show ¬ (1 = 0) by omega), if_neg (show ¬ (2 = 0) by omega), if_neg (show ¬ (3 = 0) by omega), if_neg (show ¬ (4 = 0) by omega), if_neg (show ¬ (5 = 0) by omega), if_neg (show ¬ (6 = 0) by omega), if_neg (show ¬ (7 = 0) by omega), if_neg (show ¬ (8 = 0) by omega), if_neg (show ¬ (9 = 0) by omega)] at e0 e1 e2 e3 e4 e5 e6 e7 e8 e9
      clear hcell
      have Hx := Lib.hid hxk
      clear hxk
      by_cases ha : x.e.l = a
      · by_cases hb : x.e.p = b
        · have H1 := Lib.hid (findI_at (ks := ps.map (·.e.key)) (k := (a, b)) (j := k) (by simpa using hlt) (by rw [List.getElem_map, Hx.out, ← ha, ← hb]; rfl) hno.out)
          have hab : (x.e.l == a) = true := by rw [beq_iff_eq]; exact ha
          have hbb : (x.e.p == b) = true := by rw [beq_iff_eq]; exact hb
          clear ha hb
          go_wp2
          go_ret
          exact ⟨by rw [H1.out]; rfl, hu.alloc _⟩
        · have H1 := Lib.hid (show (a, b) ∉ (ps.map (·.e.key)).take (k + 1) by
            rw [List.take_succ_eq_append_getElem (by simpa using hlt), List.mem_append, List.getElem_map, Hx.out]
            simp only [List.mem_singleton, Ent.key, Prod.mk.injEq, not_or]
            exact ⟨hno.out, fun e => hb e.2.symm⟩)
          have hab : (x.e.l == a) = true := by rw [beq_iff_eq]; exact ha
          have hbb : (x.e.p == b) = false := by rw [beq_eq_false_iff_ne]; exact hb
          clear ha hb
          go_wp2
          go_roundg (gk - 1)
          case measure => omega
          case rel => exact ⟨k + 1, by omega, by go_num, H1, hu.alloc _⟩
      · have H1 := Lib.hid (show (a, b) ∉ (ps.map (·.e.key)).take (k + 1) by
          rw [List.take_succ_eq_append_getElem (by simpa using hlt), List.mem_append, List.getElem_map, Hx.out]
          simp only [List.mem_singleton, Ent.key, Prod.mk.injEq, not_or]
          exact ⟨hno.out, fun e => ha e.1.symm⟩)
        have hab : (x.e.l == a) = false := by rw [beq_eq_false_iff_ne]; exact ha
        clear ha
        go_wp2
        go_roundg (gk - 1)
        case measure => omega
        case rel => exact ⟨k + 1, by omega, by go_num, H1, hu.alloc _⟩
    · obtain rfl : k = ps.length := by omega
      have H1 := Lib.hid (findI_no (ks := ps.map (·.e.key)) (k := (a, b)) (by have := hno.out; rwa [List.take_of_length_le (by simp)] at this))
      go_wp2
      go_ret
      exact ⟨by rw [H1.out]; rfl, hu⟩

/-- what a call gives back as a list of entries: its own, the walks of what was there -/
def NewEnts (w : World) (F : Nat → Prop) (P : List EntP → Prop) (e : Ending) (w' : World) : Prop :=
  ∃ A c ps, e = .returned (.slice A ps.length c) ∧ P ps ∧ w'.ownsRow w.heap.size 49 10 (.slice A ps.length c) ps.length (ps.map EntP.cells).flatten ∧ (∀ p ∈ ps, Walk F w' p.A p.e.w.walk ∧ short p.e.w.walk.length) ∧ Upd No w w'
theorem ents_new {w w' : World} {F G : Nat → Prop} {A : Option Addr} {c : Nat} {ps : List EntP} (ho : w'.ownsRow w.heap.size 49 10 (.slice A ps.length c) ps.length (ps.map EntP.cells).flatten) (hw : ∀ p ∈ ps, Walk F w' p.A p.e.w.walk ∧ short p.e.w.walk.length)
    (h1 : ∀ i, w.heap.size ≤ i → i < w'.heap.size → G i) (h2 : ∀ i, i < w'.heap.size → F i → G i) : Ents G w' A ps :=
  ⟨(Recs.of_own ents_len (by omega) ho).weak fun i _ e => h1 i (ho.lt i e).1 (ho.lt i e).2, fun p hp => ⟨Recs.weak (hw p hp).1 h2, (hw p hp).2⟩⟩
set_option maxRecDepth 100000 in
theorem rwithout (w : World) (F : Nat → Prop) (A : Option Addr) (c : Nat) (ps : List EntP) (i : Nat) (h : Ents F w A ps) (hl : ps.length ≤ 1000000) (hc : ps.length ≤ c) (hi : i < ps.length) :
    Calls Try.prog 58 #[.slice A ps.length c, .int .i64 i] w (NewEnts w F (· = ps.take i ++ ps.drop (i + 1))) := by
  have h' := h.lt'
  have hcut1 := fun W => run_cut_h W slt_ent A ps.length c i (by omega)
  have hcut2 : ∀ W, (Instr.slice 40 (.slice A ps.length c) (some (.int .i64 ((i : Int) + 1))) none none).run Try.prog W = .ok (.slice (cutA A c (i + 1) 10) (ps.length - (i + 1)) (c - (i + 1))) W := fun W => by
    have := run_cut_l W slt_ent A ps.length c (i + 1) (by omega)
    rw [show (((i + 1 : Nat) : Int)) = (i : Int) + 1 by omega] at this
    exact this
  have L1 := Lib.hid (show (ps.take i).length = i by rw [List.length_take]; omega)
  have L2 := Lib.hid (show (ps.drop (i + 1)).length = ps.length - (i + 1) by rw [List.length_drop])
  have u1 := (Upd.refl No w).alloc (.cells #[] 49)
  have s1 := ((((h'.cut (i := 0) hc).take i).upd u1 (fun _ _ => id)).recs).src ents_len
  rw [List.length_map, List.drop_zero, L1.out] at s1
  have s2 : Hid (∀ W, Upd No w W → Src W (cutA A c (i + 1) 10) (ps.length - (i + 1)) 10 ((ps.drop (i + 1)).map EntP.cells).flatten) := by
    refine Lib.hid fun W hu => ?_
    have := ((h'.cut (i := i + 1) hc).upd hu (fun _ _ => id)).recs.src ents_len
    rw [List.length_map, L2.out] at this
    exact this
  have tok : True := trivial
  go_enter Try.func58, Try.ntmps58
  go_wp2_with (first
    | (at_builtin; have _t := tok; refine appN rfl rfl slt_ent (v := .slice (some ⟨w.heap.size, 0, none⟩) 0 0) (n := 0) (xs := []) (by rfl) rfl (World.ownsRow_made w #[] 0 (Nat.le_refl _) (by decide) rfl) s1 ents_one (by omega) (by omega) (by simp) ?_; intro v1 w1 hown1 hupd1 hgrew1; clear tok; simp only [Nat.zero_add, List.nil_append] at hown1; obtain ⟨A1, c1, rfl⟩ := own_slice hown1; have uw1 : Upd No w w1 := u1.then_ hupd1 (fun j e => .inr (own_ge e)))
    | (at_builtin; refine appN rfl rfl slt_ent (n := i) (m := ps.length - (i + 1)) (by rfl) (by rfl) hown1 (s2.out _ uw1) ents_one (by omega) (by omega) (by exact uw1.size) ?_; intro v2 w2 hown2 hupd2 hgrew2))
  obtain ⟨A2, c2, rfl⟩ := own_slice hown2
  have hlt := hown1.lt
  have uw2 : Upd No w w2 := uw1.then_ hupd2 (fun j e => .inr (hlt j e).1)
  rw [← List.flatten_append, ← List.map_append] at hown2
  have L3 : i + (ps.length - (i + 1)) = (ps.take i ++ ps.drop (i + 1)).length := by rw [List.length_append, L1.out, L2.out]
  rw [L3] at hown2
  go_ret
  refine ⟨A2, c2, _, by rw [L3]; rfl, rfl, hown2, fun p hp => ?_, uw2⟩
  have hp' : p ∈ ps := by
    rcases List.mem_append.1 hp with h | h
    · exact List.mem_of_mem_take h
    · exact List.mem_of_mem_drop h
  exact ⟨Recs.upd (h.walks p hp').1 uw2 (fun _ _ => id), (h.walks p hp').2⟩

theorem rows_snoc (ps : List EntP) (x : EntP) : (ps.map EntP.cells).flatten ++ x.cells = ((ps ++ [x]).map EntP.cells).flatten := by simp
set_option maxRecDepth 100000 in
theorem ruse (w : World) (F : Nat → Prop) (A : Option Addr) (c : Nat) (ps : List EntP) (i : Nat) (h : Ents F w A ps) (hl : ps.length ≤ 1000000) (hc : ps.length ≤ c) (hi : i < ps.length) :
    Calls Try.prog 29 #[.slice A ps.length c, .int .i64 i] w (NewEnts w F (· = ps.take i ++ ps.drop (i + 1) ++ [ps[i]])) := by
  obtain ⟨ad, rfl, _, hadl, hcell⟩ := h.recs.at_ (k := i) (by simpa using hi)
  obtain ⟨x, hxk⟩ : ∃ x, ps[i] = x := ⟨_, rfl⟩
  have hxw : Walk F w x.A x.e.w.walk ∧ short x.e.w.walk.length := by rw [← hxk]; exact h.walks _ (List.getElem_mem _)
  have e0 := hcell 0 (.int .i64 x.e.l) (by simp [hxk, EntP.cells])
  have e1 := hcell 1 (.int .i64 x.e.p) (by simp [hxk, EntP.cells])
  have e2 := hcell 2 (.int .i64 x.e.w.phen) (by simp [hxk, EntP.cells])
  have e3 := hcell 3 (.slice x.A x.e.w.walk.length x.c) (by simp [hxk, EntP.cells])
  have e4 := hcell 4 (.int .i64 x.e.w.r0) (by simp [hxk, EntP.cells])
  have e5 := hcell 5 (.int .i64 x.e.w.r1) (by simp [hxk, EntP.cells])
  have e6 := hcell 6 (.int .i64 x.e.w.r2) (by simp [hxk, EntP.cells])
  have e7 := hcell 7 (.int .i64 x.e.w.r3) (by simp [hxk, EntP.cells])
  have e8 := hcell 8 (.int .i64 x.e.w.r4) (by simp [hxk, EntP.cells])
  have e9 := hcell 9 (.bool x.e.has) (by simp [hxk, EntP.cells])
  simp only [if_true, if_neg (show ¬ (1 = 0) by omega), if_neg (show ¬ (2 = 0) by omega), if_neg (show ¬ (3 = 0) by omega), if_neg (show ¬ (4 = 0) by omega), if_neg (show ¬ (5 = 0) by omega), if_neg (show ¬ (6 = 0) by omega), if_neg (show ¬ (7 = 0) by omega), if_neg (show ¬ (8 = 0) by omega), if_neg (show ¬ (9 = 0) by omega)] at e0 e1 e2 e3 e4 e5 e6 e7 e8 e9
  clear hcell
  rw [hxk]
  have Hx := Lib.hid hxk
  clear hxk
  have bx := Blk.new w 49 x.cells
  have hI : (i : Int) < (ps.length : Int) := by omega
  have hI0 : (0 : Int) ≤ (i : Int) := Int.natCast_nonneg _
  go_enter Try.func29, Try.ntmps29
  have x0 := bx.cell 0
  have x1 := bx.cell 1
  have x2 := bx.cell 2
  have x3 := bx.cell 3
  have x4 := bx.cell 4
  have x5 := bx.cell 5
  have x6 := bx.cell 6
  have x7 := bx.cell 7
  have x8 := bx.cell 8
  have x9 := bx.cell 9
  have hz0 : w.heap.size < (w.alloc (.cells x.cells.toArray 49)).heap.size := by simp
  have H0 : Hid (∀ W, Upd No w W → Ents F W (some ad) ps) := Lib.hid fun W hu => h.upd hu (fun _ _ => id)
  have u0 : Upd No w (w.alloc (.cells x.cells.toArray 49)) := (Upd.refl No w).alloc _
  simp only [EntP.cells, List.getElem?_cons_zero, List.getElem?_cons_succ] at x0 x1 x2 x3 x4 x5 x6 x7 x8 x9 u0 hz0
  go_wp2
  go_region_held3 (fun w' => w'.cell? ⟨w.heap.size, 0, none⟩ = some (.int .i64 x.e.l) ∧ w'.cell? ⟨w.heap.size, 1, none⟩ = some (.int .i64 x.e.p) ∧ w'.cell? ⟨w.heap.size, 2, none⟩ = some (.int .i64 x.e.w.phen) ∧ w'.cell? ⟨w.heap.size, 3, none⟩ = some (.slice x.A x.e.w.walk.length x.c) ∧
      w'.cell? ⟨w.heap.size, 4, none⟩ = some (.int .i64 x.e.w.r0) ∧ w'.cell? ⟨w.heap.size, 5, none⟩ = some (.int .i64 x.e.w.r1) ∧ w'.cell? ⟨w.heap.size, 6, none⟩ = some (.int .i64 x.e.w.r2) ∧ w'.cell? ⟨w.heap.size, 7, none⟩ = some (.int .i64 x.e.w.r3) ∧ w'.cell? ⟨w.heap.size, 8, none⟩ = some (.int .i64 x.e.w.r4) ∧ w'.cell? ⟨w.heap.size, 9, none⟩ = some (.bool x.e.has))
    (first | exact ⟨x0, x1, x2, x3, x4, x5, x6, x7, x8, x9⟩ | (go_split_ands; refine ⟨?_, ?_, ?_, ?_, ?_, ?_, ?_, ?_, ?_, ?_⟩ <;> first | with_reducible assumption | (with_reducible exact hu3.keepNo (by with_reducible assumption)) | (with_reducible exact ((Upd.refl No _).alloc _).keepNo (by with_reducible assumption)) | (with_reducible exact hu4.keep (by with_reducible assumption) (by assumption)) | go_keep))
    (first
      | (go_at_call 58; refine (rwithout _ F (some ad) c ps i (H0.out _ (by with_reducible (repeat (first | exact u0 | apply Upd.alloc | apply Upd.drew | apply Upd.drewN)))) hl hc hi).mono ?_; rintro e w3 ⟨A1, c1, qs, rfl, hqs, ho3, hw3, hu3⟩; have hql : qs.length ≤ ps.length := (by rw [hqs, List.length_append, List.length_take, List.length_drop]; omega); have Hqs := Lib.hid hqs; clear hqs; have hno : ¬ Own (.slice A1 qs.length c1) w.heap.size := (fun e => by have h5 := (ho3.lt _ e).1; exact absurd (Nat.lt_of_lt_of_le hz0 (by first | exact h5 | exact Nat.le_trans (by simp) h5)) (Nat.lt_irrefl _)))
      | (refine step_app1 (by rfl) (by rfl) slt_ent (v := .slice A1 qs.length c1) (cells := x.cells) (by rfl) (by rfl) (by first | exact ho3 | exact ho3.alloc _) rfl (by first | exact news_new | exact fun j v hj => hu3.of_drew.keepNo (news_at (by simp) j v hj)) (by rfl) (by omega) (by omega) (by first | exact hu3.size | exact Nat.le_trans hu3.size (by simp)) ?_; intro g cap w4 hown4 hu4 hg4 hl4))
  all_goals
    go_wp2
    rw [rows_snoc] at hown4
    go_ret
    have hqn : (qs ++ [x]).length = qs.length + 1 := by simp
    have uw3 : Upd No w w3 := by first | exact u0.trans hu3.of_drew | exact (u0.alloc _).trans hu3.of_drew
    have hge : ∀ i, Own (.slice A1 qs.length c1) i → w.heap.size ≤ i := fun i e => by
      have h5 := (ho3.lt i e).1
      first | (exact Nat.le_trans (Nat.le_of_lt hz0) h5) | (simp only [World.size_alloc] at h5; omega) | (simp at h5; omega)
    have uw4 : Upd No w w4 := by first | exact uw3.then_ hu4 (fun i e => .inr (hge i e)) | exact (uw3.alloc _).then_ hu4 (fun i e => .inr (hge i e))
    refine ⟨_, cap, qs ++ [x], by rw [hqn]; rfl, by rw [Hqs.out], ?_, fun p hp => ?_, uw4⟩
    · rw [hqn]
      refine own_base hown4 ?_
      first | exact Nat.le_of_lt hz0 | exact u0.size | exact (u0.alloc _).size
    · have h' : Walk F w p.A p.e.w.walk ∧ short p.e.w.walk.length := by
        rcases List.mem_append.1 hp with h' | h'
        · rw [Hqs.out] at h'
          refine h.walks p ?_
          rcases List.mem_append.1 h' with h' | h'
          · exact List.mem_of_mem_take h'
          · exact List.mem_of_mem_drop h'
        · simp only [List.mem_singleton] at h'
          subst h'
          exact hxw
      exact ⟨Recs.upd h'.1 uw4 (fun _ _ => id), h'.2⟩

set_option maxRecDepth 100000 in
theorem rforget (w : World) (F : Nat → Prop) (A : Option Addr) (c : Nat) (ps : List EntP) (a : Int) (h : Ents F w A ps) (hl : ps.length ≤ 1000000) :
    Calls Try.prog 30 #[.slice A ps.length c, .int .i64 a] w (NewEnts w F (· = ps.filter fun p => p.e.l ≠ a)) := by
  go_enter Try.func30, Try.ntmps30
  go_wp2
  go_loopg [5, 10] ps.length (fun gk l i wr => ∃ (k : Nat) (A' : Option Addr) (c' : Nat) (qs : List EntP), k + gk = ps.length ∧ i = .int .i64 k ∧ l = .slice A' qs.length c' ∧ Hid (qs = (ps.take k).filter fun p => p.e.l ≠ a) ∧
    wr.ownsRow w.heap.size 49 10 (.slice A' qs.length c') qs.length (qs.map EntP.cells).flatten ∧ Upd No w wr)
  case atStart => exact ⟨0, none, 0, [], by omega, rfl, rfl, Lib.hid (by simp), by simpa using World.ownsRow_nil _ _ _ _, Upd.refl _ _⟩
  case round =>
    obtain ⟨k, A', c', qs, hgk, rfl, rfl, hqs, hor, hu⟩ := hrel
    have hql : qs.length ≤ ps.length := by
      rw [hqs.out]
      exact Nat.le_trans (List.length_filter_le _ _) (by rw [List.length_take]; omega)
    by_cases hlt : k < ps.length
    · obtain ⟨ad, rfl, _, hadl, hcell⟩ := (h.upd hu (fun _ _ => id)).recs.at_ (k := k) (by simpa using hlt)
      obtain ⟨x, hxk⟩ : ∃ x, ps[k] = x := ⟨_, rfl⟩
      have e0 := hcell 0 (.int .i64 x.e.l) (by simp [hxk, EntP.cells])
      have e1 := hcell 1 (.int .i64 x.e.p) (by simp [hxk, EntP.cells])
      have e2 := hcell 2 (.int .i64 x.e.w.phen) (by simp [hxk, EntP.cells])
      have e3 := hcell 3 (.slice x.A x.e.w.walk.length x.c) (by simp [hxk, EntP.cells])
      have e4 := hcell 4 (.int .i64 x.e.w.r0) (by simp [hxk, EntP.cells])
      have e5 := hcell 5 (.int .i64 x.e.w.r1) (by simp [hxk, EntP.cells])
      have e6 := hcell 6 (.int .i64 x.e.w.r2) (by simp [hxk, EntP.cells])
      have e7 := hcell 7 (.int .i64 x.e.w.r3) (by simp [hxk, EntP.cells])
      have e8 := hcell 8 (.int .i64 x.e.w.r4) (by simp [hxk, EntP.cells])
      have e9 := hcell 9 (.bool x.e.has) (by simp [hxk, EntP.cells])
      simp only [if_true, if_neg (show ¬ (1 = 0) by omega), if_neg (show ¬ (2 = 0) by omega), if_neg (show ¬ (3 = 0) by omega), if_neg (show ¬ (4 = 0) by omega), if_neg (show ¬ (5 = 0) by omega), if_neg (show ¬ (6 = 0) by omega), if_neg (show ¬ (7 = 0) by omega), if_neg (show ¬ (8 = 0) by omega), if_neg (show ¬ (9 = 0) by omega)] at e0 e1 e2 e3 e4 e5 e6 e7 e8 e9
      clear hcell
      have Hx := Lib.hid hxk
      clear hxk
      have hsz := hu.size
      by_cases ha : x.e.l = a
      · have hab : (x.e.l != a) = false := by rw [ha]; simp
        have F1 := Lib.hid (show qs = (ps.take (k + 1)).filter (fun p => p.e.l ≠ a) by rw [List.take_succ_eq_append_getElem hlt, List.filter_append, Hx.out, ← hqs.out]; simp [ha])
        clear ha
        go_wp2
        go_roundg (gk - 1)
        case measure => omega
        case rel => exact ⟨k + 1, A', c', qs, by omega, by go_num, rfl, F1, hor.alloc _, hu.alloc _⟩
      · have hab : (x.e.l != a) = true := by rw [bne_iff_ne]; exact ha
        have F1 := Lib.hid (show qs ++ [x] = (ps.take (k + 1)).filter (fun p => p.e.l ≠ a) by rw [List.take_succ_eq_append_getElem hlt, List.filter_append, Hx.out, ← hqs.out]; simp [ha])
        clear ha
        go_wp2_with (at_builtin; refine appN rfl rfl slt_ent (v := .slice A' qs.length c') (n := qs.length) (m := 1) (news := x.cells) (by rfl) (by rfl) (by exact (hor.alloc _).alloc _) ⟨rfl, fun _ => ⟨_, rfl, news_at (cs := x.cells) (by simp)⟩⟩ (fun u hu => ents_one (ps := [x]) u (by simpa using hu)) (by omega) (by omega) (by simp; omega) ?_; intro v4 w4 hown4 hu4 hg4)
        obtain ⟨A4, c4, rfl⟩ := own_slice hown4
        go_roundg (gk - 1)
        case measure => omega
        case rel =>
          rw [rows_snoc] at hown4
          have hqn : (qs ++ [x]).length = qs.length + 1 := by simp
          refine ⟨k + 1, A4, c4, qs ++ [x], by omega, by go_num, by rw [hqn], F1, by rw [hqn]; exact hown4, ((hu.alloc _).alloc _).then_ hu4 (fun i e => .inr ?_)⟩
          have := (hor.lt i e).1
          omega
    · obtain rfl : k = ps.length := by omega
      go_wp2
      go_ret
      refine ⟨A', c', qs, rfl, by rw [hqs.out, List.take_length], hor, fun p hp => ?_, hu⟩
      rw [hqs.out, List.take_length] at hp
      have h' := h.walks p (List.mem_filter.1 hp |>.1)
      exact ⟨Recs.upd h'.1 hu (fun _ _ => id), h'.2⟩

theorem findI_split {as_ bs : List (Int × Int)} {k : Int × Int} (h : k ∉ as_) : findI (as_ ++ k :: bs) k = as_.length := by
  refine findI_at (by simp) (by simp) (by simpa using h)
/-- what the document's put gives -/
theorem putE_yes {ps as_ bs : List EntP} {p x : EntP} (hsp : ps = as_ ++ p :: bs) (hk : p.e.key = x.e.key) (hn : (ps.map (·.e.key)).Nodup) (N : Int) (h0 : ¬ N = 0) (hl : (ps.length : Int) ≤ N) :
    putE N (ps.map (·.e)) x.e = (as_ ++ bs ++ [x]).map (·.e) := by
  subst hsp
  have hf : (((as_ ++ p :: bs).map (·.e)).filter fun y => y.key ≠ x.e.key) = (as_ ++ bs).map (·.e) := by
    rw [← hk, List.map_append, List.map_cons, filter_one, List.map_append]
    have h := hn
    rw [show ((as_ ++ p :: bs).map (·.e.key)) = ((as_ ++ p :: bs).map (·.e)).map Ent.key by rw [List.map_map]; rfl, List.map_append, List.map_cons] at h
    exact h
  unfold putE
  rw [if_neg h0, hf, if_neg (by simp only [List.length_map, List.length_append, List.length_cons] at hl ⊢; omega)]
  simp
theorem putE_no {ps : List EntP} {x : EntP} (hin : x.e.key ∉ ps.map (·.e.key)) (N : Int) (h0 : ¬ N = 0) :
    putE N (ps.map (·.e)) x.e = ((if N ≤ ps.length then ps.drop 1 else ps) ++ [x]).map (·.e) := by
  have hf : ((ps.map (·.e)).filter fun y => y.key ≠ x.e.key) = ps.map (·.e) := filter_all (by rw [List.map_map]; exact hin)
  unfold putE
  rw [if_neg h0, hf, List.length_map, List.map_append]
  split <;> simp
theorem own_emp {W : World} {B n : Nat} {e : TypeId} (hn : n = W.heap.size) (hB : B ≤ W.heap.size) : (W.alloc (.cells #[] e)).ownsRow B e 10 (.slice (some ⟨n, 0, none⟩) 0 0) 0 [] := by
  subst hn
  exact own_base (World.ownsRow_made W #[] 0 (Nat.le_refl _) (by decide) rfl) hB
theorem not_own {a j n c : Nat} (h : j < a) : ¬ Own (.slice (some ⟨a, 0, none⟩) n c) j := fun e => by
  have := own_ge e
  omega
theorem not_own_ne {a j n c : Nat} (h : j ≠ a) : ¬ Own (.slice (some ⟨a, 0, none⟩) n c) j := fun e => by
  have e1 : a = j := by simpa [Own, Value.ownBlock] using e
  omega
def Sx (b : Nat) (x : EntP) (w' : World) : Prop := w'.cell? ⟨b, 0, none⟩ = some (.int .i64 x.e.l) ∧ w'.cell? ⟨b, 1, none⟩ = some (.int .i64 x.e.p) ∧ w'.cell? ⟨b, 2, none⟩ = some (.int .i64 x.e.w.phen) ∧ w'.cell? ⟨b, 3, none⟩ = some (.slice x.A x.e.w.walk.length x.c) ∧
      w'.cell? ⟨b, 4, none⟩ = some (.int .i64 x.e.w.r0) ∧ w'.cell? ⟨b, 5, none⟩ = some (.int .i64 x.e.w.r1) ∧ w'.cell? ⟨b, 6, none⟩ = some (.int .i64 x.e.w.r2) ∧ w'.cell? ⟨b, 7, none⟩ = some (.int .i64 x.e.w.r3) ∧ w'.cell? ⟨b, 8, none⟩ = some (.int .i64 x.e.w.r4) ∧ w'.cell? ⟨b, 9, none⟩ = some (.bool x.e.has)
theorem Sx.upd {b : Nat} {x : EntP} {w w' : World} {S : Nat → Prop} (h : Sx b x w) (k : Upd S w w') (hn : ¬ S b) : Sx b x w' :=
  ⟨k.keep h.1 hn, k.keep h.2.1 hn, k.keep h.2.2.1 hn, k.keep h.2.2.2.1 hn, k.keep h.2.2.2.2.1 hn, k.keep h.2.2.2.2.2.1 hn, k.keep h.2.2.2.2.2.2.1 hn, k.keep h.2.2.2.2.2.2.2.1 hn, k.keep h.2.2.2.2.2.2.2.2.1 hn, k.keep h.2.2.2.2.2.2.2.2.2 hn⟩
theorem Sx.new (w : World) (x : EntP) : Sx w.heap.size x (w.alloc (.cells x.cells.toArray 49)) := by
  have bx := Blk.new w 49 x.cells
  exact ⟨bx.cell 0, bx.cell 1, bx.cell 2, bx.cell 3, bx.cell 4, bx.cell 5, bx.cell 6, bx.cell 7, bx.cell 8, bx.cell 9⟩

theorem ents_src {F : Nat → Prop} {w : World} {A : Option Addr} {ps : List EntP} (h : Ents F w A ps) : Src w A ps.length 10 (ps.map EntP.cells).flatten := by
  have := h.recs.src ents_len
  rwa [List.length_map] at this
theorem refroom34 (w : World) (n : Int) : Calls Try.prog 37 #[.int .i64 n] w fun e w' => e = .returned (.int .i64 (roomOf n)) ∧ w = w' := by
  unfold roomOf
  go_enter Try.func37, Try.ntmps37
  go_wp2
  · go_ret
    exact ⟨by rw [show min (max n 0) 65536 = 0 by omega]; rfl, rfl⟩
  · go_ret
    exact ⟨by rw [show min (max n 0) 65536 = 65536 by omega]; rfl, rfl⟩
  · go_ret
    exact ⟨by rw [show min (max n 0) 65536 = n by omega]; rfl, rfl⟩
set_option maxRecDepth 100000 in
set_option maxHeartbeats 1000000 in
theorem rput (w : World) (F : Nat → Prop) (A : Option Addr) (c : Nat) (ps : List EntP) (x : EntP) (room : Int) (h : Ents F w A ps) (hx : Walk F w x.A x.e.w.walk ∧ short x.e.w.walk.length) (hl : ps.length ≤ 1000000) (hc : ps.length ≤ c)
    (hn : (ps.map (·.e.key)).Nodup) (hl2 : (ps.length : Int) ≤ roomOf room) :
    Calls Try.prog 25 #[.slice A ps.length c, .int .i64 room, .agg x.cells.toArray] w (NewEnts w F fun qs => qs.map (·.e) = putE (roomOf room) (ps.map (·.e)) x.e) := by
  have hS := Sx.new w x
  have H0 : Hid (∀ W, Upd No w W → Ents F W A ps) := Lib.hid fun W hu => h.upd hu (fun _ _ => id)
  have u0 : Upd No w (w.alloc (.cells x.cells.toArray 49)) := (Upd.refl No w).alloc _
  obtain ⟨x0, x1, x2, x3, x4, x5, x6, x7, x8, x9⟩ := id hS
  simp only [EntP.cells] at x0 x1 x2 x3 x4 x5 x6 x7 x8 x9 u0 hS
  have hN0 : 0 ≤ roomOf room := by unfold roomOf; omega
  obtain ⟨N, hN⟩ : ∃ N, N = roomOf room := ⟨_, rfl⟩
  rw [← hN] at hN0 hl2
  have HN := Lib.hid hN
  clear hN
  by_cases hin : x.e.key ∈ ps.map (·.e.key)
  · obtain ⟨p, hp, hk⟩ := List.mem_map.1 hin
    obtain ⟨as_, bs, hsp⟩ := List.append_of_mem hp
    have hka : x.e.key ∉ as_.map (·.e.key) := by
      have h2 := hn
      rw [hsp, List.map_append, List.map_cons, List.nodup_append] at h2
      intro hm
      exact h2.2.2 _ hm _ (List.mem_cons_self ..) hk.symm
    have hf : findI (ps.map (·.e.key)) x.e.key = (as_.length : Int) := by
      rw [hsp, List.map_append, List.map_cons, hk, findI_split hka, List.length_map]
    have hpl : ps.length = as_.length + (bs.length + 1) := by rw [hsp, List.length_append, List.length_cons]
    have h0 : ¬ N = 0 := by omega
    have hz : (N == 0) = false := by rw [beq_eq_false_iff_ne]; exact h0
    have EH := Lib.hid (putE_yes hsp hk hn N h0 hl2)
    have Ed : Hid (ps.take as_.length ++ ps.drop (as_.length + 1) = as_ ++ bs) := by
      refine Lib.hid ?_
      rw [hsp]
      simp
    have hi : as_.length < ps.length := by omega
    generalize as_.length = i at *
    have hi0 : (0 : Int) ≤ (i : Int) := Int.natCast_nonneg _
    have Hpl := Lib.hid hpl
    clear hin hsp hk hka h0 hpl
    unfold EntP.cells
    go_enter Try.func25, Try.ntmps25
    go_wp2_with fail
    refine (refroom34 _ _).mono ?_
    rintro e w1 ⟨he, rfl⟩
    rw [← HN.out] at he
    subst he
    go_wp2_with fail
    refine (rfind _ F A c ps x.e.l x.e.p (H0.out _ u0) hl).mono ?_
    rintro e w1 ⟨he, hu1⟩
    replace he : e = .returned (.int .i64 (findI (ps.map (·.e.key)) x.e.key)) := he
    rw [hf] at he
    subst he
    have hS1 := hS.upd hu1 id
    have uw1 := u0.trans hu1
    have hws : w.heap.size < w1.heap.size := Nat.lt_of_lt_of_le (by simp) hu1.size
    have H1 : Hid (∀ W, Upd No w1 W → Ents F W A ps) := Lib.hid fun W hu => H0.out W (uw1.trans hu)
    clear hS x0 x1 x2 x3 x4 x5 x6 x7 x8 x9 hf
    go_wp2_with fail
    refine (rwithout _ F A c ps i (H1.out _ (Upd.refl _ _)) hl hc hi).mono ?_
    rintro e w2 ⟨A1, c1, qs, rfl, hqs, ho2, hw2, hu2⟩
    rw [Ed.out] at hqs
    have HQ : Hid (∀ W, Upd No w2 W → Ents (fun i => F i ∨ w1.heap.size ≤ i) W A1 qs) := Lib.hid fun W hu => (ents_new ho2 hw2 (fun i h _ => .inr h) (fun i _ h => .inl h)).upd hu (fun _ _ => id)
    have EQ : Hid ((qs ++ [x]).map (·.e) = putE N (ps.map (·.e)) x.e) := by rw [hqs]; exact Lib.hid EH.out.symm
    have hmem : Hid (∀ p ∈ qs, p ∈ ps) := by
      rw [hqs, ← Ed.out]
      refine Lib.hid fun p hp => ?_
      rcases List.mem_append.1 hp with h | h
      · exact List.mem_of_mem_take h
      · exact List.mem_of_mem_drop h
    have hlq : qs.length + 1 = ps.length := by
      rw [hqs, ← Ed.out, List.length_append, List.length_take, List.length_drop]; omega
    have hql : qs.length ≤ 1000000 := by omega
    have hnf : (qs.length : Int) < N := by omega
    have uw2 := uw1.trans hu2
    have hS := hS1.upd hu2 id
    have hws2 := hws
    replace hws : w.heap.size < w2.heap.size := Nat.lt_of_lt_of_le hws2 hu2.size
    have Hlq := Lib.hid hlq
    clear hS1 EH hqs ho2 hw2 hlq
    obtain ⟨x0, x1, x2, x3, x4, x5, x6, x7, x8, x9⟩ := id hS
    have hsc := hS
    clear hS
    go_wp2
    go_region_held3 (fun w' => w'.cell? ⟨w.heap.size, 0, none⟩ = some (.int .i64 x.e.l) ∧ w'.cell? ⟨w.heap.size, 1, none⟩ = some (.int .i64 x.e.p) ∧ w'.cell? ⟨w.heap.size, 2, none⟩ = some (.int .i64 x.e.w.phen) ∧ w'.cell? ⟨w.heap.size, 3, none⟩ = some (.slice x.A x.e.w.walk.length x.c) ∧
        w'.cell? ⟨w.heap.size, 4, none⟩ = some (.int .i64 x.e.w.r0) ∧ w'.cell? ⟨w.heap.size, 5, none⟩ = some (.int .i64 x.e.w.r1) ∧ w'.cell? ⟨w.heap.size, 6, none⟩ = some (.int .i64 x.e.w.r2) ∧ w'.cell? ⟨w.heap.size, 7, none⟩ = some (.int .i64 x.e.w.r3) ∧ w'.cell? ⟨w.heap.size, 8, none⟩ = some (.int .i64 x.e.w.r4) ∧ w'.cell? ⟨w.heap.size, 9, none⟩ = some (.bool x.e.has))
      (first | exact ⟨x0, x1, x2, x3, x4, x5, x6, x7, x8, x9⟩ | (go_split_ands; refine ⟨?_, ?_, ?_, ?_, ?_, ?_, ?_, ?_, ?_, ?_⟩ <;> first | with_reducible assumption | (with_reducible exact ((Upd.refl No _).alloc _).keepNo (by with_reducible assumption)) | (with_reducible exact hu4.keep (by with_reducible assumption) hno) | (with_reducible exact hu5.keep (by with_reducible assumption) hno5) | go_keep))
      (first
        | (refine step_appN (by rfl) (by rfl) slt_ent (base := w2.heap.size) (v := .slice (some ⟨w2.heap.size, 0, none⟩) 0 0) (n := 0) (m := qs.length) (xs := []) (news := (qs.map EntP.cells).flatten) (by rfl) (by rfl) (by first | exact own_emp rfl (by simp) | exact (own_emp rfl (by simp)).alloc _) (ents_src (HQ.out _ (by with_reducible (repeat (first | exact Upd.refl _ _ | apply Upd.alloc | apply Upd.drew | apply Upd.drewN))))) ents_one (by omega) (by omega) (by simp <;> omega) ?_; intro v4 w4 hown4 hu4 hg4; simp only [Nat.zero_add, List.nil_append] at hown4; obtain ⟨A4, c4, rfl⟩ := own_slice hown4; have hno : ¬ Own (.slice (some ⟨w2.heap.size, 0, none⟩) 0 0) w.heap.size := not_own hws; have hz4 : w2.heap.size ≤ w4.heap.size := Nat.le_trans (by simp <;> omega) hu4.size)
        | (refine step_appN (by rfl) (by rfl) slt_ent (base := w2.heap.size) (v := .slice (some ⟨w2.heap.size + 1, 0, none⟩) 0 0) (n := 0) (m := qs.length) (xs := []) (news := (qs.map EntP.cells).flatten) (by rfl) (by rfl) (by first | exact own_emp (by simp) (by simp)) (ents_src (HQ.out _ (by with_reducible (repeat (first | exact Upd.refl _ _ | apply Upd.alloc | apply Upd.drew | apply Upd.drewN))))) ents_one (by omega) (by omega) (by simp <;> omega) ?_; intro v4 w4 hown4 hu4 hg4; simp only [Nat.zero_add, List.nil_append] at hown4; obtain ⟨A4, c4, rfl⟩ := own_slice hown4; have hno : ¬ Own (.slice (some ⟨w2.heap.size + 1, 0, none⟩) 0 0) w.heap.size := not_own (by omega); have hz4 : w2.heap.size ≤ w4.heap.size := Nat.le_trans (by simp <;> omega) hu4.size)
        | (refine step_app1 (by rfl) (by rfl) slt_ent (v := .slice A4 qs.length c4) (cells := x.cells) (by rfl) (by rfl) (by first | exact hown4 | exact hown4.alloc _) rfl (by first | exact news_new | exact fun j v hj => hu4.of_drew.keep (news_at (cs := x.cells) (by simp) j v hj) (by rw [Ints.block_add]; exact not_own_ne (by simp)) | exact fun j v hj => hu4.of_drew.keep (((Upd.refl No _).alloc _).keepNo (news_at (cs := x.cells) (by simp) j v hj)) (by rw [Ints.block_add]; exact not_own_ne (by simp))) (by rfl) (by omega) (by omega) (by first | exact hz4 | exact Nat.le_trans hz4 (by simp)) ?_; intro g5 cap w5 hown5 hu5 hg5 hl5; have hno5 : ¬ Own (.slice A4 qs.length c4) w.heap.size := (fun e => by have h6 := (hown4.lt _ e).1; omega)))
    all_goals
      go_wp2
      rw [rows_snoc] at hown5
      go_ret
      have hqn : (qs ++ [x]).length = qs.length + 1 := by simp
      have uw4 : Upd No w w4 := by first | exact (uw2.alloc _).then_ hu4.of_drew (fun i e => .inr (by have := own_ge e; omega)) | exact ((uw2.alloc _).alloc _).then_ hu4.of_drew (fun i e => .inr (by have := own_ge e; omega))
      have uw5 : Upd No w w5 := by first | exact uw4.then_ hu5 (fun i e => .inr (by have := (hown4.lt _ e).1; omega)) | exact (uw4.alloc _).then_ hu5 (fun i e => .inr (by have := (hown4.lt _ e).1; omega))
      refine ⟨_, cap, qs ++ [x], by rw [hqn]; rfl, by show _ = putE (roomOf room) _ _; rw [← HN.out, EQ.out], by rw [hqn]; exact own_base hown5 (by omega), fun p hp => ?_, uw5⟩
      have h' : Walk F w p.A p.e.w.walk ∧ short p.e.w.walk.length := by
        rcases List.mem_append.1 hp with h' | h'
        · exact h.walks p (hmem.out p h')
        · simp only [List.mem_singleton] at h'
          subst h'
          exact hx
      exact ⟨Recs.upd h'.1 uw5 (fun _ _ => id), h'.2⟩
  · have hf := findI_no hin
    unfold EntP.cells
    go_enter Try.func25, Try.ntmps25
    go_wp2_with fail
    refine (refroom34 _ _).mono ?_
    rintro e w1 ⟨he, rfl⟩
    rw [← HN.out] at he
    subst he
    go_wp2_with fail
    refine (rfind _ F A c ps x.e.l x.e.p (H0.out _ u0) hl).mono ?_
    rintro e w1 ⟨he, hu1⟩
    replace he : e = .returned (.int .i64 (findI (ps.map (·.e.key)) x.e.key)) := he
    rw [hf] at he
    subst he
    have hS1 := hS.upd hu1 id
    have uw1 := u0.trans hu1
    have hws : w.heap.size < w1.heap.size := Nat.lt_of_lt_of_le (by simp) hu1.size
    obtain ⟨y0, y1, y2, y3, y4, y5, y6, y7, y8, y9⟩ := id hS1
    clear hS x0 x1 x2 x3 x4 x5 x6 x7 x8 x9 hf
    by_cases h0 : N = 0
    · have hz : (N == 0) = true := by rw [beq_iff_eq]; exact h0
      have E0 := Lib.hid (show putE N (ps.map (·.e)) x.e = [] by unfold putE; rw [if_pos h0])
      clear h0
      go_wp2
      go_ret
      exact ⟨none, 0, [], rfl, by show _ = putE (roomOf room) _ _; rw [← HN.out, E0.out]; rfl, World.ownsRow_nil _ _ _ _, fun p hp => by simp at hp, uw1⟩
    · have hz : (N == 0) = false := by rw [beq_eq_false_iff_ne]; exact h0
      have E0 := putE_no hin N h0
      by_cases hfull : N ≤ (ps.length : Int)
      · rw [if_pos hfull] at E0
        have hpos : 0 < ps.length := by omega
        have EH := Lib.hid E0
        clear E0 h0 hin
        have H1 : Hid (∀ W, Upd No w1 W → Ents F W A ps) := Lib.hid fun W hu => H0.out W (uw1.trans hu)
        go_wp2_with fail
        refine (rwithout _ F A c ps 0 (H1.out _ (Upd.refl _ _)) hl hc hpos).mono ?_
        rintro e w2 ⟨A1, c1, qs, rfl, hqs, ho2, hw2, hu2⟩
        rw [List.take_zero, List.nil_append] at hqs
        have HQ : Hid (∀ W, Upd No w2 W → Ents (fun i => F i ∨ w1.heap.size ≤ i) W A1 qs) := Lib.hid fun W hu => (ents_new ho2 hw2 (fun i h _ => .inr h) (fun i _ h => .inl h)).upd hu (fun _ _ => id)
        have EQ : Hid ((qs ++ [x]).map (·.e) = putE N (ps.map (·.e)) x.e) := by rw [hqs]; exact Lib.hid EH.out.symm
        have hmem : Hid (∀ p ∈ qs, p ∈ ps) := by rw [hqs]; exact Lib.hid fun p hp => List.mem_of_mem_drop hp
        have hql : qs.length ≤ 1000000 := by rw [hqs, List.length_drop]; omega
        have uw2 := uw1.trans hu2
        have hS := hS1.upd hu2 id
        have hws2 := hws
        replace hws : w.heap.size < w2.heap.size := Nat.lt_of_lt_of_le hws2 hu2.size
        clear hS1 y0 y1 y2 y3 y4 y5 y6 y7 y8 y9 EH hqs ho2 hw2 hfull
        obtain ⟨x0, x1, x2, x3, x4, x5, x6, x7, x8, x9⟩ := id hS
        have hsc := hS
        clear hS
        go_wp2
        go_region_held3 (fun w' => w'.cell? ⟨w.heap.size, 0, none⟩ = some (.int .i64 x.e.l) ∧ w'.cell? ⟨w.heap.size, 1, none⟩ = some (.int .i64 x.e.p) ∧ w'.cell? ⟨w.heap.size, 2, none⟩ = some (.int .i64 x.e.w.phen) ∧ w'.cell? ⟨w.heap.size, 3, none⟩ = some (.slice x.A x.e.w.walk.length x.c) ∧
            w'.cell? ⟨w.heap.size, 4, none⟩ = some (.int .i64 x.e.w.r0) ∧ w'.cell? ⟨w.heap.size, 5, none⟩ = some (.int .i64 x.e.w.r1) ∧ w'.cell? ⟨w.heap.size, 6, none⟩ = some (.int .i64 x.e.w.r2) ∧ w'.cell? ⟨w.heap.size, 7, none⟩ = some (.int .i64 x.e.w.r3) ∧ w'.cell? ⟨w.heap.size, 8, none⟩ = some (.int .i64 x.e.w.r4) ∧ w'.cell? ⟨w.heap.size, 9, none⟩ = some (.bool x.e.has))
          (first | exact ⟨x0, x1, x2, x3, x4, x5, x6, x7, x8, x9⟩ | (go_split_ands; refine ⟨?_, ?_, ?_, ?_, ?_, ?_, ?_, ?_, ?_, ?_⟩ <;> first | with_reducible assumption | (with_reducible exact ((Upd.refl No _).alloc _).keepNo (by with_reducible assumption)) | (with_reducible exact hu4.keep (by with_reducible assumption) hno) | (with_reducible exact hu5.keep (by with_reducible assumption) hno5) | go_keep))
          (first
            | (refine step_appN (by rfl) (by rfl) slt_ent (base := w2.heap.size) (v := .slice (some ⟨w2.heap.size, 0, none⟩) 0 0) (n := 0) (m := qs.length) (xs := []) (news := (qs.map EntP.cells).flatten) (by rfl) (by rfl) (by first | exact own_emp rfl (by simp) | exact (own_emp rfl (by simp)).alloc _) (ents_src (HQ.out _ (by with_reducible (repeat (first | exact Upd.refl _ _ | apply Upd.alloc | apply Upd.drew | apply Upd.drewN))))) ents_one (by omega) (by omega) (by simp <;> omega) ?_; intro v4 w4 hown4 hu4 hg4; simp only [Nat.zero_add, List.nil_append] at hown4; obtain ⟨A4, c4, rfl⟩ := own_slice hown4; have hno : ¬ Own (.slice (some ⟨w2.heap.size, 0, none⟩) 0 0) w.heap.size := not_own hws; have hz4 : w2.heap.size ≤ w4.heap.size := Nat.le_trans (by simp <;> omega) hu4.size)
            | (refine step_appN (by rfl) (by rfl) slt_ent (base := w2.heap.size) (v := .slice (some ⟨w2.heap.size + 1, 0, none⟩) 0 0) (n := 0) (m := qs.length) (xs := []) (news := (qs.map EntP.cells).flatten) (by rfl) (by rfl) (by first | exact own_emp (by simp) (by simp)) (ents_src (HQ.out _ (by with_reducible (repeat (first | exact Upd.refl _ _ | apply Upd.alloc | apply Upd.drew | apply Upd.drewN))))) ents_one (by omega) (by omega) (by simp <;> omega) ?_; intro v4 w4 hown4 hu4 hg4; simp only [Nat.zero_add, List.nil_append] at hown4; obtain ⟨A4, c4, rfl⟩ := own_slice hown4; have hno : ¬ Own (.slice (some ⟨w2.heap.size + 1, 0, none⟩) 0 0) w.heap.size := not_own (by omega); have hz4 : w2.heap.size ≤ w4.heap.size := Nat.le_trans (by simp <;> omega) hu4.size)
            | (refine step_app1 (by rfl) (by rfl) slt_ent (v := .slice A4 qs.length c4) (cells := x.cells) (by rfl) (by rfl) (by first | exact hown4 | exact hown4.alloc _) rfl (by first | exact news_new | exact fun j v hj => hu4.of_drew.keep (news_at (cs := x.cells) (by simp) j v hj) (by rw [Ints.block_add]; exact not_own_ne (by simp)) | exact fun j v hj => hu4.of_drew.keep (((Upd.refl No _).alloc _).keepNo (news_at (cs := x.cells) (by simp) j v hj)) (by rw [Ints.block_add]; exact not_own_ne (by simp))) (by rfl) (by omega) (by omega) (by first | exact hz4 | exact Nat.le_trans hz4 (by simp)) ?_; intro g5 cap w5 hown5 hu5 hg5 hl5; have hno5 : ¬ Own (.slice A4 qs.length c4) w.heap.size := (fun e => by have h6 := (hown4.lt _ e).1; omega)))
        all_goals
          go_wp2
          rw [rows_snoc] at hown5
          go_ret
          have hqn : (qs ++ [x]).length = qs.length + 1 := by simp
          have uw4 : Upd No w w4 := by first | exact (uw2.alloc _).then_ hu4.of_drew (fun i e => .inr (by have := own_ge e; omega)) | exact ((uw2.alloc _).alloc _).then_ hu4.of_drew (fun i e => .inr (by have := own_ge e; omega))
          have uw5 : Upd No w w5 := by first | exact uw4.then_ hu5 (fun i e => .inr (by have := (hown4.lt _ e).1; omega)) | exact (uw4.alloc _).then_ hu5 (fun i e => .inr (by have := (hown4.lt _ e).1; omega))
          refine ⟨_, cap, qs ++ [x], by rw [hqn]; rfl, by show _ = putE (roomOf room) _ _; rw [← HN.out, EQ.out], by rw [hqn]; exact own_base hown5 (by omega), fun p hp => ?_, uw5⟩
          have h' : Walk F w p.A p.e.w.walk ∧ short p.e.w.walk.length := by
            rcases List.mem_append.1 hp with h' | h'
            · exact h.walks p (hmem.out p h')
            · simp only [List.mem_singleton] at h'
              subst h'
              exact hx
          exact ⟨Recs.upd h'.1 uw5 (fun _ _ => id), h'.2⟩
      · rw [if_neg hfull] at E0
        have EH := Lib.hid E0
        clear E0 h0 hin
        obtain ⟨qs, hqs⟩ : ∃ qs, qs = ps := ⟨_, rfl⟩
        have HQ : Hid (∀ W, Upd No w1 W → Ents F W A qs) := by rw [hqs]; exact Lib.hid fun W hu => H0.out W (uw1.trans hu)
        have EQ : Hid ((qs ++ [x]).map (·.e) = putE N (ps.map (·.e)) x.e) := by rw [hqs]; exact Lib.hid EH.out.symm
        have hmem : Hid (∀ p ∈ qs, p ∈ ps) := by rw [hqs]; exact Lib.hid fun p hp => hp
        have hql : qs.length ≤ 1000000 := by rw [hqs]; exact hl
        have hS := hS1
        clear hS1 y0 y1 y2 y3 y4 y5 y6 y7 y8 y9 EH
        rw [← hqs] at hfull
        simp only [← hqs]
        clear hqs
        obtain ⟨x0, x1, x2, x3, x4, x5, x6, x7, x8, x9⟩ := id hS
        have hsc := hS
        clear hS
        go_wp2
        go_region_held3 (fun w' => w'.cell? ⟨w.heap.size, 0, none⟩ = some (.int .i64 x.e.l) ∧ w'.cell? ⟨w.heap.size, 1, none⟩ = some (.int .i64 x.e.p) ∧ w'.cell? ⟨w.heap.size, 2, none⟩ = some (.int .i64 x.e.w.phen) ∧ w'.cell? ⟨w.heap.size, 3, none⟩ = some (.slice x.A x.e.w.walk.length x.c) ∧
            w'.cell? ⟨w.heap.size, 4, none⟩ = some (.int .i64 x.e.w.r0) ∧ w'.cell? ⟨w.heap.size, 5, none⟩ = some (.int .i64 x.e.w.r1) ∧ w'.cell? ⟨w.heap.size, 6, none⟩ = some (.int .i64 x.e.w.r2) ∧ w'.cell? ⟨w.heap.size, 7, none⟩ = some (.int .i64 x.e.w.r3) ∧ w'.cell? ⟨w.heap.size, 8, none⟩ = some (.int .i64 x.e.w.r4) ∧ w'.cell? ⟨w.heap.size, 9, none⟩ = some (.bool x.e.has))
          (first | exact ⟨x0, x1, x2, x3, x4, x5, x6, x7, x8, x9⟩ | (go_split_ands; refine ⟨?_, ?_, ?_, ?_, ?_, ?_, ?_, ?_, ?_, ?_⟩ <;> first | with_reducible assumption | (with_reducible exact ((Upd.refl No _).alloc _).keepNo (by with_reducible assumption)) | (with_reducible exact hu4.keep (by with_reducible assumption) hno) | (with_reducible exact hu5.keep (by with_reducible assumption) hno5) | go_keep))
          (first
            | (refine step_appN (by rfl) (by rfl) slt_ent (base := w1.heap.size) (v := .slice (some ⟨w1.heap.size, 0, none⟩) 0 0) (n := 0) (m := qs.length) (xs := []) (news := (qs.map EntP.cells).flatten) (by rfl) (by rfl) (by first | exact own_emp rfl (by simp) | exact (own_emp rfl (by simp)).alloc _) (ents_src (HQ.out _ (by with_reducible (repeat (first | exact Upd.refl _ _ | apply Upd.alloc | apply Upd.drew | apply Upd.drewN))))) ents_one (by omega) (by omega) (by simp <;> omega) ?_; intro v4 w4 hown4 hu4 hg4; simp only [Nat.zero_add, List.nil_append] at hown4; obtain ⟨A4, c4, rfl⟩ := own_slice hown4; have hno : ¬ Own (.slice (some ⟨w1.heap.size, 0, none⟩) 0 0) w.heap.size := not_own hws; have hz4 : w1.heap.size ≤ w4.heap.size := Nat.le_trans (by simp <;> omega) hu4.size)
            | (refine step_appN (by rfl) (by rfl) slt_ent (base := w1.heap.size) (v := .slice (some ⟨w1.heap.size + 1, 0, none⟩) 0 0) (n := 0) (m := qs.length) (xs := []) (news := (qs.map EntP.cells).flatten) (by rfl) (by rfl) (by first | exact own_emp (by simp) (by simp)) (ents_src (HQ.out _ (by with_reducible (repeat (first | exact Upd.refl _ _ | apply Upd.alloc | apply Upd.drew | apply Upd.drewN))))) ents_one (by omega) (by omega) (by simp <;> omega) ?_; intro v4 w4 hown4 hu4 hg4; simp only [Nat.zero_add, List.nil_append] at hown4; obtain ⟨A4, c4, rfl⟩ := own_slice hown4; have hno : ¬ Own (.slice (some ⟨w1.heap.size + 1, 0, none⟩) 0 0) w.heap.size := not_own (by omega); have hz4 : w1.heap.size ≤ w4.heap.size := Nat.le_trans (by simp <;> omega) hu4.size)
            | (refine step_app1 (by rfl) (by rfl) slt_ent (v := .slice A4 qs.length c4) (cells := x.cells) (by rfl) (by rfl) (by first | exact hown4 | exact hown4.alloc _) rfl (by first | exact news_new | exact fun j v hj => hu4.of_drew.keep (news_at (cs := x.cells) (by simp) j v hj) (by rw [Ints.block_add]; exact not_own_ne (by simp)) | exact fun j v hj => hu4.of_drew.keep (((Upd.refl No _).alloc _).keepNo (news_at (cs := x.cells) (by simp) j v hj)) (by rw [Ints.block_add]; exact not_own_ne (by simp))) (by rfl) (by omega) (by omega) (by first | exact hz4 | exact Nat.le_trans hz4 (by simp)) ?_; intro g5 cap w5 hown5 hu5 hg5 hl5; have hno5 : ¬ Own (.slice A4 qs.length c4) w.heap.size := (fun e => by have h6 := (hown4.lt _ e).1; omega)))
        all_goals
          go_wp2
          rw [rows_snoc] at hown5
          go_ret
          have hqn : (qs ++ [x]).length = qs.length + 1 := by simp
          have uw4 : Upd No w w4 := by first | exact (uw1.alloc _).then_ hu4.of_drew (fun i e => .inr (by have := own_ge e; omega)) | exact ((uw1.alloc _).alloc _).then_ hu4.of_drew (fun i e => .inr (by have := own_ge e; omega))
          have uw5 : Upd No w w5 := by first | exact uw4.then_ hu5 (fun i e => .inr (by have := (hown4.lt _ e).1; omega)) | exact (uw4.alloc _).then_ hu5 (fun i e => .inr (by have := (hown4.lt _ e).1; omega))
          refine ⟨_, cap, qs ++ [x], by rw [hqn]; rfl, by show _ = putE (roomOf room) _ _; rw [← HN.out, EQ.out], by rw [hqn]; exact own_base hown5 (by omega), fun p hp => ?_, uw5⟩
          have h' : Walk F w p.A p.e.w.walk ∧ short p.e.w.walk.length := by
            rcases List.mem_append.1 hp with h' | h'
            · exact h.walks p (hmem.out p h')
            · simp only [List.mem_singleton] at h'
              subst h'
              exact hx
          exact ⟨Recs.upd h'.1 uw5 (fun _ _ => id), h'.2⟩
end Go.Proofs.Ytpiigfbdgmjidaa
