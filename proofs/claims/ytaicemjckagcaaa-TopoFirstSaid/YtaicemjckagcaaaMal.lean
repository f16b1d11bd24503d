/- Queues: a number is put in. -/
import Derived.Test.YtaicemjckagcaaaMak
namespace Go.Proofs.Ytaicemjckagcaaa
set_option linter.unusedVariables false
open Go.RowKit

set_option maxRecDepth 100000 in
theorem qpush (w : World) (F : Nat → Prop) (g : Nat) (room : Int) (xs : List Int) (x : Int) (h : Que w F g room xs) (hr : 0 ≤ room) (hr2 : room ≤ 65536) (hf : (xs.length : Int) < room) :
    Calls Try.prog 165 #[.pointer (some ⟨g, 0, none⟩), .int .i64 x] w fun e w' => e = .returned (.int .i64 0) ∧
      ∃ F', (∀ i, F' i → F i ∨ w.heap.size ≤ i) ∧ Que w' F' g room (xs ++ [x]) ∧ Upd F w w' := by
  have hz : (room - (xs.length : Int) == 0) = false := by rw [beq_eq_false_iff_ne]; omega
  go_enter Try.func165, Try.ntmps165
  go_wp2_with fail
  refine (qroom _ F _ _ _ h hr hr2).mono ?_
  rintro e w' ⟨rfl, q, rfl⟩
  obtain ⟨v, n, ring, fr, h1, h2, h3, h4, h5, h6, h7, h8, h9, h10⟩ := id h
  obtain ⟨A, c, rfl⟩ := own_slice h5
  have c1 := h4.cell 1
  have c3 := h4.cell 3
  simp only [List.getElem?_cons_zero, List.getElem?_cons_succ] at c1 c3
  by_cases hful : xs.length = n
  · have hbf : ((xs.length : Int) == (n : Int)) = true := by rw [beq_iff_eq]; omega
    have Hful := Lib.hid hful
    clear hful
    go_wp2
    go_quiet (fail)
    go_wp2_with fail
    refine (qlist _ F _ _ _ (h.upd ((Upd.refl No w).drewN _) (fun _ _ => id))).mono ?_
    rintro e w2 ⟨A2, cc2, rfl, hx2, hu2⟩
    have hu2' : Upd No w w2 := hu2.of_drewN
    have hsz2' := hu2'.size
    replace hx2 : Ints (fun i => w.heap.size ≤ i) w2 A2 xs := hx2
    have hb2 := h4.upd hu2' id
    have d0 := hb2.cell 0
    have d1 := hb2.cell 1
    have d2 := hb2.cell 2
    have d3 := hb2.cell 3
    have f1 := hb2.free 1
    have f2 := hb2.free 2
    simp only [List.getElem?_cons_zero, List.getElem?_cons_succ] at d0 d1 d2 d3
    clear c1 c3
    have hg := grow_le xs.length
    have hM := grow_int xs.length
    have hmk := fun W => run_mk W STint (z := .int .i64 0) (by kernel_rfl) (grow xs.length) (by omega) (by omega)
    have hgl2 := hb2.lt
    have hne1 := World.new_ne w2 _ d1
    have hlm : (madeCells #[Value.int .i64 0] (grow xs.length)).toList.length = grow xs.length := by simp [madeCells]
    have Hlm := Lib.hid hlm
    clear hlm
    have hgw : g < w.heap.size := h4.lt
    go_upto_region 6 with (fail)
    iterate 16 go_step
    refine copy0 rfl rfl STint rfl rfl (dc := (madeCells #[.int .i64 0] (grow xs.length)).toList) (sc := xs.map (Value.int .i64)) (t := 3) (by exact Blk.new_at (by simp)) (by rw [Hlm.out]; omega) (by simp) (by omega) (by exact ((hx2.upd (((Upd.refl (One g) w2).setOne _ _).setOne _ _ |>.alloc _) (fun i hi e => by have : i = g := e; omega))).vals) (Ints.one_ xs) ?_
    intro w3 hb3 hu3
    simp only [Act.put, List.setIfInBounds_toArray, List.set_cons_succ, List.set_cons_zero]
    have hbx := ((((hb2.set_ 1 (.slice (some ⟨w2.heap.size, 0, none⟩) (grow xs.length) (grow xs.length))).set_ 2 (.int .u64 0)).alloc (.cells (madeCells #[.int .i64 0] (grow xs.length)) 3)).upd hu3 (fun e => by have : g = w2.heap.size := e; omega))
    simp only [List.set_cons_zero, List.set_cons_succ] at hbx
    have hu3' : Upd (One g) w w3 := (((((Upd.refl (One g) w2).setOne 1 _).setOne 2 _).alloc _).trans_ hu3 (fun i hi e => by have : i = w2.heap.size := e; omega)) |> fun k => (hu2'.mono (fun _ _ e => e.elim)).trans k
    clear hb2 d0 d1 d2 d3 f1 f2 hu3 hu2' hu2 hmk hM hx2 h4 h5
    have c1 := hbx.cell 1
    have c3 := hbx.cell 3
    have f3 := hbx.free 3
    simp only [List.getElem?_cons_zero, List.getElem?_cons_succ] at c1 c3
    have h6' := h6
    rw [← Hful.out] at h6'
    have hsz2 : w.heap.size ≤ w2.heap.size := hsz2'
    obtain ⟨kk, hkk⟩ := grow_pow h6'
    have Hkk := Lib.hid hkk
    have hsp : ((spot 0 xs.length (grow xs.length) : Nat) : Int) < ((grow xs.length : Nat) : Int) := by have := Nat.mod_lt (0 + xs.length) (show 0 < grow xs.length by omega); unfold spot; omega
    have hsp0 : (0 : Int) ≤ ((spot 0 xs.length (grow xs.length) : Nat) : Int) := Int.natCast_nonneg _
    have fr3 := hb3.free (spot 0 xs.length (grow xs.length))
    obtain ⟨v0, cr⟩ : ∃ v0, w3.cell? ⟨w2.heap.size, spot 0 xs.length (grow xs.length), none⟩ = some v0 := by
      rw [hb3.cell, List.getElem?_eq_getElem (by rw [List.length_append, List.length_drop, List.length_map, Hlm.out]; omega)]
      exact ⟨_, rfl⟩
    clear hkk
    go_upto_region 7 with (fail)
    go_region_held3 (fun w' => Blk w' g 267 [.int .i64 room, .slice (some ⟨w2.heap.size, 0, none⟩) (grow xs.length) (grow xs.length), .int .u64 0, .int .i64 xs.length] ∧ w'.cell? ⟨g, 1, none⟩ = some (.slice (some ⟨w2.heap.size, 0, none⟩) (grow xs.length) (grow xs.length)) ∧ w'.cell? ⟨g, 3, none⟩ = some (.int .i64 xs.length))
      (first | exact ⟨hbx, c1, c3⟩ | (go_split_ands; refine ⟨?_, ?_, ?_⟩ <;> first | assumption | (exact Blk.far (by assumption) (by simp; omega) _) | (rw [World.cell?_setCell_far _ _ _ _ (by simp; omega)]; assumption) | go_keep))
      (first | (go_at_call 208; refine (place_any _ g _ (grow xs.length) (grow xs.length) kk _ _ 0 _ (by assumption) Hkk.out (by omega) (by omega) (by omega) (by omega)).mono ?_; rintro e w' ⟨rfl, q, rfl⟩))
    go_wp2
    go_ret
    refine ⟨rfl, fun i => i = g ∨ i = w2.heap.size, ?_, ?_, ?_⟩
    · rintro i (rfl | rfl)
      · exact .inl h1
      · exact .inr hsz2
    · have ho : w3.ownsRow 0 3 1 (.slice (some ⟨w2.heap.size, 0, none⟩) (grow xs.length) (grow xs.length)) (grow xs.length) ((xs ++ List.replicate (grow xs.length - xs.length) (0 : Int)).map (Value.int .i64)) := by
        refine ⟨by simp; omega, .inr ⟨w2.heap.size, _, _, rfl, Nat.zero_le _, hb3, Nat.le_refl _, by simp only [maxLen]; omega, ?_, ?_⟩⟩
        · simp [Hlm.out]; omega
        · rw [made_zero, Nat.mul_one, List.take_of_length_le (by simp; omega), ← List.map_drop, List.drop_replicate, List.map_append]
      have hb3' : Blk w3 g 267 [.int .i64 room, .slice (some ⟨w2.heap.size, 0, none⟩) (grow xs.length) (grow xs.length), .int .u64 ((0 : Nat) : Int), .int .i64 xs.length] := hbx
      have hq := que_put (F := fun i => i = g ∨ i = w2.heap.size) x hb3' ho (by omega) (.inl rfl) (.inr rfl) (by rintro k (rfl | rfl); exact hbx.lt; exact hb3.lt) (.inr (grow_pow h6' )) (by omega) (by omega) (by omega) (fun i v hi => by
        have hil := (List.getElem?_eq_some_iff.1 hi).1
        have e1 : spot 0 i (grow xs.length) = i := by unfold spot; rw [Nat.zero_add, Nat.mod_eq_of_lt (by omega)]
        rw [e1, List.getElem?_append_left hil]
        exact hi)
      exact hq
    · refine (((hu3'.mono (fun i _ (e : i = g) => e ▸ h1)).drewN _).setCell (p := ⟨w2.heap.size, _, none⟩) (.inr hsz2) _).setCell (p := ⟨g, 3, none⟩) (.inl h1) _
  · have hbf : ((xs.length : Int) == (n : Int)) = false := by rw [beq_eq_false_iff_ne]; omega
    obtain ⟨gl, cap, hv, _, hll⟩ := h5.form (by omega)
    simp only [Value.slice.injEq] at hv
    obtain ⟨rfl, _, rfl⟩ := hv
    have hgl := h2 gl rfl
    have hsp : ((spot fr xs.length n : Nat) : Int) < (n : Int) := by have := spot_lt (fr := fr) (i := xs.length) (show 0 < n by omega); omega
    have hsp0 : (0 : Int) ≤ ((spot fr xs.length n : Nat) : Int) := Int.natCast_nonneg _
    have hspn := spot_lt (fr := fr) (i := xs.length) (show 0 < n by omega)
    have hrl : ring.length = n := by have := h5.1; simpa using this
    have Hrl := Lib.hid hrl
    have f3 := h4.free 3
    have fr3 := h5.frozenAt (spot fr xs.length n)
    have hcr := h5.cellAt (spot fr xs.length n) (by omega)
    obtain ⟨v0, cr⟩ : ∃ v0, w.cell? ⟨gl, spot fr xs.length n, none⟩ = some v0 := by
      rw [hcr, List.getElem?_eq_getElem (by rw [List.length_map]; omega)]
      exact ⟨_, rfl⟩
    obtain ⟨kk, hkk⟩ : ∃ kk, n = 2 ^ kk := h6.resolve_left (by omega)
    have Hkk := Lib.hid hkk
    have hbx := h4
    have hgg := h4.lt
    clear hkk hrl hcr
    go_wp2
    go_quiet (fail)
    go_upto_region 7 with (fail)
    go_region_held3 (fun w' => Blk w' g 267 [.int .i64 room, .slice (some ⟨gl, 0, none⟩) n c, .int .u64 (fr : Int), .int .i64 xs.length] ∧ w'.cell? ⟨g, 1, none⟩ = some (.slice (some ⟨gl, 0, none⟩) n c) ∧ w'.cell? ⟨g, 3, none⟩ = some (.int .i64 xs.length))
      (first | exact ⟨hbx, c1, c3⟩ | (go_split_ands; refine ⟨?_, ?_, ?_⟩ <;> first | assumption | (exact Blk.far (by assumption) (by simp; omega) _) | (rw [World.cell?_setCell_far _ _ _ _ (by simp; omega)]; assumption) | go_keep))
      (first | (go_at_call 208; refine (place_any _ g _ n c kk _ _ fr _ (by assumption) Hkk.out (by omega) (by omega) (by omega) (by omega)).mono ?_; rintro e w' ⟨rfl, q, rfl⟩))
    go_wp2
    go_ret
    refine ⟨rfl, F, fun i hi => .inl hi, ?_, ?_⟩
    · exact que_put x hbx h5 hgl.2 h1 hgl.1 h3 h6 h7 h8 (by omega) h10
    · exact (((Upd.refl F w).drewN _).setCell (p := ⟨gl, _, none⟩) (.inl hgl.1) _).setCell (p := ⟨g, 3, none⟩) (.inl h1) _
end Go.Proofs.Ytaicemjckagcaaa

/- Queues: what is first, and taken. Stacks. -/
namespace Go.Proofs.Ytaicemjckagcaaa
set_option linter.unusedVariables false
open Go.RowKit

theorem qfirst (w : World) (F : Nat → Prop) (g : Nat) (room : Int) (x : Int) (xs : List Int) (h : Que w F g room (x :: xs)) :
    Calls Try.prog 209 #[.pointer (some ⟨g, 0, none⟩)] w fun e w' => e = .returned (.tuple #[.int .i64 x, .bool true]) ∧ ∃ q, w' = w.drewN q := by
  have hz : ((((x :: xs).length : Nat) : Int) == 0) = false := by rw [beq_eq_false_iff_ne]; simp only [List.length_cons]; omega
  have hx0 : (x :: xs)[0]? = some x := rfl
  have Hx := Lib.hid hx0
  clear hx0
  generalize x :: xs = l at *
  obtain ⟨v, n, ring, fr, h1, h2, h3, h4, h5, h6, h7, h8, h9, h10⟩ := id h
  have hl0 := (List.getElem?_eq_some_iff.1 Hx.out).1
  have hr := h10 0 x Hx.out
  obtain ⟨gl, cap, rfl, _, hll⟩ := h5.form (by omega)
  obtain ⟨kk, hkk⟩ : ∃ kk, n = 2 ^ kk := h6.resolve_left (by omega)
  have Hkk := Lib.hid hkk
  have c1 := h4.cell 1
  simp only [List.getElem?_cons_zero, List.getElem?_cons_succ] at c1
  have cr : w.cell? ⟨gl, spot fr 0 n, none⟩ = some (.int .i64 x) := by
    rw [h5.cellAt _ (by have := spot_lt (fr := fr) (i := 0) (show 0 < n by omega); omega), List.getElem?_map, hr]; rfl
  have hsp : ((spot fr 0 n : Nat) : Int) < (n : Int) := by have := spot_lt (fr := fr) (i := 0) (show 0 < n by omega); omega
  have hsp0 : (0 : Int) ≤ ((spot fr 0 n : Nat) : Int) := Int.natCast_nonneg _
  clear hkk hr h10 h2 h3
  go_enter Try.func209, Try.ntmps209
  go_wp2_with fail
  refine (qlen _ F _ _ _ h).mono ?_
  rintro e w' ⟨rfl, rfl⟩
  go_wp2
  go_quiet ((go_at_call 208; go_loud (exact Calls.quiet_of (place_any _ g _ n cap kk _ _ fr 0 (h4.drewN _) Hkk.out (by omega) (by omega) (by omega) (by omega)))))
  go_wp2
  go_ret2
  exact ⟨rfl, _, rfl⟩
theorem que_pop {W : World} {F : Nat → Prop} {g gl n c fr : Nat} {room : Int} {x : Int} {xs ring : List Int}
    (hb : Blk W g 267 [.int .i64 room, .slice (some ⟨gl, 0, none⟩) n c, .int .u64 ((fr : Nat) : Int), .int .i64 (x :: xs).length])
    (ho : W.ownsRow 0 3 1 (.slice (some ⟨gl, 0, none⟩) n c) n (ring.map (Value.int .i64))) (hne : gl ≠ g) (hF : F g) (hF2 : F gl) (hF3 : ∀ k, F k → k < W.heap.size)
    (hp : Pow n) (hn : n ≤ 131072) (hfr : fr ≤ n) (hl : (x :: xs).length ≤ n) (hr : ∀ i v, (x :: xs)[i]? = some v → ring[spot fr i n]? = some v) (cnt : Int) (hcnt : cnt = xs.length) :
    Que ((W.setCell ⟨g, 2, none⟩ (.int .u64 ((spot fr 1 n : Nat) : Int))).setCell ⟨g, 3, none⟩ (.int .i64 cnt)) F g room xs := by
  subst hcnt
  simp only [List.length_cons] at hl
  refine ⟨.slice (some ⟨gl, 0, none⟩) n c, n, ring, spot fr 1 n, hF, ?_, ?_, ?_, ?_, hp, hn, Nat.le_of_lt (spot_lt (by omega)), by omega, ?_⟩
  · intro k hk
    have e1 : gl = k := by simpa [Value.ownBlock] using hk
    exact ⟨e1 ▸ hF2, by omega⟩
  · intro k hk; simpa [World.setCell] using hF3 k hk
  · simpa using (hb.set_ 2 (.int .u64 ((spot fr 1 n : Nat) : Int))).set_ 3 (.int .i64 (xs.length : Int))
  · exact own_upd ho ((((Upd.refl (One g) _).setOne 2 _).setOne 3 _)) (fun i hi e => by
      have e1 : gl = i := by simpa [Value.ownBlock] using hi
      have e2 : i = g := e
      omega)
  · intro i v hi
    have := hr (i + 1) v (by simpa using hi)
    rw [← this]
    congr 1
    unfold spot
    rw [Nat.mod_add_mod, Nat.add_assoc, Nat.add_comm 1 i]
theorem qpop (w : World) (F : Nat → Prop) (g : Nat) (room : Int) (x : Int) (xs : List Int) (h : Que w F g room (x :: xs)) :
    Calls Try.prog 166 #[.pointer (some ⟨g, 0, none⟩)] w fun e w' => e = .returned (.tuple #[.int .i64 x, .bool true]) ∧ Que w' F g room xs ∧ Upd F w w' := by
  obtain ⟨v, n, ring, fr, h1, h2, h3, h4, h5, h6, h7, h8, h9, h10⟩ := id h
  have hl : 0 < (x :: xs).length := by simp
  have hl2 : (x :: xs).length = xs.length + 1 := rfl
  obtain ⟨gl, cap, rfl, _, hll⟩ := h5.form (by omega)
  obtain ⟨kk, hkk⟩ : ∃ kk, n = 2 ^ kk := h6.resolve_left (by omega)
  have Hkk := Lib.hid hkk
  have c3 := h4.cell 3
  have c2 := h4.cell 2
  have f3 := h4.free 3
  have f2 := h4.free 2
  simp only [List.getElem?_cons_zero, List.getElem?_cons_succ] at c2 c3
  have hcnt := Lib.hid (show (((x :: xs).length : Nat) : Int) - 1 = xs.length by rw [hl2]; omega)
  have hb1 : 1 ≤ (((x :: xs).length : Nat) : Int) := by omega
  have hb2 : (((x :: xs).length : Nat) : Int) ≤ 131072 := by omega
  clear hkk hl hl2
  generalize hxl : (((x :: xs).length : Nat) : Int) = L at c3 hcnt hb1 hb2
  have Hxl := Lib.hid hxl
  clear hxl
  go_enter Try.func166, Try.ntmps166
  go_wp2_with fail
  refine (qfirst _ F _ _ _ _ h).mono ?_
  rintro e w' ⟨rfl, q, rfl⟩
  go_wp2_with fail
  refine (place_any _ g _ n cap kk _ _ fr 1 (h4.drewN _) Hkk.out (by omega) (by omega) (by omega) (by omega)).mono ?_
  rintro e w' ⟨rfl, q2, rfl⟩
  go_wp2
  go_ret2
  refine ⟨rfl, ?_, ?_⟩
  · exact que_pop h4 h5 (h2 gl rfl).2 h1 (h2 gl rfl).1 h3 h6 h7 h8 h9 h10 _ hcnt.out
  · exact (((Upd.refl F w).drewN _).setCell (p := ⟨g, 2, none⟩) (.inl h1) _).setCell (p := ⟨g, 3, none⟩) (.inl h1) _
/-- a room that may be -/
def within (n : Int) : Int := max 0 (min n 65536)
/-- a stack that holds xs, the top first -/
def Sta (w : World) (F : Nat → Prop) (g : Nat) (room : Int) (xs : List Int) : Prop :=
  ∃ v, F g ∧ (∀ k, v.ownBlock = some k → F k ∧ k ≠ g) ∧ (∀ k, F k → k < w.heap.size) ∧
    Blk w g 192 [v, .int .i64 room] ∧ w.ownsRow 0 3 1 v xs.length (xs.reverse.map (Value.int .i64))
theorem Sta.upd {w w' : World} {F S : Nat → Prop} {g : Nat} {room : Int} {xs : List Int} (h : Sta w F g room xs) (k : Upd S w w') (hn : ∀ i, F i → ¬ S i) : Sta w' F g room xs := by
  obtain ⟨v, h1, h2, h3, h4, h5⟩ := h
  exact ⟨v, h1, h2, fun i hi => Nat.lt_of_lt_of_le (h3 i hi) k.size, h4.upd k (hn _ h1), own_upd h5 k (fun i hi => hn _ (h2 i hi).1)⟩
theorem Sta.lt {w : World} {F : Nat → Prop} {g : Nat} {room : Int} {xs : List Int} (h : Sta w F g room xs) : ∀ i, F i → i < w.heap.size := by
  obtain ⟨v, h1, h2, h3, _⟩ := h
  exact h3
end Go.Proofs.Ytaicemjckagcaaa
