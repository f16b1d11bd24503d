/- Queues: what is first, and taken. Stacks. -/
import Derived.Test.YtaicemjckagcaaaMak
namespace Go.Proofs.Ytaicemjckagcaaa
set_option linter.unusedVariables false
open Go.RowKit

theorem qfirst (w : World) (F : Nat → Prop) (g : Nat) (room : Int) (x : Int) (xs : List Int) (h : Que w F g room (x :: xs)) :
    Calls Try.prog 209 #[.pointer (some ⟨g, 0, none⟩)] w fun e w' => e = .returned (.tuple #[.int .i64 x, .bool true]) ∧ ∃ q, w' = w.drewN q := by
  have hz : ((((x :: xs).length : Nat) : Int) == 0) = false := by rw [beq_eq_false_iff_ne]; simp only [List.length_cons]; omega
  have hx0 : (x :: xs)[0]? = some x := rfl
  have Hx := Lib.hid hx0
  clear hx0
  generalize x :: xs = l at *
  obtain ⟨v, n, ring, fr, h1, h2, h3, h4, h5, h6, h7, h8, h9, h10⟩ := id h
  have hl0 := (List.getElem?_eq_some_iff.1 Hx.out).1
  have hr := h10 0 x Hx.out
  obtain ⟨gl, cap, rfl, _, hll⟩ := h5.form (by omega)
  obtain ⟨kk, hkk⟩ : ∃ kk, n = 2 ^ kk := h6.resolve_left (by omega)
  have Hkk := Lib.hid hkk
  have c1 := h4.cell 1
  simp only [List.getElem?_cons_zero, List.getElem?_cons_succ] at c1
  have cr : w.cell? ⟨gl, spot fr 0 n, none⟩ = some (.int .i64 x) := by
    rw [h5.cellAt _ (by have := spot_lt (fr := fr) (i := 0) (show 0 < n by omega); omega), List.getElem?_map, hr]; rfl
  have hsp : ((spot fr 0 n : Nat) : Int) < (n : Int) := by have := spot_lt (fr := fr) (i := 0) (show 0 < n by omega); omega
  have hsp0 : (0 : Int) ≤ ((spot fr 0 n : Nat) : Int) := Int.natCast_nonneg _
  clear hkk hr h10 h2 h3
  go_enter Try.func209, Try.ntmps209
  go_wp2_with fail
  refine (qlen _ F _ _ _ h).mono ?_
  rintro e w' ⟨rfl, rfl⟩
  go_wp2
  go_quiet ((go_at_call 208; go_loud (exact Calls.quiet_of (place_any _ g _ n cap kk _ _ fr 0 (h4.drewN _) Hkk.out (by omega) (by omega) (by omega) (by omega)))))
  go_wp2
  go_ret2
  exact ⟨rfl, _, rfl⟩
theorem que_pop {W : World} {F : Nat → Prop} {g gl n c fr : Nat} {room : Int} {x : Int} {xs ring : List Int}
    (hb : Blk W g 267 [.int .i64 room, .slice (some ⟨gl, 0, none⟩) n c, .int .u64 ((fr : Nat) : Int), .int .i64 (x :: xs).length])
    (ho : W.ownsRow 0 3 1 (.slice (some ⟨gl, 0, none⟩) n c) n (ring.map (Value.int .i64))) (hne : gl ≠ g) (hF : F g) (hF2 : F gl) (hF3 : ∀ k, F k → k < W.heap.size)
    (hp : Pow n) (hn : n ≤ 131072) (hfr : fr ≤ n) (hl : (x :: xs).length ≤ n) (hr : ∀ i v, (x :: xs)[i]? = some v → ring[spot fr i n]? = some v) (cnt : Int) (hcnt : cnt = xs.length) :
    Que ((W.setCell ⟨g, 2, none⟩ (.int .u64 ((spot fr 1 n : Nat) : Int))).setCell ⟨g, 3, none⟩ (.int .i64 cnt)) F g room xs := by
  subst hcnt
  simp only [List.length_cons] at hl
  refine ⟨.slice (some ⟨gl, 0, none⟩) n c, n, ring, spot fr 1 n, hF, ?_, ?_, ?_, ?_, hp, hn, Nat.le_of_lt (spot_lt (by omega)), by omega, ?_⟩
  · intro k hk
    have e1 : gl = k := by simpa [Value.ownBlock] using hk
    exact ⟨e1 ▸ hF2, by omega⟩
  · intro k hk; simpa [World.setCell] using hF3 k hk
  · simpa using (hb.set_ 2 (.int .u64 ((spot fr 1 n : Nat) : Int))).set_ 3 (.int .i64 (xs.length : Int))
  · exact own_upd ho ((((Upd.refl (One g) _).setOne 2 _).setOne 3 _)) (fun i hi e => by
      have e1 : gl = i := by simpa [Value.ownBlock] using hi
      have e2 : i = g := e
      omega)
  · intro i v hi
    have := hr (i + 1) v (by simpa using hi)
    rw [← this]
    congr 1
    unfold spot
    rw [Nat.mod_add_mod, Nat.add_assoc, Nat.add_comm 1 i]
theorem qpop (w : World) (F : Nat → Prop) (g : Nat) (room : Int) (x : Int) (xs : List Int) (h : Que w F g room (x :: xs)) :
    Calls Try.prog 166 #[.pointer (some ⟨g, 0, none⟩)] w fun e w' => e = .returned (.tuple #[.int .i64 x, .bool true]) ∧ Que w' F g room xs ∧ Upd F w w' := by
  obtain ⟨v, n, ring, fr, h1, h2, h3, h4, h5, h6, h7, h8, h9, h10⟩ := id h
  have hl : 0 < (x :: xs).length := by simp
  have hl2 : (x :: xs).length = xs.length + 1 := rfl
  obtain ⟨gl, cap, rfl, _, hll⟩ := h5.form (by omega)
  obtain ⟨kk, hkk⟩ : ∃ kk, n = 2 ^ kk := h6.resolve_left (by omega)
  have Hkk := Lib.hid hkk
  have c3 := h4.cell 3
  have c2 := h4.cell 2
  have f3 := h4.free 3
  have f2 := h4.free 2
  simp only [List.getElem?_cons_zero, List.getElem?_cons_succ] at c2 c3
  have hcnt := Lib.hid (show (((x :: xs).length : Nat) : Int) - 1 = xs.length by rw [hl2]; omega)
  have hb1 : 1 ≤ (((x :: xs).length : Nat) : Int) := by omega
  have hb2 : (((x :: xs).length : Nat) : Int) ≤ 131072 := by omega
  clear hkk hl hl2
  generalize hxl : (((x :: xs).length : Nat) : Int) = L at c3 hcnt hb1 hb2
  have Hxl := Lib.hid hxl
  clear hxl
  go_enter Try.func166, Try.ntmps166
  go_wp2_with fail
  refine (qfirst _ F _ _ _ _ h).mono ?_
  rintro e w' ⟨rfl, q, rfl⟩
  go_wp2_with fail
  refine (place_any _ g _ n cap kk _ _ fr 1 (h4.drewN _) Hkk.out (by omega) (by omega) (by omega) (by omega)).mono ?_
  rintro e w' ⟨rfl, q2, rfl⟩
  go_wp2
  go_ret2
  refine ⟨rfl, ?_, ?_⟩
  · exact que_pop h4 h5 (h2 gl rfl).2 h1 (h2 gl rfl).1 h3 h6 h7 h8 h9 h10 _ hcnt.out
  · exact (((Upd.refl F w).drewN _).setCell (p := ⟨g, 2, none⟩) (.inl h1) _).setCell (p := ⟨g, 3, none⟩) (.inl h1) _
/-- a room that may be -/
def within (n : Int) : Int := max 0 (min n 65536)
/-- a stack that holds xs, the top first -/
def Sta (w : World) (F : Nat → Prop) (g : Nat) (room : Int) (xs : List Int) : Prop :=
  ∃ v, F g ∧ (∀ k, v.ownBlock = some k → F k ∧ k ≠ g) ∧ (∀ k, F k → k < w.heap.size) ∧
    Blk w g 192 [v, .int .i64 room] ∧ w.ownsRow 0 3 1 v xs.length (xs.reverse.map (Value.int .i64))
theorem Sta.upd {w w' : World} {F S : Nat → Prop} {g : Nat} {room : Int} {xs : List Int} (h : Sta w F g room xs) (k : Upd S w w') (hn : ∀ i, F i → ¬ S i) : Sta w' F g room xs := by
  obtain ⟨v, h1, h2, h3, h4, h5⟩ := h
  exact ⟨v, h1, h2, fun i hi => Nat.lt_of_lt_of_le (h3 i hi) k.size, h4.upd k (hn _ h1), own_upd h5 k (fun i hi => hn _ (h2 i hi).1)⟩
theorem Sta.lt {w : World} {F : Nat → Prop} {g : Nat} {room : Int} {xs : List Int} (h : Sta w F g room xs) : ∀ i, F i → i < w.heap.size := by
  obtain ⟨v, h1, h2, h3, _⟩ := h
  exact h3
end Go.Proofs.Ytaicemjckagcaaa
