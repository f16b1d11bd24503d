/- Stacks: taken, and listed; what the document says of one more; whether two lists are the same. -/
import Derived.Test.YtpiigfbdgmjidaaFifoD
namespace Go.Proofs.Ytpiigfbdgmjidaa
open Go.RowKit

theorem spop_none (w : World) (F : Nat → Prop) (g : Nat) (room : Int) (h : Sta w F g room []) :
    Calls Try.prog 42 #[.pointer (some ⟨g, 0, none⟩)] w fun e w' => e = .returned (.tuple #[.int .i64 0, .bool false]) ∧ w = w' := by
  go_enter Try.func42, Try.ntmps42
  go_wp2_with fail
  refine (sfirst_none _ F _ _ h).mono ?_
  rintro e w' ⟨rfl, rfl⟩
  go_wp2
  go_ret2
  exact ⟨rfl, rfl⟩
theorem spop (w : World) (F : Nat → Prop) (g : Nat) (room : Int) (x : Int) (xs : List Int) (h : Sta w F g room (x :: xs)) (hl : xs.length ≤ 65536) :
    Calls Try.prog 42 #[.pointer (some ⟨g, 0, none⟩)] w fun e w' => e = .returned (.tuple #[.int .i64 x, .bool true]) ∧ Sta w' F g room xs ∧ Upd F w w' := by
  obtain ⟨v, h1, h2, h3, h4, h5⟩ := id h
  obtain ⟨A, c, rfl⟩ := own_slice h5
  have hc : xs.length + 1 ≤ c := by
    rcases h5.2 with ⟨h', _⟩ | ⟨g', cap, cur, hv, _, _, hnc, _⟩
    · simp at h'
    · simp only [Value.slice.injEq] at hv
      obtain ⟨_, _, rfl⟩ := hv
      simpa using hnc
  have hb : Blk w g 102 [.slice A (xs.length + 1) c, .int .i64 room] := h4
  go_enter Try.func42, Try.ntmps42
  go_wp2_with fail
  refine (sfirst _ F _ _ _ _ h hl).mono ?_
  rintro e w' ⟨rfl, q, rfl⟩
  go_wp2_with fail
  refine (ptake _ g A xs.length c _ (hb.drewN _) hc (by omega)).mono ?_
  rintro e w1 ⟨rfl, hb1, hu1⟩
  go_wp2
  go_ret2
  have hu := hu1.of_drewN
  refine ⟨rfl, ⟨.slice A xs.length c, h1, fun k hk => h2 k (by cases A <;> first | exact hk | (simp [Value.ownBlock] at hk)), fun k hk => Nat.lt_of_lt_of_le (h3 k hk) hu.size, hb1, ?_⟩, hu.mono fun i _ e => by have : i = g := e; exact this ▸ h1⟩
  have := own_upd h5 hu (fun i hi e => (h2 i hi).2 e)
  rw [List.reverse_cons, List.map_append] at this
  exact own_pop this
set_option maxHeartbeats 400000 in
theorem slist (w : World) (F : Nat → Prop) (g : Nat) (room : Int) (xs : List Int) (h : Sta w F g room xs) (hl : xs.length ≤ 65536) :
    Calls Try.prog 51 #[.pointer (some ⟨g, 0, none⟩)] w fun e w' => ∃ A c, e = .returned (.slice A xs.length c) ∧ Ints (fun i => w.heap.size ≤ i) w' A xs ∧ Upd No w w' := by
  go_enter Try.func51, Try.ntmps51
  go_wp2_with fail
  refine (slen _ F _ _ _ h).mono ?_
  rintro e w' ⟨rfl, rfl⟩
  go_wp2
  go_loopg [3, 4] xs.length (fun gk l i wr => ∃ k : Nat, k + gk = xs.length ∧ i = .int .i64 ((xs.length : Int) - 1 - k) ∧ wr.ownsRow w.heap.size 3 1 l k ((xs.take k).map (Value.int .i64)) ∧ Upd No w wr)
  case atStart => exact ⟨0, by omega, by go_num, by simpa using World.ownsRow_nil _ _ _ _, Upd.refl _ _⟩
  case round =>
    obtain ⟨k, hgk, hi, hor, hur⟩ := hrel
    have hsz := hur.size
    by_cases hlt : k < xs.length
    · obtain ⟨j, hj⟩ : ∃ j : Nat, (xs.length : Int) - 1 - k = j := ⟨xs.length - 1 - k, by omega⟩
      have Hj := Lib.hid hj
      rw [hj] at hi
      subst hi
      have hjl : j < xs.length := by omega
      have hjr : (xs.reverse)[j]? = some xs[k] := by
        rw [List.getElem?_reverse (by omega), show xs.length - 1 - j = k by omega, List.getElem?_eq_getElem hlt]
      obtain ⟨v, h1, h2, h3, h4, h5⟩ := h.upd hur (fun _ _ => id)
      obtain ⟨gl, cap, rfl, _, hll⟩ := h5.form (by omega)
      have c0 := h4.cell 0
      simp only [List.getElem?_cons_zero] at c0
      have cj : wr.cell? ⟨gl, j, none⟩ = some (.int .i64 xs[k]) := by
        rw [h5.cellAt _ (by omega), List.getElem?_map, hjr]; rfl
      clear hj hjr h2 h3
      go_wp2_with (at_builtin; refine app1s rfl rfl STint (v := u3) (by rfl) rfl hor rfl rfl (by omega) (by omega) (by omega) ?_; intro g' c' w1 hown1 hupd1 hgrew1 hlt1)
      go_roundg (gk - 1)
      case measure => omega
      case rel =>
        refine ⟨k + 1, by omega, by have := Hj.out; go_num, ?_, hur.trans_ hupd1 (fun i hi e => by have := (hor.lt i e).1; omega)⟩
        rw [List.take_succ_eq_append_getElem hlt, List.map_append]
        exact hown1
    · obtain rfl : k = xs.length := by omega
      have hi' : u4 = .int .i64 (-1) := by rw [hi]; congr 1; omega
      subst hi'
      obtain ⟨A, c, rfl⟩ := own_slice hor
      have hx := Ints.of_own hor
      rw [List.take_length] at hx
      clear hi
      go_wp2
      go_ret
      exact ⟨A, c, rfl, hx, hur⟩

/-- a new list of numbers is told; nothing that was there has turned -/
def NewInts (w : World) (xs : List Int) (e : Ending) (w' : World) : Prop :=
  ∃ A c, e = .returned (.slice A xs.length c) ∧ xs.length ≤ c ∧ Ints (fun i => w.heap.size ≤ i) w' A xs ∧ Upd No w w'
theorem refpush (w : World) (F : Nat → Prop) (A : Option Addr) (c : Nat) (xs : List Int) (x : Int) (st : Bool) (hx : Ints F w A xs) (hl : xs.length ≤ 1048576) :
    Calls Try.prog 40 #[.slice A xs.length c, .int .i64 x, .bool st] w (NewInts w (if st then x :: xs else xs ++ [x])) := by
  have hx' := hx.lt
  cases st
  · go_enter Try.func40, Try.ntmps40
    go_wp2_with (first | (at_builtin; refine appN rfl rfl STint (v := .slice (some ⟨w.heap.size, 0, none⟩) 0 0) (n := 0) (xs := []) (by rfl) rfl (World.ownsRow_made w #[] 0 (Nat.le_refl _) (by decide) rfl) (hx'.upd ((Upd.refl No w).alloc _) (fun _ _ => id)).src (Ints.one_ xs) (by omega) (by omega) (by simp) ?_; intro v1 w1 hown1 hupd1 hgrew1; simp only [Nat.zero_add, List.nil_append] at hown1; have hz1 := hupd1.size) | (at_builtin; refine app1s rfl rfl STint (v := v1) (by rfl) rfl hown1 rfl rfl (by omega) (by omega) (by simp at hz1; omega) ?_; intro g2 c2 w2 hown2 hupd2 hgrew2 hlt2))
    go_ret
    refine ⟨_, c2, by simp; rfl, by simpa using own_cap hown2, ?_, ?_⟩
    · have e : xs.map (Value.int .i64) ++ [.int .i64 x] = (xs ++ [x]).map (Value.int .i64) := by simp
      rw [e] at hown2
      exact Ints.of_own hown2
    · refine (((Upd.refl No w).alloc _).then_ hupd1 (fun i e => .inr ?_)).then_ hupd2 (fun i e => .inr (hown1.lt i e).1)
      have e1 : w.heap.size = i := by simpa [Own, Value.ownBlock] using e
      omega
  · go_enter Try.func40, Try.ntmps40
    go_wp2_with (at_builtin; refine appN rfl rfl STint (v := .slice (some ⟨w.heap.size, 0, none⟩) 1 1) (n := 1) (xs := [.int .i64 x]) (by rfl) rfl (World.ownsRow_lit w #[.int .i64 x] 1 (Nat.le_refl _) (by decide) rfl) (hx'.upd ((Upd.refl No w).alloc _) (fun _ _ => id)).src (Ints.one_ xs) (by omega) (by omega) (by simp) ?_; intro v1 w1 hown1 hupd1 hgrew1)
    obtain ⟨A', c', rfl⟩ := own_slice hown1
    go_ret
    refine ⟨A', c', by simp [Nat.add_comm], by have := own_cap hown1; simpa [Nat.add_comm] using this, ?_, ?_⟩
    · have e : [Value.int .i64 x] ++ xs.map (Value.int .i64) = (x :: xs).map (Value.int .i64) := by simp
      rw [e] at hown1
      exact Ints.of_own hown1
    · refine ((Upd.refl No w).alloc _).then_ hupd1 (fun i e => .inr ?_)
      have e1 : w.heap.size = i := by simpa [Own, Value.ownBlock] using e
      omega

theorem sameints (w : World) (F G : Nat → Prop) (A B : Option Addr) (c d : Nat) (xs ys : List Int) (hx : Ints F w A xs) (hy : Ints G w B ys) (hl : xs.length ≤ 1048576) (hl2 : ys.length ≤ 1048576) :
    Calls Try.prog 49 #[.slice A xs.length c, .slice B ys.length d] w fun e w' => e = .returned (.bool (xs == ys)) ∧ Upd No w w' := by
  by_cases hne : xs.length = ys.length
  · have hb : ((xs.length : Int) != (ys.length : Int)) = false := by rw [hne]; simp
    go_enter Try.func49, Try.ntmps49
    have Hne := Lib.hid hne
    clear hne
    go_wp2
    go_loopg [5, 13] xs.length (fun gk j i wr => ∃ k : Nat, k + gk = xs.length ∧ i = .int .i64 k ∧ xs.take k = ys.take k ∧ Upd No w wr)
    case atStart => exact ⟨0, by omega, rfl, by simp, Upd.refl _ _⟩
    case round =>
      obtain ⟨k, hgk, rfl, hs, hu⟩ := hrel
      have Hs := Lib.hid hs
      clear hs
      by_cases hlt : k < xs.length
      · have hlt2 : k < ys.length := by have := Hne.out; omega
        obtain ⟨ax, rfl, _, _, hcx⟩ := (hx.upd hu (fun _ _ => id)).at_ hlt
        obtain ⟨ay, rfl, _, _, hcy⟩ := (hy.upd hu (fun _ _ => id)).at_ hlt2
        have b1 : (0 : Int) ≤ (k : Int) := Int.natCast_nonneg _
        have b2 : (k : Int) < (xs.length : Int) := by omega
        have b3 : (k : Int) < (ys.length : Int) := by omega
        by_cases he : xs[k] = ys[k]
        · have heb : (xs[k] != ys[k]) = false := by rw [he]; simp
          have He := Lib.hid he
          clear he
          go_wp2
          go_quiet (fail)
          go_wp2
          go_roundg (gk - 1)
          case measure => omega
          case rel =>
            refine ⟨k + 1, by omega, by go_num, ?_, hu.drewN _⟩
            rw [List.take_succ_eq_append_getElem hlt, List.take_succ_eq_append_getElem hlt2, Hs.out, He.out]
        · have heb : (xs[k] != ys[k]) = true := by simpa using he
          have He := Lib.hid he
          clear he
          go_wp2
          go_quiet (fail)
          go_wp2
          go_ret
          have hne2 : (xs == ys) = false := by
            rw [beq_eq_false_iff_ne]
            rintro rfl
            exact He.out rfl
          exact ⟨by rw [hne2]; rfl, hu.drewN _⟩
      · obtain rfl : k = xs.length := by omega
        go_wp2
        go_ret
        have h2 := Hs.out
        rw [List.take_length, Hne.out, List.take_length] at h2
        exact ⟨by rw [h2, beq_self_eq_true]; rfl, hu⟩
  · have hb : ((xs.length : Int) != (ys.length : Int)) = true := by rw [bne_iff_ne]; omega
    have hf : (xs == ys) = false := by rw [beq_eq_false_iff_ne]; rintro rfl; exact hne rfl
    have Hf := Lib.hid hf
    clear hf
    go_enter Try.func49, Try.ntmps49
    go_wp2
    go_ret
    exact ⟨by rw [Hf.out]; rfl, Upd.refl _ _⟩
end Go.Proofs.Ytpiigfbdgmjidaa
