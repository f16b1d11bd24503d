/- When two lists of numbers are one, by the document. -/
import Derived.Test.YtaicemjckagcaaaProg
import Derived.Deep.RegionHeld3
import Derived.Deep.AppendLies
import Derived.Test.YtaicemjckagcaaaMah
import Derived.Test.YtaicemjckagcaaaMai
namespace Go.Proofs.Ytaicemjckagcaaa
set_option linter.unusedVariables false
open Go.RowKit
theorem samei (w : World) (F G : Nat → Prop) (A B : Option Addr) (c d : Nat) (xs ys : List Int) (hx : Ints F w A xs) (hy : Ints G w B ys) (hl : xs.length ≤ 1048576) (hl2 : ys.length ≤ 1048576) :
    Calls Try.prog 14 #[.slice A xs.length c, .slice B ys.length d] w fun e w' => e = .returned (.bool (xs == ys)) ∧ Upd No w w' := by
  by_cases hne : xs.length = ys.length
  · have hb : ((xs.length : Int) != (ys.length : Int)) = false := by rw [hne]; simp
    go_enter Try.func14, Try.ntmps14
    have Hne := Lib.hid hne
    clear hne
    go_wp2
    go_loopg [5, 13] xs.length (fun gk j i wr => ∃ k : Nat, k + gk = xs.length ∧ i = .int .i64 k ∧ xs.take k = ys.take k ∧ Upd No w wr)
    case atStart => exact ⟨0, by omega, rfl, by simp, Upd.refl _ _⟩
    case round =>
      obtain ⟨k, hgk, rfl, hs, hu⟩ := hrel
      have Hs := Lib.hid hs
      clear hs
      by_cases hlt : k < xs.length
      · have hlt2 : k < ys.length := by have := Hne.out; omega
        obtain ⟨ax, rfl, _, _, hcx⟩ := (hx.upd hu (fun _ _ => id)).at_ hlt
        obtain ⟨ay, rfl, _, _, hcy⟩ := (hy.upd hu (fun _ _ => id)).at_ hlt2
        have b1 : (0 : Int) ≤ (k : Int) := Int.natCast_nonneg _
        have b2 : (k : Int) < (xs.length : Int) := by omega
        have b3 : (k : Int) < (ys.length : Int) := by omega
        by_cases he : xs[k] = ys[k]
        · have heb : (xs[k] != ys[k]) = false := by rw [he]; simp
          have He := Lib.hid he
          clear he
          go_wp2
          go_quiet (fail)
          go_wp2
          go_roundg (gk - 1)
          case measure => omega
          case rel =>
            refine ⟨k + 1, by omega, by go_num, ?_, hu.drewN _⟩
            rw [List.take_succ_eq_append_getElem hlt, List.take_succ_eq_append_getElem hlt2, Hs.out, He.out]
        · have heb : (xs[k] != ys[k]) = true := by simpa using he
          have He := Lib.hid he
          clear he
          go_wp2
          go_quiet (fail)
          go_wp2
          go_ret
          have hne2 : (xs == ys) = false := by
            rw [beq_eq_false_iff_ne]
            rintro rfl
            exact He.out rfl
          exact ⟨by rw [hne2]; rfl, hu.drewN _⟩
      · obtain rfl : k = xs.length := by omega
        go_wp2
        go_ret
        have h2 := Hs.out
        rw [List.take_length, Hne.out, List.take_length] at h2
        exact ⟨by rw [h2, beq_self_eq_true]; rfl, hu⟩
  · have hb : ((xs.length : Int) != (ys.length : Int)) = true := by rw [bne_iff_ne]; omega
    have hf : (xs == ys) = false := by rw [beq_eq_false_iff_ne]; rintro rfl; exact hne rfl
    have Hf := Lib.hid hf
    clear hf
    go_enter Try.func14, Try.ntmps14
    go_wp2
    go_ret
    exact ⟨by rw [Hf.out]; rfl, Upd.refl _ _⟩
end Go.Proofs.Ytaicemjckagcaaa

/- Queues and stacks: what they are in memory, and walks of the calls that only look. -/
namespace Go.Proofs.Ytaicemjckagcaaa
set_option linter.unusedVariables false
open Go.RowKit
theorem STint : SlT Try.prog 22 3 1 8 := SlT.mk_ Try.underlying22 (z := .int .i64 0) (by kernel_rfl) rfl (by omega)

/-- a ring of so many places, a power of two or none -/
def Pow (n : Nat) : Prop := n = 0 ∨ ∃ k, n = 2 ^ k
/-- where the number i stands -/
def spot (from_ i n : Nat) : Nat := (from_ + i) % n

/-- how long a full ring becomes -/
def grow (n : Nat) : Nat := if n = 0 then 1 else 2 * n
theorem grow_int (n : Nat) : (if 1 < (n : Int) * 2 then (n : Int) * 2 else 1) = ((grow n : Nat) : Int) := by
  unfold grow
  split <;> split <;> omega
theorem grow_le (n : Nat) : 1 ≤ grow n ∧ grow n ≤ 2 * n + 1 ∧ n < grow n := by unfold grow; split <;> omega
theorem grow_pow {n : Nat} (h : Pow n) : ∃ k, grow n = 2 ^ k := by
  unfold grow
  rcases h with rfl | ⟨k, rfl⟩
  · exact ⟨0, by simp⟩
  · exact ⟨k + 1, by have := Nat.one_le_two_pow (n := k); rw [if_neg (by omega), Nat.pow_succ]; omega⟩

theorem place_any (w : World) (g : Nat) (A : Option Addr) (n c k : Nat) (room cnt : Value) (fr : Nat) (i : Int) (hb : Blk w g 267 [room, .slice A n c, .int .u64 fr, cnt])
    (hn : n = 2 ^ k) (hs : n ≤ 1048576) (hi : 0 ≤ i) (hi2 : i ≤ 1048576) (hf : fr ≤ 1048576) :
    Calls Try.prog 208 #[.pointer (some ⟨g, 0, none⟩), .int .i64 i] w fun e w' => e = .returned (.int .u64 (spot fr i.toNat n : Nat)) ∧ ∃ q, w' = w.drewN q := by
  have c1 := hb.cell 1
  have c2 := hb.cell 2
  simp only [List.getElem?_cons_zero, List.getElem?_cons_succ] at c1 c2
  have hn0 : 1 ≤ n := by rw [hn]; exact Nat.one_le_two_pow
  obtain ⟨j, rfl⟩ := Int.eq_ofNat_of_zero_le hi
  have hbits : bits .and .u64 ((fr : Int) + j) ((n : Int) - 1) = ((spot fr j n : Nat) : Int) := by
    have h1 := u64_and_nat (fr + j) (n - 1) (by omega) (by omega)
    rw [show ((fr : Int) + j) = ((fr + j : Nat) : Int) by omega, show ((n : Int) - 1) = ((n - 1 : Nat) : Int) by omega, h1]
    unfold spot
    rw [hn, Nat.and_two_pow_sub_one_eq_mod]
  have Hb := Lib.hid hbits
  have Hn := Lib.hid hn
  clear hbits hn
  go_enter Try.func208, Try.ntmps208
  go_wp2
  go_quiet (fail)
  go_wp2
  go_ret
  exact ⟨by rw [Hb.out]; rfl, _, rfl⟩

def Que (w : World) (F : Nat → Prop) (g : Nat) (room : Int) (xs : List Int) : Prop :=
  ∃ (v : Value) (n : Nat) (ring : List Int) (fr : Nat), F g ∧ (∀ k, v.ownBlock = some k → F k ∧ k ≠ g) ∧ (∀ k, F k → k < w.heap.size) ∧
    Blk w g 267 [.int .i64 room, v, .int .u64 ((fr : Nat) : Int), .int .i64 xs.length] ∧ w.ownsRow 0 3 1 v n (ring.map (Value.int .i64)) ∧
    Pow n ∧ n ≤ 131072 ∧ fr ≤ n ∧ xs.length ≤ n ∧ ∀ i v, xs[i]? = some v → ring[spot fr i n]? = some v
namespace Que
variable {w w' : World} {F S : Nat → Prop} {g : Nat} {room : Int} {xs : List Int}
theorem upd (h : Que w F g room xs) (k : Upd S w w') (hn : ∀ i, F i → ¬ S i) : Que w' F g room xs := by
  obtain ⟨v, n, ring, fr, h1, h2, h3, h4, h5, h6⟩ := h
  exact ⟨v, n, ring, fr, h1, h2, fun i hi => Nat.lt_of_lt_of_le (h3 i hi) k.size, h4.upd k (hn _ h1), own_upd h5 k (fun i hi => hn _ (h2 i hi).1), h6⟩
theorem lt (h : Que w F g room xs) : ∀ i, F i → i < w.heap.size := by
  obtain ⟨v, n, ring, fr, h1, h2, h3, _⟩ := h
  exact h3
end Que

theorem spot_ne {fr i j n : Nat} (hij : i < j) (hj : j < n) : spot fr i n ≠ spot fr j n := fun e => by
  unfold spot at e
  have h := Nat.sub_mod_eq_zero_of_mod_eq e.symm
  rw [show fr + j - (fr + i) = j - i by omega, Nat.mod_eq_of_lt (by omega)] at h
  omega
theorem spot_lt {fr i n : Nat} (h : 0 < n) : spot fr i n < n := Nat.mod_lt _ h
theorem made_zero (n : Nat) : (madeCells #[Value.int .i64 0] n).toList = (List.replicate n (0 : Int)).map (Value.int .i64) := by
  apply List.ext_getElem
  · simp [madeCells]
  · intro i h1 h2
    simp [madeCells, Nat.mod_one]

/-- a number put behind, in the ring and in the count -/
theorem que_put {W : World} {F : Nat → Prop} {g gl n c fr : Nat} {room : Int} {xs ring : List Int} (x : Int)
    (hb : Blk W g 267 [.int .i64 room, .slice (some ⟨gl, 0, none⟩) n c, .int .u64 ((fr : Nat) : Int), .int .i64 xs.length])
    (ho : W.ownsRow 0 3 1 (.slice (some ⟨gl, 0, none⟩) n c) n (ring.map (Value.int .i64))) (hne : gl ≠ g) (hF : F g) (hF2 : F gl) (hF3 : ∀ k, F k → k < W.heap.size)
    (hp : Pow n) (hn : n ≤ 131072) (hfr : fr ≤ n) (hl : xs.length < n) (hr : ∀ i v, xs[i]? = some v → ring[spot fr i n]? = some v) :
    Que ((W.setCell ⟨gl, spot fr xs.length n, none⟩ (.int .i64 x)).setCell ⟨g, 3, none⟩ (.int .i64 ((xs.length : Int) + 1))) F g room (xs ++ [x]) := by
  have hrl : ring.length = n := by have := ho.1; simpa using this
  have hsl : spot fr xs.length n < n := spot_lt (by omega)
  have ho2 := (ho.stored (spot fr xs.length n) (.int .i64 x)).1
  have ho3 := own_upd ho2 (((Upd.refl (One g) _).setOne 3 (.int .i64 ((xs.length : Int) + 1)))) (fun i hi e => by
    have e1 : gl = i := by simpa [Value.ownBlock] using hi
    have e2 : i = g := e
    omega)
  refine ⟨.slice (some ⟨gl, 0, none⟩) n c, n, ring.set (spot fr xs.length n) x, fr, hF, ?_, ?_, ?_, ?_, hp, hn, hfr, by simp; omega, ?_⟩
  · intro k hk
    have e1 : gl = k := by simpa [Value.ownBlock] using hk
    exact ⟨e1 ▸ hF2, by omega⟩
  · intro k hk; simpa [World.setCell] using hF3 k hk
  · have := (hb.far (p := ⟨gl, spot fr xs.length n, none⟩) (Ne.symm hne) (.int .i64 x)).set_ 3 (.int .i64 ((xs.length : Int) + 1))
    simpa using this
  · rw [List.map_set]; exact ho3
  · intro i v hi
    rw [List.getElem?_append] at hi
    split at hi
    · rename_i hil
      rw [List.getElem?_set_ne (Ne.symm (spot_ne hil hl))]
      exact hr i v hi
    · have hi0 : i = xs.length := by
        have := (List.getElem?_eq_some_iff.1 hi).1
        simp at this
        omega
      subst hi0
      simp at hi
      subst hi
      rw [List.getElem?_set_self (by omega)]

theorem qlen (w : World) (F : Nat → Prop) (g : Nat) (room : Int) (xs : List Int) (h : Que w F g room xs) :
    Calls Try.prog 228 #[.pointer (some ⟨g, 0, none⟩)] w fun e w' => e = .returned (.int .i64 xs.length) ∧ w = w' := by
  obtain ⟨v, n, ring, fr, h1, h2, h3, h4, h5, h6⟩ := h
  have c3 := h4.cell 3
  simp only [List.getElem?_cons_zero, List.getElem?_cons_succ] at c3
  clear h2 h3 h6
  go_enter Try.func228, Try.ntmps228
  go_wp2
  go_ret
  exact ⟨rfl, rfl⟩
theorem qroom (w : World) (F : Nat → Prop) (g : Nat) (room : Int) (xs : List Int) (h : Que w F g room xs) (hr : 0 ≤ room) (hr2 : room ≤ 65536) :
    Calls Try.prog 206 #[.pointer (some ⟨g, 0, none⟩)] w fun e w' => e = .returned (.int .i64 (room - xs.length)) ∧ ∃ q, w' = w.drewN q := by
  obtain ⟨v, n, ring, fr, h1, h2, h3, h4, h5, h6, h7, h8, h9, _⟩ := h
  have c3 := h4.cell 3
  have c0 := h4.cell 0
  simp only [List.getElem?_cons_zero, List.getElem?_cons_succ] at c3 c0
  clear h2 h3 h6
  go_enter Try.func206, Try.ntmps206
  go_wp2
  go_quiet (fail)
  go_wp2
  go_ret
  exact ⟨rfl, _, rfl⟩
set_option maxHeartbeats 1000000 in
set_option maxRecDepth 100000 in
theorem qlist (w : World) (F : Nat → Prop) (g : Nat) (room : Int) (xs : List Int) (h : Que w F g room xs) :
    Calls Try.prog 207 #[.pointer (some ⟨g, 0, none⟩)] w fun e w' => ∃ A c, e = .returned (.slice A xs.length c) ∧ Ints (fun i => w.heap.size ≤ i) w' A xs ∧ Upd No w w' := by
  go_enter Try.func207, Try.ntmps207
  go_wp2_with fail
  refine (qlen _ F _ _ _ h).mono ?_
  rintro e w' ⟨rfl, rfl⟩
  go_wp2
  have hlen : xs.length ≤ 131072 := by obtain ⟨v, n, ring, fr, _, _, _, _, _, _, h7, _, h9, _⟩ := h; omega
  go_loopg [3, 4, 7] xs.length (fun gk l j i wr => ∃ k : Nat, k + gk = xs.length ∧ i = .int .i64 k ∧ wr.ownsRow w.heap.size 3 1 l k ((xs.take k).map (Value.int .i64)) ∧ Upd No w wr)
  case atStart => exact ⟨0, by omega, rfl, by simpa using World.ownsRow_nil _ _ _ _, Upd.refl _ _⟩
  case round =>
    obtain ⟨k, hgk, rfl, hor, hur⟩ := hrel
    have hsz := hur.size
    by_cases hlt : k < xs.length
    · obtain ⟨v, n, ring, fr, h1, h2, h3, h4, h5, h6, h7, h8, h9, h10⟩ := h.upd hur (fun _ _ => id)
      obtain ⟨gl, cap, rfl, hbl, hll⟩ := h5.form (by omega)
      have hgl := h2 gl rfl
      have hx : xs[k]? = some xs[k] := List.getElem?_eq_getElem hlt
      have hr := h10 k xs[k] hx
      have hrl := (List.getElem?_eq_some_iff.1 hr).1
      have hcell := h5.cells (g := gl) rfl (spot fr k n) (.int .i64 xs[k]) (by rw [List.getElem?_map, hr]; rfl)
      have hfl := h.lt g h1
      have hfl2 := h.lt gl hgl.1
      have c1 := h4.cell 1
      simp only [List.getElem?_cons_zero, List.getElem?_cons_succ] at c1
      rcases h6 with h6 | ⟨kk, h6⟩
      · omega
      have Hx := Lib.hid hx
      have Hr := Lib.hid hr
      have H6 := Lib.hid h6
      have e1 : (⟨gl, 0, none⟩ : Addr).add (spot fr k n) = ⟨gl, spot fr k n, none⟩ := by unfold Addr.add; split <;> simp_all
      rw [e1] at hcell
      clear hx hr h6 h10 h2 h3 e1
      have hsp : ((spot fr k n : Nat) : Int) < (n : Int) := by have := Nat.mod_lt (fr + k) (show 0 < n by omega); unfold spot; omega
      have hsp0 : (0 : Int) ≤ ((spot fr k n : Nat) : Int) := Int.natCast_nonneg _
      have hno : ∀ i, Own u3 i → w.heap.size ≤ i := fun i e => (hor.lt i e).1
      go_wp2
      go_region_held3 (fun w' => Blk w' g 267 [.int .i64 room, .slice (some ⟨gl, 0, none⟩) n cap, .int .u64 (fr : Int), .int .i64 xs.length] ∧ w'.cell? ⟨g, 1, none⟩ = some (.slice (some ⟨gl, 0, none⟩) n cap) ∧ w'.cell? ⟨gl, spot fr k n, none⟩ = some (.int .i64 xs[k]))
        (first | exact ⟨h4, c1, hcell⟩ | (go_split_ands; refine ⟨?_, ?_, ?_⟩ <;> first | assumption | (apply Blk.alloc; assumption) | (apply Blk.drew; assumption) | (exact Blk.upd (by assumption) hupd1 (fun e => by have := hno _ e; omega)) | (exact hupd1.keep (by assumption) (fun e => by have := hno _ e; simp at this; omega)) | go_keep)) (first | (refine step_app1 (by rfl) (by rfl) STint (by rfl) (by rfl) (by exact hor.alloc _) rfl (by exact news_new) (by rfl) (by omega) (by omega) (by exact (Upd.refl No w |>.trans hur |>.alloc _).size) ?_; intro gn capn w1 hown1 hupd1 hgrew1 hlt1) | (go_at_call 208; refine (place_any _ g _ n cap kk _ _ fr _ (by assumption) H6.out (by omega) (by omega) (by omega) (by omega)).mono ?_; rintro e w' ⟨rfl, q, rfl⟩))
      go_wp2
      go_roundg (gk - 1)
      case measure => omega
      case rel =>
        refine ⟨k + 1, by omega, by go_num, ?_, (hur.alloc _).trans_ (hupd1.of_drewN) (fun i hi e => by have := hno _ e; omega)⟩
        rw [List.take_succ_eq_append_getElem hlt, List.map_append]
        exact hown1
    · obtain rfl : k = xs.length := by omega
      obtain ⟨A, c, rfl⟩ := own_slice hor
      have hx := Ints.of_own hor
      rw [List.take_length] at hx
      go_wp2
      go_ret
      exact ⟨A, c, rfl, hx, hur⟩
end Go.Proofs.Ytaicemjckagcaaa
