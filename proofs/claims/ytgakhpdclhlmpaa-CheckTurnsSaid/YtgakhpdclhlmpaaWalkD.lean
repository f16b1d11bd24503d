/- Walks held against one another, from whichever places they begin. -/
import Derived.Test.YtgakhpdclhlmpaaProg
import Derived.Test.YtgakhpdclhlmpaaWalkC
import Derived.Deep.RegionHeld3
namespace Go.Proofs.Ytgakhpdclhlmpaa
set_option linter.unusedVariables false
open Go.RowKit

theorem rless (w : World) (x y : Edge) : Calls Try.prog 88 #[.agg x.cells.toArray, .agg y.cells.toArray] w fun e w' => e = .returned (.bool (ltE x y)) ∧ Upd No w w' := by
  unfold Edge.cells
  by_cases h1 : x.f = y.f
  · have b1 : (x.f != y.f) = false := by rw [h1]; simp
    by_cases h2 : x.k = y.k
    · have b2 : (x.k != y.k) = false := by rw [h2]; simp
      by_cases h3 : x.key = y.key
      · have b3 : (x.key != y.key) = false := by rw [h3]; simp
        have H := Lib.hid (show ltE x y = decide (x.t < y.t) by unfold ltE; rw [if_neg (by simpa using h1), if_neg (by simpa using h2), if_neg (by simpa using h3)])
        clear h1 h2 h3
        go_enter Try.func88, Try.ntmps88
        go_wp2
        go_ret
        exact ⟨by rw [H.out]; rfl, ((Upd.refl _ _).alloc _).alloc _⟩
      · have b3 : (x.key != y.key) = true := by rw [bne_iff_ne]; exact h3
        have H := Lib.hid (show ltE x y = decide (x.key < y.key) by unfold ltE; rw [if_neg (by simpa using h1), if_neg (by simpa using h2), if_pos h3])
        clear h1 h2 h3
        go_enter Try.func88, Try.ntmps88
        go_wp2
        go_ret
        exact ⟨by rw [H.out]; rfl, ((Upd.refl _ _).alloc _).alloc _⟩
    · have b2 : (x.k != y.k) = true := by rw [bne_iff_ne]; exact h2
      have H := Lib.hid (show ltE x y = decide (x.k < y.k) by unfold ltE; rw [if_neg (by simpa using h1), if_pos h2])
      clear h1 h2
      go_enter Try.func88, Try.ntmps88
      go_wp2
      go_ret
      exact ⟨by rw [H.out]; rfl, ((Upd.refl _ _).alloc _).alloc _⟩
  · have b1 : (x.f != y.f) = true := by rw [bne_iff_ne]; exact h1
    have H := Lib.hid (show ltE x y = decide (x.f < y.f) by unfold ltE; rw [if_pos h1])
    clear h1
    go_enter Try.func88, Try.ntmps88
    go_wp2
    go_ret
    exact ⟨by rw [H.out]; rfl, ((Upd.refl _ _).alloc _).alloc _⟩

def lexB : List Edge → List Edge → Bool
  | x :: xs, y :: ys => if x = y then lexB xs ys else ltE x y
  | _, _ => false
theorem lexB_at : ∀ {xs ys : List Edge} {n : Nat} {x y : Edge}, xs.take n = ys.take n → xs[n]? = some x → ys[n]? = some y → x ≠ y → lexB xs ys = ltE x y
  | a :: xs, b :: ys, 0, x, y, _, hx, hy, hne => by
    simp only [List.getElem?_cons_zero, Option.some.injEq] at hx hy
    subst hx; subst hy
    simp [lexB, hne]
  | a :: xs, b :: ys, n + 1, x, y, h, hx, hy, hne => by
    simp only [List.take_succ_cons, List.cons.injEq, List.getElem?_cons_succ] at h hx hy
    obtain ⟨rfl, h⟩ := h
    simp only [lexB, if_true]
    exact lexB_at h hx hy hne
  | [], _, n, x, y, _, hx, _, _ => by simp at hx
  | a :: xs, [], n, x, y, _, _, hy, _ => by simp at hy
theorem lexB_self : ∀ (xs : List Edge), lexB xs xs = false
  | [] => rfl
  | x :: xs => by simp [lexB, lexB_self xs]
/-- a walk begun at a place -/
def rot (l : List Edge) (i : Nat) : List Edge := l.drop i ++ l.take i
theorem rot_len (l : List Edge) {i : Nat} (hi : i ≤ l.length) : (rot l i).length = l.length := by unfold rot; rw [List.length_append, List.length_drop, List.length_take]; omega
theorem rot_zero (l : List Edge) : rot l 0 = l := by simp [rot]
theorem rot_at {l : List Edge} {i n : Nat} (hi : i ≤ l.length) (hn : n < l.length) : (rot l i)[n]? = l[(i + n) % l.length]? := by
  unfold rot
  rw [List.getElem?_append, List.length_drop]
  split
  · rw [List.getElem?_drop, Nat.mod_eq_of_lt (by omega)]
  · rw [List.getElem?_take, if_pos (by omega), show (i + n) % l.length = n - (l.length - i) by rw [show i + n = (n - (l.length - i)) + l.length by omega, Nat.add_mod_right, Nat.mod_eq_of_lt (by omega)]]
theorem rot_get {l : List Edge} {i n : Nat} (hi : i ≤ l.length) (hn : n < l.length) {m : Nat} (hm : (i + n) % l.length = m) {x : Edge} (hx : l[m]? = some x) : (rot l i)[n]? = some x := by rw [rot_at hi hn, hm, hx]

set_option maxRecDepth 100000 in
set_option maxHeartbeats 1000000 in
theorem wahead (F G : Nat → Prop) (w : World) (A B : Option Addr) (c d : Nat) (a b : List Edge) (i j : Nat) (ha : Walk F w A a) (hb : Walk G w B b) (hl : a.length ≤ 1000000) (hab : a.length = b.length) (hi : i ≤ a.length) (hj : j ≤ b.length) :
    Calls Try.prog 87 #[.slice A a.length c, .slice B b.length d, .int .i64 i, .int .i64 j] w fun e w' => e = .returned (.bool (lexB (rot a i) (rot b j))) ∧ Upd No w w' := by
  have qN := edge_neq
  have qG : ∀ (op : BinOp) (x y : Operand) (xs ys : Array Value) (w : World), (eqGuard op 89 x y (.agg xs) (.agg ys)).run Try.prog w = .ok () w := fun op x y xs ys w => run_eqGuard_agg w op _ x y xs ys (by kernel_rfl)
  have Hab := Lib.hid hab
  have hlb : b.length ≤ 1000000 := by omega
  have hlen : a.length ≤ b.length ∧ b.length ≤ a.length := by omega
  clear hab
  go_enter Try.func87, Try.ntmps87
  go_wp2
  go_loopg [14] a.length (fun gk n wr => ∃ k : Nat, k + gk = a.length ∧ n = .int .i64 k ∧ Hid ((rot a i).take k = (rot b j).take k) ∧ Upd No w wr)
  case atStart => exact ⟨0, by omega, rfl, Lib.hid (by simp), Upd.refl _ _⟩
  case round =>
    obtain ⟨k, hgk, rfl, hok, hu⟩ := hrel
    by_cases hlt : k < a.length
    · have hma : (i + k) % a.length < a.length := Nat.mod_lt _ (by omega)
      have hmb : (j + k) % b.length < b.length := Nat.mod_lt _ (by omega)
      obtain ⟨ad, rfl, c0, c1, c2, c3⟩ := (ha.upd hu (fun _ _ => id)).at_ hma
      obtain ⟨bd, rfl, d0, d1, d2, d3⟩ := (hb.upd hu (fun _ _ => id)).at_ hmb
      obtain ⟨x, hx⟩ : ∃ x, a[(i + k) % a.length] = x := ⟨_, rfl⟩
      obtain ⟨y, hy⟩ : ∃ y, b[(j + k) % b.length] = y := ⟨_, rfl⟩
      rw [hx] at c0 c1 c2 c3
      rw [hy] at d0 d1 d2 d3
      have hX := rot_get hi hlt rfl (by rw [List.getElem?_eq_getElem hma, hx])
      have hY := rot_get hj (show k < b.length by omega) rfl (by rw [List.getElem?_eq_getElem hmb, hy])
      have hca : ((i : Int) + (k : Int)).tmod (a.length : Int) = (((i + k) % a.length : Nat) : Int) := by rw [Int.tmod_eq_emod_of_nonneg (by omega), Int.natCast_emod]; rfl
      have hca2 : ((i : Int) + (k : Int)) % (a.length : Int) = (((i + k) % a.length : Nat) : Int) := by rw [Int.natCast_emod]; rfl
      have hcb : ((j : Int) + (k : Int)).tmod (b.length : Int) = (((j + k) % b.length : Nat) : Int) := by rw [Int.tmod_eq_emod_of_nonneg (by omega), Int.natCast_emod]; rfl
      have hcb2 : ((j : Int) + (k : Int)) % (b.length : Int) = (((j + k) % b.length : Nat) : Int) := by rw [Int.natCast_emod]; rfl
      generalize (i + k) % a.length = m at *
      generalize (j + k) % b.length = n at *
      have b1 : (0 : Int) ≤ (k : Int) := Int.natCast_nonneg _
      have b3 : (m : Int) < (a.length : Int) := by omega
      have b4 : (0 : Int) ≤ (m : Int) := Int.natCast_nonneg _
      have b8 : (n : Int) < (b.length : Int) := by omega
      have b9 : (0 : Int) ≤ (n : Int) := Int.natCast_nonneg _
      have b5 : IntKind.i64.wrap ((i : Int) + (k : Int)) = (i : Int) + (k : Int) := IntWalk.i64_in _ (by omega)
      have b6 : IntKind.i64.wrap ((j : Int) + (k : Int)) = (j : Int) + (k : Int) := IntWalk.i64_in _ (by omega)
      have hnl : ¬ a = [] := fun e => by rw [e] at hlt; simp at hlt
      have hnz : ¬ (a.length : Int) = 0 := by omega
      have hml : ¬ b = [] := fun e => by rw [e] at hmb; simp at hmb
      have hmz : ¬ (b.length : Int) = 0 := by omega
      clear hx hy
      go_wp2
      go_region_held3 (fun w' => w'.cell? (ad.add (m * 4)) = some (.int .i64 x.f) ∧ w'.cell? ⟨(ad.add (m * 4)).block, (ad.add (m * 4)).off + 1, none⟩ = some (.int .i64 x.t) ∧ w'.cell? ⟨(ad.add (m * 4)).block, (ad.add (m * 4)).off + 2, none⟩ = some (.int .i64 x.k) ∧ w'.cell? ⟨(ad.add (m * 4)).block, (ad.add (m * 4)).off + 3, none⟩ = some (.int .i64 x.key) ∧
          w'.cell? (bd.add (n * 4)) = some (.int .i64 y.f) ∧ w'.cell? ⟨(bd.add (n * 4)).block, (bd.add (n * 4)).off + 1, none⟩ = some (.int .i64 y.t) ∧ w'.cell? ⟨(bd.add (n * 4)).block, (bd.add (n * 4)).off + 2, none⟩ = some (.int .i64 y.k) ∧ w'.cell? ⟨(bd.add (n * 4)).block, (bd.add (n * 4)).off + 3, none⟩ = some (.int .i64 y.key))
        (first | exact ⟨c0, c1, c2, c3, d0, d1, d2, d3⟩ | (go_split_ands; refine ⟨?_, ?_, ?_, ?_, ?_, ?_, ?_, ?_⟩ <;> first | with_reducible assumption | (with_reducible exact ((Upd.refl No _).alloc _).keepNo (by with_reducible assumption)) | go_keep)) (fail)
      all_goals
        clear hca hca2 hcb hcb2 b5 b6
        by_cases he : x = y
        · have heb : (x != y) = false := by rw [he]; simp
          have Hok := Lib.hid (show (rot a i).take (k + 1) = (rot b j).take (k + 1) by
            rw [List.take_add_one, List.take_add_one, hok.out, hX, hY, he])
          clear he hX hY
          go_wp2
          go_roundg (gk - 1)
          case measure => omega
          case rel => exact ⟨k + 1, by omega, by go_num, Hok, ((hu.alloc _).alloc _).drew⟩
        · have heb : (x != y) = true := by simpa using he
          have Hok := Lib.hid (lexB_at hok.out hX hY he)
          clear he hX hY
          go_wp2_with fail
          refine (pless _ x y).mono ?_
          rintro e w3 ⟨rfl, hu3⟩
          go_wp2
          go_ret
          exact ⟨by rw [Hok.out]; rfl, ((hu.alloc _).alloc _).drew.trans hu3⟩
    · obtain rfl : k = a.length := by omega
      have Hok := Lib.hid (show lexB (rot a i) (rot b j) = false by
        have h1 := hok.out
        rw [List.take_of_length_le (by rw [rot_len _ hi]; exact Nat.le_refl _), List.take_of_length_le (by rw [rot_len _ hj]; omega)] at h1
        rw [h1, lexB_self])
      go_wp2
      go_ret
      exact ⟨by rw [Hok.out]; rfl, hu⟩

def lessB (a b : List Edge) : Bool := if a.length = b.length then lexB a b else decide (a.length < b.length)
theorem wless (F G : Nat → Prop) (w : World) (A B : Option Addr) (c d : Nat) (a b : List Edge) (ha : Walk F w A a) (hb : Walk G w B b) (hl : a.length ≤ 1000000) :
    Calls Try.prog 21 #[.slice A a.length c, .slice B b.length d] w fun e w' => e = .returned (.bool (lessB a b)) ∧ Upd No w w' := by
  by_cases h : a.length = b.length
  · have hz : ((a.length : Int) != (b.length : Int)) = false := by rw [h]; simp
    have H := Lib.hid (show lessB a b = lexB (rot a 0) (rot b 0) by unfold lessB; rw [if_pos h, rot_zero, rot_zero])
    have h' := Lib.hid h
    clear h
    go_enter Try.func21, Try.ntmps21
    go_wp2_with fail
    refine (wahead F G _ A B c d a b 0 0 ha hb hl h'.out (Nat.zero_le _) (Nat.zero_le _)).mono ?_
    rintro e w1 ⟨rfl, hu⟩
    go_wp2
    go_ret
    exact ⟨by rw [H.out]; rfl, hu⟩
  · have hz : ((a.length : Int) != (b.length : Int)) = true := by rw [bne_iff_ne]; omega
    have H := Lib.hid (show lessB a b = decide (a.length < b.length) by unfold lessB; rw [if_neg h])
    clear h
    go_enter Try.func21, Try.ntmps21
    go_wp2
    go_ret
    exact ⟨by rw [H.out]; first | rfl | (simp), Upd.refl _ _⟩
set_option maxRecDepth 100000 in
set_option maxHeartbeats 1000000 in
theorem rwless (F G : Nat → Prop) (w : World) (A B : Option Addr) (c d : Nat) (a b : List Edge) (ha : Walk F w A a) (hb : Walk G w B b) (hl : a.length ≤ 1000000) :
    Calls Try.prog 22 #[.slice A a.length c, .slice B b.length d] w fun e w' => e = .returned (.bool (lessB a b)) ∧ Upd No w w' := by
  have qN := edge_neq
  have qG : ∀ (op : BinOp) (x y : Operand) (xs ys : Array Value) (w : World), (eqGuard op 89 x y (.agg xs) (.agg ys)).run Try.prog w = .ok () w := fun op x y xs ys w => run_eqGuard_agg w op _ x y xs ys (by kernel_rfl)
  by_cases h : a.length = b.length
  · have hz : ((a.length : Int) != (b.length : Int)) = false := by rw [h]; simp
    have H := Lib.hid (show lessB a b = lexB a b by unfold lessB; rw [if_pos h])
    have h' := Lib.hid h
    clear h
    go_enter Try.func22, Try.ntmps22
    go_wp2
    go_loopg [18] a.length (fun gk n wr => ∃ k : Nat, k + gk = a.length ∧ n = .int .i64 k ∧ Hid (a.take k = b.take k) ∧ Upd No w wr)
    case atStart => exact ⟨0, by omega, rfl, Lib.hid (by simp), Upd.refl _ _⟩
    case round =>
      obtain ⟨k, hgk, rfl, hok, hu⟩ := hrel
      by_cases hlt : k < a.length
      · have hlt2 : k < b.length := by have := h'.out; omega
        obtain ⟨ad, rfl, c0, c1, c2, c3⟩ := (ha.upd hu (fun _ _ => id)).at_ hlt
        obtain ⟨bd, rfl, d0, d1, d2, d3⟩ := (hb.upd hu (fun _ _ => id)).at_ hlt2
        obtain ⟨x, hx⟩ : ∃ x, a[k] = x := ⟨_, rfl⟩
        obtain ⟨y, hy⟩ : ∃ y, b[k] = y := ⟨_, rfl⟩
        rw [hx] at c0 c1 c2 c3
        rw [hy] at d0 d1 d2 d3
        have hX : a[k]? = some x := by rw [List.getElem?_eq_getElem hlt, hx]
        have hY : b[k]? = some y := by rw [List.getElem?_eq_getElem hlt2, hy]
        have b1 : (0 : Int) ≤ (k : Int) := Int.natCast_nonneg _
        have b2 : (k : Int) < (a.length : Int) := by omega
        have b3 : (k : Int) < (b.length : Int) := by omega
        clear hx hy
        by_cases he : x = y
        · have heb : (x != y) = false := by rw [he]; simp
          have Hok := Lib.hid (show a.take (k + 1) = b.take (k + 1) by
            rw [List.take_add_one, List.take_add_one, hok.out, hX, hY, he])
          clear he hX hY
          go_wp2
          go_quiet (fail)
          go_wp2
          go_roundg (gk - 1)
          case measure => omega
          case rel => exact ⟨k + 1, by omega, by go_num, Hok, hu.drewN _⟩
        · have heb : (x != y) = true := by simpa using he
          have Hok := Lib.hid (lexB_at hok.out hX hY he)
          clear he hX hY
          go_wp2
          go_quiet (fail)
          go_wp2
          go_region_held3 (fun w' => w'.cell? (ad.add (k * 4)) = some (.int .i64 x.f) ∧ w'.cell? ⟨(ad.add (k * 4)).block, (ad.add (k * 4)).off + 1, none⟩ = some (.int .i64 x.t) ∧ w'.cell? ⟨(ad.add (k * 4)).block, (ad.add (k * 4)).off + 2, none⟩ = some (.int .i64 x.k) ∧ w'.cell? ⟨(ad.add (k * 4)).block, (ad.add (k * 4)).off + 3, none⟩ = some (.int .i64 x.key) ∧
              w'.cell? (bd.add (k * 4)) = some (.int .i64 y.f) ∧ w'.cell? ⟨(bd.add (k * 4)).block, (bd.add (k * 4)).off + 1, none⟩ = some (.int .i64 y.t) ∧ w'.cell? ⟨(bd.add (k * 4)).block, (bd.add (k * 4)).off + 2, none⟩ = some (.int .i64 y.k) ∧ w'.cell? ⟨(bd.add (k * 4)).block, (bd.add (k * 4)).off + 3, none⟩ = some (.int .i64 y.key))
            (first | exact ⟨c0, c1, c2, c3, d0, d1, d2, d3⟩ | (go_split_ands; refine ⟨?_, ?_, ?_, ?_, ?_, ?_, ?_, ?_⟩ <;> first | with_reducible assumption | (with_reducible exact hu3.keepNo (by with_reducible assumption)) | (with_reducible exact hu3.of_drewN.keepNo (by with_reducible assumption)) | (with_reducible exact hu3.of_drew.keepNo (by with_reducible assumption)) | (with_reducible exact hu3.of_drew.of_drewN.keepNo (by with_reducible assumption)) | go_keep))
            ((go_at_call 88; refine (rless _ x y).mono ?_; rintro e w3 ⟨rfl, hu3⟩))
          go_wp2
          go_ret
          exact ⟨by rw [H.out, Hok.out]; rfl, hu.trans (by first | exact hu3 | exact hu3.of_drew | exact hu3.of_drewN)⟩
      · obtain rfl : k = a.length := by omega
        have Hok := Lib.hid (show lexB a b = false by
          have h1 := hok.out
          rw [List.take_length, List.take_of_length_le (by have := h'.out; omega)] at h1
          rw [h1, lexB_self])
        go_wp2
        go_ret
        exact ⟨by rw [H.out, Hok.out]; rfl, hu⟩
  · have hz : ((a.length : Int) != (b.length : Int)) = true := by rw [bne_iff_ne]; omega
    have H := Lib.hid (show lessB a b = decide (a.length < b.length) by unfold lessB; rw [if_neg h])
    clear h
    go_enter Try.func22, Try.ntmps22
    go_wp2
    go_ret
    exact ⟨by rw [H.out]; first | rfl | (simp), Upd.refl _ _⟩
end Go.Proofs.Ytgakhpdclhlmpaa
