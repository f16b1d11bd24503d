/- The document's own small walks over numbers: where one stands, how often, put among rising ones. -/
import Derived.IntWalk
import Derived.Test.YtgakhpdclhlmpaaGreatMaj
namespace Go.Proofs.YtgakhpdclhlmpaaGreat
set_option linter.unusedVariables false
open Go.RowKit
/-- where a number stands, from place k on -/
def idxS (x : Int) : List Int → Nat → Int
  | [], _ => -1
  | y :: l, k => if y = x then k else idxS x l (k + 1)
theorem idxS_cons (x y : Int) (l : List Int) (k : Nat) : idxS x (y :: l) k = if y = x then (k : Int) else idxS x l (k + 1) := rfl
set_option maxRecDepth 100000 in
theorem rindex (F : Nat → Prop) (w : World) (A : Option Addr) (c : Nat) (l : List Int) (x : Int) (h : Ints F w A l) (hl : l.length ≤ 17592186044415) :
    Calls Tryz.prog 70 #[.slice A l.length c, .int .i64 x] w fun e w' => e = .returned (.int .i64 (idxS x l 0)) ∧ Upd No w w' := by
  go_enter Tryz.func70, Tryz.ntmps70
  go_wp2
  go_loopg [9] l.length (fun gk i wr => ∃ k : Nat, k + gk = l.length ∧ i = .int .i64 k ∧ Hid (idxS x (l.drop k) k = idxS x l 0) ∧ Upd No w wr)
  case atStart => exact ⟨0, by omega, rfl, Lib.hid rfl, Upd.refl _ _⟩
  case round =>
    obtain ⟨k, hgk, rfl, hs, hu⟩ := hrel
    by_cases hlt : k < l.length
    · obtain ⟨ad, hA, _, _, hc⟩ := (h.upd hu (fun _ _ => id)).at_ hlt
      obtain ⟨y, hy⟩ : ∃ y, l[k] = y := ⟨_, rfl⟩
      rw [hy] at hc
      subst hA
      have X := Lib.hid (show l.drop k = y :: l.drop (k + 1) by rw [← hy]; exact List.drop_eq_getElem_cons hlt)
      clear hy
      have b1 : (0 : Int) ≤ (k : Int) := Int.natCast_nonneg _
      have b2 : (k : Int) < (l.length : Int) := by omega
      by_cases he : y = x
      · have HV := Lib.hid (show idxS x l 0 = (k : Int) by rw [← hs.out, X.out, idxS_cons, if_pos he])
        have heb : (y == x) = true := by simpa using he
        clear he
        go_wp2
        go_ret
        exact ⟨by rw [HV.out]; rfl, hu⟩
      · have HV := Lib.hid (show idxS x (l.drop (k + 1)) (k + 1) = idxS x l 0 by rw [← hs.out, X.out, idxS_cons, if_neg he])
        have heb : (y == x) = false := by simpa using he
        clear he
        go_wp2
        go_roundg (gk - 1)
        case measure => omega
        case rel => exact ⟨k + 1, by omega, by go_num, HV, hu⟩
    · obtain rfl : k = l.length := by omega
      have HV := Lib.hid (show idxS x l 0 = -1 by rw [← hs.out, List.drop_length]; rfl)
      go_wp2
      go_ret
      exact ⟨by rw [HV.out]; rfl, hu⟩
/-- how often -/
def cntS (x : Int) : List Int → Nat → Nat
  | [], n => n
  | y :: l, n => cntS x l (if x = y then n + 1 else n)
theorem cntS_eq (x : Int) : ∀ (l : List Int) (n : Nat), cntS x l n = n + l.count x
  | [], n => by simp [cntS]
  | y :: l, n => by
    show cntS x l (if x = y then n + 1 else n) = _
    rw [cntS_eq x l, List.count_cons]
    by_cases e : x = y
    · subst e; simp; omega
    · have : (y == x) = false := by rw [beq_eq_false_iff_ne]; exact fun h => e h.symm
      simp [e, this]
set_option maxRecDepth 100000 in
theorem rcount (F : Nat → Prop) (w : World) (A : Option Addr) (c : Nat) (l : List Int) (x : Int) (h : Ints F w A l) (hl : l.length ≤ 17592186044415) :
    Calls Tryz.prog 69 #[.slice A l.length c, .int .i64 x] w fun e w' => e = .returned (.int .i64 ((l.count x : Nat) : Int)) ∧ Upd No w w' := by
  go_enter Tryz.func69, Tryz.ntmps69
  go_wp2
  go_loopg [5, 10] l.length (fun gk s i wr => ∃ k n : Nat, k + gk = l.length ∧ i = .int .i64 k ∧ s = .int .i64 n ∧ n ≤ k ∧ Hid (cntS x (l.drop k) n = cntS x l 0) ∧ Upd No w wr)
  case atStart => exact ⟨0, 0, by omega, rfl, rfl, by omega, Lib.hid rfl, Upd.refl _ _⟩
  case round =>
    obtain ⟨k, n, hgk, rfl, rfl, hn, hs, hu⟩ := hrel
    by_cases hlt : k < l.length
    · obtain ⟨ad, hA, _, _, hc⟩ := (h.upd hu (fun _ _ => id)).at_ hlt
      obtain ⟨y, hy⟩ : ∃ y, l[k] = y := ⟨_, rfl⟩
      rw [hy] at hc
      subst hA
      have X := Lib.hid (show l.drop k = y :: l.drop (k + 1) by rw [← hy]; exact List.drop_eq_getElem_cons hlt)
      clear hy
      have b1 : (0 : Int) ≤ (k : Int) := Int.natCast_nonneg _
      have b2 : (k : Int) < (l.length : Int) := by omega
      by_cases he : x = y
      · have HV := Lib.hid (show cntS x (l.drop (k + 1)) (n + 1) = cntS x l 0 by rw [← hs.out, X.out]; show _ = cntS x _ (if x = y then n + 1 else n); rw [if_pos he])
        have heb : (x == y) = true := by simpa using he
        clear he
        go_wp2
        go_roundg (gk - 1)
        case measure => omega
        case rel => exact ⟨k + 1, n + 1, by omega, by go_num, by go_num, by omega, HV, hu⟩
      · have HV := Lib.hid (show cntS x (l.drop (k + 1)) n = cntS x l 0 by rw [← hs.out, X.out]; show _ = cntS x _ (if x = y then n + 1 else n); rw [if_neg he])
        have heb : (x == y) = false := by simpa using he
        clear he
        go_wp2
        go_roundg (gk - 1)
        case measure => omega
        case rel => exact ⟨k + 1, n, by omega, by go_num, rfl, by omega, HV, hu⟩
    · obtain rfl : k = l.length := by omega
      have HV := Lib.hid (show n = l.count x by have := hs.out; rw [List.drop_length, cntS_eq x l 0] at this; simpa [cntS] using this)
      go_wp2
      go_ret
      exact ⟨by rw [HV.out]; rfl, hu⟩
set_option maxRecDepth 100000 in
theorem rperm (F G : Nat → Prop) (w : World) (A B : Option Addr) (c d : Nat) (l m : List Int) (h : Ints F w A l) (hm : Ints G w B m) (hl : l.length ≤ 17592186044415) (hl2 : m.length ≤ 17592186044415) :
    Calls Tryz.prog 41 #[.slice A l.length c, .slice B m.length d] w fun e w' => e = .returned (.bool (l.length == m.length && l.all fun x => l.count x == m.count x)) ∧ Upd No w w' := by
  by_cases hlm : l.length = m.length
  · have hb : ((l.length : Int) != (m.length : Int)) = false := by rw [hlm]; simp
    have Hlm := Lib.hid (show (l.length == m.length) = true by simpa using hlm)
    clear hlm
    go_enter Tryz.func41, Tryz.ntmps41
    go_wp2
    go_loopg [14] l.length (fun gk i wr => ∃ k : Nat, k + gk = l.length ∧ i = .int .i64 k ∧ Hid ((l.drop k).all (fun x => l.count x == m.count x) = l.all (fun x => l.count x == m.count x)) ∧ Upd No w wr)
    case atStart => exact ⟨0, by omega, rfl, Lib.hid rfl, Upd.refl _ _⟩
    case round =>
      obtain ⟨k, hgk, rfl, hs, hu⟩ := hrel
      by_cases hlt : k < l.length
      · obtain ⟨ad, hA, _, _, hc⟩ := (h.upd hu (fun _ _ => id)).at_ hlt
        obtain ⟨y, hy⟩ : ∃ y, l[k] = y := ⟨_, rfl⟩
        rw [hy] at hc
        subst hA
        have X := Lib.hid (show l.drop k = y :: l.drop (k + 1) by rw [← hy]; exact List.drop_eq_getElem_cons hlt)
        clear hy
        have b1 : (0 : Int) ≤ (k : Int) := Int.natCast_nonneg _
        have b2 : (k : Int) < (l.length : Int) := by omega
        go_wp2_with fail
        refine (rcount F _ (some ad) c l y (h.upd hu (fun _ _ => id)) hl).mono ?_
        rintro e w1 ⟨rfl, hu1⟩
        go_wp2_with fail
        refine (rcount G _ B d m y (hm.upd (hu.trans hu1) (fun _ _ => id)) hl2).mono ?_
        rintro e w2 ⟨rfl, hu2⟩
        have HU := Lib.hid ((hu.trans hu1).trans hu2)
        clear hu1 hu2
        by_cases he : l.count y = m.count y
        · have heb : (((l.count y : Nat) : Int) != ((m.count y : Nat) : Int)) = false := by rw [he]; simp
          have HV := Lib.hid (show (l.drop (k + 1)).all (fun x => l.count x == m.count x) = l.all (fun x => l.count x == m.count x) by rw [← hs.out, X.out, List.all_cons, he]; simp)
          clear he
          go_wp2
          go_roundg (gk - 1)
          case measure => omega
          case rel => exact ⟨k + 1, by omega, by go_num, HV, HU.out⟩
        · have heb : (((l.count y : Nat) : Int) != ((m.count y : Nat) : Int)) = true := by rw [bne_iff_ne]; omega
          have HV := Lib.hid (show l.all (fun x => l.count x == m.count x) = false by rw [← hs.out, X.out, List.all_cons, beq_eq_false_iff_ne.2 he]; simp)
          clear he
          go_wp2
          go_ret
          exact ⟨by rw [HV.out, Hlm.out]; rfl, HU.out⟩
      · obtain rfl : k = l.length := by omega
        have HV := Lib.hid (show l.all (fun x => l.count x == m.count x) = true by rw [← hs.out, List.drop_length]; rfl)
        go_wp2
        go_ret
        exact ⟨by rw [HV.out, Hlm.out]; rfl, hu⟩
  · have hb : ((l.length : Int) != (m.length : Int)) = true := by rw [bne_iff_ne]; omega
    have Hlm := Lib.hid (show (l.length == m.length) = false by simpa using hlm)
    clear hlm
    go_enter Tryz.func41, Tryz.ntmps41
    go_wp2
    go_ret
    exact ⟨by rw [Hlm.out]; rfl, Upd.refl _ _⟩

/-- a number among rising ones: what is left to do, once it is put -/
def putT (n : Int) (done : Bool) (out : List Int) : List Int → List Int
  | [] => if done then out else out ++ [n]
  | x :: l => putT n (done || decide (n ≤ x)) ((if !done && decide (n ≤ x) then out ++ [n] else out) ++ (if x = n then [] else [x])) l
def putL (n : Int) : List Int → List Int
  | [] => [n]
  | x :: l => if n ≤ x then n :: (x :: l).filter (fun y => !(y == n)) else x :: putL n l
theorem mem_putL (n a : Int) : ∀ l, a ∈ putL n l ↔ a = n ∨ a ∈ l
  | [] => by simp [putL]
  | x :: l => by
    have ih := mem_putL n a l
    unfold putL
    split
    · rw [List.mem_cons, List.mem_filter]
      by_cases h : a = n <;> simp [h]
    · simp only [List.mem_cons, ih]; grind
theorem putL_lt (n : Int) : ∀ l, l.Pairwise (· < ·) → (putL n l).Pairwise (· < ·)
  | [], _ => by simp [putL]
  | x :: l, h => by
    have h' := List.pairwise_cons.1 h
    unfold putL
    split
    · refine List.pairwise_cons.2 ⟨fun a ha => ?_, h.filter _⟩
      rw [List.mem_filter] at ha
      have h1 : a ≠ n := by simpa using ha.2
      rcases List.mem_cons.1 ha.1 with rfl | h2
      · omega
      · have := h'.1 a h2; omega
    · refine List.pairwise_cons.2 ⟨fun a ha => ?_, putL_lt n l h'.2⟩
      rcases (mem_putL n a l).1 ha with rfl | h2
      · omega
      · exact h'.1 a h2
theorem putL_len (n : Int) (l : List Int) : (putL n l).length ≤ l.length + 1 := by
  induction l with
  | nil => simp [putL]
  | cons x l ih =>
    unfold putL
    split
    · have := List.length_filter_le (fun y => !(y == n)) (x :: l)
      simp only [List.length_cons] at *; omega
    · simp only [List.length_cons] at *; omega
def putAll (s : List Int) : List Int → List Int
  | [] => s
  | k :: l => putAll (putL k s) l
theorem mem_putAll (a : Int) : ∀ (l s : List Int), a ∈ putAll s l ↔ a ∈ s ∨ a ∈ l
  | [], s => by simp [putAll]
  | k :: l, s => by
    have ih := mem_putAll a l (putL k s)
    rw [mem_putL] at ih
    show a ∈ putAll (putL k s) l ↔ _
    rw [ih, List.mem_cons]; grind
theorem putAll_lt : ∀ (l s : List Int), s.Pairwise (· < ·) → (putAll s l).Pairwise (· < ·)
  | [], _, h => h
  | k :: l, s, h => putAll_lt l _ (putL_lt k s h)
theorem putT_true (n : Int) : ∀ (l out : List Int), putT n true out l = out ++ l.filter fun y => !(y == n)
  | [], out => by simp [putT]
  | x :: l, out => by
    show putT n true ((if !true && decide (n ≤ x) then out ++ [n] else out) ++ (if x = n then [] else [x])) l = _
    rw [putT_true n l]
    by_cases h : x = n
    · subst h; simp
    · have : (x == n) = false := by simpa using h
      simp [h]
theorem putT_false (n : Int) : ∀ (l out : List Int), putT n false out l = out ++ putL n l
  | [], out => by simp [putT, putL]
  | x :: l, out => by
    show putT n (false || decide (n ≤ x)) ((if !false && decide (n ≤ x) then out ++ [n] else out) ++ (if x = n then [] else [x])) l = _
    unfold putL
    by_cases h : n ≤ x
    · rw [if_pos h, decide_eq_true h]
      show putT n true ((out ++ [n]) ++ (if x = n then [] else [x])) l = _
      rw [putT_true]
      by_cases h2 : x = n
      · subst h2; simp
      · simp [h2]
    · rw [if_neg h, decide_eq_false h]
      show putT n false (out ++ (if x = n then [] else [x])) l = _
      rw [if_neg (show ¬ x = n by omega), putT_false n l]
      simp
theorem putT_eq (n : Int) (l : List Int) : putT n false [] l = putL n l := by rw [putT_false]; rfl
/-- ints of the call's own (the document's) -/
def NewR (w : World) (l : List Int) (e : Ending) (w' : World) : Prop := ∃ A c, e = .returned (.slice A l.length c) ∧ w'.ownsRow w.heap.size 3 1 (.slice A l.length c) l.length (l.map (Value.int .i64)) ∧ Upd No w w'
theorem slt_intR : SlT Tryz.prog 48 3 1 8 := SlT.mk_ Tryz.underlying48 (z := .int .i64 0) (by kernel_rfl) rfl (by omega)
set_option maxRecDepth 100000 in
set_option maxHeartbeats 1000000 in
theorem rput (F : Nat → Prop) (w : World) (A : Option Addr) (c : Nat) (l : List Int) (n : Int) (h : Ints F w A l) (hl : l.length ≤ 100000000) :
    Calls Tryz.prog 83 #[.slice A l.length c, .int .i64 n] w (NewR w (putT n false [] l)) := by
  go_enter Tryz.func83, Tryz.ntmps83
  go_wp2
  go_loopg [5, 6, 11] l.length (fun gk s d i wr => ∃ (k : Nat) (b : Bool) (A3 : Option Addr) (c3 : Nat) (xs : List Int), k + gk = l.length ∧ i = .int .i64 k ∧ d = .bool b ∧ s = .slice A3 xs.length c3 ∧ Hid (putT n b xs (l.drop k) = putT n false [] l) ∧ xs.length ≤ 2 * k ∧
    wr.ownsRow w.heap.size 3 1 (.slice A3 xs.length c3) xs.length (xs.map (Value.int .i64)) ∧ Upd No w wr)
  case atStart => exact ⟨0, false, none, 0, [], by omega, rfl, rfl, rfl, Lib.hid rfl, by simp, World.ownsRow_nil _ _ _ _, Upd.refl _ _⟩
  case round =>
    obtain ⟨k, b, A3, c3, xs, hgk, rfl, rfl, rfl, hs, hxl, hown, hu⟩ := hrel
    by_cases hlt : k < l.length
    · obtain ⟨ad, hA, _, _, hc⟩ := (h.upd hu (fun _ _ => id)).at_ hlt
      obtain ⟨y, hy⟩ : ∃ y, l[k] = y := ⟨_, rfl⟩
      rw [hy] at hc
      subst hA
      have X := Lib.hid (show l.drop k = y :: l.drop (k + 1) by rw [← hy]; exact List.drop_eq_getElem_cons hlt)
      clear hy
      have b1 : (0 : Int) ≤ (k : Int) := Int.natCast_nonneg _
      have b2 : (k : Int) < (l.length : Int) := by omega
      have hst := hs.out
      rw [X.out] at hst
      have hst : putT n (b || decide (n ≤ y)) ((if !b && decide (n ≤ y) then xs ++ [n] else xs) ++ (if y = n then [] else [y])) (l.drop (k + 1)) = putT n false [] l := hst
      have hz := hu.size
      have hzo := fun i e => (hown.lt i e).1
      have HZ := Lib.hid hzo
      clear hzo
      cases b
      · by_cases hny : n ≤ y
        · rw [decide_eq_true hny] at hst
          simp only [Bool.not_false, Bool.true_and, if_true, Bool.false_or] at hst
          by_cases hyn : y = n
          · rw [if_pos hyn, List.append_nil] at hst
            have hb : (y != n) = false := by rw [hyn]; simp
            have HS := Lib.hid hst
            clear hst hyn
            go_wp2_with (at_builtin; refine app1s rfl rfl slt_intR (v := .slice A3 xs.length c3) (cells := [.int .i64 n]) (by rfl) rfl hown rfl rfl (by omega) (by omega) (by omega) ?_; intro g' c' w2 hown2 hu2 hg2 hlt2)
            go_roundg (gk - 1)
            case measure => omega
            case rel => exact ⟨k + 1, true, some ⟨g', 0, none⟩, c', xs ++ [n], by omega, by go_num, rfl, by simp, HS, by simp; omega, by simpa using hown2, hu.then_ hu2 fun i e => .inr (HZ.out i e)⟩
          · rw [if_neg hyn] at hst
            have hb : (y != n) = true := by rw [bne_iff_ne]; exact hyn
            have HS := Lib.hid hst
            clear hst hyn
            go_wp2_with (at_builtin; (first
              | (refine app1s rfl rfl slt_intR (v := .slice A3 xs.length c3) (cells := [.int .i64 n]) (by rfl) rfl hown rfl rfl (by omega) (by omega) (by omega) ?_; intro g' c' w2 hown2 hu2 hg2 hlt2; have hz2 := hu2.size; have HZ2 := Lib.hid (fun i e => (hown2.lt i e).1); have HU2 := Lib.hid (hu.then_ hu2 fun i e => .inr (HZ.out i e)); clear hg2 hu2)
              | (refine app1s rfl rfl slt_intR (v := .slice (some ⟨g', 0, none⟩) (xs.length + 1) c') (cells := [.int .i64 y]) (by rfl) rfl hown2 rfl rfl (by omega) (by omega) (by omega) ?_; intro g3 c4 w3 hown3 hu3 hg3 hlt3)))
            go_roundg (gk - 1)
            case measure => omega
            case rel => exact ⟨k + 1, true, some ⟨g3, 0, none⟩, c4, xs ++ [n] ++ [y], by omega, by go_num, rfl, by simp, HS, by simp; omega, by simpa using hown3, HU2.out.then_ hu3 fun i e => .inr (HZ2.out i e)⟩
        · have hny' : ¬ y ≥ n := by omega
          rw [decide_eq_false hny] at hst
          simp only [Bool.not_false, Bool.and_false, Bool.or_false] at hst
          rw [if_neg (show ¬ (false = true) by decide), if_neg (show ¬ y = n by omega)] at hst
          have hb : (y != n) = true := by rw [bne_iff_ne]; omega
          have HS := Lib.hid hst
          clear hst
          go_wp2_with (at_builtin; refine app1s rfl rfl slt_intR (v := .slice A3 xs.length c3) (cells := [.int .i64 y]) (by rfl) rfl hown rfl rfl (by omega) (by omega) (by omega) ?_; intro g' c' w2 hown2 hu2 hg2 hlt2)
          go_roundg (gk - 1)
          case measure => omega
          case rel => exact ⟨k + 1, false, some ⟨g', 0, none⟩, c', xs ++ [y], by omega, by go_num, rfl, by simp, HS, by simp; omega, by simpa using hown2, hu.then_ hu2 fun i e => .inr (HZ.out i e)⟩
      · simp only [Bool.not_true, Bool.false_and, Bool.true_or] at hst
        rw [if_neg (show ¬ (false = true) by decide)] at hst
        by_cases hyn : y = n
        · rw [if_pos hyn, List.append_nil] at hst
          have hb : (y != n) = false := by rw [hyn]; simp
          have HS := Lib.hid hst
          clear hst hyn
          go_wp2
          go_roundg (gk - 1)
          case measure => omega
          case rel => exact ⟨k + 1, true, A3, c3, xs, by omega, by go_num, rfl, rfl, HS, by omega, hown, hu⟩
        · rw [if_neg hyn] at hst
          have hb : (y != n) = true := by rw [bne_iff_ne]; exact hyn
          have HS := Lib.hid hst
          clear hst hyn
          go_wp2_with (at_builtin; refine app1s rfl rfl slt_intR (v := .slice A3 xs.length c3) (cells := [.int .i64 y]) (by rfl) rfl hown rfl rfl (by omega) (by omega) (by omega) ?_; intro g' c' w2 hown2 hu2 hg2 hlt2)
          go_roundg (gk - 1)
          case measure => omega
          case rel => exact ⟨k + 1, true, some ⟨g', 0, none⟩, c', xs ++ [y], by omega, by go_num, rfl, by simp, HS, by simp; omega, by simpa using hown2, hu.then_ hu2 fun i e => .inr (HZ.out i e)⟩
    · obtain rfl : k = l.length := by omega
      have hst := hs.out
      rw [List.drop_length] at hst
      have hz := hu.size
      have HZ := Lib.hid (fun i e => (hown.lt i e).1)
      cases b
      · have HS := Lib.hid (show xs ++ [n] = putT n false [] l from hst)
        clear hst
        go_wp2_with (at_builtin; refine app1s rfl rfl slt_intR (v := .slice A3 xs.length c3) (cells := [.int .i64 n]) (by rfl) rfl hown rfl rfl (by omega) (by omega) (by omega) ?_; intro g' c' w2 hown2 hu2 hg2 hlt2)
        go_ret
        refine ⟨some ⟨g', 0, none⟩, c', ?_, ?_, hu.then_ hu2 fun i e => .inr (HZ.out i e)⟩
        · rw [← HS.out]; simp
        · rw [← HS.out]; simpa using hown2
      · have HS := Lib.hid (show xs = putT n false [] l from hst)
        clear hst
        go_wp2
        go_ret
        refine ⟨A3, c3, ?_, ?_, hu⟩
        · rw [← HS.out]; rfl
        · rw [← HS.out]; exact hown
theorem rputL (F : Nat → Prop) (w : World) (A : Option Addr) (c : Nat) (l : List Int) (n : Int) (h : Ints F w A l) (hl : l.length ≤ 100000000) :
    Calls Tryz.prog 83 #[.slice A l.length c, .int .i64 n] w (NewR w (putL n l)) := by
  rw [← putT_eq]; exact rput F w A c l n h hl
theorem rPut (F : Nat → Prop) (w : World) (A : Option Addr) (c : Nat) (l : List Int) (n : Int) (h : Ints F w A l) (hl : l.length ≤ 100000000) :
    Calls Tryz.prog 68 #[.slice A l.length c, .int .i64 n] w (NewR w (putL n l)) := by
  go_enter Tryz.func68, Tryz.ntmps68
  go_wp2_with fail
  refine (rputL F _ A c l n h hl).mono ?_
  rintro e w1 ⟨A1, c1, rfl, ho1, hu1⟩
  go_wp2
  go_ret
  exact ⟨A1, c1, rfl, ho1, hu1⟩
end Go.Proofs.YtgakhpdclhlmpaaGreat

/- The document on one transaction: keys, needs, right. -/
namespace Go.Proofs.YtgakhpdclhlmpaaGreat
set_option linter.unusedVariables false
open Go.RowKit
/-- the keys of operations that count, put one after another -/
def keysG (tch : Bool) (s : List Int) : List HOp → List Int
  | [] => s
  | o :: l => keysG tch (if tch || !o.read then putL o.key s else s) l
theorem keysG_cons (tch : Bool) (s : List Int) (o : HOp) (l : List HOp) : keysG tch s (o :: l) = keysG tch (if tch || !o.read then putL o.key s else s) l := rfl
theorem newR_ints {w w' : World} {A : Option Addr} {c : Nat} {l : List Int} (h : w'.ownsRow w.heap.size 3 1 (.slice A l.length c) l.length (l.map (Value.int .i64))) : Ints (fun i => w.heap.size ≤ i) w' A l := Ints.of_own h
set_option maxRecDepth 100000 in
set_option maxHeartbeats 1000000 in
theorem rKeys (F : Nat → Prop) (w : World) (i0 : Int) (dn : Bool) (A : Option Addr) (c : Nat) (l : List HOp) (tch : Bool) (h : HOps F w A l) (hl : l.length ≤ 100000) :
    Calls Tryz.prog 67 #[.agg #[.int .i64 i0, .bool dn, .slice A l.length c], .bool tch] w (NewR w (keysG tch [] l)) := by
  have uT := (Upd.refl No w).alloc (.cells #[.int .i64 i0, .bool dn, .slice A l.length c] 47)
  go_enter Tryz.func67, Tryz.ntmps67
  go_wp2
  go_loopg [5, 11] l.length (fun gk s i wr => ∃ (k : Nat) (A3 : Option Addr) (c3 : Nat) (xs : List Int), k + gk = l.length ∧ i = .int .i64 k ∧ s = .slice A3 xs.length c3 ∧ Hid (keysG tch xs (l.drop k) = keysG tch [] l) ∧ xs.length ≤ k ∧
    Hid (wr.ownsRow w.heap.size 3 1 (.slice A3 xs.length c3) xs.length (xs.map (Value.int .i64))) ∧ Upd No w wr)
  case atStart => exact ⟨0, none, 0, [], by omega, rfl, rfl, Lib.hid rfl, by simp, Lib.hid (World.ownsRow_nil _ _ _ _), uT⟩
  case round =>
    obtain ⟨k, A3, c3, xs, hgk, rfl, rfl, hs, hxl, hown, hu⟩ := hrel
    by_cases hlt : k < l.length
    · obtain ⟨ad, hAd, q0, q1, q2, q3⟩ := (h.upd hu (fun _ _ => id)).at_ hlt
      obtain ⟨x, hx⟩ : ∃ x, l[k] = x := ⟨_, rfl⟩
      rw [hx] at q0 q1 q2 q3
      subst hAd
      have X := Lib.hid (show l.drop k = x :: l.drop (k + 1) by rw [← hx]; exact List.drop_eq_getElem_cons hlt)
      have b1 : (0 : Int) ≤ (k : Int) := Int.natCast_nonneg _
      have b2 : (k : Int) < (l.length : Int) := by omega
      clear hx
      have bo := Blk.new wr 53 [.bool x.read, .int .i64 x.key, .int .i64 x.tx, .int .i64 x.nth]
      have uA := (Upd.refl No wr).alloc (.cells #[.bool x.read, .int .i64 x.key, .int .i64 x.tx, .int .i64 x.nth] 53)
      have HP := Lib.hid (rputL _ (wr.alloc (.cells #[.bool x.read, .int .i64 x.key, .int .i64 x.tx, .int .i64 x.nth] 53)) A3 c3 xs x.key ((newR_ints hown.out).upd uA (fun _ _ => id)) (by omega))
      have hst := hs.out
      rw [X.out, keysG_cons] at hst
      have hz := hu.size
      by_cases hc : (tch || !x.read) = true
      · rw [if_pos hc] at hst
        have HS := Lib.hid hst
        have hlen := putL_len x.key xs
        clear hst
        cases tch
        · have hr : x.read = false := by simpa using hc
          rw [hr] at q0 HP uA bo
          clear hc hr
          go_wp2_with (go_at_call 83; refine HP.out.mono ?_; rintro e w1 ⟨A4, c4, rfl, ho4, hu4⟩)
          go_roundg (gk - 1)
          case measure => omega
          case rel => exact ⟨k + 1, A4, c4, putL x.key xs, by omega, by go_num, rfl, HS, by omega, Lib.hid (own_base ho4 (by simp; omega)), (hu.trans uA).trans hu4⟩
        · go_wp2_with (go_at_call 83; refine HP.out.mono ?_; rintro e w1 ⟨A4, c4, rfl, ho4, hu4⟩)
          go_roundg (gk - 1)
          case measure => omega
          case rel => exact ⟨k + 1, A4, c4, putL x.key xs, by omega, by go_num, rfl, HS, by omega, Lib.hid (own_base ho4 (by simp; omega)), (hu.trans uA).trans hu4⟩
      · rw [if_neg hc] at hst
        have HS := Lib.hid hst
        have hc2 : tch = false ∧ x.read = true := by simpa using hc
        obtain ⟨rfl, hr⟩ := hc2
        rw [hr] at q0 uA
        have HO := Lib.hid (own_upd hown.out uA (fun _ _ => id))
        clear hst hc hr
        go_wp2
        go_roundg (gk - 1)
        case measure => omega
        case rel => exact ⟨k + 1, A3, c3, xs, by omega, by go_num, rfl, HS, by omega, HO, hu.trans uA⟩
    · obtain rfl : k = l.length := by omega
      have HV := Lib.hid (show xs = keysG tch [] l by rw [← hs.out, List.drop_length]; rfl)
      go_wp2
      go_ret
      exact ⟨A3, c3, by rw [← HV.out]; rfl, by rw [← HV.out]; exact hown.out, hu⟩
end Go.Proofs.YtgakhpdclhlmpaaGreat

/- The document on one transaction: what it needs of others. -/
namespace Go.Proofs.YtgakhpdclhlmpaaGreat
set_option linter.unusedVariables false
open Go.RowKit
/-- versions lie there (the document's) -/
def VersR (F : Nat → Prop) (w : World) (A : Option Addr) (l : List Ver) : Prop := Recs F w A 3 (l.map Ver.cells)
theorem VersR.at_ {F : Nat → Prop} {w : World} {A : Option Addr} {l : List Ver} (h : VersR F w A l) {k : Nat} (hk : k < l.length) : ∃ ad, A = some ad ∧
    w.cell? (ad.add (k * 3)) = some (.int .i64 l[k].tx) ∧ w.cell? ⟨(ad.add (k * 3)).block, (ad.add (k * 3)).off + 1, none⟩ = some (.int .i64 l[k].key) ∧
    w.cell? ⟨(ad.add (k * 3)).block, (ad.add (k * 3)).off + 2, none⟩ = some (.int .i64 l[k].nth) := by
  have hk' : k < (l.map Ver.cells).length := by simpa using hk
  obtain ⟨ad, e, _, _, hc⟩ := Recs.at_ h hk'
  rw [List.getElem_map] at hc
  exact ⟨ad, e, by simpa using hc 0 _ rfl, by simpa using hc 1 _ rfl, by simpa using hc 2 _ rfl⟩
theorem VersR.upd {F S : Nat → Prop} {w w' : World} {A : Option Addr} {l : List Ver} (h : VersR F w A l) (k : Upd S w w') (hn : ∀ i, F i → ¬ S i) : VersR F w' A l := Recs.upd h k hn
theorem versR_len {l : List Ver} : ∀ r ∈ l.map Ver.cells, r.length = 3 := fun r hr => by
  obtain ⟨e, _, rfl⟩ := List.mem_map.1 hr
  rfl
theorem slt_versR : SlT Tryz.prog 92 29 3 24 := SlT.mk_ Tryz.underlying92 (z := .agg #[.int .i64 0, .int .i64 0, .int .i64 0]) (by kernel_rfl) rfl (by omega)
theorem ver_eql (w : World) (x y : Ver) : (binOp .eql 29 (verV x) (verV y)).run Tryz.prog w = .ok (.bool (x == y)) w := by
  have := ver_equal w x y
  unfold verV at this ⊢
  rw [run_eql_struct, this]
  simp only [Result.andThen]
  by_cases h : x = y <;> simp [h]
theorem ver_new_own {w' : World} {base : Nat} {l : List Ver} {A : Option Addr} {c : Nat} (h : w'.ownsRow base 29 3 (.slice A l.length c) l.length (l.map Ver.cells).flatten) : VersR (fun i => base ≤ i) w' A l := by
  have h2 := Recs.of_own (n := l.length) (c := c) versR_len (by omega) h
  exact Recs.weak h2 fun i _ hi => (h.lt i hi).1
set_option maxRecDepth 100000 in
set_option maxHeartbeats 1000000 in
theorem rInV (F : Nat → Prop) (w : World) (A : Option Addr) (c : Nat) (l : List Ver) (v : Ver) (h : VersR F w A l) (hl : l.length ≤ 100000) :
    Calls Tryz.prog 82 #[.slice A l.length c, .agg v.cells.toArray] w fun e w' => e = .returned (.bool (l.contains v)) ∧ Upd No w w' := by
  unfold Ver.cells
  have bv := Lib.hid (Blk.new w 29 [.int .i64 v.tx, .int .i64 v.key, .int .i64 v.nth])
  have uT := (Upd.refl No w).alloc (.cells #[.int .i64 v.tx, .int .i64 v.key, .int .i64 v.nth] 29)
  go_enter Tryz.func82, Tryz.ntmps82
  go_wp2
  go_loopg [9] l.length (fun gk i wr => ∃ (k : Nat), k + gk = l.length ∧ i = .int .i64 k ∧ Hid ((l.drop k).contains v = l.contains v) ∧ Upd No (w.alloc (.cells #[.int .i64 v.tx, .int .i64 v.key, .int .i64 v.nth] 29)) wr)
  case atStart => exact ⟨0, by omega, rfl, Lib.hid rfl, Upd.refl _ _⟩
  case round =>
    obtain ⟨k, hgk, rfl, hs, hu⟩ := hrel
    by_cases hlt : k < l.length
    · obtain ⟨ad, hAd, q0, q1, q2⟩ := (h.upd (uT.trans hu) (fun _ _ => id)).at_ hlt
      obtain ⟨x, hx⟩ : ∃ x, l[k] = x := ⟨_, rfl⟩
      rw [hx] at q0 q1 q2
      subst hAd
      have X := Lib.hid (show l.drop k = x :: l.drop (k + 1) by rw [← hx]; exact List.drop_eq_getElem_cons hlt)
      have b1 : (0 : Int) ≤ (k : Int) := Int.natCast_nonneg _
      have b2 : (k : Int) < (l.length : Int) := by omega
      clear hx
      have uA := (Upd.refl No wr).alloc (.cells #[.int .i64 x.tx, .int .i64 x.key, .int .i64 x.nth] 29)
      have bb := (bv.out.upd hu id).upd uA id
      have v0 := bb.cell 0
      have v1 := bb.cell 1
      have v2 := bb.cell 2
      simp only [List.getElem?_cons_zero, List.getElem?_cons_succ] at v0 v1 v2
      have HE := fun W => ver_eql W x v
      unfold verV at HE
      have hst := hs.out
      rw [X.out, List.contains_cons] at hst
      clear bb
      by_cases hxv : x = v
      · have HV := Lib.hid (show l.contains v = true by rw [← hst, hxv]; simp)
        have he : (x == v) = true := by simpa using hxv
        rw [he] at HE
        clear hst hxv he
        go_wp2
        go_ret
        exact ⟨by rw [HV.out]; rfl, (uT.trans hu).trans uA⟩
      · have he : (x == v) = false := by simpa using hxv
        have he2 : (v == x) = false := by simpa using fun e => hxv e.symm
        rw [he2, Bool.false_or] at hst
        have HV := Lib.hid hst
        rw [he] at HE
        clear hst hxv he he2
        go_wp2
        go_roundg (gk - 1)
        case measure => omega
        case rel => exact ⟨k + 1, by omega, by go_num, HV, hu.trans uA⟩
    · obtain rfl : k = l.length := by omega
      have HV := Lib.hid (show l.contains v = false by rw [← hs.out, List.drop_length]; rfl)
      go_wp2
      go_ret
      exact ⟨by rw [HV.out]; rfl, uT.trans hu⟩
/-- is it a read of another one's version -/
def needsFR (id : Int) (o : HOp) : Bool := o.read && !(o.tx == 0) && !(o.tx == id)
def needsS (id : Int) (acc : List Ver) : List HOp → List Ver
  | [] => acc
  | o :: l => needsS id (if needsFR id o && !acc.contains (verOf o) then acc ++ [verOf o] else acc) l
theorem needsS_cons (id : Int) (acc : List Ver) (o : HOp) (l : List HOp) : needsS id acc (o :: l) = needsS id (if needsFR id o && !acc.contains (verOf o) then acc ++ [verOf o] else acc) l := rfl
/-- versions of the call's own (the document's) -/
def NewVR (w : World) (l : List Ver) (e : Ending) (w' : World) : Prop := ∃ A c, e = .returned (.slice A l.length c) ∧ w'.ownsRow w.heap.size 29 3 (.slice A l.length c) l.length (l.map Ver.cells).flatten ∧ Upd No w w'
set_option maxRecDepth 100000 in
set_option maxHeartbeats 1000000 in
theorem rNeeds (F : Nat → Prop) (w : World) (i0 : Int) (dn : Bool) (A : Option Addr) (c : Nat) (l : List HOp) (h : HOps F w A l) (hl : l.length ≤ 100000) :
    Calls Tryz.prog 65 #[.agg #[.int .i64 i0, .bool dn, .slice A l.length c]] w (NewVR w (needsS i0 [] l)) := by
  have uT := (Upd.refl No w).alloc (.cells #[.int .i64 i0, .bool dn, .slice A l.length c] 47)
  have bT := Lib.hid (Blk.new w 47 [.int .i64 i0, .bool dn, .slice A l.length c])
  go_enter Tryz.func65, Tryz.ntmps65
  go_wp2
  go_loopg [3, 10] l.length (fun gk s i wr => ∃ (k : Nat) (A3 : Option Addr) (c3 : Nat) (xs : List Ver), k + gk = l.length ∧ i = .int .i64 k ∧ s = .slice A3 xs.length c3 ∧ Hid (needsS i0 xs (l.drop k) = needsS i0 [] l) ∧ xs.length ≤ k ∧
    Hid (wr.ownsRow (w.heap.size + 1) 29 3 (.slice A3 xs.length c3) xs.length (xs.map Ver.cells).flatten) ∧ Upd No (w.alloc (.cells #[.int .i64 i0, .bool dn, .slice A l.length c] 47)) wr)
  case atStart => exact ⟨0, none, 0, [], by omega, rfl, rfl, Lib.hid rfl, by simp, Lib.hid (World.ownsRow_nil _ _ _ _), Upd.refl _ _⟩
  case round =>
    obtain ⟨k, A3, c3, xs, hgk, rfl, rfl, hs, hxl, hown, hu⟩ := hrel
    by_cases hlt : k < l.length
    · obtain ⟨ad, hAd, q0, q1, q2, q3⟩ := (h.upd (uT.trans hu) (fun _ _ => id)).at_ hlt
      obtain ⟨x, hx⟩ : ∃ x, l[k] = x := ⟨_, rfl⟩
      rw [hx] at q0 q1 q2 q3
      subst hAd
      have X := Lib.hid (show l.drop k = x :: l.drop (k + 1) by rw [← hx]; exact List.drop_eq_getElem_cons hlt)
      have b1 : (0 : Int) ≤ (k : Int) := Int.natCast_nonneg _
      have b2 : (k : Int) < (l.length : Int) := by omega
      clear hx
      obtain ⟨v, hv⟩ : ∃ v, verOf x = v := ⟨_, rfl⟩
      have bo := Blk.new wr 53 [.bool x.read, .int .i64 x.key, .int .i64 x.tx, .int .i64 x.nth]
      have uA := (Upd.refl No wr).alloc (.cells #[.bool x.read, .int .i64 x.key, .int .i64 x.tx, .int .i64 x.nth] 53)
      have hof := Lib.hid ((rof (wr.alloc (.cells #[.bool x.read, .int .i64 x.key, .int .i64 x.tx, .int .i64 x.nth] 53)) x).mono (R' := fun e w' => e = .returned (.agg #[.int .i64 v.tx, .int .i64 v.key, .int .i64 v.nth]) ∧ Upd No (wr.alloc (.cells #[.bool x.read, .int .i64 x.key, .int .i64 x.tx, .int .i64 x.nth] 53)) w') fun e w' h => by rw [hv] at h; exact h)
      have BO := Lib.hid bo
      have hst := hs.out
      rw [X.out, needsS_cons, hv] at hst
      have HST := Lib.hid hst
      have hz := hu.size
      clear hv hst bo
      go_wp2_with fail
      refine (hof.out).mono ?_
      rintro e w1 ⟨rfl, hu1⟩
      have uV := hu1.alloc (.cells #[.int .i64 v.tx, .int .i64 v.key, .int .i64 v.nth] 29)
      have bv := Blk.new w1 29 [.int .i64 v.tx, .int .i64 v.key, .int .i64 v.nth]
      have bo1 := BO.out.upd uV id
      have bT1 := ((bT.out.upd hu id).upd uA id).upd uV id
      have HO := own_upd ((own_upd hown.out uA (fun _ _ => id))) uV (fun _ _ => id)
      have HU := Lib.hid ((hu.trans uA).trans uV)
      have k0 := bo1.cell 0
      have k2 := bo1.cell 2
      have t0 := bT1.cell 0
      have hz1 := (uA.trans uV).size
      simp only [List.getElem?_cons_zero, List.getElem?_cons_succ, World.size_alloc] at k0 k2 t0 hz1 hz
      have hin := fun W (hW : Upd No (w1.alloc (.cells #[.int .i64 v.tx, .int .i64 v.key, .int .i64 v.nth] 29)) W) => rInV _ W A3 c3 xs v ((ver_new_own HO).upd hW (fun _ _ => id)) (by omega)
      have HIN := Lib.hid hin
      have HO' := Lib.hid HO
      have CV : ∀ W, Upd No (w1.alloc (.cells #[.int .i64 v.tx, .int .i64 v.key, .int .i64 v.nth] 29)) W → W.cell? ⟨w1.heap.size, 0, none⟩ = some (.int .i64 v.tx) ∧ W.cell? ⟨w1.heap.size, 1, none⟩ = some (.int .i64 v.key) ∧ W.cell? ⟨w1.heap.size, 2, none⟩ = some (.int .i64 v.nth) := fun W hW => ⟨(bv.upd hW id).cell 0, (bv.upd hW id).cell 1, (bv.upd hW id).cell 2⟩
      have HCV := Lib.hid CV
      clear CV uV uA hu1 bv bo1 bT1 hin HO
      cases hr : x.read
      · have HV := Lib.hid (show needsS i0 xs (l.drop (k + 1)) = needsS i0 [] l by rw [← HST.out]; unfold needsFR; rw [hr]; simp)
        rw [hr] at k0
        clear hr
        go_wp2
        go_roundg (gk - 1)
        case measure => omega
        case rel => exact ⟨k + 1, A3, c3, xs, by omega, by go_num, rfl, HV, by omega, HO', HU.out⟩
      · rw [hr] at k0
        by_cases h0 : x.tx = 0
        · have HV := Lib.hid (show needsS i0 xs (l.drop (k + 1)) = needsS i0 [] l by rw [← HST.out]; unfold needsFR; rw [h0]; simp)
          have h0b : (x.tx != 0) = false := by rw [h0]; rfl
          clear hr h0
          go_wp2
          go_roundg (gk - 1)
          case measure => omega
          case rel => exact ⟨k + 1, A3, c3, xs, by omega, by go_num, rfl, HV, by omega, HO', HU.out⟩
        · have h0b : (x.tx != 0) = true := by rw [bne_iff_ne]; exact h0
          by_cases h1 : x.tx = i0
          · have HV := Lib.hid (show needsS i0 xs (l.drop (k + 1)) = needsS i0 [] l by rw [← HST.out]; unfold needsFR; rw [h1]; simp)
            have h1b : (x.tx != i0) = false := by rw [h1]; simp
            clear hr h0 h1
            go_wp2
            go_roundg (gk - 1)
            case measure => omega
            case rel => exact ⟨k + 1, A3, c3, xs, by omega, by go_num, rfl, HV, by omega, HO', HU.out⟩
          · have h1b : (x.tx != i0) = true := by rw [bne_iff_ne]; exact h1
            have hq : needsFR i0 x = true := by unfold needsFR; rw [hr]; simp [h0, h1]
            have HV := Lib.hid (show needsS i0 (if !xs.contains v then xs ++ [v] else xs) (l.drop (k + 1)) = needsS i0 [] l by rw [← HST.out, hq]; rfl)
            have v0 := (HCV.out _ (Upd.refl _ _)).1
            have v1 := (HCV.out _ (Upd.refl _ _)).2.1
            have v2 := (HCV.out _ (Upd.refl _ _)).2.2
            clear hr h0 h1 hq
            go_wp2_with fail
            refine (HIN.out _ (Upd.refl _ _)).mono ?_
            rintro e w2 ⟨rfl, hu2⟩
            have HU2 := Lib.hid (HU.out.trans hu2)
            have hown3 := own_upd HO'.out hu2 (fun _ _ => id)
            have hz2 := hu2.size
            simp only [World.size_alloc] at hz2
            have v0' := (HCV.out _ hu2).1
            have v1' := (HCV.out _ hu2).2.1
            have v2' := (HCV.out _ hu2).2.2
            clear hu2 v0 v1 v2
            cases hc : xs.contains v
            · have HV2 := Lib.hid (show needsS i0 (xs ++ [v]) (l.drop (k + 1)) = needsS i0 [] l by rw [← HV.out, hc]; rfl)
              clear hc
              go_wp2_with (at_builtin; refine app1s rfl rfl slt_versR (v := .slice A3 xs.length c3) (cells := [.int .i64 v.tx, .int .i64 v.key, .int .i64 v.nth]) (by rfl) rfl hown3 rfl rfl (by omega) (by omega) (by omega) ?_; intro g' c' w4 hown4 hu4 hg4 hlt4)
              go_roundg (gk - 1)
              case measure => omega
              case rel => exact ⟨k + 1, some ⟨g', 0, none⟩, c', xs ++ [v], by omega, by go_num, by simp, HV2, by simp; omega, Lib.hid (by simpa [Ver.cells] using hown4), HU2.out.then_ hu4 fun i e => .inr (by have := (hown3.lt i e).1; simp only [World.size_alloc]; omega)⟩
            · have HV2 := Lib.hid (show needsS i0 xs (l.drop (k + 1)) = needsS i0 [] l by rw [← HV.out, hc]; rfl)
              clear hc
              go_wp2
              go_roundg (gk - 1)
              case measure => omega
              case rel => exact ⟨k + 1, A3, c3, xs, by omega, by go_num, rfl, HV2, by omega, Lib.hid hown3, HU2.out⟩
    · obtain rfl : k = l.length := by omega
      have HV := Lib.hid (show xs = needsS i0 [] l by rw [← hs.out, List.drop_length]; rfl)
      go_wp2
      go_ret
      exact ⟨A3, c3, by rw [← HV.out]; rfl, by rw [← HV.out]; exact own_base hown.out (by omega), uT.trans hu⟩
end Go.Proofs.YtgakhpdclhlmpaaGreat
