/- The document's own small walks over numbers: where one stands, how often, put among rising ones. -/
import Derived.IntWalk
import Derived.Test.YtmnhgdedkniafaaMan
namespace Go.Proofs.Ytmnhgdedkniafaa
set_option linter.unusedVariables false
open Go.RowKit
/-- a number among rising ones: what is left to do, once it is put -/
def putT (n : Int) (done : Bool) (out : List Int) : List Int → List Int
  | [] => if done then out else out ++ [n]
  | x :: l => putT n (done || decide (n ≤ x)) ((if !done && decide (n ≤ x) then out ++ [n] else out) ++ (if x = n then [] else [x])) l
def putL (n : Int) : List Int → List Int
  | [] => [n]
  | x :: l => if n ≤ x then n :: (x :: l).filter (fun y => !(y == n)) else x :: putL n l
theorem mem_putL (n a : Int) : ∀ l, a ∈ putL n l ↔ a = n ∨ a ∈ l
  | [] => by simp [putL]
  | x :: l => by
    have ih := mem_putL n a l
    unfold putL
    split
    · rw [List.mem_cons, List.mem_filter]
      by_cases h : a = n <;> simp [h]
    · simp only [List.mem_cons, ih]; grind
theorem putL_lt (n : Int) : ∀ l, l.Pairwise (· < ·) → (putL n l).Pairwise (· < ·)
  | [], _ => by simp [putL]
  | x :: l, h => by
    have h' := List.pairwise_cons.1 h
    unfold putL
    split
    · refine List.pairwise_cons.2 ⟨fun a ha => ?_, h.filter _⟩
      rw [List.mem_filter] at ha
      have h1 : a ≠ n := by simpa using ha.2
      rcases List.mem_cons.1 ha.1 with rfl | h2
      · omega
      · have := h'.1 a h2; omega
    · refine List.pairwise_cons.2 ⟨fun a ha => ?_, putL_lt n l h'.2⟩
      rcases (mem_putL n a l).1 ha with rfl | h2
      · omega
      · exact h'.1 a h2
theorem putL_len (n : Int) (l : List Int) : (putL n l).length ≤ l.length + 1 := by
  induction l with
  | nil => simp [putL]
  | cons x l ih =>
    unfold putL
    split
    · have := List.length_filter_le (fun y => !(y == n)) (x :: l)
      simp only [List.length_cons] at *; omega
    · simp only [List.length_cons] at *; omega
theorem putT_true (n : Int) : ∀ (l out : List Int), putT n true out l = out ++ l.filter fun y => !(y == n)
  | [], out => by simp [putT]
  | x :: l, out => by
    show putT n true ((if !true && decide (n ≤ x) then out ++ [n] else out) ++ (if x = n then [] else [x])) l = _
    rw [putT_true n l]
    by_cases h : x = n
    · subst h; simp
    · have : (x == n) = false := by simpa using h
      simp [h]
theorem putT_false (n : Int) : ∀ (l out : List Int), putT n false out l = out ++ putL n l
  | [], out => by simp [putT, putL]
  | x :: l, out => by
    show putT n (false || decide (n ≤ x)) ((if !false && decide (n ≤ x) then out ++ [n] else out) ++ (if x = n then [] else [x])) l = _
    unfold putL
    by_cases h : n ≤ x
    · rw [if_pos h, decide_eq_true h]
      show putT n true ((out ++ [n]) ++ (if x = n then [] else [x])) l = _
      rw [putT_true]
      by_cases h2 : x = n
      · subst h2; simp
      · simp [h2]
    · rw [if_neg h, decide_eq_false h]
      show putT n false (out ++ (if x = n then [] else [x])) l = _
      rw [if_neg (show ¬ x = n by omega), putT_false n l]
      simp
theorem putT_eq (n : Int) (l : List Int) : putT n false [] l = putL n l := by rw [putT_false]; rfl
/-- ints of the call's own (the document's) -/
def NewR (w : World) (l : List Int) (e : Ending) (w' : World) : Prop := ∃ A c, e = .returned (.slice A l.length c) ∧ w'.ownsRow w.heap.size 3 1 (.slice A l.length c) l.length (l.map (Value.int .i64)) ∧ Upd No w w'
theorem slt_intR : SlT Try.prog 50 3 1 8 := SlT.mk_ Try.underlying50 (z := .int .i64 0) (by kernel_rfl) rfl (by omega)
set_option maxRecDepth 100000 in
set_option maxHeartbeats 1000000 in
theorem rput (F : Nat → Prop) (w : World) (A : Option Addr) (c : Nat) (l : List Int) (n : Int) (h : Ints F w A l) (hl : l.length ≤ 100000000) :
    Calls Try.prog 156 #[.slice A l.length c, .int .i64 n] w (NewR w (putT n false [] l)) := by
  go_enter Try.func156, Try.ntmps156
  go_wp2
  go_loopg [5, 6, 11] l.length (fun gk s d i wr => ∃ (k : Nat) (b : Bool) (A3 : Option Addr) (c3 : Nat) (xs : List Int), k + gk = l.length ∧ i = .int .i64 k ∧ d = .bool b ∧ s = .slice A3 xs.length c3 ∧ Hid (putT n b xs (l.drop k) = putT n false [] l) ∧ xs.length ≤ 2 * k ∧
    wr.ownsRow w.heap.size 3 1 (.slice A3 xs.length c3) xs.length (xs.map (Value.int .i64)) ∧ Upd No w wr)
  case atStart => exact ⟨0, false, none, 0, [], by omega, rfl, rfl, rfl, Lib.hid rfl, by simp, World.ownsRow_nil _ _ _ _, Upd.refl _ _⟩
  case round =>
    obtain ⟨k, b, A3, c3, xs, hgk, rfl, rfl, rfl, hs, hxl, hown, hu⟩ := hrel
    by_cases hlt : k < l.length
    · obtain ⟨ad, hA, _, _, hc⟩ := (h.upd hu (fun _ _ => id)).at_ hlt
      obtain ⟨y, hy⟩ : ∃ y, l[k] = y := ⟨_, rfl⟩
      rw [hy] at hc
      subst hA
      have X := Lib.hid (show l.drop k = y :: l.drop (k + 1) by rw [← hy]; exact List.drop_eq_getElem_cons hlt)
      clear hy
      have b1 : (0 : Int) ≤ (k : Int) := Int.natCast_nonneg _
      have b2 : (k : Int) < (l.length : Int) := by omega
      have hst := hs.out
      rw [X.out] at hst
      have hst : putT n (b || decide (n ≤ y)) ((if !b && decide (n ≤ y) then xs ++ [n] else xs) ++ (if y = n then [] else [y])) (l.drop (k + 1)) = putT n false [] l := hst
      have hz := hu.size
      have hzo := fun i e => (hown.lt i e).1
      have HZ := Lib.hid hzo
      clear hzo
      cases b
      · by_cases hny : n ≤ y
        · rw [decide_eq_true hny] at hst
          simp only [Bool.not_false, Bool.true_and, if_true, Bool.false_or] at hst
          by_cases hyn : y = n
          · rw [if_pos hyn, List.append_nil] at hst
            have hb : (y != n) = false := by rw [hyn]; simp
            have HS := Lib.hid hst
            clear hst hyn
            go_wp2_with (at_builtin; refine app1s rfl rfl slt_intR (v := .slice A3 xs.length c3) (cells := [.int .i64 n]) (by rfl) rfl hown rfl rfl (by omega) (by omega) (by omega) ?_; intro g' c' w2 hown2 hu2 hg2 hlt2)
            go_roundg (gk - 1)
            case measure => omega
            case rel => exact ⟨k + 1, true, some ⟨g', 0, none⟩, c', xs ++ [n], by omega, by go_num, rfl, by simp, HS, by simp; omega, by simpa using hown2, hu.then_ hu2 fun i e => .inr (HZ.out i e)⟩
          · rw [if_neg hyn] at hst
            have hb : (y != n) = true := by rw [bne_iff_ne]; exact hyn
            have HS := Lib.hid hst
            clear hst hyn
            go_wp2_with (at_builtin; (first
              | (refine app1s rfl rfl slt_intR (v := .slice A3 xs.length c3) (cells := [.int .i64 n]) (by rfl) rfl hown rfl rfl (by omega) (by omega) (by omega) ?_; intro g' c' w2 hown2 hu2 hg2 hlt2; have hz2 := hu2.size; have HZ2 := Lib.hid (fun i e => (hown2.lt i e).1); have HU2 := Lib.hid (hu.then_ hu2 fun i e => .inr (HZ.out i e)); clear hg2 hu2)
              | (refine app1s rfl rfl slt_intR (v := .slice (some ⟨g', 0, none⟩) (xs.length + 1) c') (cells := [.int .i64 y]) (by rfl) rfl hown2 rfl rfl (by omega) (by omega) (by omega) ?_; intro g3 c4 w3 hown3 hu3 hg3 hlt3)))
            go_roundg (gk - 1)
            case measure => omega
            case rel => exact ⟨k + 1, true, some ⟨g3, 0, none⟩, c4, xs ++ [n] ++ [y], by omega, by go_num, rfl, by simp, HS, by simp; omega, by simpa using hown3, HU2.out.then_ hu3 fun i e => .inr (HZ2.out i e)⟩
        · have hny' : ¬ y ≥ n := by omega
          rw [decide_eq_false hny] at hst
          simp only [Bool.not_false, Bool.and_false, Bool.or_false] at hst
          rw [if_neg (show ¬ (false = true) by decide), if_neg (show ¬ y = n by omega)] at hst
          have hb : (y != n) = true := by rw [bne_iff_ne]; omega
          have HS := Lib.hid hst
          clear hst
          go_wp2_with (at_builtin; refine app1s rfl rfl slt_intR (v := .slice A3 xs.length c3) (cells := [.int .i64 y]) (by rfl) rfl hown rfl rfl (by omega) (by omega) (by omega) ?_; intro g' c' w2 hown2 hu2 hg2 hlt2)
          go_roundg (gk - 1)
          case measure => omega
          case rel => exact ⟨k + 1, false, some ⟨g', 0, none⟩, c', xs ++ [y], by omega, by go_num, rfl, by simp, HS, by simp; omega, by simpa using hown2, hu.then_ hu2 fun i e => .inr (HZ.out i e)⟩
      · simp only [Bool.not_true, Bool.false_and, Bool.true_or] at hst
        rw [if_neg (show ¬ (false = true) by decide)] at hst
        by_cases hyn : y = n
        · rw [if_pos hyn, List.append_nil] at hst
          have hb : (y != n) = false := by rw [hyn]; simp
          have HS := Lib.hid hst
          clear hst hyn
          go_wp2
          go_roundg (gk - 1)
          case measure => omega
          case rel => exact ⟨k + 1, true, A3, c3, xs, by omega, by go_num, rfl, rfl, HS, by omega, hown, hu⟩
        · rw [if_neg hyn] at hst
          have hb : (y != n) = true := by rw [bne_iff_ne]; exact hyn
          have HS := Lib.hid hst
          clear hst hyn
          go_wp2_with (at_builtin; refine app1s rfl rfl slt_intR (v := .slice A3 xs.length c3) (cells := [.int .i64 y]) (by rfl) rfl hown rfl rfl (by omega) (by omega) (by omega) ?_; intro g' c' w2 hown2 hu2 hg2 hlt2)
          go_roundg (gk - 1)
          case measure => omega
          case rel => exact ⟨k + 1, true, some ⟨g', 0, none⟩, c', xs ++ [y], by omega, by go_num, rfl, by simp, HS, by simp; omega, by simpa using hown2, hu.then_ hu2 fun i e => .inr (HZ.out i e)⟩
    · obtain rfl : k = l.length := by omega
      have hst := hs.out
      rw [List.drop_length] at hst
      have hz := hu.size
      have HZ := Lib.hid (fun i e => (hown.lt i e).1)
      cases b
      · have HS := Lib.hid (show xs ++ [n] = putT n false [] l from hst)
        clear hst
        go_wp2_with (at_builtin; refine app1s rfl rfl slt_intR (v := .slice A3 xs.length c3) (cells := [.int .i64 n]) (by rfl) rfl hown rfl rfl (by omega) (by omega) (by omega) ?_; intro g' c' w2 hown2 hu2 hg2 hlt2)
        go_ret
        refine ⟨some ⟨g', 0, none⟩, c', ?_, ?_, hu.then_ hu2 fun i e => .inr (HZ.out i e)⟩
        · rw [← HS.out]; simp
        · rw [← HS.out]; simpa using hown2
      · have HS := Lib.hid (show xs = putT n false [] l from hst)
        clear hst
        go_wp2
        go_ret
        refine ⟨A3, c3, ?_, ?_, hu⟩
        · rw [← HS.out]; rfl
        · rw [← HS.out]; exact hown
theorem rputL (F : Nat → Prop) (w : World) (A : Option Addr) (c : Nat) (l : List Int) (n : Int) (h : Ints F w A l) (hl : l.length ≤ 100000000) :
    Calls Try.prog 156 #[.slice A l.length c, .int .i64 n] w (NewR w (putL n l)) := by
  rw [← putT_eq]; exact rput F w A c l n h hl
theorem rPut (F : Nat → Prop) (w : World) (A : Option Addr) (c : Nat) (l : List Int) (n : Int) (h : Ints F w A l) (hl : l.length ≤ 100000000) :
    Calls Try.prog 96 #[.slice A l.length c, .int .i64 n] w (NewR w (putL n l)) := by
  go_enter Try.func96, Try.ntmps96
  go_wp2_with fail
  refine (rputL F _ A c l n h hl).mono ?_
  rintro e w1 ⟨A1, c1, rfl, ho1, hu1⟩
  go_wp2
  go_ret
  exact ⟨A1, c1, rfl, ho1, hu1⟩
end Go.Proofs.Ytmnhgdedkniafaa

/- Digraphs, plain: arcs in order, and the rows that hold them. -/
namespace Go.Proofs.Ytmnhgdedkniafaa
set_option linter.unusedVariables false
open Go.RowKit
/-! lists in strict order -/
theorem eq_of_strict {α : Type} {r : α → α → Prop} (irr : ∀ a, ¬ r a a) (tr : ∀ a b c, r a b → r b c → r a c) : ∀ {l m : List α}, l.Pairwise r → m.Pairwise r → (∀ x, x ∈ l ↔ x ∈ m) → l = m
  | [], [], _, _, _ => rfl
  | [], b :: m, _, _, h => absurd ((h b).2 List.mem_cons_self) (by simp)
  | a :: l, [], _, _, h => absurd ((h a).1 List.mem_cons_self) (by simp)
  | a :: l, b :: m, hl, hm, h => by
    have hl' := List.pairwise_cons.1 hl
    have hm' := List.pairwise_cons.1 hm
    have hab : a = b := by
      rcases List.mem_cons.1 ((h a).1 List.mem_cons_self) with e | e
      · exact e
      rcases List.mem_cons.1 ((h b).2 List.mem_cons_self) with f | f
      · exact f.symm
      exact absurd (tr _ _ _ (hm'.1 a e) (hl'.1 b f)) (irr b)
    subst hab
    have : l = m := eq_of_strict irr tr hl'.2 hm'.2 fun x => by
      constructor
      · intro hx
        rcases List.mem_cons.1 ((h x).1 (List.mem_cons_of_mem _ hx)) with e | e
        · subst e; exact absurd (hl'.1 x hx) (irr x)
        · exact e
      · intro hx
        rcases List.mem_cons.1 ((h x).2 (List.mem_cons_of_mem _ hx)) with e | e
        · subst e; exact absurd (hm'.1 x hx) (irr x)
        · exact e
    rw [this]
theorem rises_eq {l m : List Int} (hl : l.Pairwise (· < ·)) (hm : m.Pairwise (· < ·)) (h : ∀ x, x ∈ l ↔ x ∈ m) : l = m :=
  eq_of_strict (r := (· < ·)) (fun a => by omega) (fun a b c => by omega) hl hm h
theorem lessA_iff (a b : HArc) : lessA a b = true ↔ a.f < b.f ∨ (a.f = b.f ∧ (a.kind < b.kind ∨ (a.kind = b.kind ∧ (a.label < b.label ∨ (a.label = b.label ∧ a.t < b.t))))) := by
  unfold lessA
  split
  · split
    · split
      · simp_all
      · simp_all
    · simp_all
  · simp_all
theorem lessA_irr (a : HArc) : ¬ lessA a a = true := by rw [lessA_iff]; omega
theorem lessA_trans (a b c : HArc) (h : lessA a b = true) (k : lessA b c = true) : lessA a c = true := by rw [lessA_iff] at *; omega
theorem lessA_tri (a b : HArc) (h : ¬ lessA a b = true) (k : a ≠ b) : lessA b a = true := by
  rw [lessA_iff] at *
  have : ¬ (a.f = b.f ∧ a.kind = b.kind ∧ a.label = b.label ∧ a.t = b.t) := by
    rintro ⟨e1, e2, e3, e4⟩
    obtain ⟨af, at', ak, al⟩ := a
    obtain ⟨bf, bt, bk, bl⟩ := b
    simp only at e1 e2 e3 e4
    subst e1 e2 e3 e4
    exact k rfl
  omega
def sortedA (q : List HArc) : Prop := q.Pairwise fun a b => lessA a b = true
theorem sortedA_eq {l m : List HArc} (hl : sortedA l) (hm : sortedA m) (h : ∀ x, x ∈ l ↔ x ∈ m) : l = m := eq_of_strict lessA_irr lessA_trans hl hm h
/-- an arc among some in order: what is left to do -/
def putAT (a : HArc) (done : Bool) (out : List HArc) : List HArc → List HArc
  | [] => if done then out else out ++ [a]
  | x :: l => putAT a (done || !lessA x a) ((if !done && !lessA x a then out ++ [a] else out) ++ (if x = a then [] else [x])) l
def putA (a : HArc) : List HArc → List HArc
  | [] => [a]
  | x :: l => if lessA x a = true then x :: putA a l else a :: (x :: l).filter (fun y => !(y == a))
theorem mem_putA (a b : HArc) : ∀ l, b ∈ putA a l ↔ b = a ∨ b ∈ l
  | [] => by simp [putA]
  | x :: l => by
    have ih := mem_putA a b l
    unfold putA
    split
    · simp only [List.mem_cons, ih]; grind
    · rw [List.mem_cons, List.mem_filter]
      by_cases h : b = a <;> simp [h]
theorem putA_sorted (a : HArc) : ∀ l, sortedA l → sortedA (putA a l)
  | [], _ => by simp [putA, sortedA]
  | x :: l, h => by
    have h' := List.pairwise_cons.1 h
    unfold putA
    split
    · rename_i hx
      refine List.pairwise_cons.2 ⟨fun b hb => ?_, putA_sorted a l h'.2⟩
      rcases (mem_putA a b l).1 hb with rfl | h2
      · exact hx
      · exact h'.1 b h2
    · rename_i hx
      refine List.pairwise_cons.2 ⟨fun b hb => ?_, h.filter _⟩
      rw [List.mem_filter] at hb
      have h1 : b ≠ a := by simpa using hb.2
      by_cases hxa : x = a
      · subst hxa
        rcases List.mem_cons.1 hb.1 with rfl | h2
        · exact absurd rfl h1
        · exact h'.1 b h2
      · have h3 := lessA_tri x a hx hxa
        rcases List.mem_cons.1 hb.1 with rfl | h2
        · exact h3
        · exact lessA_trans _ _ _ h3 (h'.1 b h2)
theorem putA_len (a : HArc) (l : List HArc) : (putA a l).length ≤ l.length + 1 := by
  induction l with
  | nil => simp [putA]
  | cons x l ih =>
    unfold putA
    split
    · simp only [List.length_cons] at *; omega
    · have := List.length_filter_le (fun y => !(y == a)) (x :: l)
      simp only [List.length_cons] at *; omega
theorem putA_new (a : HArc) : ∀ l, a ∉ l → (putA a l).length = l.length + 1
  | [], _ => by simp [putA]
  | x :: l, h => by
    have ih := putA_new a l (fun e => h (List.mem_cons_of_mem _ e))
    unfold putA
    split
    · simp only [List.length_cons, ih]
    · rw [List.filter_eq_self.2 (fun y hy => by
        have : y ≠ a := fun e => h (e ▸ hy)
        simpa using this)]
      simp
theorem putAT_true (a : HArc) : ∀ (l out : List HArc), putAT a true out l = out ++ l.filter fun y => !(y == a)
  | [], out => by simp [putAT]
  | x :: l, out => by
    show putAT a true ((if !true && !lessA x a then out ++ [a] else out) ++ (if x = a then [] else [x])) l = _
    rw [putAT_true a l]
    by_cases h : x = a
    · subst h; simp
    · have : (x == a) = false := by simpa using h
      simp [h]
theorem putAT_false (a : HArc) : ∀ (l out : List HArc), putAT a false out l = out ++ putA a l
  | [], out => by simp [putAT, putA]
  | x :: l, out => by
    show putAT a (false || !lessA x a) ((if !false && !lessA x a then out ++ [a] else out) ++ (if x = a then [] else [x])) l = _
    unfold putA
    by_cases h : lessA x a = true
    · rw [if_pos h, h]
      show putAT a false (out ++ (if x = a then [] else [x])) l = _
      rw [if_neg (show ¬ x = a from fun e => lessA_irr a (e ▸ h)), putAT_false a l]
      simp
    · have hf : lessA x a = false := by simpa using h
      rw [if_neg h, hf]
      show putAT a true ((out ++ [a]) ++ (if x = a then [] else [x])) l = _
      rw [putAT_true]
      by_cases h2 : x = a
      · subst h2; simp
      · simp [h2]
theorem putAT_eq (a : HArc) (l : List HArc) : putAT a false [] l = putA a l := by rw [putAT_false]; rfl
/-- the nodes next to one, by the document -/
def nxS (node : Int) (back : Bool) (s : List Int) : List HArc → List Int
  | [] => s
  | x :: l => nxS node back (if back = true then (if x.t = node then putL x.f s else s) else (if x.f = node then putL x.t s else s)) l
def nxA (node : Int) (back : Bool) (p : List HArc) : List Int := nxS node back [] p
theorem mem_nxS (node : Int) (back : Bool) (v : Int) : ∀ (l : List HArc) (s : List Int), v ∈ nxS node back s l ↔ v ∈ s ∨ ∃ x ∈ l, (if back then x.t = node ∧ v = x.f else x.f = node ∧ v = x.t)
  | [], s => by simp [nxS]
  | x :: l, s => by
    show v ∈ nxS node back (if back = true then (if x.t = node then putL x.f s else s) else (if x.f = node then putL x.t s else s)) l ↔ _
    rw [mem_nxS node back v l]
    cases back
    · by_cases h : x.f = node <;> simp [h, mem_putL] <;> grind
    · by_cases h : x.t = node <;> simp [h, mem_putL] <;> grind
theorem nxS_lt (node : Int) (back : Bool) : ∀ (l : List HArc) (s : List Int), s.Pairwise (· < ·) → (nxS node back s l).Pairwise (· < ·)
  | [], _, h => h
  | x :: l, s, h => by
    show (nxS node back (if back = true then (if x.t = node then putL x.f s else s) else (if x.f = node then putL x.t s else s)) l).Pairwise (· < ·)
    apply nxS_lt node back l
    cases back
    · by_cases h2 : x.f = node
      · simpa [h2] using putL_lt _ _ h
      · simpa [h2] using h
    · by_cases h2 : x.t = node
      · simpa [h2] using putL_lt _ _ h
      · simpa [h2] using h
theorem nxS_len (node : Int) (back : Bool) : ∀ (l : List HArc) (s : List Int), (nxS node back s l).length ≤ s.length + l.length
  | [], s => by simp [nxS]
  | x :: l, s => by
    show (nxS node back (if back = true then (if x.t = node then putL x.f s else s) else (if x.f = node then putL x.t s else s)) l).length ≤ _
    have := nxS_len node back l (if back = true then (if x.t = node then putL x.f s else s) else (if x.f = node then putL x.t s else s))
    have h1 := putL_len x.f s
    have h2 := putL_len x.t s
    have : (if back = true then (if x.t = node then putL x.f s else s) else (if x.f = node then putL x.t s else s)).length ≤ s.length + 1 := by
      split <;> split <;> omega
    simp only [List.length_cons]
    omega
/-! rows of ends -/
theorem cmpD_irr (a : DEnd) : ¬ cmpD a a < 0 := by rw [cmpD_lt]; omega
theorem cmpD_tri (a b : DEnd) (h : ¬ cmpD a b < 0) (k : a ≠ b) : cmpD b a < 0 := by
  rw [cmpD_lt] at *
  have : ¬ (a.kind = b.kind ∧ a.label = b.label ∧ a.node = b.node) := by
    rintro ⟨e1, e2, e3⟩
    obtain ⟨ak, al, an⟩ := a
    obtain ⟨bk, bl, bn⟩ := b
    simp only at e1 e2 e3
    subst e1 e2 e3
    exact k rfl
  omega
theorem mem_putE (l : List DEnd) (e x : DEnd) : x ∈ putE l e ↔ x = e ∨ x ∈ l := by
  unfold putE insAt
  have := List.take_append_drop (posD l e) l
  have h2 : x ∈ l ↔ x ∈ l.take (posD l e) ∨ x ∈ l.drop (posD l e) := by rw [← List.mem_append, this]
  rw [h2]
  simp only [List.mem_append, List.mem_singleton]
  grind
theorem mem_take_lt {l : List DEnd} {p : Nat} {x : DEnd} (h : x ∈ l.take p) : ∃ k, ∃ hk : k < l.length, k < p ∧ l[k] = x := by
  obtain ⟨k, hk, rfl⟩ := List.mem_iff_getElem.1 h
  rw [List.length_take] at hk
  exact ⟨k, by omega, by omega, by simp⟩
theorem mem_drop_ge {l : List DEnd} {p : Nat} {x : DEnd} (h : x ∈ l.drop p) : ∃ k, ∃ hk : k < l.length, p ≤ k ∧ l[k] = x := by
  obtain ⟨k, hk, rfl⟩ := List.mem_iff_getElem.1 h
  rw [List.length_drop] at hk
  exact ⟨p + k, by omega, by omega, by simp⟩
theorem putE_rise {l : List DEnd} (h : riseD l) {e : DEnd} (hn : e ∉ l) : riseD (putE l e) := by
  have hp := posD_parts h e
  unfold putE insAt riseD
  rw [List.pairwise_append, List.pairwise_append]
  have h1 : (l.take (posD l e) ++ l.drop (posD l e)).Pairwise fun a b => cmpD a b < 0 := by rw [List.take_append_drop]; exact h
  rw [List.pairwise_append] at h1
  have hd : ∀ x ∈ l.drop (posD l e), cmpD e x < 0 := fun x hx => by
    obtain ⟨k, hk, hkp, rfl⟩ := mem_drop_ge hx
    exact cmpD_tri _ _ (fun e2 => by have := (hp.2 k hk).1 e2; omega) (fun e2 => hn (e2 ▸ List.getElem_mem hk))
  have ht : ∀ x ∈ l.take (posD l e), cmpD x e < 0 := fun x hx => by
    obtain ⟨k, hk, hkp, rfl⟩ := mem_take_lt hx
    exact (hp.2 k hk).2 hkp
  refine ⟨⟨h1.1, List.pairwise_singleton _ _, fun a ha b hb => ?_⟩, h1.2.1, fun a ha b hb => ?_⟩
  · rw [List.mem_singleton] at hb
    subst hb
    exact ht a ha
  · rcases List.mem_append.1 ha with ha | ha
    · exact h1.2.2 a ha b hb
    · rw [List.mem_singleton] at ha
      subst ha
      exact hd b hb
theorem takeE_rise {l : List DEnd} (h : riseD l) (e : DEnd) : riseD (takeE l e) := by
  unfold takeE delAt riseD
  have h1 : (l.take (posD l e) ++ l.drop (posD l e)).Pairwise fun a b => cmpD a b < 0 := by rw [List.take_append_drop]; exact h
  rw [List.pairwise_append] at h1
  rw [List.pairwise_append]
  have hs : (l.drop (posD l e + 1)).Sublist (l.drop (posD l e)) := by
    have : l.drop (posD l e + 1) = (l.drop (posD l e)).drop 1 := by rw [List.drop_drop]
    rw [this]; exact List.drop_sublist _ _
  exact ⟨h1.1, h1.2.1.sublist hs, fun a ha b hb => h1.2.2 a ha b (hs.subset hb)⟩
theorem mem_takeE {l : List DEnd} (h : riseD l) {e : DEnd} (hm : e ∈ l) (x : DEnd) : x ∈ takeE l e ↔ x ≠ e ∧ x ∈ l := by
  have hlt := posD_lt h hm
  have hat := isAt_mem h e
  rw [decide_eq_true hm] at hat
  have he : l[posD l e] = e := by
    unfold isAt at hat
    rw [List.getElem?_eq_getElem hlt] at hat
    exact (cmpD_eq _ _).1 (by simpa using hat)
  have hsplit : l = l.take (posD l e) ++ e :: l.drop (posD l e + 1) := by
    have h1 := List.take_append_drop (posD l e) l
    rw [List.drop_eq_getElem_cons hlt, he] at h1
    exact h1.symm
  have hpw : (l.take (posD l e) ++ e :: l.drop (posD l e + 1)).Pairwise fun a b => cmpD a b < 0 := by rw [← hsplit]; exact h
  rw [List.pairwise_append] at hpw
  have hc := List.pairwise_cons.1 hpw.2.1
  have hx : x ∈ l ↔ x ∈ l.take (posD l e) ∨ x = e ∨ x ∈ l.drop (posD l e + 1) := by
    conv => lhs; rw [hsplit]
    rw [List.mem_append, List.mem_cons]
  rw [hx]
  unfold takeE delAt
  rw [List.mem_append]
  constructor
  · rintro (h1 | h1)
    · exact ⟨fun e2 => cmpD_irr e (by have := hpw.2.2 x h1 e List.mem_cons_self; rwa [e2] at this), .inl h1⟩
    · exact ⟨fun e2 => cmpD_irr e (by have := hc.1 x h1; rwa [e2] at this), .inr (.inr h1)⟩
  · rintro ⟨h1, h2 | h2 | h2⟩
    · exact .inl h2
    · exact absurd h2 h1
    · exact .inr h2
end Go.Proofs.Ytmnhgdedkniafaa
