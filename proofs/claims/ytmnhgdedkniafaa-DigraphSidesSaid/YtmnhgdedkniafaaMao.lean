/- Digraphs: lists of arcs; when two are one. -/
import Derived.Laws.StructEq
import Derived.IntWalk
import Derived.Test.YtmnhgdedkniafaaMan
namespace Go.Proofs.Ytmnhgdedkniafaa
set_option linter.unusedVariables false
open Go.RowKit
/-- arcs lie there -/
def ArcsL (F : Nat → Prop) (w : World) (A : Option Addr) (l : List HArc) : Prop := Recs F w A 4 (l.map HArc.cells)
theorem arc_eq (w : World) (a b c d a' b' c' d' : Int) :
    (Op.equalIn 10000 63 (.agg #[.int .i64 a, .int .i64 b, .int .i64 c, .int .i64 d]) (.agg #[.int .i64 a', .int .i64 b', .int .i64 c', .int .i64 d'])).run Try.prog w = .ok (decide ((⟨a, b, c, d⟩ : HArc) = ⟨a', b', c', d'⟩)) w := by
  rw [run_equalIn_struct w _ _ _ _ (by kernel_rfl) (by kernel_rfl)]
  have hI : ∀ (w : World) (d : Nat) (x y : Int), (Op.equalIn (d + 1) 3 (.int .i64 x) (.int .i64 y)).run Try.prog w = .ok (x == y) w := fun w d x y => run_equalIn_int w d _ _ _ x y Try.underlying3
  by_cases h1 : a = a' <;> by_cases h2 : b = b' <;> by_cases h3 : c = c' <;> by_cases h4 : d = d' <;>
    simp [Program.fieldsOf, Try.underlying63, Op.eqFields, part, hI, h1, h2, h3, h4, Result.andThen]
theorem arc_neq (w : World) (x y : HArc) : (binOp .neq 63 (.agg #[.int .i64 x.f, .int .i64 x.t, .int .i64 x.kind, .int .i64 x.label]) (.agg #[.int .i64 y.f, .int .i64 y.t, .int .i64 y.kind, .int .i64 y.label])).run Try.prog w = .ok (.bool (x != y)) w := by
  obtain ⟨a, b, c, d⟩ := x
  obtain ⟨a', b', c', d'⟩ := y
  rw [run_neq_struct, arc_eq]
  simp only [Result.andThen]
  by_cases h : (⟨a, b, c, d⟩ : HArc) = ⟨a', b', c', d'⟩ <;> simp [h]
theorem ArcsL.at_ {F : Nat → Prop} {w : World} {A : Option Addr} {l : List HArc} (h : ArcsL F w A l) {k : Nat} (hk : k < l.length) : ∃ ad, A = some ad ∧
    w.cell? (ad.add (k * 4)) = some (.int .i64 l[k].f) ∧ w.cell? ⟨(ad.add (k * 4)).block, (ad.add (k * 4)).off + 1, none⟩ = some (.int .i64 l[k].t) ∧
    w.cell? ⟨(ad.add (k * 4)).block, (ad.add (k * 4)).off + 2, none⟩ = some (.int .i64 l[k].kind) ∧ w.cell? ⟨(ad.add (k * 4)).block, (ad.add (k * 4)).off + 3, none⟩ = some (.int .i64 l[k].label) := by
  have hk' : k < (l.map HArc.cells).length := by simpa using hk
  obtain ⟨ad, e, _, _, hc⟩ := Recs.at_ h hk'
  rw [List.getElem_map] at hc
  exact ⟨ad, e, by simpa using hc 0 _ rfl, by simpa using hc 1 _ rfl, by simpa using hc 2 _ rfl, by simpa using hc 3 _ rfl⟩
theorem ArcsL.upd {F S : Nat → Prop} {w w' : World} {A : Option Addr} {l : List HArc} (h : ArcsL F w A l) (k : Upd S w w') (hn : ∀ i, F i → ¬ S i) : ArcsL F w' A l := Recs.upd h k hn

theorem samearcs (w : World) (F G : Nat → Prop) (A B : Option Addr) (c d : Nat) (xs ys : List HArc) (hx : ArcsL F w A xs) (hy : ArcsL G w B ys) (hl : xs.length ≤ 4398046511103) (hl2 : ys.length ≤ 4398046511103) :
    Calls Try.prog 50 #[.slice A xs.length c, .slice B ys.length d] w fun e w' => e = .returned (.bool (xs == ys)) ∧ Upd No w w' := by
  have qN := arc_neq
  have qG : ∀ (op : BinOp) (x y : Operand) (xs ys : Array Value) (w : World), (eqGuard op 63 x y (.agg xs) (.agg ys)).run Try.prog w = .ok () w := fun op x y xs ys w => run_eqGuard_agg w op _ x y xs ys (by kernel_rfl)
  by_cases hne : xs.length = ys.length
  · have hb : ((xs.length : Int) != (ys.length : Int)) = false := by rw [hne]; simp
    go_enter Try.func50, Try.ntmps50
    have Hne := Lib.hid hne
    clear hne
    go_wp2
    go_loopg [5, 13] xs.length (fun gk j i wr => ∃ k : Nat, k + gk = xs.length ∧ i = .int .i64 k ∧ xs.take k = ys.take k ∧ Upd No w wr)
    case atStart => exact ⟨0, by omega, rfl, by simp, Upd.refl _ _⟩
    case round =>
      obtain ⟨k, hgk, rfl, hs, hu⟩ := hrel
      have Hs := Lib.hid hs
      clear hs
      by_cases hlt : k < xs.length
      · have hlt2 : k < ys.length := by have := Hne.out; omega
        obtain ⟨ax, rfl, hc0, hc1, hc2, hc3⟩ := (hx.upd hu (fun _ _ => id)).at_ hlt
        obtain ⟨ay, rfl, hd0, hd1, hd2, hd3⟩ := (hy.upd hu (fun _ _ => id)).at_ hlt2
        have b1 : (0 : Int) ≤ (k : Int) := Int.natCast_nonneg _
        have b2 : (k : Int) < (xs.length : Int) := by omega
        have b3 : (k : Int) < (ys.length : Int) := by omega
        by_cases he : xs[k] = ys[k]
        · have heb : (xs[k] != ys[k]) = false := by rw [he]; simp
          have He := Lib.hid he
          clear he
          go_wp2
          go_quiet (fail)
          go_wp2
          go_roundg (gk - 1)
          case measure => omega
          case rel =>
            refine ⟨k + 1, by omega, by go_num, ?_, hu.drewN _⟩
            rw [List.take_succ_eq_append_getElem hlt, List.take_succ_eq_append_getElem hlt2, Hs.out, He.out]
        · have heb : (xs[k] != ys[k]) = true := by simpa using he
          have He := Lib.hid he
          clear he
          go_wp2
          go_quiet (fail)
          go_wp2
          go_ret
          have hne2 : (xs == ys) = false := by
            rw [beq_eq_false_iff_ne]
            rintro rfl
            exact He.out rfl
          exact ⟨by rw [hne2]; rfl, hu.drewN _⟩
      · obtain rfl : k = xs.length := by omega
        go_wp2
        go_ret
        have h2 := Hs.out
        rw [List.take_length, Hne.out, List.take_length] at h2
        exact ⟨by rw [h2, beq_self_eq_true]; rfl, hu⟩
  · have hb : ((xs.length : Int) != (ys.length : Int)) = true := by rw [bne_iff_ne]; omega
    have hf : (xs == ys) = false := by rw [beq_eq_false_iff_ne]; rintro rfl; exact hne rfl
    have Hf := Lib.hid hf
    clear hf
    go_enter Try.func50, Try.ntmps50
    go_wp2
    go_ret
    exact ⟨by rw [Hf.out]; rfl, Upd.refl _ _⟩
end Go.Proofs.Ytmnhgdedkniafaa

/- The document's digraph: whether an arc is among some. -/
namespace Go.Proofs.Ytmnhgdedkniafaa
set_option linter.unusedVariables false
open Go.RowKit
end Go.Proofs.Ytmnhgdedkniafaa

/- The document's digraph: arcs left out, arcs from a node. -/
namespace Go.Proofs.Ytmnhgdedkniafaa
set_option linter.unusedVariables false
open Go.RowKit
end Go.Proofs.Ytmnhgdedkniafaa

/- The document's digraph: an arc left out. -/
namespace Go.Proofs.Ytmnhgdedkniafaa
set_option linter.unusedVariables false
open Go.RowKit
end Go.Proofs.Ytmnhgdedkniafaa

/- The document's digraph: the arcs of a mask. -/
namespace Go.Proofs.Ytmnhgdedkniafaa
set_option linter.unusedVariables false
open Go.RowKit
end Go.Proofs.Ytmnhgdedkniafaa

/- The document's digraph: the order of arcs; how many nodes there may be. -/
namespace Go.Proofs.Ytmnhgdedkniafaa
set_option linter.unusedVariables false
open Go.RowKit
def lessA (a b : HArc) : Bool := if a.f = b.f then (if a.kind = b.kind then (if a.label = b.label then decide (a.t < b.t) else decide (a.label < b.label)) else decide (a.kind < b.kind)) else decide (a.f < b.f)
end Go.Proofs.Ytmnhgdedkniafaa

/- A nil digraph. -/
namespace Go.Proofs.Ytmnhgdedkniafaa
set_option linter.unusedVariables false
open Go.RowKit
theorem dnodes0 (w : World) : Calls Try.prog 47 #[.pointer none] w fun e w' => e = .returned (.int .i64 0) ∧ w = w' := by
  go_enter Try.func47, Try.ntmps47
  go_wp2
  go_ret
  exact ⟨rfl, rfl⟩
theorem dnode0 (w : World) (i : Int) : Calls Try.prog 107 #[.pointer none, .int .i64 i] w fun e w' => e = .returned (.bool false) ∧ w = w' := by
  have HN := Lib.hid (dnodes0 w)
  by_cases h0 : 0 ≤ i
  · have hb : decide (i < 0) = false := decide_eq_false (by omega)
    go_enter Try.func107, Try.ntmps107
    go_wp2_with fail
    refine (HN.out).mono ?_
    rintro e w1 ⟨rfl, rfl⟩
    go_wp2
    go_ret
    exact ⟨by simp [hb], rfl⟩
  · have hb : decide (0 ≤ i) = false := decide_eq_false h0
    clear h0
    go_enter Try.func107, Try.ntmps107
    go_wp2
    go_ret
    exact ⟨rfl, rfl⟩
theorem dnext0 (w : World) (i mask : Int) : Calls Try.prog 54 #[.pointer none, .int .i64 i, .int .i64 mask] w (NewI w []) := by
  have HN := Lib.hid (dnode0 w i)
  go_enter Try.func54, Try.ntmps54
  go_wp2_with fail
  refine (HN.out).mono ?_
  rintro e w1 ⟨rfl, rfl⟩
  go_wp2
  go_ret
  exact newI_nil _ _ (Upd.refl _ _)
theorem dright0 (w : World) (a : HArc) : Calls Try.prog 100 #[.pointer none, .agg a.cells.toArray] w fun e w' => e = .returned (.bool false) ∧ Upd No w w' := by
  have HN := Lib.hid (fun W => dnode0 W a.f)
  have U0 := Lib.hid ((Upd.refl No w).alloc (.cells a.cells.toArray 63))
  unfold HArc.cells at *
  go_enter Try.func100, Try.ntmps100
  go_wp2_with fail
  refine (HN.out _).mono ?_
  rintro e w1 ⟨rfl, rfl⟩
  go_wp2
  go_ret
  exact ⟨rfl, U0.out⟩
theorem dhas0 (w : World) (a : HArc) : Calls Try.prog 49 #[.pointer none, .agg a.cells.toArray] w fun e w' => e = .returned (.bool false) ∧ Upd No w w' := by
  have HN := Lib.hid (fun W => dright0 W a)
  have U0 := Lib.hid ((Upd.refl No w).alloc (.cells a.cells.toArray 63))
  unfold HArc.cells at *
  go_enter Try.func49, Try.ntmps49
  go_wp2_with fail
  refine (HN.out _).mono ?_
  rintro e w1 ⟨rfl, hu⟩
  have HU := Lib.hid (U0.out.trans hu)
  clear hu
  go_wp2
  go_ret
  exact ⟨rfl, HU.out⟩
theorem dadd0 (w : World) (a : HArc) : Calls Try.prog 43 #[.pointer none, .agg a.cells.toArray] w fun e w' => e = .returned (.int .i64 1) ∧ Upd No w w' := by
  have HN := Lib.hid (fun W => dright0 W a)
  have U0 := Lib.hid ((Upd.refl No w).alloc (.cells a.cells.toArray 63))
  unfold HArc.cells at *
  go_enter Try.func43, Try.ntmps43
  go_wp2_with fail
  refine (HN.out _).mono ?_
  rintro e w1 ⟨rfl, hu⟩
  have HU := Lib.hid (U0.out.trans hu)
  clear hu
  go_wp2
  go_ret
  exact ⟨rfl, HU.out⟩
theorem ddrop0 (w : World) (a : HArc) : Calls Try.prog 45 #[.pointer none, .agg a.cells.toArray] w fun e w' => e = .returned (.int .i64 3) ∧ Upd No w w' := by
  have HN := Lib.hid (fun W => dhas0 W a)
  have U0 := Lib.hid ((Upd.refl No w).alloc (.cells a.cells.toArray 63))
  unfold HArc.cells at *
  go_enter Try.func45, Try.ntmps45
  go_wp2_with fail
  refine (HN.out _).mono ?_
  rintro e w1 ⟨rfl, hu⟩
  have HU := Lib.hid (U0.out.trans hu)
  clear hu
  go_wp2
  go_ret
  exact ⟨rfl, HU.out⟩
end Go.Proofs.Ytmnhgdedkniafaa

/- The document's own small walks over numbers: where one stands, how often, put among rising ones. -/
namespace Go.Proofs.Ytmnhgdedkniafaa
set_option linter.unusedVariables false
open Go.RowKit
def putL (n : Int) : List Int → List Int
  | [] => [n]
  | x :: l => if n ≤ x then n :: (x :: l).filter (fun y => !(y == n)) else x :: putL n l
theorem mem_putL (n a : Int) : ∀ l, a ∈ putL n l ↔ a = n ∨ a ∈ l
  | [] => by simp [putL]
  | x :: l => by
    have ih := mem_putL n a l
    unfold putL
    split
    · rw [List.mem_cons, List.mem_filter]
      by_cases h : a = n <;> simp [h]
    · simp only [List.mem_cons, ih]; grind
theorem putL_lt (n : Int) : ∀ l, l.Pairwise (· < ·) → (putL n l).Pairwise (· < ·)
  | [], _ => by simp [putL]
  | x :: l, h => by
    have h' := List.pairwise_cons.1 h
    unfold putL
    split
    · refine List.pairwise_cons.2 ⟨fun a ha => ?_, h.filter _⟩
      rw [List.mem_filter] at ha
      have h1 : a ≠ n := by simpa using ha.2
      rcases List.mem_cons.1 ha.1 with rfl | h2
      · omega
      · have := h'.1 a h2; omega
    · refine List.pairwise_cons.2 ⟨fun a ha => ?_, putL_lt n l h'.2⟩
      rcases (mem_putL n a l).1 ha with rfl | h2
      · omega
      · exact h'.1 a h2
theorem putL_len (n : Int) (l : List Int) : (putL n l).length ≤ l.length + 1 := by
  induction l with
  | nil => simp [putL]
  | cons x l ih =>
    unfold putL
    split
    · have := List.length_filter_le (fun y => !(y == n)) (x :: l)
      simp only [List.length_cons] at *; omega
    · simp only [List.length_cons] at *; omega
end Go.Proofs.Ytmnhgdedkniafaa

/- Digraphs, plain: arcs in order, and the rows that hold them. -/
namespace Go.Proofs.Ytmnhgdedkniafaa
set_option linter.unusedVariables false
open Go.RowKit
/-! lists in strict order -/
theorem eq_of_strict {α : Type} {r : α → α → Prop} (irr : ∀ a, ¬ r a a) (tr : ∀ a b c, r a b → r b c → r a c) : ∀ {l m : List α}, l.Pairwise r → m.Pairwise r → (∀ x, x ∈ l ↔ x ∈ m) → l = m
  | [], [], _, _, _ => rfl
  | [], b :: m, _, _, h => absurd ((h b).2 List.mem_cons_self) (by simp)
  | a :: l, [], _, _, h => absurd ((h a).1 List.mem_cons_self) (by simp)
  | a :: l, b :: m, hl, hm, h => by
    have hl' := List.pairwise_cons.1 hl
    have hm' := List.pairwise_cons.1 hm
    have hab : a = b := by
      rcases List.mem_cons.1 ((h a).1 List.mem_cons_self) with e | e
      · exact e
      rcases List.mem_cons.1 ((h b).2 List.mem_cons_self) with f | f
      · exact f.symm
      exact absurd (tr _ _ _ (hm'.1 a e) (hl'.1 b f)) (irr b)
    subst hab
    have : l = m := eq_of_strict irr tr hl'.2 hm'.2 fun x => by
      constructor
      · intro hx
        rcases List.mem_cons.1 ((h x).1 (List.mem_cons_of_mem _ hx)) with e | e
        · subst e; exact absurd (hl'.1 x hx) (irr x)
        · exact e
      · intro hx
        rcases List.mem_cons.1 ((h x).2 (List.mem_cons_of_mem _ hx)) with e | e
        · subst e; exact absurd (hm'.1 x hx) (irr x)
        · exact e
    rw [this]
theorem rises_eq {l m : List Int} (hl : l.Pairwise (· < ·)) (hm : m.Pairwise (· < ·)) (h : ∀ x, x ∈ l ↔ x ∈ m) : l = m :=
  eq_of_strict (r := (· < ·)) (fun a => by omega) (fun a b c => by omega) hl hm h
theorem lessA_iff (a b : HArc) : lessA a b = true ↔ a.f < b.f ∨ (a.f = b.f ∧ (a.kind < b.kind ∨ (a.kind = b.kind ∧ (a.label < b.label ∨ (a.label = b.label ∧ a.t < b.t))))) := by
  unfold lessA
  split
  · split
    · split
      · simp_all
      · simp_all
    · simp_all
  · simp_all
theorem lessA_irr (a : HArc) : ¬ lessA a a = true := by rw [lessA_iff]; omega
theorem lessA_trans (a b c : HArc) (h : lessA a b = true) (k : lessA b c = true) : lessA a c = true := by rw [lessA_iff] at *; omega
theorem lessA_tri (a b : HArc) (h : ¬ lessA a b = true) (k : a ≠ b) : lessA b a = true := by
  rw [lessA_iff] at *
  have : ¬ (a.f = b.f ∧ a.kind = b.kind ∧ a.label = b.label ∧ a.t = b.t) := by
    rintro ⟨e1, e2, e3, e4⟩
    obtain ⟨af, at', ak, al⟩ := a
    obtain ⟨bf, bt, bk, bl⟩ := b
    simp only at e1 e2 e3 e4
    subst e1 e2 e3 e4
    exact k rfl
  omega
def sortedA (q : List HArc) : Prop := q.Pairwise fun a b => lessA a b = true
theorem sortedA_eq {l m : List HArc} (hl : sortedA l) (hm : sortedA m) (h : ∀ x, x ∈ l ↔ x ∈ m) : l = m := eq_of_strict lessA_irr lessA_trans hl hm h
def putA (a : HArc) : List HArc → List HArc
  | [] => [a]
  | x :: l => if lessA x a = true then x :: putA a l else a :: (x :: l).filter (fun y => !(y == a))
theorem mem_putA (a b : HArc) : ∀ l, b ∈ putA a l ↔ b = a ∨ b ∈ l
  | [] => by simp [putA]
  | x :: l => by
    have ih := mem_putA a b l
    unfold putA
    split
    · simp only [List.mem_cons, ih]; grind
    · rw [List.mem_cons, List.mem_filter]
      by_cases h : b = a <;> simp [h]
theorem putA_sorted (a : HArc) : ∀ l, sortedA l → sortedA (putA a l)
  | [], _ => by simp [putA, sortedA]
  | x :: l, h => by
    have h' := List.pairwise_cons.1 h
    unfold putA
    split
    · rename_i hx
      refine List.pairwise_cons.2 ⟨fun b hb => ?_, putA_sorted a l h'.2⟩
      rcases (mem_putA a b l).1 hb with rfl | h2
      · exact hx
      · exact h'.1 b h2
    · rename_i hx
      refine List.pairwise_cons.2 ⟨fun b hb => ?_, h.filter _⟩
      rw [List.mem_filter] at hb
      have h1 : b ≠ a := by simpa using hb.2
      by_cases hxa : x = a
      · subst hxa
        rcases List.mem_cons.1 hb.1 with rfl | h2
        · exact absurd rfl h1
        · exact h'.1 b h2
      · have h3 := lessA_tri x a hx hxa
        rcases List.mem_cons.1 hb.1 with rfl | h2
        · exact h3
        · exact lessA_trans _ _ _ h3 (h'.1 b h2)
theorem putA_len (a : HArc) (l : List HArc) : (putA a l).length ≤ l.length + 1 := by
  induction l with
  | nil => simp [putA]
  | cons x l ih =>
    unfold putA
    split
    · simp only [List.length_cons] at *; omega
    · have := List.length_filter_le (fun y => !(y == a)) (x :: l)
      simp only [List.length_cons] at *; omega
theorem putA_new (a : HArc) : ∀ l, a ∉ l → (putA a l).length = l.length + 1
  | [], _ => by simp [putA]
  | x :: l, h => by
    have ih := putA_new a l (fun e => h (List.mem_cons_of_mem _ e))
    unfold putA
    split
    · simp only [List.length_cons, ih]
    · rw [List.filter_eq_self.2 (fun y hy => by
        have : y ≠ a := fun e => h (e ▸ hy)
        simpa using this)]
      simp
/-- the nodes next to one, by the document -/
def nxS (node : Int) (back : Bool) (s : List Int) : List HArc → List Int
  | [] => s
  | x :: l => nxS node back (if back = true then (if x.t = node then putL x.f s else s) else (if x.f = node then putL x.t s else s)) l
def nxA (node : Int) (back : Bool) (p : List HArc) : List Int := nxS node back [] p
theorem mem_nxS (node : Int) (back : Bool) (v : Int) : ∀ (l : List HArc) (s : List Int), v ∈ nxS node back s l ↔ v ∈ s ∨ ∃ x ∈ l, (if back then x.t = node ∧ v = x.f else x.f = node ∧ v = x.t)
  | [], s => by simp [nxS]
  | x :: l, s => by
    show v ∈ nxS node back (if back = true then (if x.t = node then putL x.f s else s) else (if x.f = node then putL x.t s else s)) l ↔ _
    rw [mem_nxS node back v l]
    cases back
    · by_cases h : x.f = node <;> simp [h, mem_putL] <;> grind
    · by_cases h : x.t = node <;> simp [h, mem_putL] <;> grind
theorem nxS_lt (node : Int) (back : Bool) : ∀ (l : List HArc) (s : List Int), s.Pairwise (· < ·) → (nxS node back s l).Pairwise (· < ·)
  | [], _, h => h
  | x :: l, s, h => by
    show (nxS node back (if back = true then (if x.t = node then putL x.f s else s) else (if x.f = node then putL x.t s else s)) l).Pairwise (· < ·)
    apply nxS_lt node back l
    cases back
    · by_cases h2 : x.f = node
      · simpa [h2] using putL_lt _ _ h
      · simpa [h2] using h
    · by_cases h2 : x.t = node
      · simpa [h2] using putL_lt _ _ h
      · simpa [h2] using h
theorem nxS_len (node : Int) (back : Bool) : ∀ (l : List HArc) (s : List Int), (nxS node back s l).length ≤ s.length + l.length
  | [], s => by simp [nxS]
  | x :: l, s => by
    show (nxS node back (if back = true then (if x.t = node then putL x.f s else s) else (if x.f = node then putL x.t s else s)) l).length ≤ _
    have := nxS_len node back l (if back = true then (if x.t = node then putL x.f s else s) else (if x.f = node then putL x.t s else s))
    have h1 := putL_len x.f s
    have h2 := putL_len x.t s
    have : (if back = true then (if x.t = node then putL x.f s else s) else (if x.f = node then putL x.t s else s)).length ≤ s.length + 1 := by
      split <;> split <;> omega
    simp only [List.length_cons]
    omega
/-! rows of ends -/
theorem cmpD_irr (a : DEnd) : ¬ cmpD a a < 0 := by rw [cmpD_lt]; omega
theorem cmpD_tri (a b : DEnd) (h : ¬ cmpD a b < 0) (k : a ≠ b) : cmpD b a < 0 := by
  rw [cmpD_lt] at *
  have : ¬ (a.kind = b.kind ∧ a.label = b.label ∧ a.node = b.node) := by
    rintro ⟨e1, e2, e3⟩
    obtain ⟨ak, al, an⟩ := a
    obtain ⟨bk, bl, bn⟩ := b
    simp only at e1 e2 e3
    subst e1 e2 e3
    exact k rfl
  omega
theorem mem_putE (l : List DEnd) (e x : DEnd) : x ∈ putE l e ↔ x = e ∨ x ∈ l := by
  unfold putE insAt
  have := List.take_append_drop (posD l e) l
  have h2 : x ∈ l ↔ x ∈ l.take (posD l e) ∨ x ∈ l.drop (posD l e) := by rw [← List.mem_append, this]
  rw [h2]
  simp only [List.mem_append, List.mem_singleton]
  grind
theorem mem_take_lt {l : List DEnd} {p : Nat} {x : DEnd} (h : x ∈ l.take p) : ∃ k, ∃ hk : k < l.length, k < p ∧ l[k] = x := by
  obtain ⟨k, hk, rfl⟩ := List.mem_iff_getElem.1 h
  rw [List.length_take] at hk
  exact ⟨k, by omega, by omega, by simp⟩
theorem mem_drop_ge {l : List DEnd} {p : Nat} {x : DEnd} (h : x ∈ l.drop p) : ∃ k, ∃ hk : k < l.length, p ≤ k ∧ l[k] = x := by
  obtain ⟨k, hk, rfl⟩ := List.mem_iff_getElem.1 h
  rw [List.length_drop] at hk
  exact ⟨p + k, by omega, by omega, by simp⟩
theorem putE_rise {l : List DEnd} (h : riseD l) {e : DEnd} (hn : e ∉ l) : riseD (putE l e) := by
  have hp := posD_parts h e
  unfold putE insAt riseD
  rw [List.pairwise_append, List.pairwise_append]
  have h1 : (l.take (posD l e) ++ l.drop (posD l e)).Pairwise fun a b => cmpD a b < 0 := by rw [List.take_append_drop]; exact h
  rw [List.pairwise_append] at h1
  have hd : ∀ x ∈ l.drop (posD l e), cmpD e x < 0 := fun x hx => by
    obtain ⟨k, hk, hkp, rfl⟩ := mem_drop_ge hx
    exact cmpD_tri _ _ (fun e2 => by have := (hp.2 k hk).1 e2; omega) (fun e2 => hn (e2 ▸ List.getElem_mem hk))
  have ht : ∀ x ∈ l.take (posD l e), cmpD x e < 0 := fun x hx => by
    obtain ⟨k, hk, hkp, rfl⟩ := mem_take_lt hx
    exact (hp.2 k hk).2 hkp
  refine ⟨⟨h1.1, List.pairwise_singleton _ _, fun a ha b hb => ?_⟩, h1.2.1, fun a ha b hb => ?_⟩
  · rw [List.mem_singleton] at hb
    subst hb
    exact ht a ha
  · rcases List.mem_append.1 ha with ha | ha
    · exact h1.2.2 a ha b hb
    · rw [List.mem_singleton] at ha
      subst ha
      exact hd b hb
theorem takeE_rise {l : List DEnd} (h : riseD l) (e : DEnd) : riseD (takeE l e) := by
  unfold takeE delAt riseD
  have h1 : (l.take (posD l e) ++ l.drop (posD l e)).Pairwise fun a b => cmpD a b < 0 := by rw [List.take_append_drop]; exact h
  rw [List.pairwise_append] at h1
  rw [List.pairwise_append]
  have hs : (l.drop (posD l e + 1)).Sublist (l.drop (posD l e)) := by
    have : l.drop (posD l e + 1) = (l.drop (posD l e)).drop 1 := by rw [List.drop_drop]
    rw [this]; exact List.drop_sublist _ _
  exact ⟨h1.1, h1.2.1.sublist hs, fun a ha b hb => h1.2.2 a ha b (hs.subset hb)⟩
theorem mem_takeE {l : List DEnd} (h : riseD l) {e : DEnd} (hm : e ∈ l) (x : DEnd) : x ∈ takeE l e ↔ x ≠ e ∧ x ∈ l := by
  have hlt := posD_lt h hm
  have hat := isAt_mem h e
  rw [decide_eq_true hm] at hat
  have he : l[posD l e] = e := by
    unfold isAt at hat
    rw [List.getElem?_eq_getElem hlt] at hat
    exact (cmpD_eq _ _).1 (by simpa using hat)
  have hsplit : l = l.take (posD l e) ++ e :: l.drop (posD l e + 1) := by
    have h1 := List.take_append_drop (posD l e) l
    rw [List.drop_eq_getElem_cons hlt, he] at h1
    exact h1.symm
  have hpw : (l.take (posD l e) ++ e :: l.drop (posD l e + 1)).Pairwise fun a b => cmpD a b < 0 := by rw [← hsplit]; exact h
  rw [List.pairwise_append] at hpw
  have hc := List.pairwise_cons.1 hpw.2.1
  have hx : x ∈ l ↔ x ∈ l.take (posD l e) ∨ x = e ∨ x ∈ l.drop (posD l e + 1) := by
    conv => lhs; rw [hsplit]
    rw [List.mem_append, List.mem_cons]
  rw [hx]
  unfold takeE delAt
  rw [List.mem_append]
  constructor
  · rintro (h1 | h1)
    · exact ⟨fun e2 => cmpD_irr e (by have := hpw.2.2 x h1 e List.mem_cons_self; rwa [e2] at this), .inl h1⟩
    · exact ⟨fun e2 => cmpD_irr e (by have := hc.1 x h1; rwa [e2] at this), .inr (.inr h1)⟩
  · rintro ⟨h1, h2 | h2 | h2⟩
    · exact .inl h2
    · exact absurd h2 h1
    · exact .inr h2
end Go.Proofs.Ytmnhgdedkniafaa
