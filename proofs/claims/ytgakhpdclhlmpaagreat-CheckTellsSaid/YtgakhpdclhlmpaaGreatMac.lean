/- Lists of numbers: sorted by putting one after another, each once. -/
import Derived.Lib.SlicesCompact
import Derived.Shelf.SlicesG.Turned
import Derived.Ground.SlgnProg
import Derived.Shelf.SlGeneric
import Derived.Test.YtgakhpdclhlmpaaGreatProg
import Derived.IntWalk
import Derived.Sort.Grow
import Derived.Deep.RegionHeld3
import Derived.Lib.AppendZerosOnto
import Derived.Lib.SliceRun
import Derived.Test.YtgakhpdclhlmpaaGreatMab
namespace Go.Proofs.YtgakhpdclhlmpaaGreat
set_option linter.unusedVariables false
def insK (x : Int) : List Int → List Int
  | [] => [x]
  | y :: l => if x ≤ y then x :: y :: l else y :: insK x l
def sortK : List Int → List Int
  | [] => []
  | x :: l => insK x (sortK l)
theorem insK_perm (x : Int) : ∀ l : List Int, (insK x l).Perm (x :: l)
  | [] => List.Perm.refl _
  | y :: l => by
    unfold insK
    split
    · exact List.Perm.refl _
    · exact ((insK_perm x l).cons y).trans (List.Perm.swap x y l)
theorem sortK_perm : ∀ l : List Int, (sortK l).Perm l
  | [] => List.Perm.refl _
  | x :: l => (insK_perm x _).trans ((sortK_perm l).cons x)
theorem insK_le (x : Int) : ∀ l : List Int, l.Pairwise (· ≤ ·) → (insK x l).Pairwise (· ≤ ·)
  | [], _ => by simp [insK]
  | y :: l, h => by
    rw [List.pairwise_cons] at h
    unfold insK
    split
    · rename_i hxy
      rw [List.pairwise_cons]
      refine ⟨fun a ha => ?_, List.pairwise_cons.2 h⟩
      rcases List.mem_cons.1 ha with rfl | ha
      · exact hxy
      · exact Int.le_trans hxy (h.1 a ha)
    · rename_i hxy
      rw [List.pairwise_cons]
      refine ⟨fun a ha => ?_, insK_le x l h.2⟩
      rcases List.mem_cons.1 ((insK_perm x l).mem_iff.1 ha) with rfl | ha
      · omega
      · exact h.1 a ha
theorem sortK_le : ∀ l : List Int, (sortK l).Pairwise (· ≤ ·)
  | [] => List.Pairwise.nil
  | x :: l => insK_le x _ (sortK_le l)
theorem sortI_le (l : List Int) : (sortI l).Pairwise (· ≤ ·) := by
  have := List.pairwise_mergeSort (le := fun x y : Int => decide (x ≤ y)) (fun a b c h k => by simp only [decide_eq_true_eq] at *; omega) (fun a b => by simp only [Bool.or_eq_true, decide_eq_true_eq]; omega) l
  unfold sortI
  exact this.imp fun h => by simpa using h
theorem sorted_eq {a b : List Int} (h : a.Perm b) (ha : a.Pairwise (· ≤ ·)) (hb : b.Pairwise (· ≤ ·)) : a = b :=
  List.Perm.eq_of_pairwise (le := fun x y => x ≤ y) (fun x y _ _ h1 h2 => Int.le_antisymm h1 h2) ha hb h
theorem sortI_eq (l : List Int) : sortI l = sortK l :=
  sorted_eq (((List.mergeSort_perm _ _)).trans (sortK_perm l).symm) (sortI_le l) (sortK_le l)
/-- of the first k, each once: what is not the one ahead -/
def ddI (l : List Int) : Nat → List Int
  | 0 => []
  | k + 1 => ddI l k ++ (match l[k]? with | none => [] | some x => if k = 0 then [x] else if l[k - 1]? = some x then [] else [x])
theorem ddI_succ (l : List Int) (k : Nat) : ddI l (k + 1) = ddI l k ++ (match l[k]? with | none => [] | some x => if k = 0 then [x] else if l[k - 1]? = some x then [] else [x]) := rfl
theorem compact_upto (l : List Int) : ∀ k, k ≤ l.length → Lib.compactUpTo l.toArray k = ddI l k
  | 0, _ => rfl
  | k + 1, h => by
    rw [Lib.compactUpTo_succ, compact_upto l k (by omega)]
    rw [ddI_succ]
    have hk : l[k]? = some l[k] := List.getElem?_eq_getElem (by omega)
    rw [hk]
    have e1 : l.toArray[k]! = l[k] := by simp [show k < l.length by omega]
    simp only [e1]
    unfold Lib.keeps
    by_cases h0 : k = 0
    · subst h0; simp
    · have hk1 : l[k - 1]? = some l[k - 1] := List.getElem?_eq_getElem (by omega)
      have e2 : l.toArray[k - 1]! = l[k - 1] := by simp [show k - 1 < l.length by omega]
      rw [if_neg h0, hk1]
      simp only [e1, e2, h0, Option.some.injEq]
      by_cases h1 : l[k - 1] = l[k]
      · simp [h1]
      · have h2 : ¬ l[k] = l[k - 1] := fun e => h1 e.symm
        simp [h1, h2]
theorem compact_eq (l : List Int) : Lib.compact l = ddI l l.length := compact_upto l l.length (Nat.le_refl _)
theorem ddI_len (l : List Int) : ∀ k, (ddI l k).length ≤ k
  | 0 => Nat.le_refl _
  | k + 1 => by
    rw [ddI_succ]
    have := ddI_len l k
    rw [List.length_append]
    split
    · simp; omega
    · split
      · simp; omega
      · split <;> simp <;> omega
theorem mem_ddI (l : List Int) (a : Int) : ∀ k, k ≤ l.length → (a ∈ ddI l k ↔ a ∈ l.take k)
  | 0, _ => by simp [ddI]
  | k + 1, h => by
    have ih := mem_ddI l a k (by omega)
    rw [ddI_succ]
    rw [List.getElem?_eq_getElem (show k < l.length by omega), List.take_succ_eq_append_getElem (show k < l.length by omega), List.mem_append, List.mem_append, ih]
    by_cases h0 : k = 0
    · subst h0; simp
    · simp only [if_neg h0]
      by_cases h1 : l[k - 1]? = some l[k]
      · rw [if_pos h1]
        have hm : l[k] ∈ l.take k := by
          rw [List.mem_take_iff_getElem]
          refine ⟨k - 1, by omega, ?_⟩
          rw [List.getElem?_eq_getElem (by omega)] at h1
          simpa using h1
        constructor
        · rintro (h | h)
          · exact .inl h
          · simp at h
        · rintro (h | h)
          · exact .inl h
          · simp only [List.mem_singleton] at h
            subst h
            exact .inl hm
      · rw [if_neg h1]
theorem ddI_lt (l : List Int) (hs : l.Pairwise (· ≤ ·)) : ∀ k, k ≤ l.length → (ddI l k).Pairwise (· < ·)
  | 0, _ => List.Pairwise.nil
  | k + 1, h => by
    have ih := ddI_lt l hs k (by omega)
    rw [ddI_succ]
    rw [List.getElem?_eq_getElem (show k < l.length by omega)]
    by_cases h0 : k = 0
    · subst h0; simp [ddI]
    · simp only [if_neg h0]
      by_cases h1 : l[k - 1]? = some l[k]
      · rw [if_pos h1, List.append_nil]; exact ih
      · rw [if_neg h1, List.pairwise_append]
        refine ⟨ih, by simp, fun a ha b hb => ?_⟩
        simp only [List.mem_singleton] at hb
        subst hb
        rw [mem_ddI l a k (by omega), List.mem_take_iff_getElem] at ha
        obtain ⟨j, hj, rfl⟩ := ha
        have hp := List.pairwise_iff_getElem.1 hs
        have e1 : l[j] ≤ l[k - 1] := by
          by_cases e : j = k - 1
          · subst e; exact Int.le_refl _
          · exact hp j (k - 1) (by omega) (by omega) (by omega)
        have e2 : l[k - 1] ≤ l[k] := hp (k - 1) k (by omega) (by omega) (by omega)
        have e3 : l[k - 1] ≠ l[k] := fun e => h1 (by rw [List.getElem?_eq_getElem (by omega), e])
        omega
/-- numbers, rising, each once -/
def setK (l : List Int) : List Int := ddI (sortK l) (sortK l).length
theorem mem_setK (l : List Int) (a : Int) : a ∈ setK l ↔ a ∈ l := by
  unfold setK
  rw [mem_ddI _ _ _ (Nat.le_refl _), List.take_length]
  exact (sortK_perm l).mem_iff
theorem setK_lt (l : List Int) : (setK l).Pairwise (· < ·) := ddI_lt _ (sortK_le l) _ (Nat.le_refl _)
theorem setK_len (l : List Int) : (setK l).length ≤ l.length := by
  unfold setK
  have := ddI_len (sortK l) (sortK l).length
  rw [(sortK_perm l).length_eq] at this ⊢
  exact this
theorem setK_compact (l : List Int) : Lib.compact (sortI l) = setK l := by rw [sortI_eq, compact_eq]; rfl
end Go.Proofs.YtgakhpdclhlmpaaGreat

/- A contract of the library, laid at this dump: the table of numbers typed out. -/
namespace Go.Proofs.YtgakhpdclhlmpaaGreat
open Go.Shelf Go.Proofs
def indexI_lay_ren : Go.Shelf.Ren := ⟨fun | 29 => 78 | n => n, fun | 22 => 48 | 23 => 3 | 3 => 3 | 0 => 0 | 4 => 4 | n => n, fun | n => n⟩
theorem indexI_lay : Go.Proofs.SlLaysN.n29 Tryz.prog indexI_lay_ren := {
  mixed := by kernel_rfl
  f29 := ⟨Tryz.f78.name, by decide, Tryz.func78.trans (congrArg some (by kernel_rfl))⟩
  t0 := Tryz.underlying0
  a0 := Tryz.isAgg0
  z0 := Tryz.sizeOf0
  v0 := Tryz.zeroValue0
  t3 := Tryz.underlying3
  a3 := Tryz.isAgg3
  z3 := Tryz.sizeOf3
  v3 := Tryz.zeroValue3
  t4 := Tryz.underlying4
  a4 := Tryz.isAgg4
  z4 := Tryz.sizeOf4
  v4 := Tryz.zeroValue4
  t22 := Tryz.underlying48
  a22 := Tryz.isAgg48
  z22 := Tryz.sizeOf48
  v22 := Tryz.zeroValue48
  t23 := Tryz.underlying3
  a23 := Tryz.isAgg3
  z23 := Tryz.sizeOf3
  v23 := Tryz.zeroValue3 }
end Go.Proofs.YtgakhpdclhlmpaaGreat

/- Walks of edges: whether they are closed, and simple; by the program and by the document. -/
namespace Go.Proofs.YtgakhpdclhlmpaaGreat
set_option linter.unusedVariables false
open Go.RowKit

/-- the edge at a place leads to where the next one begins -/
def okC (l : List Edge) (i : Nat) : Bool := (l[i]?.map (·.t)) == (l[(i + 1) % l.length]?.map (·.f))
def closedB (l : List Edge) : Bool := decide (0 < l.length) && (List.range l.length).all (okC l)
theorem okC_at {l : List Edge} {k m : Nat} {e f : Edge} (hk : l[k]? = some e) (hm : (k + 1) % l.length = m) (hf : l[m]? = some f) : okC l k = (e.t == f.f) := by
  unfold okC
  rw [hk, hm, hf]
  simp
theorem all_succ {p : Nat → Bool} {k : Nat} : (List.range (k + 1)).all p = ((List.range k).all p && p k) := by
  rw [List.range_succ, List.all_append]
  simp
theorem closed_no {l : List Edge} {k : Nat} (hk : k < l.length) (h : okC l k = false) : closedB l = false := by
  unfold closedB
  rw [Bool.and_eq_false_iff]
  right
  rw [List.all_eq_false]
  exact ⟨k, List.mem_range.2 hk, by simp [h]⟩

set_option maxRecDepth 100000 in
theorem wclosed (F : Nat → Prop) (w : World) (A : Option Addr) (c : Nat) (l : List Edge) (h : Walk F w A l) (hl : l.length ≤ 1000000) :
    Calls Tryz.prog 23 #[.slice A l.length c] w fun e w' => e = .returned (.bool (closedB l)) ∧ Upd No w w' := by
  go_enter Tryz.func23, Tryz.ntmps23
  go_wp2
  go_loopg [7] l.length (fun gk i wr => ∃ k : Nat, k + gk = l.length ∧ i = .int .i64 k ∧ Hid ((List.range k).all (okC l) = true) ∧ Upd No w wr)
  case atStart => exact ⟨0, by omega, rfl, Lib.hid rfl, Upd.refl _ _⟩
  case round =>
    obtain ⟨k, hgk, rfl, hok, hu⟩ := hrel
    by_cases hlt : k < l.length
    · obtain ⟨ad, rfl, c0, c1, c2, c3⟩ := (h.upd hu (fun _ _ => id)).at_ hlt
      have hml : (k + 1) % l.length < l.length := Nat.mod_lt _ (by omega)
      obtain ⟨ad', e1, d0, d1, d2, d3⟩ := (h.upd hu (fun _ _ => id)).at_ hml
      cases e1
      obtain ⟨x, hx⟩ : ∃ x, l[k] = x := ⟨_, rfl⟩
      obtain ⟨y, hy⟩ : ∃ y, l[(k + 1) % l.length] = y := ⟨_, rfl⟩
      rw [hx] at c0 c1 c2 c3
      rw [hy] at d0 d1 d2 d3
      have hat := okC_at (l := l) (k := k) (by rw [List.getElem?_eq_getElem hlt, hx]) rfl (by rw [List.getElem?_eq_getElem hml, hy])
      have hcast : ((k : Int) + 1) % (l.length : Int) = (((k + 1) % l.length : Nat) : Int) := by rw [Int.natCast_emod]; rfl
      have hcast2 : ((k : Int) + 1).tmod (l.length : Int) = (((k + 1) % l.length : Nat) : Int) := by rw [Int.tmod_eq_emod_of_nonneg (by omega)]; exact hcast
      generalize (k + 1) % l.length = m at *
      have b1 : (0 : Int) ≤ (k : Int) := Int.natCast_nonneg _
      have b2 : (k : Int) < (l.length : Int) := by omega
      have b3 : (m : Int) < (l.length : Int) := by omega
      have b4 : (0 : Int) ≤ (m : Int) := Int.natCast_nonneg _
      have b5 : IntKind.i64.wrap ((k : Int) + 1) = (k : Int) + 1 := IntWalk.i64_in _ (by omega)
      have b6 : (0 : Int) ≤ (k : Int) + 1 := by omega
      have hnl : ¬ l = [] := fun e => by rw [e] at hlt; simp at hlt
      have hnz : ¬ (l.length : Int) = 0 := by omega
      have b7 : IntKind.i64.wrap ((m : Int)) = (m : Int) := IntWalk.i64_in _ (by omega)
      have D0 := ((Upd.refl No wr).alloc (.cells #[.int .i64 x.f, .int .i64 x.t, .int .i64 x.k, .int .i64 x.key] 27)).keepNo d0
      clear hx hy
      by_cases he : x.t = y.f
      · have heb : (x.t != y.f) = false := by rw [he]; simp
        have Hok := Lib.hid (show (List.range (k + 1)).all (okC l) = true by rw [all_succ, hok.out, hat, he]; simp)
        clear he hat
        go_wp2
        go_quiet (fail)
        clear hcast hcast2 b5 b7
        go_wp2
        go_roundg (gk - 1)
        case measure => omega
        case rel => exact ⟨k + 1, by omega, by go_num, Hok, (hu.alloc _).drewN _⟩
      · have heb : (x.t != y.f) = true := by rw [bne_iff_ne]; exact he
        have Hok := Lib.hid (closed_no hlt (by rw [hat]; simpa using he))
        clear he hat
        go_wp2
        go_quiet (fail)
        clear hcast hcast2 b5 b7
        go_wp2
        go_ret
        exact ⟨by rw [Hok.out]; rfl, (hu.alloc _).drewN _⟩
    · obtain rfl : k = l.length := by omega
      have Hok := Lib.hid (show closedB l = decide ((0 : Int) < (l.length : Int)) by
        unfold closedB
        rw [hok.out, Bool.and_true]
        congr 1
        simp only [eq_iff_iff]
        omega)
      go_wp2
      all_goals
        go_ret
        exact ⟨by rw [Hok.out]; first | rfl | (congr 2; simp), hu⟩
end Go.Proofs.YtgakhpdclhlmpaaGreat

/- Walks of edges: closed, and simple, by the document; simple by the program. -/
namespace Go.Proofs.YtgakhpdclhlmpaaGreat
set_option linter.unusedVariables false
open Go.RowKit

set_option maxRecDepth 100000 in
theorem rclosed (F : Nat → Prop) (w : World) (A : Option Addr) (c : Nat) (l : List Edge) (h : Walk F w A l) (hl : l.length ≤ 1000000) :
    Calls Tryz.prog 25 #[.slice A l.length c] w fun e w' => e = .returned (.bool (closedB l)) ∧ Upd No w w' := by
  by_cases h0 : l.length = 0
  · have hz : ((l.length : Int) == 0) = true := by rw [beq_iff_eq]; omega
    have hc := Lib.hid (show closedB l = false by unfold closedB; simp [h0])
    clear h0
    go_enter Tryz.func25, Tryz.ntmps25
    go_wp2
    go_ret
    exact ⟨by rw [hc.out]; rfl, Upd.refl _ _⟩
  have hz : ((l.length : Int) == 0) = false := by rw [beq_eq_false_iff_ne]; omega
  go_enter Tryz.func25, Tryz.ntmps25
  go_wp2
  go_loopg [10] l.length (fun gk i wr => ∃ k : Nat, k + gk = l.length ∧ i = .int .i64 k ∧ Hid ((List.range k).all (okC l) = true) ∧ Upd No w wr)
  case atStart => exact ⟨0, by omega, rfl, Lib.hid rfl, Upd.refl _ _⟩
  case round =>
    obtain ⟨k, hgk, rfl, hok, hu⟩ := hrel
    by_cases hlt : k < l.length
    · obtain ⟨ad, rfl, c0, c1, c2, c3⟩ := (h.upd hu (fun _ _ => id)).at_ hlt
      obtain ⟨x, hx⟩ : ∃ x, l[k] = x := ⟨_, rfl⟩
      rw [hx] at c0 c1 c2 c3
      have b1 : (0 : Int) ≤ (k : Int) := Int.natCast_nonneg _
      have b2 : (k : Int) < (l.length : Int) := by omega
      have b5 : IntKind.i64.wrap ((k : Int) + 1) = (k : Int) + 1 := IntWalk.i64_in _ (by omega)
      have b6 : (0 : Int) ≤ (k : Int) + 1 := by omega
      by_cases hk1 : k + 1 < l.length
      · obtain ⟨ad', e1, d0, d1, d2, d3⟩ := (h.upd hu (fun _ _ => id)).at_ hk1
        cases e1
        obtain ⟨y, hy⟩ : ∃ y, l[k + 1] = y := ⟨_, rfl⟩
        rw [hy] at d0 d1 d2 d3
        have hat := okC_at (l := l) (k := k) (by rw [List.getElem?_eq_getElem hlt, hx]) (Nat.mod_eq_of_lt hk1) (by rw [List.getElem?_eq_getElem hk1, hy])
        have D0 := ((Upd.refl No wr).alloc (.cells #[.int .i64 x.f, .int .i64 x.t, .int .i64 x.k, .int .i64 x.key] 27)).keepNo d0
        have b3 : (k : Int) + 1 < (l.length : Int) := by omega
        have b7 : ((k : Int) + 1 == (l.length : Int)) = false := by rw [beq_eq_false_iff_ne]; omega
        have b8 : ((k : Int) + 1).toNat = k + 1 := by omega
        clear hx hy
        by_cases he : x.t = y.f
        · have heb : (x.t != y.f) = false := by rw [he]; simp
          have Hok := Lib.hid (show (List.range (k + 1)).all (okC l) = true by rw [all_succ, hok.out, hat, he]; simp)
          clear he hat
          go_wp2
          go_quiet (fail)
          clear b5 b8
          go_wp2
          go_roundg (gk - 1)
          case measure => omega
          case rel => exact ⟨k + 1, by omega, by go_num, Hok, (hu.alloc _).drewN _⟩
        · have heb : (x.t != y.f) = true := by rw [bne_iff_ne]; exact he
          have Hok := Lib.hid (closed_no hlt (by rw [hat]; simpa using he))
          clear he hat
          go_wp2
          go_quiet (fail)
          clear b5 b8
          go_wp2
          go_ret
          exact ⟨by rw [Hok.out]; rfl, (hu.alloc _).drewN _⟩
      · have h00 : 0 < l.length := by omega
        obtain ⟨ad', e1, d0, d1, d2, d3⟩ := (h.upd hu (fun _ _ => id)).at_ h00
        cases e1
        obtain ⟨y, hy⟩ : ∃ y, l[0] = y := ⟨_, rfl⟩
        rw [hy] at d0 d1 d2 d3
        rw [Nat.zero_mul, show ad.add 0 = ad from rfl] at d0
        have hat := okC_at (l := l) (k := k) (by rw [List.getElem?_eq_getElem hlt, hx]) (show (k + 1) % l.length = 0 by rw [show k + 1 = l.length by omega, Nat.mod_self]) (by rw [List.getElem?_eq_getElem h00, hy])
        have D0 := ((Upd.refl No wr).alloc (.cells #[.int .i64 x.f, .int .i64 x.t, .int .i64 x.k, .int .i64 x.key] 27)).keepNo d0
        have b3 : decide ((k : Int) + 1 < (l.length : Int)) = false := decide_eq_false (by omega)
        have b7 : ((k : Int) + 1 == (l.length : Int)) = true := by rw [beq_iff_eq]; omega
        have b9 : (0 : Int) < (l.length : Int) := by omega
        clear hx hy
        by_cases he : x.t = y.f
        · have heb : (x.t != y.f) = false := by rw [he]; simp
          have Hok := Lib.hid (show (List.range (k + 1)).all (okC l) = true by rw [all_succ, hok.out, hat, he]; simp)
          clear he hat
          go_wp2
          go_quiet (fail)
          clear b5
          go_wp2
          go_roundg (gk - 1)
          case measure => omega
          case rel => exact ⟨k + 1, by omega, by go_num, Hok, (hu.alloc _).drewN _⟩
        · have heb : (x.t != y.f) = true := by rw [bne_iff_ne]; exact he
          have Hok := Lib.hid (closed_no hlt (by rw [hat]; simpa using he))
          clear he hat
          go_wp2
          go_quiet (fail)
          clear b5
          go_wp2
          go_ret
          exact ⟨by rw [Hok.out]; rfl, (hu.alloc _).drewN _⟩
    · obtain rfl : k = l.length := by omega
      have Hok := Lib.hid (show closedB l = true by
        unfold closedB
        rw [hok.out, Bool.and_true, decide_eq_true_eq]
        omega)
      go_wp2
      go_ret
      exact ⟨by rw [Hok.out]; rfl, hu⟩

end Go.Proofs.YtgakhpdclhlmpaaGreat

/- Edges held against one another: by the program and by the document. -/
namespace Go.Proofs.YtgakhpdclhlmpaaGreat
set_option linter.unusedVariables false
open Go.RowKit

/-- new blocks, and draws, and no more -/
def Grw (w w' : World) : Prop := ∃ q os', w' = Sort.grow (w.drewN q) os'
theorem Grw.refl (w : World) : Grw w w := ⟨0, #[], by unfold Sort.grow World.drewN; simp⟩
theorem Grw.alloc {w w' : World} (h : Grw w w') (o : Obj) : Grw w (w'.alloc o) := by
  obtain ⟨q, os', rfl⟩ := h
  exact ⟨q, os'.push o, by unfold Sort.grow World.drewN World.alloc; simp⟩
theorem Grw.drewN {w w' : World} (h : Grw w w') (n : Nat) : Grw w (w'.drewN n) := by
  obtain ⟨q, os', rfl⟩ := h
  exact ⟨q + n, os', by unfold Sort.grow World.drewN; simp [Nat.add_assoc]⟩
theorem Grw.upd {w w' : World} (h : Grw w w') : Upd No w w' := by
  obtain ⟨q, os', rfl⟩ := h
  exact ⟨rfl, rfl, rfl, by unfold Sort.grow World.drewN; simp, fun k hk _ => by unfold Sort.grow World.drewN; simp [Array.getElem?_append_left hk]⟩
end Go.Proofs.YtgakhpdclhlmpaaGreat

/- Walks held against one another, from whichever places they begin. -/
namespace Go.Proofs.YtgakhpdclhlmpaaGreat
set_option linter.unusedVariables false
open Go.RowKit

end Go.Proofs.YtgakhpdclhlmpaaGreat

/- Walks: whether two are one; one begun elsewhere, by the program and by the document. -/
namespace Go.Proofs.YtgakhpdclhlmpaaGreat
set_option linter.unusedVariables false
open Go.RowKit

end Go.Proofs.YtgakhpdclhlmpaaGreat

/- Operations cloned, transactions copied and found. -/
namespace Go.Proofs.YtgakhpdclhlmpaaGreat
set_option linter.unusedVariables false
open Go.RowKit
theorem slt_ops : SlT Tryz.prog 45 53 4 32 := SlT.mk_ Tryz.underlying45 (z := .agg #[.bool false, .int .i64 0, .int .i64 0, .int .i64 0]) (by kernel_rfl) rfl (by omega)
theorem hops_len {l : List HOp} : ∀ r ∈ l.map HOp.cells, r.length = 4 := fun r hr => by
  obtain ⟨e, _, rfl⟩ := List.mem_map.1 hr
  rfl
theorem hops_one {l : List HOp} : ∀ v ∈ (l.map HOp.cells).flatten, v.oneCell' = true := fun v hv => by
  obtain ⟨r, hr, h⟩ := List.mem_flatten.1 hv
  obtain ⟨e, _, rfl⟩ := List.mem_map.1 hr
  simp only [HOp.cells, List.mem_cons, List.not_mem_nil, or_false] at h
  rcases h with rfl | rfl | rfl | rfl <;> rfl
theorem own_emp {W : World} {B n s : Nat} {e : TypeId} (hn : n = W.heap.size) (hB : B ≤ W.heap.size) : (W.alloc (.cells #[] e)).ownsRow B e s (.slice (some ⟨n, 0, none⟩) 0 0) 0 [] := by
  subst hn
  exact own_base (World.ownsRow_made W #[] 0 (Nat.le_refl _) (by decide) (by simp)) hB
/-- operations of the call's own -/
def NewOps (w : World) (l : List HOp) (e : Ending) (w' : World) : Prop := ∃ A c, e = .returned (.slice A l.length c) ∧ l.length ≤ c ∧ HOps (fun i => w.heap.size ≤ i) w' A l ∧ Upd No w w'
theorem oclone (F : Nat → Prop) (w : World) (A : Option Addr) (c : Nat) (l : List HOp) (h : HOps F w A l) (hl : fewOps l.length) :
    Calls Tryz.prog 84 #[.slice A l.length c] w (NewOps w l) := by
  unfold fewOps at hl
  have qT : ∀ (w : World) (a : Option Addr) (n c : Nat), (binOp .eql 45 (.slice a n c) (.slice none 0 0)).run Tryz.prog w = .ok (.bool a.isNone) w := fun w a n c => Lib.run_eql_slice_nil w _ _ a n c 0 0 Tryz.underlying45
  cases A with
  | none =>
    have h0 : l = [] := by
      cases l with
      | nil => rfl
      | cons a l => obtain ⟨_, e, _⟩ := h (by simp); cases e
    subst h0
    go_enter Tryz.func84, Tryz.ntmps84
    go_wp2
    go_ret
    exact ⟨none, 0, rfl, Nat.le_refl _, fun h => absurd rfl h, Upd.refl _ _⟩
  | some ad =>
    have hs := Lib.hid (show Src (w.alloc (.cells #[] 53)) (some ad) l.length 4 (l.map HOp.cells).flatten by
      have := Recs.src (h.upd ((Upd.refl No w).alloc (.cells #[] 53)) (fun _ _ => id)) hops_len
      rwa [List.length_map] at this)
    go_enter Tryz.func84, Tryz.ntmps84
    go_wp2_with (at_builtin; refine appN rfl rfl slt_ops (base := w.heap.size) (v := .slice (some ⟨w.heap.size, 0, none⟩) 0 0) (n := 0) (m := l.length) (xs := []) rfl rfl (own_emp rfl (Nat.le_refl _)) hs.out hops_one (by omega) (by omega) (by simp) ?_)
    intro v4 w4 hown4 hu4 hg4
    obtain ⟨A4, c4, rfl⟩ := own_slice hown4
    have uw4 : Upd No w w4 := ((Upd.refl No w).alloc _).then_ hu4 (fun j e => .inr (own_ge e))
    have hcap := own_cap hown4
    have hr := (Recs.of_own hops_len (by omega) hown4).weak (G := fun i => w.heap.size ≤ i) fun i _ e => (hown4.lt i e).1
    have HR := Lib.hid (And.intro hcap hr)
    clear hcap hr
    go_wp2
    go_ret
    exact ⟨A4, c4, rfl, HR.out.1, HR.out.2, uw4⟩
/-- a transaction of the call's own -/
def NewTx (w : World) (i0 : Int) (dn : Bool) (l : List HOp) (e : Ending) (w' : World) : Prop := ∃ A c, e = .returned (.agg #[.int .i64 i0, .bool dn, .slice A l.length c]) ∧ l.length ≤ c ∧ HOps (fun i => w.heap.size ≤ i) w' A l ∧ Upd No w w'
theorem hcopied (F : Nat → Prop) (w : World) (i0 : Int) (dn : Bool) (A : Option Addr) (c : Nat) (l : List HOp) (h : HOps F w A l) (hl : fewOps l.length) :
    Calls Tryz.prog 71 #[.agg #[.int .i64 i0, .bool dn, .slice A l.length c]] w (NewTx w i0 dn l) := by
  have u0 := ((Upd.refl No w).alloc (.cells #[.int .i64 i0, .bool dn, .slice A l.length c] 47)).alloc (.cells #[.int .i64 0, .bool false, .slice none 0 0] 47)
  have b1 := (Blk.new w 47 [.int .i64 i0, .bool dn, .slice A l.length c]).alloc (.cells #[.int .i64 0, .bool false, .slice none 0 0] 47)
  have b2 := Blk.new (w.alloc (.cells #[.int .i64 i0, .bool dn, .slice A l.length c] 47)) 47 [.int .i64 0, .bool false, .slice none 0 0]
  simp only [World.size_alloc] at b2
  go_enter Tryz.func71, Tryz.ntmps71
  go_wp2_with fail
  refine (oclone F _ A c l (h.upd u0 (fun _ _ => id)) hl).mono ?_
  rintro e w1 ⟨A1, c1, rfl, hc1, hh1, hu1⟩
  have hz1 := hu1.size
  simp only [World.size_alloc] at hz1
  have d1 := b1.upd hu1 id
  have d2 := b2.upd hu1 id
  have e0 := d1.cell 0
  have e1 := d1.cell 1
  have e2 := d1.cell 2
  have f2 := d1.free 2
  have g0 := d2.cell 0
  have g1 := d2.cell 1
  have g2 := d2.cell 2
  have k0 := d2.free 0
  have k1 := d2.free 1
  have k2 := d2.free 2
  simp only [List.getElem?_cons_zero, List.getElem?_cons_succ] at e0 e1 e2 g0 g1 g2
  have D := Lib.hid (And.intro d1 (And.intro d2 (And.intro b1 b2)))
  clear d1 d2 b1 b2
  have Hh := Lib.hid (And.intro hc1 (And.intro hh1 (And.intro hu1 hz1)))
  clear hc1 hh1 hu1 hz1
  go_wp2
  obtain ⟨hc1, hh1, hu1, hz1⟩ := Hh.out
  obtain ⟨d1, d2, -, -⟩ := D.out
  have b3 := (((d2.far (p := ⟨w.heap.size, 2, none⟩) (by show w.heap.size + 1 ≠ w.heap.size; omega) (.slice A1 l.length c1)).set_ 0 (.int .i64 i0)).set_ 1 (.bool dn)).set_ 2 (.slice A1 l.length c1)
  simp only [List.set_cons_zero, List.set_cons_succ] at b3
  refine bodyPost_ret (results_cell_row (p := 2) rfl _ _ _ _ _ _ _ rfl b3 Tryz.underlying47 rfl (by kernel_rfl)) rfl ⟨A1, c1, rfl, hc1, ?_, ?_⟩
  · have u8 := ((((Upd.refl (fun i => i = w.heap.size ∨ i = w.heap.size + 1) w1).setCell (p := ⟨w.heap.size, 2, none⟩) (.inl (.inl rfl)) (.slice A1 l.length c1)).setCell (p := ⟨w.heap.size + 1, 0, none⟩) (.inl (.inr rfl)) (.int .i64 i0)).setCell (p := ⟨w.heap.size + 1, 1, none⟩) (.inl (.inr rfl)) (.bool dn)).setCell (p := ⟨w.heap.size + 1, 2, none⟩) (.inl (.inr rfl)) (.slice A1 l.length c1)
    simp only [World.size_alloc] at hh1
    exact (Recs.upd hh1 u8 (fun i hi e => by rcases e with e | e <;> omega)).weak (fun i _ e => by omega)
  · have u9 : Upd No w w1 := u0.trans hu1
    exact (((u9.setCell (p := ⟨w.heap.size, 2, none⟩) (.inr (Nat.le_refl _)) _).setCell (p := ⟨w.heap.size + 1, 0, none⟩) (.inr (Nat.le_succ _)) _).setCell (p := ⟨w.heap.size + 1, 1, none⟩) (.inr (Nat.le_succ _)) _).setCell (p := ⟨w.heap.size + 1, 2, none⟩) (.inr (Nat.le_succ _)) _
/-- the first transaction of an id -/
def findT (txs : List HTx) (i : Int) : Option HTx := txs.find? fun t => t.id == i
/-- what finding leaves: the operations lie in memory of F -/
def Found (G : Nat → Prop) (w : World) (o : Option HTx) (e : Ending) (w' : World) : Prop :=
  (match o with
   | some t => ∃ A c, e = .returned (.tuple #[.agg #[.int .i64 t.id, .bool t.done, .slice A t.ops.length c], .bool true]) ∧ t.ops.length ≤ c ∧ HOps G w' A t.ops
   | none => e = .returned (.tuple #[.agg #[.int .i64 0, .bool false, .slice none 0 0], .bool false])) ∧ Upd No w w'
theorem findT_none {txs : List HTx} {i : Int} (h : ∀ (k : Nat) (hk : k < txs.length), (txs[k].id == i) = false) : findT txs i = none := by
  unfold findT
  rw [List.find?_eq_none]
  intro x hx
  obtain ⟨k, hk, rfl⟩ := List.mem_iff_getElem.1 hx
  rw [h k hk]; decide
theorem findT_some {txs : List HTx} {i : Int} {k : Nat} (hk : k < txs.length) (h : ∀ (j : Nat) (hj : j < k), ((txs[j]'(by omega)).id == i) = false) (h1 : (txs[k].id == i) = true) : findT txs i = some txs[k] := by
  unfold findT
  rw [List.find?_eq_some_iff_getElem]
  exact ⟨h1, k, hk, rfl, fun j hj => by simp only [h j hj]; rfl⟩
set_option maxRecDepth 100000 in
theorem rfind (F : Nat → Prop) (w : World) (h : Hist) (i : Int) (H : h.lies F w) : Calls Tryz.prog 43 #[h.val, .int .i64 i] w (Found F w (findT h.txs i)) := by
  obtain ⟨txs, ords, A, c, B, d⟩ := h
  unfold Hist.val
  have hf := H.few
  simp only at hf
  have b0 := (Blk.new w 25 [.slice A txs.length c, .slice B ords.length d]).alloc (.cells #[.int .i64 0, .bool false, .slice none 0 0] 47)
  have b1 := Blk.new (w.alloc (.cells #[.slice A txs.length c, .slice B ords.length d] 25)) 47 [.int .i64 0, .bool false, .slice none 0 0]
  simp only [World.size_alloc] at b1
  have B1 := Lib.hid b1
  clear b0 b1
  go_enter Tryz.func43, Tryz.ntmps43
  go_wp2
  go_loopg [11] txs.length (fun gk s wr => ∃ k : Nat, k + gk = txs.length ∧ s = .int .i64 k ∧ Hid (∀ (j : Nat) (hj : j < txs.length), j < k → (txs[j].id == i) = false) ∧ Upd No ((w.alloc (.cells #[.slice A txs.length c, .slice B ords.length d] 25)).alloc (.cells #[.int .i64 0, .bool false, .slice none 0 0] 47)) wr)
  case atStart => exact ⟨0, by omega, rfl, Lib.hid (fun j _ hj => by omega), Upd.refl _ _⟩
  case round =>
    obtain ⟨k, hgk, rfl, hall, hu⟩ := hrel
    have hu0 : Upd No w wr := (((Upd.refl No w).alloc _).alloc _).trans hu
    have bb := B1.out.upd hu id
    have g0 := bb.cell 0
    have g1 := bb.cell 1
    have g2 := bb.cell 2
    have k0 := bb.free 0
    have k1 := bb.free 1
    have k2 := bb.free 2
    simp only [List.getElem?_cons_zero, List.getElem?_cons_succ] at g0 g1 g2
    have BB := Lib.hid bb
    clear bb
    by_cases hlt : k < txs.length
    · obtain ⟨ad, hAd, c0, c1, c2⟩ := (H.upd hu0 (fun _ _ => id)).tx_at hlt
      simp only at hAd c0 c1 c2
      have hmem := (H.upd hu0 (fun _ _ => id)).tx txs[k] (List.getElem_mem hlt)
      obtain ⟨x, hx⟩ : ∃ x, txs[k] = x := ⟨_, rfl⟩
      rw [hx] at c0 c1 c2 hmem
      subst hAd
      have X := Lib.hid hx
      have M := Lib.hid hmem
      clear hx hmem
      by_cases he : x.id = i
      · have heb : (x.id == i) = true := by simpa using he
        clear he g0 g1 g2 k0 k1 k2
        have ba := BB.out.alloc (.cells #[.int .i64 x.id, .bool x.done, .slice x.A x.ops.length x.c] 47)
        have g0 := ba.cell 0
        have g1 := ba.cell 1
        have g2 := ba.cell 2
        have k0 := ba.free 0
        have k1 := ba.free 1
        have k2 := ba.free 2
        simp only [List.getElem?_cons_zero, List.getElem?_cons_succ] at g0 g1 g2
        have BA := Lib.hid ba
        clear ba
        have hsome := Lib.hid (findT_some (txs := txs) (i := i) hlt (fun j hj => hall.out j (by omega) hj) (by rw [X.out]; exact heb))
        go_wp2
        have b3 := ((BA.out.set_ 0 (.int .i64 x.id)).set_ 1 (.bool x.done)).set_ 2 (.slice x.A x.ops.length x.c)
        simp only [List.set_cons_zero, List.set_cons_succ] at b3
        have r0 := b3.cell 0
        have r1 := b3.cell 1
        have r2 := b3.cell 2
        simp only [List.getElem?_cons_zero, List.getElem?_cons_succ] at r0 r1 r2
        have u3 : Upd No w ((((wr.alloc (.cells #[.int .i64 x.id, .bool x.done, .slice x.A x.ops.length x.c] 47)).setCell ⟨w.heap.size + 1, 0, none⟩ (.int .i64 x.id)).setCell ⟨w.heap.size + 1, 1, none⟩ (.bool x.done)).setCell ⟨w.heap.size + 1, 2, none⟩ (.slice x.A x.ops.length x.c)) := (((hu0.alloc _).setCell (p := ⟨w.heap.size + 1, 0, none⟩) (.inr (Nat.le_succ _)) _).setCell (p := ⟨w.heap.size + 1, 1, none⟩) (.inr (Nat.le_succ _)) _).setCell (p := ⟨w.heap.size + 1, 2, none⟩) (.inr (Nat.le_succ _)) _
        refine bodyPost_ret (v := .tuple #[.agg #[.int .i64 x.id, .bool x.done, .slice x.A x.ops.length x.c], .bool true]) (by simp [results, Tryz.results43, go_sem, r0, r1, r2]) rfl ?_
        unfold Found
        rw [show findT txs i = some x from by rw [hsome.out, X.out]]
        exact ⟨⟨x.A, x.c, rfl, M.out.2.1, HOps.upd (H.tx x (by rw [← X.out]; exact List.getElem_mem hlt)).1 u3 (fun _ _ => id)⟩, u3⟩
      · have heb : (x.id == i) = false := by simpa using he
        clear he
        go_wp2
        go_roundg (gk - 1)
        case measure => omega
        case rel => exact ⟨k + 1, by omega, by go_num, Lib.hid (fun j hj hjk => by
            by_cases e : j = k
            · subst e; rw [X.out]; exact heb
            · exact hall.out j hj (by omega)), hu.alloc _⟩
    · obtain rfl : k = txs.length := by omega
      have hnone := Lib.hid (findT_none (txs := txs) (i := i) fun k hk => hall.out k hk hk)
      go_wp2
      have b3 := ((BB.out.set_ 0 (.int .i64 0)).set_ 1 (.bool false)).set_ 2 (.slice none 0 0)
      simp only [List.set_cons_zero, List.set_cons_succ] at b3
      have r0 := b3.cell 0
      have r1 := b3.cell 1
      have r2 := b3.cell 2
      simp only [List.getElem?_cons_zero, List.getElem?_cons_succ] at r0 r1 r2
      have u3 : Upd No w (((wr.setCell ⟨w.heap.size + 1, 0, none⟩ (.int .i64 0)).setCell ⟨w.heap.size + 1, 1, none⟩ (.bool false)).setCell ⟨w.heap.size + 1, 2, none⟩ (.slice none 0 0)) := ((hu0.setCell (p := ⟨w.heap.size + 1, 0, none⟩) (.inr (Nat.le_succ _)) _).setCell (p := ⟨w.heap.size + 1, 1, none⟩) (.inr (Nat.le_succ _)) _).setCell (p := ⟨w.heap.size + 1, 2, none⟩) (.inr (Nat.le_succ _)) _
      refine bodyPost_ret (v := .tuple #[.agg #[.int .i64 0, .bool false, .slice none 0 0], .bool false]) (by simp [results, Tryz.results43, go_sem, r0, r1, r2]) rfl ?_
      unfold Found
      rw [hnone.out]
      exact ⟨rfl, u3⟩
set_option maxRecDepth 100000 in
theorem pfind (F : Nat → Prop) (w : World) (h : Hist) (i : Int) (H : h.lies F w) : Calls Tryz.prog 49 #[h.val, .int .i64 i] w (Found (fun i => w.heap.size ≤ i) w (findT h.txs i)) := by
  obtain ⟨txs, ords, A, c, B, d⟩ := h
  unfold Hist.val
  have hf := H.few
  simp only at hf
  have b0 := (Blk.new w 25 [.slice A txs.length c, .slice B ords.length d]).alloc (.cells #[.int .i64 0, .bool false, .slice none 0 0] 47)
  have b1 := Blk.new (w.alloc (.cells #[.slice A txs.length c, .slice B ords.length d] 25)) 47 [.int .i64 0, .bool false, .slice none 0 0]
  simp only [World.size_alloc] at b1
  have B1 := Lib.hid b1
  clear b0 b1
  go_enter Tryz.func49, Tryz.ntmps49
  go_wp2
  go_loopg [11] txs.length (fun gk s wr => ∃ k : Nat, k + gk = txs.length ∧ s = .int .i64 k ∧ Hid (∀ (j : Nat) (hj : j < txs.length), j < k → (txs[j].id == i) = false) ∧ Upd No ((w.alloc (.cells #[.slice A txs.length c, .slice B ords.length d] 25)).alloc (.cells #[.int .i64 0, .bool false, .slice none 0 0] 47)) wr)
  case atStart => exact ⟨0, by omega, rfl, Lib.hid (fun j _ hj => by omega), Upd.refl _ _⟩
  case round =>
    obtain ⟨k, hgk, rfl, hall, hu⟩ := hrel
    have hu0 : Upd No w wr := (((Upd.refl No w).alloc _).alloc _).trans hu
    have bb := B1.out.upd hu id
    have g0 := bb.cell 0
    have g1 := bb.cell 1
    have g2 := bb.cell 2
    have k0 := bb.free 0
    have k1 := bb.free 1
    have k2 := bb.free 2
    simp only [List.getElem?_cons_zero, List.getElem?_cons_succ] at g0 g1 g2
    have BB := Lib.hid bb
    clear bb
    by_cases hlt : k < txs.length
    · obtain ⟨ad, hAd, c0, c1, c2⟩ := (H.upd hu0 (fun _ _ => id)).tx_at hlt
      simp only at hAd c0 c1 c2
      have hmem := (H.upd hu0 (fun _ _ => id)).tx txs[k] (List.getElem_mem hlt)
      obtain ⟨x, hx⟩ : ∃ x, txs[k] = x := ⟨_, rfl⟩
      rw [hx] at c0 c1 c2 hmem
      subst hAd
      have X := Lib.hid hx
      have M := Lib.hid hmem
      clear hx hmem
      by_cases he : x.id = i
      · have heb : (x.id == i) = true := by simpa using he
        clear he g0 g1 g2 k0 k1 k2
        have ba := BB.out.alloc (.cells #[.int .i64 x.id, .bool x.done, .slice x.A x.ops.length x.c] 47)
        have g0 := ba.cell 0
        have g1 := ba.cell 1
        have g2 := ba.cell 2
        have k0 := ba.free 0
        have k1 := ba.free 1
        have k2 := ba.free 2
        simp only [List.getElem?_cons_zero, List.getElem?_cons_succ] at g0 g1 g2
        have BA := Lib.hid ba
        clear ba
        have hsome := Lib.hid (findT_some (txs := txs) (i := i) hlt (fun j hj => hall.out j (by omega) hj) (by rw [X.out]; exact heb))
        have hxw := HOps.upd (H.tx x (by rw [← X.out]; exact List.getElem_mem hlt)).1 (hu0.alloc (.cells #[.int .i64 x.id, .bool x.done, .slice x.A x.ops.length x.c] 47)) (fun _ _ => id)
        have hzr := hu.size
        simp only [World.size_alloc] at hzr
        clear g0 g1 g2 k0 k1 k2
        go_wp2_with fail
        refine (hcopied F _ x.id x.done x.A x.c x.ops hxw M.out.2.2.1).mono ?_
        rintro e w1 ⟨A1, c1, rfl, hc1, hh1, hu1⟩
        have BA1 := Lib.hid (BA.out.upd hu1 id)
        have g0 := BA1.out.cell 0
        have g1 := BA1.out.cell 1
        have g2 := BA1.out.cell 2
        have k0 := BA1.out.free 0
        have k1 := BA1.out.free 1
        have k2 := BA1.out.free 2
        simp only [List.getElem?_cons_zero, List.getElem?_cons_succ] at g0 g1 g2
        have HH := Lib.hid (And.intro hc1 (And.intro hh1 hu1))
        clear hc1 hh1 hu1
        go_wp2
        obtain ⟨hc1, hh1, hu1⟩ := HH.out
        have b3 := ((BA1.out.set_ 0 (.int .i64 x.id)).set_ 1 (.bool x.done)).set_ 2 (.slice A1 x.ops.length c1)
        simp only [List.set_cons_zero, List.set_cons_succ] at b3
        have r0 := b3.cell 0
        have r1 := b3.cell 1
        have r2 := b3.cell 2
        simp only [List.getElem?_cons_zero, List.getElem?_cons_succ] at r0 r1 r2
        have hu01 : Upd No w w1 := (hu0.alloc _).trans hu1
        have u3 : Upd No w (((w1.setCell ⟨w.heap.size + 1, 0, none⟩ (.int .i64 x.id)).setCell ⟨w.heap.size + 1, 1, none⟩ (.bool x.done)).setCell ⟨w.heap.size + 1, 2, none⟩ (.slice A1 x.ops.length c1)) := ((hu01.setCell (p := ⟨w.heap.size + 1, 0, none⟩) (.inr (Nat.le_succ _)) _).setCell (p := ⟨w.heap.size + 1, 1, none⟩) (.inr (Nat.le_succ _)) _).setCell (p := ⟨w.heap.size + 1, 2, none⟩) (.inr (Nat.le_succ _)) _
        have u4 : Upd (One (w.heap.size + 1)) w1 (((w1.setCell ⟨w.heap.size + 1, 0, none⟩ (.int .i64 x.id)).setCell ⟨w.heap.size + 1, 1, none⟩ (.bool x.done)).setCell ⟨w.heap.size + 1, 2, none⟩ (.slice A1 x.ops.length c1)) := (((Upd.refl _ w1).setOne _ _).setOne _ _).setOne _ _
        simp only [World.size_alloc] at hh1
        refine bodyPost_ret (v := .tuple #[.agg #[.int .i64 x.id, .bool x.done, .slice A1 x.ops.length c1], .bool true]) (by simp [results, Tryz.results49, go_sem, r0, r1, r2]) rfl ?_
        unfold Found
        rw [show findT txs i = some x from by rw [hsome.out, X.out]]
        exact ⟨⟨A1, c1, rfl, hc1, (Recs.upd hh1 u4 (fun i hi e => by cases e; omega)).weak (fun i _ e => by omega)⟩, u3⟩
      · have heb : (x.id == i) = false := by simpa using he
        clear he
        go_wp2
        go_roundg (gk - 1)
        case measure => omega
        case rel => exact ⟨k + 1, by omega, by go_num, Lib.hid (fun j hj hjk => by
            by_cases e : j = k
            · subst e; rw [X.out]; exact heb
            · exact hall.out j hj (by omega)), hu.alloc _⟩
    · obtain rfl : k = txs.length := by omega
      have hnone := Lib.hid (findT_none (txs := txs) (i := i) fun k hk => hall.out k hk hk)
      go_wp2
      have b3 := ((BB.out.set_ 0 (.int .i64 0)).set_ 1 (.bool false)).set_ 2 (.slice none 0 0)
      simp only [List.set_cons_zero, List.set_cons_succ] at b3
      have r0 := b3.cell 0
      have r1 := b3.cell 1
      have r2 := b3.cell 2
      simp only [List.getElem?_cons_zero, List.getElem?_cons_succ] at r0 r1 r2
      have u3 : Upd No w (((wr.setCell ⟨w.heap.size + 1, 0, none⟩ (.int .i64 0)).setCell ⟨w.heap.size + 1, 1, none⟩ (.bool false)).setCell ⟨w.heap.size + 1, 2, none⟩ (.slice none 0 0)) := ((hu0.setCell (p := ⟨w.heap.size + 1, 0, none⟩) (.inr (Nat.le_succ _)) _).setCell (p := ⟨w.heap.size + 1, 1, none⟩) (.inr (Nat.le_succ _)) _).setCell (p := ⟨w.heap.size + 1, 2, none⟩) (.inr (Nat.le_succ _)) _
      refine bodyPost_ret (v := .tuple #[.agg #[.int .i64 0, .bool false, .slice none 0 0], .bool false]) (by simp [results, Tryz.results49, go_sem, r0, r1, r2]) rfl ?_
      unfold Found
      rw [hnone.out]
      exact ⟨rfl, u3⟩
end Go.Proofs.YtgakhpdclhlmpaaGreat

/- The kinds of a phenomenon; who is next in an order. -/
namespace Go.Proofs.YtgakhpdclhlmpaaGreat
set_option linter.unusedVariables false
open Go.RowKit
def maskP (p : Int) : Int := if p = 1 then 2 else if p = 4 then 6 else if p = 5 then 14 else 0
def mustP (p : Int) : Int := if p = 5 then 8 else 0
theorem pmasks (w : World) (p : Int) : Calls Tryz.prog 21 #[.int .i64 p] w fun e w' => e = .returned (.tuple #[.int .i64 (maskP p), .int .i64 (mustP p)]) ∧ w = w' := by
  by_cases h1 : p = 1
  · subst h1
    go_enter Tryz.func21, Tryz.ntmps21
    go_wp2
    go_ret2
    exact ⟨rfl, rfl⟩
  · by_cases h4 : p = 4
    · subst h4
      go_enter Tryz.func21, Tryz.ntmps21
      go_wp2
      go_ret2
      exact ⟨rfl, rfl⟩
    · by_cases h5 : p = 5
      · subst h5
        go_enter Tryz.func21, Tryz.ntmps21
        go_wp2
        go_ret2
        exact ⟨rfl, rfl⟩
      · have b1 : (p == 1) = false := by simpa using h1
        have b4 : (p == 4) = false := by simpa using h4
        have b5 : (p == 5) = false := by simpa using h5
        have hm := Lib.hid (show maskP p = 0 by unfold maskP; rw [if_neg h1, if_neg h4, if_neg h5])
        have hu := Lib.hid (show mustP p = 0 by unfold mustP; rw [if_neg h5])
        clear h1 h4 h5
        go_enter Tryz.func21, Tryz.ntmps21
        go_wp2
        go_ret2
        exact ⟨by rw [hm.out, hu.out]; rfl, rfl⟩
/-- where a number stands first -/
def posI (l : List Int) (x : Int) : Nat := l.findIdx (· == x)
theorem idx_of_pos (l : List Int) (x : Int) : Lib.idxOf l x = if posI l x < l.length then (posI l x : Int) else -1 := by
  by_cases h : posI l x < l.length
  · rw [if_pos h]
    have h1 := Lib.idxOf_hit l l.length (posI l x) x h (Nat.le_refl _) (by
      rw [List.getD_eq_getElem?_getD, List.getElem?_eq_getElem h]
      have := List.findIdx_getElem (p := (· == x)) (xs := l) (w := h)
      rw [beq_iff_eq] at this
      exact this) (fun j hj => by
      have hjl : j < l.length := Nat.lt_trans hj h
      rw [List.getD_eq_getElem?_getD, List.getElem?_eq_getElem hjl]
      have := List.not_of_lt_findIdx (p := (· == x)) (xs := l) hj
      simpa using this)
    rwa [List.take_length] at h1
  · rw [if_neg h]
    have h1 := Lib.idxOf_miss l l.length x (fun j hj => by
      rw [List.getD_eq_getElem?_getD, List.getElem?_eq_getElem hj]
      have hlt : j < l.findIdx (· == x) := Nat.lt_of_lt_of_le hj (Nat.le_of_not_lt h)
      have := List.not_of_lt_findIdx (p := (· == x)) (xs := l) hlt
      simpa using this)
    rwa [List.take_length] at h1
theorem iindex (F : Nat → Prop) (w : World) (A : Option Addr) (c : Nat) (l : List Int) (x : Int) (h : Ints F w A l) (hl : l.length ≤ 17592186044415) :
    Calls Tryz.prog 78 #[.slice A l.length c, .int .i64 x] w fun e w' => e = .returned (.int .i64 (if posI l x < l.length then (posI l x : Int) else -1)) ∧ w = w' := by
  rw [← idx_of_pos]
  by_cases h0 : l = []
  · subst h0
    refine Calls.mono (AnyG.slices_Index_int_empty indexI_lay A c x w) ?_
    rintro e w' ⟨rfl, rfl⟩
    exact ⟨rfl, rfl⟩
  · obtain ⟨b, o, rfl, hc⟩ := h.cells_ h0
    refine Calls.mono (AnyG.slices_Index_int indexI_lay b o l.length c l x w (Nat.le_refl _) (by omega) hc) ?_
    rintro e w' ⟨rfl, rfl⟩
    rw [List.take_length]
    exact ⟨rfl, rfl⟩
/-- the one behind another one; of 0 the first -/
def nextI (l : List Int) (tx : Int) : Option Int := if tx = 0 then l[0]? else if posI l tx < l.length then l[posI l tx + 1]? else none
def Nexted (w : World) (o : Option Int) (e : Ending) (w' : World) : Prop := e = .returned (match o with | some x => .tuple #[.int .i64 x, .bool true] | none => .tuple #[.int .i64 0, .bool false]) ∧ Upd No w w'
theorem onext (F : Nat → Prop) (w : World) (A : Option Addr) (c : Nat) (l : List Int) (tx : Int) (h : Ints F w A l) (hl : l.length ≤ 17592186044415) :
    Calls Tryz.prog 61 #[.slice A l.length c, .int .i64 tx] w (Nexted w (nextI l tx)) := by
  by_cases h0 : tx = 0
  · have hn := Lib.hid (show nextI l tx = l[0]? by unfold nextI; rw [if_pos h0])
    by_cases hz : l.length = 0
    · have hn2 := Lib.hid (show nextI l tx = none by rw [hn.out]; exact List.getElem?_eq_none (by omega))
      have hzb : ((0 : Int) == (l.length : Int)) = true := by rw [beq_iff_eq]; omega
      have h0b : (tx != 0) = false := by rw [h0]; rfl
      have Hz := Lib.hid hz
      clear hz h0
      go_enter Tryz.func61, Tryz.ntmps61
      go_wp2
      go_ret2
      exact ⟨by rw [hn2.out]; rfl, Upd.refl _ _⟩
    · have hp : 0 < l.length := by omega
      have hn2 := Lib.hid (show nextI l tx = some l[0] by rw [hn.out]; exact List.getElem?_eq_getElem hp)
      have hzb : ((0 : Int) == (l.length : Int)) = false := by rw [beq_eq_false_iff_ne]; omega
      have h0b : (tx != 0) = false := by rw [h0]; rfl
      obtain ⟨ad, hA, _, _, hc⟩ := h.at_ hp
      have ha : ad.add 0 = ad := by unfold Addr.add; simp
      rw [ha] at hc
      subst hA
      have hpI : (0 : Int) < (l.length : Int) := by omega
      clear hz h0 ha
      go_enter Tryz.func61, Tryz.ntmps61
      go_wp2
      go_ret2
      exact ⟨by rw [hn2.out]; rfl, Upd.refl _ _⟩
  · have h0b : (tx != 0) = true := by simpa using h0
    have hn := Lib.hid (show nextI l tx = if posI l tx < l.length then l[posI l tx + 1]? else none by unfold nextI; rw [if_neg h0])
    clear h0
    have hidx := iindex F w A c l tx h hl
    by_cases hp : posI l tx < l.length
    · rw [if_pos hp] at hidx
      have Hidx := Lib.hid hidx
      clear hidx
      obtain ⟨k, hk⟩ : ∃ k, posI l tx = k := ⟨_, rfl⟩
      rw [hk] at Hidx hn hp
      clear hk
      have hkb : ((k : Int) + 1 == 0) = false := by rw [beq_eq_false_iff_ne]; omega
      have hk0 : (0 : Int) ≤ (k : Int) + 1 := by omega
      by_cases he : k + 1 = l.length
      · have hn2 := Lib.hid (show nextI l tx = none by rw [hn.out, if_pos hp]; exact List.getElem?_eq_none (by omega))
        have heb : ((k : Int) + 1 == (l.length : Int)) = true := by rw [beq_iff_eq]; omega
        have He := Lib.hid he
        clear he
        go_enter Tryz.func61, Tryz.ntmps61
        go_wp2_with fail
        refine (Hidx.out).mono ?_
        rintro e w1 ⟨rfl, rfl⟩
        go_wp2
        go_ret2
        exact ⟨by rw [hn2.out]; rfl, Upd.refl _ _⟩
      · have hlt : k + 1 < l.length := by omega
        have hn2 := Lib.hid (show nextI l tx = some l[k + 1] by rw [hn.out, if_pos hp]; exact List.getElem?_eq_getElem hlt)
        have heb : ((k : Int) + 1 == (l.length : Int)) = false := by rw [beq_eq_false_iff_ne]; omega
        obtain ⟨ad, hA, _, _, hc⟩ := h.at_ hlt
        subst hA
        have hc2 : w.cell? ⟨ad.block, ad.off + (k + 1), none⟩ = some (.int .i64 l[k + 1]) := by
          rw [← hc]
          congr 1
        have hltI : (k : Int) + 1 < (l.length : Int) := by omega
        clear he
        go_enter Tryz.func61, Tryz.ntmps61
        go_wp2_with fail
        refine (Hidx.out).mono ?_
        rintro e w1 ⟨rfl, rfl⟩
        go_wp2
        go_ret2
        exact ⟨by rw [hn2.out]; rfl, Upd.refl _ _⟩
    · rw [if_neg hp] at hidx
      have Hidx := Lib.hid hidx
      clear hidx
      have hn2 := Lib.hid (show nextI l tx = none by rw [hn.out, if_neg hp])
      clear hp
      go_enter Tryz.func61, Tryz.ntmps61
      go_wp2_with fail
      refine (Hidx.out).mono ?_
      rintro e w1 ⟨rfl, rfl⟩
      go_wp2
      go_ret2
      exact ⟨by rw [hn2.out]; rfl, Upd.refl _ _⟩
end Go.Proofs.YtgakhpdclhlmpaaGreat

/- The order of a key. -/
namespace Go.Proofs.YtgakhpdclhlmpaaGreat
set_option linter.unusedVariables false
open Go.RowKit
theorem kk1 (w : World) (o : HOp) : Calls Tryz.prog 75 #[.agg o.cells.toArray] w fun e w' => e = .returned (.bool (!o.read)) ∧ Upd No w w' := by
  unfold HOp.cells
  go_enter Tryz.func75, Tryz.ntmps75
  go_wp2
  go_ret
  exact ⟨rfl, (Upd.refl _ _).alloc _⟩
theorem ho1 (w : World) (o : HOrd) (p : Addr) (key : Int) (hp : w.cell? p = some (.int .i64 key)) : Calls Tryz.prog 80 #[.agg o.cells.toArray, .pointer (some p)] w fun e w' => e = .returned (.bool (o.key == key)) ∧ Upd No w w' := by
  unfold HOrd.cells
  have hp1 := ((Upd.refl No w).alloc (.cells #[.int .i64 o.key, .slice o.A o.txs.length o.c] 50)).keepNo hp
  go_enter Tryz.func80, Tryz.ntmps80
  go_wp2
  go_ret
  exact ⟨rfl, (Upd.refl _ _).alloc _⟩
/-- where the first order of a key stands -/
def posO (l : List HOrd) (key : Int) : Nat := l.findIdx fun o => o.key == key
/-- where the first order of a key stands; -1: nowhere -/
def idxO (l : List HOrd) (key : Int) : Int := if posO l key < l.length then (posO l key : Int) else -1
theorem posO_hit {l : List HOrd} {key : Int} {k : Nat} (hk : k < l.length) (h : ∀ (j : Nat) (hj : j < k), ((l[j]'(by omega)).key == key) = false) (h1 : (l[k].key == key) = true) : posO l key = k := by
  unfold posO
  rw [List.findIdx_eq hk]
  exact ⟨h1, fun j hj => by simp only [h j hj]⟩
theorem posO_miss {l : List HOrd} {key : Int} (h : ∀ (j : Nat) (hj : j < l.length), (l[j].key == key) = false) : posO l key = l.length := by
  unfold posO
  rw [List.findIdx_eq_length]
  intro x hx
  obtain ⟨k, hk, rfl⟩ := List.mem_iff_getElem.1 hx
  simp only [h k hk]
set_option maxRecDepth 100000 in
theorem ifind (F : Nat → Prop) (w : World) (B : Option Addr) (d : Nat) (l : List HOrd) (p : Addr) (key : Int) (H : Recs F w B 2 (l.map HOrd.cells)) (hl : l.length ≤ 4398046511103) (hp : w.cell? p = some (.int .i64 key)) :
    Calls Tryz.prog 79 #[.slice B l.length d, .func (.func 80) #[] #[.pointer (some p)]] w fun e w' => e = .returned (.int .i64 (idxO l key)) ∧ Upd No w w' := by
  go_enter Tryz.func79, Tryz.ntmps79
  go_wp2
  go_loopg [8] l.length (fun gk s wr => ∃ k : Nat, k + gk = l.length ∧ s = .int .i64 k ∧ Hid (∀ (j : Nat) (hj : j < l.length), j < k → (l[j].key == key) = false) ∧ Upd No w wr)
  case atStart => exact ⟨0, by omega, rfl, Lib.hid (fun j _ hj => by omega), Upd.refl _ _⟩
  case round =>
    obtain ⟨k, hgk, rfl, hall, hu⟩ := hrel
    by_cases hlt : k < l.length
    · have hk' : k < (l.map HOrd.cells).length := by simpa using hlt
      obtain ⟨ad, hB, _, _, hc⟩ := Recs.at_ (Recs.upd H hu (fun _ _ => id)) hk'
      rw [List.getElem_map] at hc
      obtain ⟨x, hx⟩ : ∃ x, l[k] = x := ⟨_, rfl⟩
      rw [hx] at hc
      have c0 : wr.cell? (ad.add (k * 2)) = some (.int .i64 x.key) := by simpa using hc 0 _ rfl
      have c1 : wr.cell? ⟨(ad.add (k * 2)).block, (ad.add (k * 2)).off + 1, none⟩ = some (.slice x.A x.txs.length x.c) := by simpa using hc 1 _ rfl
      have hpr := hu.keepNo hp
      subst hB
      have X := Lib.hid hx
      have b2 : (k : Int) < (l.length : Int) := by omega
      have b1 : (0 : Int) ≤ (k : Int) := Int.natCast_nonneg _
      clear hx hc hk'
      by_cases he : (x.key == key) = true
      · have hpos := Lib.hid (show idxO l key = (k : Int) by unfold idxO; rw [posO_hit (l := l) (key := key) hlt (fun j hj => hall.out j (by omega) hj) (by rw [X.out]; exact he), if_pos hlt])
        have He := Lib.hid he
        clear he
        go_wp2_with fail
        refine (ho1 _ x p key hpr).mono ?_
        rintro e w1 ⟨hee, hu1⟩
        rw [He.out] at hee
        subst hee
        go_wp2
        go_ret
        exact ⟨by rw [hpos.out]; rfl, hu.trans hu1⟩
      · have hef : (x.key == key) = false := by simpa using he
        have He := Lib.hid hef
        clear he hef
        go_wp2_with fail
        refine (ho1 _ x p key hpr).mono ?_
        rintro e w1 ⟨hee, hu1⟩
        rw [He.out] at hee
        subst hee
        go_wp2
        go_roundg (gk - 1)
        case measure => omega
        case rel => exact ⟨k + 1, by omega, by go_num, Lib.hid (fun j hj hjk => by
            by_cases e : j = k
            · subst e; rw [X.out]; exact He.out
            · exact hall.out j hj (by omega)), hu.trans hu1⟩
    · obtain rfl : k = l.length := by omega
      have hpos := Lib.hid (show idxO l key = -1 by unfold idxO; rw [posO_miss (l := l) (key := key) fun j hj => hall.out j hj hj, if_neg (by omega)])
      go_wp2
      go_ret
      exact ⟨by rw [hpos.out]; rfl, hu⟩
/-- the first order of a key -/
def orderOf (l : List HOrd) (key : Int) : List Int := match l[posO l key]? with | some o => o.txs | none => []
set_option maxRecDepth 100000 in
theorem hord (F : Nat → Prop) (w : World) (h : Hist) (key : Int) (H : h.lies F w) : Calls Tryz.prog 62 #[h.val, .int .i64 key] w (NewI w (orderOf h.ords key)) := by
  obtain ⟨txs, ords, A, c, B, d⟩ := h
  unfold Hist.val
  have hfo := H.fewo
  simp only at hfo
  have u0 := ((Upd.refl No w).alloc (.cells #[.slice A txs.length c, .slice B ords.length d] 25)).alloc (.cells #[.int .i64 key] 3)
  have b0 := (Blk.new w 25 [.slice A txs.length c, .slice B ords.length d]).alloc (.cells #[.int .i64 key] 3)
  have b1 := Blk.new (w.alloc (.cells #[.slice A txs.length c, .slice B ords.length d] 25)) 3 [.int .i64 key]
  simp only [World.size_alloc] at b1
  have p1 := b1.cell 0
  simp only [List.getElem?_cons_zero] at p1
  have hi := ifind F _ B d ords ⟨w.heap.size + 1, 0, none⟩ key (Recs.upd H.ords u0 (fun _ _ => id)) hfo p1
  have Hi := Lib.hid hi
  have B0 := Lib.hid b0
  have U0 := Lib.hid u0
  clear hi b0 b1 u0 p1
  by_cases hp : posO ords key < ords.length
  · have hx1 := Lib.hid (show idxO ords key = (posO ords key : Int) by unfold idxO; rw [if_pos hp])
    obtain ⟨k, hk⟩ : ∃ k, posO ords key = k := ⟨_, rfl⟩
    rw [hk] at hx1 hp
    have ho := Lib.hid (show orderOf ords key = ords[k].txs by unfold orderOf; rw [hk, List.getElem?_eq_getElem hp])
    clear hk
    have b2 : (k : Int) < (ords.length : Int) := by omega
    have b1 : (0 : Int) ≤ (k : Int) := Int.natCast_nonneg _
    have b3 : ¬ (k : Int) < 0 := by omega
    go_enter Tryz.func62, Tryz.ntmps62
    go_wp2_with fail
    refine (Hi.out).mono ?_
    rintro e w1 ⟨he, hu1⟩
    rw [hx1.out] at he
    subst he
    have hu : Upd No w w1 := U0.out.trans hu1
    have g1 : w1.cell? ⟨w.heap.size, 1, none⟩ = some (.slice B ords.length d) := (B0.out.upd hu1 id).cell 1
    have H1 := H.upd hu (fun _ _ => id)
    obtain ⟨ad, hB, c0, c1⟩ := H1.ord_at hp
    have hlo := H1.ord ords[k] (List.getElem_mem hp)
    simp only at hB c0 c1
    subst hB
    have HL := Lib.hid hlo
    clear hlo H1
    go_wp2_with fail
    refine (iclone F _ ords[k].A ords[k].c ords[k].txs HL.out.1 HL.out.2.2.1).mono ?_
    rintro e w2 ⟨A2, c2, rfl, ho2, hu2⟩
    have HO := Lib.hid (And.intro ho2 hu2)
    clear ho2 hu2
    go_wp2
    go_ret
    refine ⟨A2, c2, by rw [ho.out]; rfl, ?_, hu.trans HO.out.2⟩
    rw [ho.out]
    exact own_base HO.out.1 hu.size
  · have hx1 := Lib.hid (show idxO ords key = -1 by unfold idxO; rw [if_neg hp])
    have ho := Lib.hid (show orderOf ords key = [] by unfold orderOf; rw [List.getElem?_eq_none (by omega)])
    clear hp
    go_enter Tryz.func62, Tryz.ntmps62
    go_wp2_with fail
    refine (Hi.out).mono ?_
    rintro e w1 ⟨he, hu1⟩
    rw [hx1.out] at he
    subst he
    have hu : Upd No w w1 := U0.out.trans hu1
    go_wp2
    go_ret
    refine ⟨none, 0, by rw [ho.out]; rfl, ?_, hu⟩
    rw [ho.out]
    exact World.ownsRow_nil _ _ _ _
end Go.Proofs.YtgakhpdclhlmpaaGreat

/- Walks begun elsewhere, and turned, by the program and by the document. -/
namespace Go.Proofs.YtgakhpdclhlmpaaGreat
set_option linter.unusedVariables false
open Go.RowKit

theorem Walk.src {F : Nat → Prop} {w : World} {A : Option Addr} {l : List Edge} (h : Walk F w A l) {n : Nat} (hn : n = l.length) : Src w A n 4 (l.map Edge.cells).flatten := by
  subst hn
  have := Recs.src h edges_len
  rwa [List.length_map] at this
theorem Walk.drop {F : Nat → Prop} {w : World} {A : Option Addr} {l : List Edge} (h : Walk F w A l) {i c : Nat} (hc : l.length ≤ c) : Walk F w (cutA A c i 4) (l.drop i) := by
  unfold Walk
  rw [List.map_drop]
  exact Recs.cut h (by simpa using hc)
theorem Walk.take {F : Nat → Prop} {w : World} {A : Option Addr} {l : List Edge} (h : Walk F w A l) {i : Nat} : Walk F w A (l.take i) := by
  unfold Walk
  rw [List.map_take]
  exact Recs.take h
end Go.Proofs.YtgakhpdclhlmpaaGreat

/- Walks: simple by the program; the bits of their kinds, by the program and by the document. -/
namespace Go.Proofs.YtgakhpdclhlmpaaGreat
set_option linter.unusedVariables false
open Go.RowKit

section
variable {α : Type} [DecidableEq α]
theorem lookNone (a : α) : ∀ (m : List (α × Value)) (i : Nat), look a m i = none ↔ a ∉ m.map (·.1)
  | [], i => by simp [look]
  | p :: m, i => by
    unfold look
    by_cases h : a = p.1
    · simp [h]
    · simp only [List.map_cons, List.mem_cons, h, if_false, false_or]
      exact lookNone a m (i + 1)
theorem mput_keys (m : List (α × Value)) (a : α) (v : Value) : (mput m a v).map (·.1) = if a ∈ m.map (·.1) then m.map (·.1) else m.map (·.1) ++ [a] := by
  unfold mput
  cases h : look a m 0 with
  | none =>
    rw [if_neg ((lookNone a m 0).1 h), List.map_append]
    rfl
  | some r =>
    rw [if_pos (by
      rcases Classical.em (a ∈ m.map (·.1)) with h' | h'
      · exact h'
      · rw [(lookNone a m 0).2 h'] at h; cases h)]
    apply List.ext_getElem?
    intro j
    simp only [List.getElem?_map, List.getElem?_modify]
    cases m[j]? with
    | none => simp
    | some p => by_cases hj : r.1 = j <;> simp [hj]
end
theorem kbyint : KeyBy Tryz.prog 3 (fun n : Int => Value.int .i64 n) := KeyBy.int_ Tryz.underlying3
/-- bits as a number -/
def bitsOf (a b c : Bool) : Int := (if a then 2 else 0) + (if b then 4 else 0) + (if c then 8 else 0)
def hasK (l : List Edge) (n : Nat) (k : Int) : Bool := (l.take n).any fun e => e.k == k
def maskOf (l : List Edge) : Int := bitsOf (hasK l l.length 1) (hasK l l.length 2) (hasK l l.length 3)
theorem hasK_succ {l : List Edge} {n : Nat} (hn : n < l.length) (k : Int) : hasK l (n + 1) k = (hasK l n k || l[n].k == k) := by
  unfold hasK
  rw [List.take_succ_eq_append_getElem hn, List.any_append]
  simp
theorem or2 (a b c : Bool) : bits .or .i64 (bitsOf a b c) 2 = bitsOf true b c := by cases a <;> cases b <;> cases c <;> decide
theorem or4 (a b c : Bool) : bits .or .i64 (bitsOf a b c) 4 = bitsOf a true c := by cases a <;> cases b <;> cases c <;> decide
theorem or8 (a b c : Bool) : bits .or .i64 (bitsOf a b c) 8 = bitsOf a b true := by cases a <;> cases b <;> cases c <;> decide
set_option maxRecDepth 100000 in
theorem wmask (F : Nat → Prop) (w : World) (A : Option Addr) (c : Nat) (l : List Edge) (h : Walk F w A l) (hl : l.length ≤ 1000000) :
    Calls Tryz.prog 22 #[.slice A l.length c] w fun e w' => e = .returned (.int .i64 (maskOf l)) ∧ Upd No w w' := by
  go_enter Tryz.func22, Tryz.ntmps22
  go_wp2
  go_loopg [3, 8] l.length (fun gk n i wr => ∃ (k : Nat) (N : Int), k + gk = l.length ∧ i = .int .i64 k ∧ n = .int .i64 N ∧ Hid (N = bitsOf (hasK l k 1) (hasK l k 2) (hasK l k 3)) ∧ Upd No w wr)
  case atStart => exact ⟨0, 0, by omega, rfl, rfl, Lib.hid rfl, Upd.refl _ _⟩
  case round =>
    obtain ⟨k, N, hgk, rfl, rfl, hN, hu⟩ := hrel
    by_cases hlt : k < l.length
    · obtain ⟨ad, rfl, c0, c1, c2, c3⟩ := (h.upd hu (fun _ _ => id)).at_ hlt
      obtain ⟨x, hx⟩ : ∃ x, l[k] = x := ⟨_, rfl⟩
      have hs := fun n => hasK_succ hlt n
      rw [hx] at c0 c1 c2 c3 hs
      by_cases h1 : x.k = 1
      · have H := Lib.hid (show bits .or .i64 N 2 = bitsOf (hasK l (k + 1) 1) (hasK l (k + 1) 2) (hasK l (k + 1) 3) by
          rw [hN.out, hs, hs, hs, h1, or2]; simp)
        obtain ⟨M, hM⟩ : ∃ M, M = bits .or .i64 N 2 := ⟨_, rfl⟩
        rw [← hM] at H
        have hM' := hM.symm
        rw [h1] at c2
        clear hM hs hx h1
        go_wp2
        go_roundg (gk - 1)
        case measure => omega
        case rel => exact ⟨k + 1, M, by omega, by go_num, rfl, H, hu.alloc _⟩
      · by_cases h2 : x.k = 2
        · have H := Lib.hid (show bits .or .i64 N 4 = bitsOf (hasK l (k + 1) 1) (hasK l (k + 1) 2) (hasK l (k + 1) 3) by
            rw [hN.out, hs, hs, hs, h2, or4]; simp)
          obtain ⟨M, hM⟩ : ∃ M, M = bits .or .i64 N 4 := ⟨_, rfl⟩
          rw [← hM] at H
          have hM' := hM.symm
          rw [h2] at c2
          clear hM hs hx h2
          go_wp2
          go_roundg (gk - 1)
          case measure => omega
          case rel => exact ⟨k + 1, M, by omega, by go_num, rfl, H, hu.alloc _⟩
        · by_cases h3 : x.k = 3
          · have H := Lib.hid (show bits .or .i64 N 8 = bitsOf (hasK l (k + 1) 1) (hasK l (k + 1) 2) (hasK l (k + 1) 3) by
              rw [hN.out, hs, hs, hs, h3, or8]; simp)
            obtain ⟨M, hM⟩ : ∃ M, M = bits .or .i64 N 8 := ⟨_, rfl⟩
            rw [← hM] at H
            have hM' := hM.symm
            rw [h3] at c2
            clear hM hs hx h3
            go_wp2
            go_roundg (gk - 1)
            case measure => omega
            case rel => exact ⟨k + 1, M, by omega, by go_num, rfl, H, hu.alloc _⟩
          · have H := Lib.hid (show N = bitsOf (hasK l (k + 1) 1) (hasK l (k + 1) 2) (hasK l (k + 1) 3) by
              rw [hN.out, hs, hs, hs, beq_eq_false_iff_ne.2 h1, beq_eq_false_iff_ne.2 h2, beq_eq_false_iff_ne.2 h3]; simp)
            by_cases h4 : x.k < 1
            · have h4' : decide ((1 : Int) ≤ x.k) = false := decide_eq_false (by omega)
              have h4'' : ¬ (1 : Int) ≤ x.k := by omega
              clear hs hx h1 h2 h3
              go_wp2
              go_roundg (gk - 1)
              case measure => omega
              case rel => exact ⟨k + 1, N, by omega, by go_num, rfl, H, hu.alloc _⟩
            · have h5 : (1 : Int) ≤ x.k := by omega
              have h6 : ¬ x.k ≤ 3 := by omega
              clear hs hx h1 h2 h3 h4
              go_wp2
              go_roundg (gk - 1)
              case measure => omega
              case rel => exact ⟨k + 1, N, by omega, by go_num, rfl, H, hu.alloc _⟩
    · obtain rfl : k = l.length := by omega
      have H := Lib.hid (show N = maskOf l from hN.out)
      go_wp2
      go_ret
      exact ⟨by rw [← H.out]; rfl, hu⟩

end Go.Proofs.YtgakhpdclhlmpaaGreat

/- Walks turned: the plain law: the least of all that are begun elsewhere is one, from whichever place it is begun. -/
namespace Go.Proofs.YtgakhpdclhlmpaaGreat
set_option linter.unusedVariables false
open Go.RowKit

end Go.Proofs.YtgakhpdclhlmpaaGreat

/- What the program tells of histories, in plain words: needs, keys, writers, right; and of edges, reads and witnesses. -/
namespace Go.Proofs.YtgakhpdclhlmpaaGreat
set_option linter.unusedVariables false
open Go.RowKit
/-- is it a read of another one's version -/
def needsF (id : Int) (o : HOp) : Bool := o.read && !((verOf o).tx == 0) && !((verOf o).tx == id)
def needsN (id : Int) (l : List HOp) : Nat → List Ver
  | 0 => []
  | k + 1 =>
    match l[k]? with
    | some o => if needsF id o && !(needsN id l k).contains (verOf o) then needsN id l k ++ [verOf o] else needsN id l k
    | none => needsN id l k
def needsL (id : Int) (l : List HOp) : List Ver := needsN id l l.length
def hasB (txs : List HTx) (v : Ver) : Bool :=
  if v.tx = 0 ∧ v.nth = 0 then idB v.key
  else match findT txs v.tx with
    | some t => decide (1 ≤ v.nth) && decide (v.nth ≤ (writesN t.ops v.key : Int))
    | none => false
def neededB (txs : List HTx) (id : Int) (l : List HOp) : Bool := (needsL id l).all (hasB txs)
def keysOf (l : List HOp) (f : HOp → Bool) : List Int := (l.filter f).map (·.key)
/-- the keys that are written, rising, each once -/
def keysW (l : List HOp) : List Int := setK (keysOf l fun o => !o.read)
/-- a set of keys with some more -/
def addK (s : List Int) : List Int → List Int
  | [] => s
  | k :: l => addK (if k ∈ s then s else s ++ [k]) l
/-- the keys that somebody who is done writes -/
def wkeys : List HTx → List Int → List Int
  | [], s => s
  | t :: l, s => wkeys l (if t.done then addK s (keysW t.ops) else s)
/-- the done ones that write a key -/
def writersOf (txs : List HTx) (key : Int) : List Int := (txs.filter fun t => t.done && (keysW t.ops).contains key).map (·.id)
def txOk (txs : List HTx) (i : Nat) : Bool :=
  match txs[i]? with
  | none => true
  | some t => (match i with | 0 => true | j + 1 => (match txs[j]? with | some u => decide (u.id < t.id) | none => true)) && txErr t.id t.ops == 0 && neededB txs t.id t.ops
def ordOk (txs : List HTx) (ords : List HOrd) (i : Nat) : Bool :=
  match ords[i]? with
  | none => true
  | some o => (match i with | 0 => true | j + 1 => (match ords[j]? with | some u => decide (u.key < o.key) | none => true)) && !o.txs.isEmpty && (sortK o.txs == sortK (writersOf txs o.key))
def rightB (h : Hist) : Bool :=
  decide (h.txs.length ≤ 4096) && (List.range h.txs.length).all (txOk h.txs) && (wkeys h.txs []).length == h.ords.length && (List.range h.ords.length).all (ordOk h.txs h.ords)
/-- the transaction of an id, if it is done -/
def doneT (txs : List HTx) (id : Int) : Option HTx := match findT txs id with | some t => if t.done then some t else none | none => none
def lastB (txs : List HTx) (v : Ver) : Bool := if v.tx = 0 then true else match doneT txs v.tx with | some t => v.nth == (writesN t.ops v.key : Int) | none => false
def nextB (ords : List HOrd) (key x y : Int) : Bool := nextI (orderOf ords key) x == some y
def readsB (id : Int) (l : List HOp) (key : Int) (counts : Ver → Bool) : Bool := l.any fun o => o.read && o.key == key && !(o.tx == id) && counts (verOf o)
def edgeB (h : Hist) (e : Edge) : Bool :=
  match doneT h.txs e.f, doneT h.txs e.t with
  | some a, some b =>
    if e.f = e.t then false
    else if e.k = 1 then nextB h.ords e.key e.f e.t
    else if e.k = 2 then readsB b.id b.ops e.key fun v => v.tx == e.f && lastB h.txs v
    else if e.k = 3 then readsB a.id a.ops e.key fun v => lastB h.txs v && nextB h.ords e.key v.tx e.t
    else false
  | _, _ => false
/-- a bad read -/
structure HBad where
  tx : Int
  place : Int
  of : Ver
deriving DecidableEq
def HBad.cells (b : HBad) : List Value := [.int .i64 b.tx, .int .i64 b.place, .int .i64 b.of.tx, .int .i64 b.of.key, .int .i64 b.of.nth]
def badB (txs : List HTx) (p : Int) (b : HBad) : Bool :=
  match doneT txs b.tx with
  | none => false
  | some t =>
    if b.place < 0 then false
    else match t.ops[b.place.toNat]? with
      | none => false
      | some o =>
        if !o.read || !(verOf o == b.of) || o.tx == 0 || o.tx == t.id then false
        else if p = 2 then (match findT txs o.tx with | some u => !u.done | none => true)
        else if p = 3 then decide (o.nth < (writesN (match findT txs o.tx with | some u => u.ops | none => []) o.key : Int))
        else false
/-- are the kinds those of a phenomenon -/
def kindsOk (m p : Int) : Bool := (bits .andNot .i64 m (maskP p) == 0) && (mustP p == 0 || !(bits .and .i64 m (mustP p) == 0))
def noBad : HBad := ⟨0, 0, ⟨0, 0, 0⟩⟩
def acceptB (h : Hist) (p : Int) (l : List Edge) (b : HBad) : Bool :=
  rightB h && (if p = 2 ∨ p = 3 then decide (l.length = 0) && badB h.txs p b
    else !(maskP p == 0) && b == noBad && closedB l && kindsOk (maskOf l) p && l.all (edgeB h))

/-! from any place -/
end Go.Proofs.YtgakhpdclhlmpaaGreat
