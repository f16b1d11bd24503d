/- Edges: how lists of them lie in memory; when two are one. -/
import Derived.Test.YtgakhpdclhlmpaaProg
import Derived.Test.YtgakhpdclhlmpaaRecs
import Derived.Laws.StructEq
namespace Go.Proofs.Ytgakhpdclhlmpaa
set_option linter.unusedVariables false
open Go.RowKit

/-- an edge -/
structure Edge where
  f : Int
  t : Int
  k : Int
  key : Int
deriving DecidableEq
def Edge.cells (e : Edge) : List Value := [.int .i64 e.f, .int .i64 e.t, .int .i64 e.k, .int .i64 e.key]
/-- a walk lies there -/
def Walk (F : Nat → Prop) (w : World) (A : Option Addr) (l : List Edge) : Prop := Recs F w A 4 (l.map Edge.cells)
theorem edges_len {l : List Edge} : ∀ r ∈ l.map Edge.cells, r.length = 4 := fun r hr => by
  obtain ⟨e, _, rfl⟩ := List.mem_map.1 hr
  rfl
theorem edges_one {l : List Edge} : ∀ v ∈ (l.map Edge.cells).flatten, v.oneCell' = true := fun v hv => by
  obtain ⟨r, hr, h⟩ := List.mem_flatten.1 hv
  obtain ⟨e, _, rfl⟩ := List.mem_map.1 hr
  simp only [Edge.cells, List.mem_cons, List.not_mem_nil, or_false] at h
  rcases h with rfl | rfl | rfl | rfl <;> rfl
theorem slt_edges : SlT Try.prog 22 89 4 32 := SlT.mk_ Try.underlying22 (z := .agg #[.int .i64 0, .int .i64 0, .int .i64 0, .int .i64 0]) (by kernel_rfl) rfl (by omega)
theorem edge_eq (w : World) (a b c d a' b' c' d' : Int) :
    (Op.equalIn 10000 89 (.agg #[.int .i64 a, .int .i64 b, .int .i64 c, .int .i64 d]) (.agg #[.int .i64 a', .int .i64 b', .int .i64 c', .int .i64 d'])).run Try.prog w = .ok (decide ((⟨a, b, c, d⟩ : Edge) = ⟨a', b', c', d'⟩)) w := by
  rw [run_equalIn_struct w _ _ _ _ (by kernel_rfl) (by kernel_rfl)]
  have hI : ∀ (w : World) (d : Nat) (x y : Int), (Op.equalIn (d + 1) 3 (.int .i64 x) (.int .i64 y)).run Try.prog w = .ok (x == y) w := fun w d x y => run_equalIn_int w d _ _ _ x y Try.underlying3
  by_cases h1 : a = a' <;> by_cases h2 : b = b' <;> by_cases h3 : c = c' <;> by_cases h4 : d = d' <;>
    simp [Program.fieldsOf, Try.underlying89, Op.eqFields, part, hI, h1, h2, h3, h4, Result.andThen]
theorem edge_neq (w : World) (x y : Edge) : (binOp .neq 89 (.agg #[.int .i64 x.f, .int .i64 x.t, .int .i64 x.k, .int .i64 x.key]) (.agg #[.int .i64 y.f, .int .i64 y.t, .int .i64 y.k, .int .i64 y.key])).run Try.prog w = .ok (.bool (x != y)) w := by
  obtain ⟨a, b, c, d⟩ := x
  obtain ⟨a', b', c', d'⟩ := y
  rw [run_neq_struct, edge_eq]
  simp only [Result.andThen]
  by_cases h : (⟨a, b, c, d⟩ : Edge) = ⟨a', b', c', d'⟩ <;> simp [h]
theorem Walk.at_ {F : Nat → Prop} {w : World} {A : Option Addr} {l : List Edge} (h : Walk F w A l) {k : Nat} (hk : k < l.length) : ∃ ad, A = some ad ∧
    w.cell? (ad.add (k * 4)) = some (.int .i64 l[k].f) ∧ w.cell? ⟨(ad.add (k * 4)).block, (ad.add (k * 4)).off + 1, none⟩ = some (.int .i64 l[k].t) ∧
    w.cell? ⟨(ad.add (k * 4)).block, (ad.add (k * 4)).off + 2, none⟩ = some (.int .i64 l[k].k) ∧ w.cell? ⟨(ad.add (k * 4)).block, (ad.add (k * 4)).off + 3, none⟩ = some (.int .i64 l[k].key) := by
  have hk' : k < (l.map Edge.cells).length := by simpa using hk
  obtain ⟨ad, e, _, _, hc⟩ := Recs.at_ h hk'
  rw [List.getElem_map] at hc
  exact ⟨ad, e, by simpa using hc 0 _ rfl, by simpa using hc 1 _ rfl, by simpa using hc 2 _ rfl, by simpa using hc 3 _ rfl⟩
theorem Walk.upd {F S : Nat → Prop} {w w' : World} {A : Option Addr} {l : List Edge} (h : Walk F w A l) (k : Upd S w w') (hn : ∀ i, F i → ¬ S i) : Walk F w' A l := Recs.upd h k hn

theorem sameedges (w : World) (F G : Nat → Prop) (A B : Option Addr) (c d : Nat) (xs ys : List Edge) (hx : Walk F w A xs) (hy : Walk G w B ys) (hl : xs.length ≤ 4398046511103) (hl2 : ys.length ≤ 4398046511103) :
    Calls Try.prog 24 #[.slice A xs.length c, .slice B ys.length d] w fun e w' => e = .returned (.bool (xs == ys)) ∧ Upd No w w' := by
  have qN := edge_neq
  have qG : ∀ (op : BinOp) (x y : Operand) (xs ys : Array Value) (w : World), (eqGuard op 89 x y (.agg xs) (.agg ys)).run Try.prog w = .ok () w := fun op x y xs ys w => run_eqGuard_agg w op _ x y xs ys (by kernel_rfl)
  by_cases hne : xs.length = ys.length
  · have hb : ((xs.length : Int) != (ys.length : Int)) = false := by rw [hne]; simp
    go_enter Try.func24, Try.ntmps24
    have Hne := Lib.hid hne
    clear hne
    go_wp2
    go_loopg [5, 13] xs.length (fun gk j i wr => ∃ k : Nat, k + gk = xs.length ∧ i = .int .i64 k ∧ xs.take k = ys.take k ∧ Upd No w wr)
    case atStart => exact ⟨0, by omega, rfl, by simp, Upd.refl _ _⟩
    case round =>
      obtain ⟨k, hgk, rfl, hs, hu⟩ := hrel
      have Hs := Lib.hid hs
      clear hs
      by_cases hlt : k < xs.length
      · have hlt2 : k < ys.length := by have := Hne.out; omega
        obtain ⟨ax, rfl, hc0, hc1, hc2, hc3⟩ := (hx.upd hu (fun _ _ => id)).at_ hlt
        obtain ⟨ay, rfl, hd0, hd1, hd2, hd3⟩ := (hy.upd hu (fun _ _ => id)).at_ hlt2
        have b1 : (0 : Int) ≤ (k : Int) := Int.natCast_nonneg _
        have b2 : (k : Int) < (xs.length : Int) := by omega
        have b3 : (k : Int) < (ys.length : Int) := by omega
        by_cases he : xs[k] = ys[k]
        · have heb : (xs[k] != ys[k]) = false := by rw [he]; simp
          have He := Lib.hid he
          clear he
          go_wp2
          go_quiet (fail)
          go_wp2
          go_roundg (gk - 1)
          case measure => omega
          case rel =>
            refine ⟨k + 1, by omega, by go_num, ?_, hu.drewN _⟩
            rw [List.take_succ_eq_append_getElem hlt, List.take_succ_eq_append_getElem hlt2, Hs.out, He.out]
        · have heb : (xs[k] != ys[k]) = true := by simpa using he
          have He := Lib.hid he
          clear he
          go_wp2
          go_quiet (fail)
          go_wp2
          go_ret
          have hne2 : (xs == ys) = false := by
            rw [beq_eq_false_iff_ne]
            rintro rfl
            exact He.out rfl
          exact ⟨by rw [hne2]; rfl, hu.drewN _⟩
      · obtain rfl : k = xs.length := by omega
        go_wp2
        go_ret
        have h2 := Hs.out
        rw [List.take_length, Hne.out, List.take_length] at h2
        exact ⟨by rw [h2, beq_self_eq_true]; rfl, hu⟩
  · have hb : ((xs.length : Int) != (ys.length : Int)) = true := by rw [bne_iff_ne]; omega
    have hf : (xs == ys) = false := by rw [beq_eq_false_iff_ne]; rintro rfl; exact hne rfl
    have Hf := Lib.hid hf
    clear hf
    go_enter Try.func24, Try.ntmps24
    go_wp2
    go_ret
    exact ⟨by rw [Hf.out]; rfl, Upd.refl _ _⟩
end Go.Proofs.Ytgakhpdclhlmpaa
