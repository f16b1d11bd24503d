/- Walks of edges: closed, and simple, by the document; simple by the program. -/
import Derived.Test.YtgakhpdclhlmpaaProg
import Derived.Test.YtgakhpdclhlmpaaWalkA
import Derived.Test.YtgakhpdclhlmpaaMaps
namespace Go.Proofs.Ytgakhpdclhlmpaa
set_option linter.unusedVariables false
open Go.RowKit

set_option maxRecDepth 100000 in
theorem rclosed (F : Nat → Prop) (w : World) (A : Option Addr) (c : Nat) (l : List Edge) (h : Walk F w A l) (hl : l.length ≤ 1000000) :
    Calls Try.prog 16 #[.slice A l.length c] w fun e w' => e = .returned (.bool (closedB l)) ∧ Upd No w w' := by
  by_cases h0 : l.length = 0
  · have hz : ((l.length : Int) == 0) = true := by rw [beq_iff_eq]; omega
    have hc := Lib.hid (show closedB l = false by unfold closedB; simp [h0])
    clear h0
    go_enter Try.func16, Try.ntmps16
    go_wp2
    go_ret
    exact ⟨by rw [hc.out]; rfl, Upd.refl _ _⟩
  have hz : ((l.length : Int) == 0) = false := by rw [beq_eq_false_iff_ne]; omega
  go_enter Try.func16, Try.ntmps16
  go_wp2
  go_loopg [10] l.length (fun gk i wr => ∃ k : Nat, k + gk = l.length ∧ i = .int .i64 k ∧ Hid ((List.range k).all (okC l) = true) ∧ Upd No w wr)
  case atStart => exact ⟨0, by omega, rfl, Lib.hid rfl, Upd.refl _ _⟩
  case round =>
    obtain ⟨k, hgk, rfl, hok, hu⟩ := hrel
    by_cases hlt : k < l.length
    · obtain ⟨ad, rfl, c0, c1, c2, c3⟩ := (h.upd hu (fun _ _ => id)).at_ hlt
      obtain ⟨x, hx⟩ : ∃ x, l[k] = x := ⟨_, rfl⟩
      rw [hx] at c0 c1 c2 c3
      have b1 : (0 : Int) ≤ (k : Int) := Int.natCast_nonneg _
      have b2 : (k : Int) < (l.length : Int) := by omega
      have b5 : IntKind.i64.wrap ((k : Int) + 1) = (k : Int) + 1 := IntWalk.i64_in _ (by omega)
      have b6 : (0 : Int) ≤ (k : Int) + 1 := by omega
      by_cases hk1 : k + 1 < l.length
      · obtain ⟨ad', e1, d0, d1, d2, d3⟩ := (h.upd hu (fun _ _ => id)).at_ hk1
        cases e1
        obtain ⟨y, hy⟩ : ∃ y, l[k + 1] = y := ⟨_, rfl⟩
        rw [hy] at d0 d1 d2 d3
        have hat := okC_at (l := l) (k := k) (by rw [List.getElem?_eq_getElem hlt, hx]) (Nat.mod_eq_of_lt hk1) (by rw [List.getElem?_eq_getElem hk1, hy])
        have D0 := ((Upd.refl No wr).alloc (.cells #[.int .i64 x.f, .int .i64 x.t, .int .i64 x.k, .int .i64 x.key] 89)).keepNo d0
        have b3 : (k : Int) + 1 < (l.length : Int) := by omega
        have b7 : ((k : Int) + 1 == (l.length : Int)) = false := by rw [beq_eq_false_iff_ne]; omega
        have b8 : ((k : Int) + 1).toNat = k + 1 := by omega
        clear hx hy
        by_cases he : x.t = y.f
        · have heb : (x.t != y.f) = false := by rw [he]; simp
          have Hok := Lib.hid (show (List.range (k + 1)).all (okC l) = true by rw [all_succ, hok.out, hat, he]; simp)
          clear he hat
          go_wp2
          go_quiet (fail)
          clear b5 b8
          go_wp2
          go_roundg (gk - 1)
          case measure => omega
          case rel => exact ⟨k + 1, by omega, by go_num, Hok, (hu.alloc _).drewN _⟩
        · have heb : (x.t != y.f) = true := by rw [bne_iff_ne]; exact he
          have Hok := Lib.hid (closed_no hlt (by rw [hat]; simpa using he))
          clear he hat
          go_wp2
          go_quiet (fail)
          clear b5 b8
          go_wp2
          go_ret
          exact ⟨by rw [Hok.out]; rfl, (hu.alloc _).drewN _⟩
      · have h00 : 0 < l.length := by omega
        obtain ⟨ad', e1, d0, d1, d2, d3⟩ := (h.upd hu (fun _ _ => id)).at_ h00
        cases e1
        obtain ⟨y, hy⟩ : ∃ y, l[0] = y := ⟨_, rfl⟩
        rw [hy] at d0 d1 d2 d3
        rw [Nat.zero_mul, show ad.add 0 = ad from rfl] at d0
        have hat := okC_at (l := l) (k := k) (by rw [List.getElem?_eq_getElem hlt, hx]) (show (k + 1) % l.length = 0 by rw [show k + 1 = l.length by omega, Nat.mod_self]) (by rw [List.getElem?_eq_getElem h00, hy])
        have D0 := ((Upd.refl No wr).alloc (.cells #[.int .i64 x.f, .int .i64 x.t, .int .i64 x.k, .int .i64 x.key] 89)).keepNo d0
        have b3 : decide ((k : Int) + 1 < (l.length : Int)) = false := decide_eq_false (by omega)
        have b7 : ((k : Int) + 1 == (l.length : Int)) = true := by rw [beq_iff_eq]; omega
        have b9 : (0 : Int) < (l.length : Int) := by omega
        clear hx hy
        by_cases he : x.t = y.f
        · have heb : (x.t != y.f) = false := by rw [he]; simp
          have Hok := Lib.hid (show (List.range (k + 1)).all (okC l) = true by rw [all_succ, hok.out, hat, he]; simp)
          clear he hat
          go_wp2
          go_quiet (fail)
          clear b5
          go_wp2
          go_roundg (gk - 1)
          case measure => omega
          case rel => exact ⟨k + 1, by omega, by go_num, Hok, (hu.alloc _).drewN _⟩
        · have heb : (x.t != y.f) = true := by rw [bne_iff_ne]; exact he
          have Hok := Lib.hid (closed_no hlt (by rw [hat]; simpa using he))
          clear he hat
          go_wp2
          go_quiet (fail)
          clear b5
          go_wp2
          go_ret
          exact ⟨by rw [Hok.out]; rfl, (hu.alloc _).drewN _⟩
    · obtain rfl : k = l.length := by omega
      have Hok := Lib.hid (show closedB l = true by
        unfold closedB
        rw [hok.out, Bool.and_true, decide_eq_true_eq]
        omega)
      go_wp2
      go_ret
      exact ⟨by rw [Hok.out]; rfl, hu⟩

def simpleB (l : List Edge) : Bool := decide ((l.map (·.f)).Nodup)
theorem nodup_succ {l : List Edge} {k : Nat} (hk : k < l.length) : ((l.take (k + 1)).map (·.f)).Nodup ↔ ((l.take k).map (·.f)).Nodup ∧ l[k].f ∉ (l.take k).map (·.f) := by
  rw [List.take_succ_eq_append_getElem hk, List.map_append, List.nodup_append]
  simp only [List.map_cons, List.map_nil, List.mem_singleton]
  constructor
  · rintro ⟨h1, _, h3⟩
    exact ⟨h1, fun hm => h3 _ hm _ rfl rfl⟩
  · rintro ⟨h1, h2⟩
    exact ⟨h1, by simp, fun a ha b hb e => h2 (by rw [← hb, ← e]; exact ha)⟩
theorem simple_no {l : List Edge} {k : Nat} (hk : k < l.length) (h : l[k].f ∈ (l.take k).map (·.f)) : simpleB l = false := by
  unfold simpleB
  rw [decide_eq_false_iff_not]
  intro hn
  have : ((l.take (k + 1)).map (·.f)).Nodup := ((List.take_sublist _ _).map _).nodup hn
  exact ((nodup_succ hk).1 this).2 h
set_option maxRecDepth 100000 in
theorem rsimple (F : Nat → Prop) (w : World) (A : Option Addr) (c : Nat) (l : List Edge) (h : Walk F w A l) (hl : l.length ≤ 1000000) (hc : l.length ≤ c) :
    Calls Try.prog 18 #[.slice A l.length c] w fun e w' => e = .returned (.bool (simpleB l)) ∧ Upd No w w' := by
  go_enter Try.func18, Try.ntmps18
  go_wp2
  go_loopg [9] l.length (fun gk i wr => ∃ k : Nat, k + gk = l.length ∧ i = .int .i64 k ∧ Hid (((l.take k).map (·.f)).Nodup) ∧ Upd No w wr)
  case atStart => exact ⟨0, by omega, rfl, Lib.hid (by simp), Upd.refl _ _⟩
  case round =>
    obtain ⟨k, hgk, rfl, hok, hu⟩ := hrel
    by_cases hlt : k < l.length
    · obtain ⟨ad, rfl, c0, c1, c2, c3⟩ := (h.upd hu (fun _ _ => id)).at_ hlt
      have hcut := fun W => run_cut_h W slt_edges (some ad) l.length c k (by omega)
      have bx := Blk.new wr 89 [.int .i64 l[k].f, .int .i64 l[k].t, .int .i64 l[k].k, .int .i64 l[k].key]
      have hadd : cutA (some ad) c 0 4 = some ad := by unfold cutA; split <;> simp [Addr.add]
      rw [hadd] at hcut
      have Hadd := Lib.hid hadd
      clear hadd
      have huA := hu.alloc (.cells #[.int .i64 l[k].f, .int .i64 l[k].t, .int .i64 l[k].k, .int .i64 l[k].key] 89)
      go_wp2
      generalize wr.alloc _ = w1 at *
      obtain ⟨gK, rfl⟩ : ∃ g, g = gk := ⟨_, rfl⟩
      go_loopg [18] k (fun gj j wq => ∃ i : Nat, i + gj = k ∧ j = .int .i64 i ∧ Hid (l[k].f ∉ (l.take i).map (·.f)) ∧ Upd No w1 wq)
      case atStart => exact ⟨0, by omega, rfl, Lib.hid (by simp), Upd.refl _ _⟩
      case round =>
        obtain ⟨i, hgj, rfl, hno, hu2⟩ := hrel
        have b0 := (bx.upd hu2 id).cell 0
        simp only [List.getElem?_cons_zero] at b0
        by_cases hik : i < k
        · have hil : i < l.length := by omega
          obtain ⟨ad', e1, d0, d1, d2, d3⟩ := (h.upd (huA.trans hu2) (fun _ _ => id)).at_ hil
          cases e1
          by_cases he : l[k].f = l[i].f
          · have heb : (l[k].f == l[i].f) = true := by rw [beq_iff_eq]; exact he
            have Hs := Lib.hid (simple_no hlt (by rw [he]; exact List.mem_map.2 ⟨l[i], List.mem_take_iff_getElem.2 ⟨i, by omega, rfl⟩, rfl⟩))
            have B0 := ((Upd.refl No wr).alloc (.cells #[.int .i64 l[i].f, .int .i64 l[i].t, .int .i64 l[i].k, .int .i64 l[i].key] 89)).keepNo b0
            clear he
            go_wp2
            go_ret
            exact ⟨by rw [Hs.out]; rfl, (huA.trans hu2).alloc _⟩
          · have heb : (l[k].f == l[i].f) = false := by rw [beq_eq_false_iff_ne]; exact he
            have Hn := Lib.hid (show l[k].f ∉ (l.take (i + 1)).map (·.f) by
              rw [List.take_succ_eq_append_getElem hil, List.map_append, List.mem_append, not_or]
              exact ⟨hno.out, by simpa using he⟩)
            have B0 := ((Upd.refl No wr).alloc (.cells #[.int .i64 l[i].f, .int .i64 l[i].t, .int .i64 l[i].k, .int .i64 l[i].key] 89)).keepNo b0
            clear he
            go_wp2
            go_roundg (gk - 1)
            case measure => omega
            case rel => exact ⟨i + 1, by omega, by go_num, Hn, hu2.alloc _⟩
        · obtain rfl : i = k := by omega
          go_wp2
          go_roundg (gK - 1)
          case measure => omega
          case rel => exact ⟨i + 1, by omega, by go_num, Lib.hid ((nodup_succ hlt).2 ⟨hok.out, hno.out⟩), huA.trans hu2⟩
    · obtain rfl : k = l.length := by omega
      have Hok := Lib.hid (show simpleB l = true by unfold simpleB; rw [decide_eq_true_eq]; have := hok.out; rwa [List.take_length] at this)
      go_wp2
      go_ret
      exact ⟨by rw [Hok.out]; rfl, hu⟩
end Go.Proofs.Ytgakhpdclhlmpaa
