/- Closed walks: how edges that come in read. -/
import Derived.Test.YtmnhgdedkniafaaMbs
import Derived.Test.YtmnhgdedkniafaaMbt
namespace Go.Proofs.Ytmnhgdedkniafaa
set_option linter.unusedVariables false
open Go.RowKit
theorem DCedge : Try.prog.cellsOf 96 = 4 := by kernel_rfl
theorem DBedge : Try.prog.bytesOf 96 = 32 := by kernel_rfl
/-- the numbers of an edge are numbers of the machine -/
def Edge.i (a : Edge) : Prop := (-9223372036854775808 ≤ a.f ∧ a.f ≤ 9223372036854775807) ∧ (-9223372036854775808 ≤ a.t ∧ a.t ≤ 9223372036854775807) ∧ (-9223372036854775808 ≤ a.k ∧ a.k ≤ 9223372036854775807) ∧ (-9223372036854775808 ≤ a.key ∧ a.key ≤ 9223372036854775807)
section
variable {H : Type} {enc : TypeId × Value → H} {w : World} {base : Nat} {spare : Nat → Bool} {held : Bool} {row : List Value}
theorem rdedge (h : Rdz enc Try.prog w base spare held 96 row) : ∃ e : Edge, row = e.cells ∧ e.i := by
  obtain ⟨hl, hf⟩ := h.struct_ Try.underlying96
  rw [DCedge] at hl
  obtain ⟨c0, c1, c2, c3, rfl⟩ := dcs4 hl
  have h0 : Rdz enc Try.prog w base spare held 3 (([c0, c1, c2, c3].drop 0).take (Try.prog.cellsOf 3)) := hf 0 _ rfl
  have h1 : Rdz enc Try.prog w base spare held 3 (([c0, c1, c2, c3].drop 1).take (Try.prog.cellsOf 3)) := hf 1 _ rfl
  have h2 : Rdz enc Try.prog w base spare held 3 (([c0, c1, c2, c3].drop 2).take (Try.prog.cellsOf 3)) := hf 2 _ rfl
  have h3 : Rdz enc Try.prog w base spare held 3 (([c0, c1, c2, c3].drop 3).take (Try.prog.cellsOf 3)) := hf 3 _ rfl
  rw [DCint] at h0 h1 h2 h3
  obtain ⟨n0, rfl, b0⟩ := rddi h0
  obtain ⟨n1, rfl, b1⟩ := rddi h1
  obtain ⟨n2, rfl, b2⟩ := rddi h2
  obtain ⟨n3, rfl, b3⟩ := rddi h3
  exact ⟨⟨n0, n1, n2, n3⟩, rfl, b0, b1, b2, b3⟩
theorem rdedges {v : Value} (h : Rdz enc Try.prog w base spare held 26 [v]) : ∃ (A : Option Addr) (c : Nat) (l : List Edge), v = .slice A l.length c ∧ Walk (fun _ => True) w A l ∧ l.length ≤ c ∧ l.length ≤ 4398046511103 ∧ ∀ e ∈ l, e.i := by
  rcases h.slice_ Try.underlying26 DCedge (by omega) with h | ⟨a, len, cap, rows, hv, hl, hm, hlen, hz, hrec, hrow⟩
  · cases h
    exact ⟨none, 0, [], rfl, fun h => absurd rfl h, by simp, by simp, fun e he => by simp at he⟩
  · cases hv
    obtain ⟨l, rfl, hok⟩ := rows_of' (f := Edge.cells) (Q := Edge.i) fun row hr => rdedge (hrow row hr).2
    rw [List.length_map] at hlen
    subst hlen
    rw [DBedge] at hz
    unfold reachBytes at hz
    exact ⟨some a, cap, l, rfl, hrec, hl, by omega, hok⟩
end
end Go.Proofs.Ytmnhgdedkniafaa

/- Closed walks: what is known of the walk that is told; whether an edge is among some. -/
namespace Go.Proofs.Ytmnhgdedkniafaa
set_option linter.unusedVariables false
open Go.RowKit
theorem okW_next {p : List HArc} {least : Int} : ∀ {l : List HArc} {u v : Int}, okW p least u l v → (∀ h : 0 < l.length, l[0].f = u) ∧ ∀ (i : Nat) (h : i < l.length), (∀ h2 : i + 1 < l.length, l[i].t = l[i + 1].f) ∧ (i + 1 = l.length → l[i].t = v)
  | [], u, v, _ => ⟨fun h => by simp at h, fun i h => by simp at h⟩
  | a :: l, u, v, hw => by
    obtain ⟨ha, haf, hl, hw⟩ := hw
    obtain ⟨ih1, ih2⟩ := okW_next hw
    refine ⟨fun _ => haf, fun i h => ?_⟩
    cases i with
    | zero =>
      refine ⟨fun h2 => ?_, fun h2 => ?_⟩
      · have h3 : 0 < l.length := by simpa using h2
        exact (ih1 h3).symm
      · have : l = [] := by simpa using h2
        subst this
        exact hw
    | succ i =>
      have h3 : i < l.length := by simpa using h
      have := ih2 i h3
      refine ⟨fun h2 => ?_, fun h2 => ?_⟩
      · exact this.1 (by simpa using h2)
      · exact this.2 (by simpa using h2)
/-- what is known of the walk that is told -/
structure SimpleD (l d : List Edge) (mask must : Int) : Prop where
  next : ∀ (i : Nat) (h : i < d.length), d[i].t = (d[(i + 1) % d.length]'(Nat.mod_lt _ (by omega))).f
  kind : ∀ e ∈ d, (1 ≤ e.k ∧ e.k ≤ 3 ∧ bitM mask e.k = true) ∧ e ∈ l
  least : ∀ (i : Nat) (h : i < d.length), (d[0]'(by omega)).f ≤ d[i].f
  dist : ∀ (i j : Nat) (hi : i < j) (hj : j < d.length), (d[i]'(by omega)).f ≠ d[j].f
  has : needR must = true → (d.any fun e => bitM must e.k) = true
theorem doc_simple {l : List Edge} {mask must : Int} (hl : l.length ≤ 100000) : SimpleD l (docS l mask must) mask must ∨ docS l mask must = [] := by
  rcases docS_or l mask must hl with ⟨e, _⟩ | ⟨v, h⟩
  · exact .inr e
  · left
    obtain ⟨d, hd⟩ : ∃ d, docS l mask must = d := ⟨_, rfl⟩
    rw [hd] at h ⊢
    obtain ⟨h1, h2⟩ := okW_next h.w
    have hlen : (d.map Edge.arc).length = d.length := List.length_map ..
    have h0 : ∀ hp : 0 < d.length, d[0].f = v := fun hp => by
      have := h1 (by rw [hlen]; exact hp)
      rw [List.getElem_map] at this
      exact this
    refine ⟨fun i hi => ?_, fun e he => ?_, fun i hi => ?_, fun i j hij hj => ?_, fun hn => ?_⟩
    · have h3 := h2 i (by rw [hlen]; exact hi)
      rw [List.getElem_map] at h3
      by_cases hl : i + 1 < d.length
      · have h4 := h3.1 (by rw [hlen]; exact hl)
        rw [List.getElem_map] at h4
        have e : (i + 1) % d.length = i + 1 := Nat.mod_eq_of_lt hl
        simp only [e]
        exact h4
      · have h4 := h3.2 (by rw [hlen]; omega)
        have e : (i + 1) % d.length = 0 := by rw [show i + 1 = d.length by omega]; exact Nat.mod_self _
        simp only [e]
        rw [h0 (by omega)]
        exact h4
    · have h3 := okW_mem h.w e.arc (mem_arcs.2 he)
      have h4 := List.mem_filter.1 (mem_arcs.1 h3)
      have h5 := bitR_kind h4.2
      exact ⟨h5, h4.1⟩
    · have h3 := okW_ge h.w d[i].arc (mem_arcs.2 (List.getElem_mem hi))
      rw [h0 (by omega)]
      exact h3
    · have h3 := List.pairwise_iff_getElem.1 h.simple i j (by rw [hlen]; omega) (by rw [hlen]; exact hj) hij
      rw [List.getElem_map, List.getElem_map] at h3
      exact h3
    · have h3 := h.m hn
      unfold hasM at h3
      rw [List.any_map] at h3
      exact h3
theorem edge_eql (w : World) (x y : Edge) : (binOp .eql 96 (.agg #[.int .i64 x.f, .int .i64 x.t, .int .i64 x.k, .int .i64 x.key]) (.agg #[.int .i64 y.f, .int .i64 y.t, .int .i64 y.k, .int .i64 y.key])).run Try.prog w = .ok (.bool (x == y)) w := by
  obtain ⟨a, b, c, d⟩ := x
  obtain ⟨a', b', c', d'⟩ := y
  rw [run_eql_struct, edge_eq]
  simp only [Result.andThen]
  by_cases h : (⟨a, b, c, d⟩ : Edge) = ⟨a', b', c', d'⟩ <;> simp [h]
set_option maxRecDepth 100000 in
theorem cinEdges (F : Nat → Prop) (w : World) (A : Option Addr) (c : Nat) (l : List Edge) (e : Edge) (h : Walk F w A l) (hl : l.length ≤ 1000000) :
    Calls Try.prog 72 #[.slice A l.length c, .agg e.cells.toArray] w fun x w' => x = .returned (.bool (decide (e ∈ l))) ∧ Upd No w w' := by
  have qE := edge_eql
  have qG : ∀ (op : BinOp) (x y : Operand) (xs ys : Array Value) (w : World), (eqGuard op 96 x y (.agg xs) (.agg ys)).run Try.prog w = .ok () w := fun op x y xs ys w => run_eqGuard_agg w op _ x y xs ys (by kernel_rfl)
  obtain ⟨wb, hwb⟩ : ∃ wb, w.alloc (.cells #[.int .i64 e.f, .int .i64 e.t, .int .i64 e.k, .int .i64 e.key] 96) = wb := ⟨_, rfl⟩
  have u0 : Upd No w wb := by rw [← hwb]; exact (Upd.refl No w).alloc _
  have bE : Blk wb w.heap.size 96 [.int .i64 e.f, .int .i64 e.t, .int .i64 e.k, .int .i64 e.key] := by rw [← hwb]; exact Blk.new w _ _
  have HW := Lib.hid (fun (W : World) (u : Upd No wb W) => h.upd (u0.trans u) (fun _ _ => id))
  have HE := Lib.hid (fun (W : World) (u : Upd No wb W) => bE.upd u id)
  have U0 := Lib.hid u0
  unfold Edge.cells
  clear h u0 bE
  go_enter Try.func72, Try.ntmps72
  go_wp2
  clear hwb
  go_loopg [9] l.length (fun gk i wr => ∃ k : Nat, k + gk = l.length ∧ i = .int .i64 k ∧ Hid (decide (e ∈ l) = decide (e ∈ l.drop k)) ∧ Upd No wb wr)
  case atStart => exact ⟨0, by omega, rfl, Lib.hid (by simp), Upd.refl _ _⟩
  case round =>
    obtain ⟨k, hgk, rfl, hs, hu⟩ := hrel
    by_cases hlt : k < l.length
    · obtain ⟨ax, rfl, q0, q1, q2, q3⟩ := (HW.out wr hu).at_ hlt
      obtain ⟨x, hx⟩ : ∃ x, l[k] = x := ⟨_, rfl⟩
      have hd := Lib.hid (show l.drop k = x :: l.drop (k + 1) by rw [← hx]; exact List.drop_eq_getElem_cons hlt)
      rw [hx] at q0 q1 q2 q3
      have bw := (HE.out wr hu).alloc (.cells #[.int .i64 x.f, .int .i64 x.t, .int .i64 x.k, .int .i64 x.key] 96)
      have e0 := bw.cell 0
      have e1 := bw.cell 1
      have e2 := bw.cell 2
      have e3 := bw.cell 3
      simp only [List.getElem?_cons_zero, List.getElem?_cons_succ] at e0 e1 e2 e3
      have b1 : (0 : Int) ≤ (k : Int) := Int.natCast_nonneg _
      have b2 : (k : Int) < (l.length : Int) := by omega
      clear hx bw
      by_cases he : x = e
      · have heb : (x == e) = true := by rw [he]; simp
        have He := Lib.hid he
        clear he
        go_wp2
        go_ret
        exact ⟨by rw [hs.out, hd.out, He.out]; simp, (U0.out.trans hu).alloc _⟩
      · have heb : (x == e) = false := by simpa using he
        have He := Lib.hid he
        clear he
        go_wp2
        go_roundg (gk - 1)
        case measure => omega
        case rel =>
          refine ⟨k + 1, by omega, by go_num, Lib.hid ?_, hu.alloc _⟩
          rw [hs.out, hd.out]
          have := He.out
          simp only [List.mem_cons, decide_eq_decide]
          exact ⟨fun e => e.elim (fun e => absurd e.symm this) id, .inr⟩
    · obtain rfl : k = l.length := by omega
      have hf : decide (e ∈ l) = false := by rw [hs.out, List.drop_length]; simp
      have HF := Lib.hid hf
      clear hf hs
      go_wp2
      go_ret
      exact ⟨by rw [HF.out]; rfl, U0.out.trans hu⟩
end Go.Proofs.Ytmnhgdedkniafaa

/- Closed walks: the law that the walk that is told is simple. -/
namespace Go.Proofs.Ytmnhgdedkniafaa
set_option linter.unusedVariables false
open Go.RowKit
theorem cut_h0 {P : Program} {t e : TypeId} {size bytes : Nat} (W : World) (hT : SlT P t e size bytes) (ad : Addr) (len cap h : Nat) (h1 : h ≤ cap) :
    (Instr.slice t (.slice (some ad) len cap) none (some (.int .i64 h)) none).run P W = .ok (.slice (some ad) h cap) W := by
  have h2 := run_cut_h (P := P) (W := W) hT (some ad) len cap h h1
  have h3 : cutA (some ad) cap 0 size = some ad := by
    have ha : ad.add 0 = ad := by unfold Addr.add; simp
    unfold cutA
    split
    · rfl
    · simp [ha]
  rwa [h3] at h2
theorem simple_len {l d : List Edge} {mask must : Int} (h : SimpleD l d mask must) : d.length ≤ l.length := by
  have := nodup_len (l := d.map Edge.f) (m := l.map Edge.f) (List.pairwise_iff_getElem.2 fun i j hi hj hij => by
    rw [List.length_map] at hi hj
    rw [List.getElem_map, List.getElem_map]
    exact h.dist i j hij hj) (fun x hx => by
    obtain ⟨e, he, rfl⟩ := List.mem_map.1 hx
    exact List.mem_map.2 ⟨e, (h.kind e he).2, rfl⟩)
  rwa [List.length_map, List.length_map] at this
end Go.Proofs.Ytmnhgdedkniafaa

/- Closed walks: the law that the walk that is told is simple. -/
namespace Go.Proofs.Ytmnhgdedkniafaa
set_option linter.unusedVariables false
open Go.RowKit
end Go.Proofs.Ytmnhgdedkniafaa
