/- When two lists of numbers are one, by the document. -/
import Derived.Test.YtmnhgdedkniafaaProg
import Derived.Shelf.Bits.Mul64
import Derived.Ground.NamesProg
import Derived.Shelf.SlGeneric
import Derived.Test.YtmnhgdedkniafaaMan
namespace Go.Proofs.Ytmnhgdedkniafaa
set_option linter.unusedVariables false
open Go.RowKit
theorem samei (w : World) (F G : Nat → Prop) (A B : Option Addr) (c d : Nat) (xs ys : List Int) (hx : Ints F w A xs) (hy : Ints G w B ys) (hl : xs.length ≤ 1048576) (hl2 : ys.length ≤ 1048576) :
    Calls Try.prog 33 #[.slice A xs.length c, .slice B ys.length d] w fun e w' => e = .returned (.bool (xs == ys)) ∧ Upd No w w' := by
  by_cases hne : xs.length = ys.length
  · have hb : ((xs.length : Int) != (ys.length : Int)) = false := by rw [hne]; simp
    go_enter Try.func33, Try.ntmps33
    have Hne := Lib.hid hne
    clear hne
    go_wp2
    go_loopg [5, 13] xs.length (fun gk j i wr => ∃ k : Nat, k + gk = xs.length ∧ i = .int .i64 k ∧ xs.take k = ys.take k ∧ Upd No w wr)
    case atStart => exact ⟨0, by omega, rfl, by simp, Upd.refl _ _⟩
    case round =>
      obtain ⟨k, hgk, rfl, hs, hu⟩ := hrel
      have Hs := Lib.hid hs
      clear hs
      by_cases hlt : k < xs.length
      · have hlt2 : k < ys.length := by have := Hne.out; omega
        obtain ⟨ax, rfl, _, _, hcx⟩ := (hx.upd hu (fun _ _ => id)).at_ hlt
        obtain ⟨ay, rfl, _, _, hcy⟩ := (hy.upd hu (fun _ _ => id)).at_ hlt2
        have b1 : (0 : Int) ≤ (k : Int) := Int.natCast_nonneg _
        have b2 : (k : Int) < (xs.length : Int) := by omega
        have b3 : (k : Int) < (ys.length : Int) := by omega
        by_cases he : xs[k] = ys[k]
        · have heb : (xs[k] != ys[k]) = false := by rw [he]; simp
          have He := Lib.hid he
          clear he
          go_wp2
          go_quiet (fail)
          go_wp2
          go_roundg (gk - 1)
          case measure => omega
          case rel =>
            refine ⟨k + 1, by omega, by go_num, ?_, hu.drewN _⟩
            rw [List.take_succ_eq_append_getElem hlt, List.take_succ_eq_append_getElem hlt2, Hs.out, He.out]
        · have heb : (xs[k] != ys[k]) = true := by simpa using he
          have He := Lib.hid he
          clear he
          go_wp2
          go_quiet (fail)
          go_wp2
          go_ret
          have hne2 : (xs == ys) = false := by
            rw [beq_eq_false_iff_ne]
            rintro rfl
            exact He.out rfl
          exact ⟨by rw [hne2]; rfl, hu.drewN _⟩
      · obtain rfl : k = xs.length := by omega
        go_wp2
        go_ret
        have h2 := Hs.out
        rw [List.take_length, Hne.out, List.take_length] at h2
        exact ⟨by rw [h2, beq_self_eq_true]; rfl, hu⟩
  · have hb : ((xs.length : Int) != (ys.length : Int)) = true := by rw [bne_iff_ne]; omega
    have hf : (xs == ys) = false := by rw [beq_eq_false_iff_ne]; rintro rfl; exact hne rfl
    have Hf := Lib.hid hf
    clear hf
    go_enter Try.func33, Try.ntmps33
    go_wp2
    go_ret
    exact ⟨by rw [Hf.out]; rfl, Upd.refl _ _⟩
end Go.Proofs.Ytmnhgdedkniafaa

/- Digraphs: the law of both sides. -/
namespace Go.Proofs.Ytmnhgdedkniafaa
set_option linter.unusedVariables false
open Go.RowKit
/-- a digraph that was made in the call -/
def DMa (w : World) (g N K : Nat) (q : List HArc) (W : World) : Prop :=
  ∃ G, DG W G (some ⟨g, 0, none⟩) N K q ∧ Upd No w W ∧ ∀ k, G k → w.heap.size ≤ k
namespace DMa
variable {w W W' : World} {g N K : Nat} {q : List HArc}
theorem no (h : DMa w g N K q W) (k : Upd No W W') : DMa w g N K q W' := by
  obtain ⟨G, h1, h2, h3⟩ := h
  exact ⟨G, h1.no k, h2.trans k, h3⟩
theorem upd (h : DMa w g N K q W) : Upd No w W := by
  obtain ⟨G, h1, h2, h3⟩ := h
  exact h2
theorem is (h : DMa w g N K q W) : ∃ G, DG W G (some ⟨g, 0, none⟩) N K q := by
  obtain ⟨G, h1, h2, h3⟩ := h
  exact ⟨G, h1⟩
end DMa
theorem dmnew (w : World) (n : Int) : Calls Try.prog 37 #[.int .i64 n] w fun e w' => ∃ g, e = .returned (.pointer (some ⟨g, 0, none⟩)) ∧ DMa w g (roomN n) 0 [] w' := by
  refine (dgnew w n).mono ?_
  rintro e w' ⟨G, g, rfl, h1, h2, h3⟩
  exact ⟨g, rfl, G, h1, h2, h3⟩
theorem dmadd {w W : World} {g N K : Nat} {q : List HArc} (h : DMa w g N K q W) (hK : K < 100000) (a : HArc) : Calls Try.prog 43 #[.pointer (some ⟨g, 0, none⟩), .agg a.cells.toArray] W fun e w' => e = .returned (.int .i64 (addE N q a)) ∧ DMa w g N (K + 1) (addQ N q a) w' := by
  obtain ⟨G, h1, h2, h3⟩ := h
  refine (dgadd h1 hK a).mono ?_
  rintro e w' ⟨G', rfl, k1, k2, k3⟩
  refine ⟨rfl, G', k1, h2.then_ k2 fun i e => .inr (h3 i e), fun k hk => ?_⟩
  have := h2.size
  rcases k3 k hk with e | e
  · exact h3 k e
  · omega
/-- the arcs that were added one by one -/
def madeQ (N : Nat) : List HArc → List HArc → List HArc
  | q, [] => q
  | q, a :: l => madeQ N (addQ N q a) l
theorem madeQ_cons (N : Nat) (q : List HArc) (a : HArc) (l : List HArc) : madeQ N q (a :: l) = madeQ N (addQ N q a) l := rfl
theorem nx_sym {p : List HArc} {u v : Int} : v ∈ nxA u false p ↔ u ∈ nxA v true p := by
  unfold nxA
  rw [mem_nxS, mem_nxS]
  simp only [List.not_mem_nil, false_or, Bool.false_eq_true, if_false, if_true]
  constructor
  · rintro ⟨x, h1, h2, h3⟩; exact ⟨x, h1, h3.symm, h2.symm⟩
  · rintro ⟨x, h1, h2, h3⟩; exact ⟨x, h1, h3.symm, h2.symm⟩
theorem nx_nodup (node : Int) (back : Bool) (p : List HArc) : (nxA node back p).length ≤ p.length := by
  have := nxS_len node back p []
  simpa [nxA] using this
theorem arcs_own' {w : World} {base c : Nat} {A : Option Addr} {l : List HArc} (h : w.ownsRow base 63 4 (.slice A l.length c) l.length (arcsF l)) : ArcsL (Own (.slice A l.length c)) w A l := Recs.of_own (n := l.length) (c := c) (arc_len l) (by omega) h
end Go.Proofs.Ytmnhgdedkniafaa

/- How arcs and deeds that come in read. -/
namespace Go.Proofs.Ytmnhgdedkniafaa
set_option linter.unusedVariables false
open Go.RowKit
theorem dcs4 {l : List Value} (h : l.length = 4) : ∃ a b c d, l = [a, b, c, d] :=
  match l, h with
  | [a, b, c, d], _ => ⟨a, b, c, d, rfl⟩
theorem DCint : Try.prog.cellsOf 3 = 1 := by kernel_rfl
theorem DCarc : Try.prog.cellsOf 63 = 4 := by kernel_rfl
theorem DBarc : Try.prog.bytesOf 63 = 32 := by kernel_rfl
/-- the numbers of an arc are numbers of the machine -/
def HArc.i (a : HArc) : Prop := (-9223372036854775808 ≤ a.f ∧ a.f ≤ 9223372036854775807) ∧ (-9223372036854775808 ≤ a.t ∧ a.t ≤ 9223372036854775807) ∧ (-9223372036854775808 ≤ a.kind ∧ a.kind ≤ 9223372036854775807) ∧ (-9223372036854775808 ≤ a.label ∧ a.label ≤ 9223372036854775807)
theorem dwf64 {n : Int} (h : (Lit.int .i64 n).wf = true) : -9223372036854775808 ≤ n ∧ n ≤ 9223372036854775807 := by
  simp [Lit.wf, IntKind.min, IntKind.max, IntKind.signed, IntKind.bits] at h; omega
section
variable {H : Type} {enc : TypeId × Value → H} {w : World} {base : Nat} {spare : Nat → Bool} {held : Bool} {row : List Value}
theorem rddi {v : Value} (h : Rdz enc Try.prog w base spare held 3 [v]) : ∃ n, v = .int .i64 n ∧ -9223372036854775808 ≤ n ∧ n ≤ 9223372036854775807 := by
  obtain ⟨n, e, hw⟩ := Rdz.int_ Try.underlying3 h
  cases e
  exact ⟨n, rfl, dwf64 hw⟩
theorem rdarc (h : Rdz enc Try.prog w base spare held 63 row) : ∃ e : HArc, row = e.cells ∧ e.i := by
  obtain ⟨hl, hf⟩ := h.struct_ Try.underlying63
  rw [DCarc] at hl
  obtain ⟨c0, c1, c2, c3, rfl⟩ := dcs4 hl
  have h0 : Rdz enc Try.prog w base spare held 3 (([c0, c1, c2, c3].drop 0).take (Try.prog.cellsOf 3)) := hf 0 _ rfl
  have h1 : Rdz enc Try.prog w base spare held 3 (([c0, c1, c2, c3].drop 1).take (Try.prog.cellsOf 3)) := hf 1 _ rfl
  have h2 : Rdz enc Try.prog w base spare held 3 (([c0, c1, c2, c3].drop 2).take (Try.prog.cellsOf 3)) := hf 2 _ rfl
  have h3 : Rdz enc Try.prog w base spare held 3 (([c0, c1, c2, c3].drop 3).take (Try.prog.cellsOf 3)) := hf 3 _ rfl
  rw [DCint] at h0 h1 h2 h3
  obtain ⟨n0, rfl, b0⟩ := rddi h0
  obtain ⟨n1, rfl, b1⟩ := rddi h1
  obtain ⟨n2, rfl, b2⟩ := rddi h2
  obtain ⟨n3, rfl, b3⟩ := rddi h3
  exact ⟨⟨n0, n1, n2, n3⟩, rfl, b0, b1, b2, b3⟩
theorem rdarcs {v : Value} (h : Rdz enc Try.prog w base spare held 61 [v]) : ∃ (A : Option Addr) (c : Nat) (l : List HArc), v = .slice A l.length c ∧ ArcsL (fun _ => True) w A l ∧ l.length ≤ c ∧ l.length ≤ 4398046511103 ∧ ∀ e ∈ l, e.i := by
  rcases h.slice_ Try.underlying61 DCarc (by omega) with h | ⟨a, len, cap, rows, hv, hl, hm, hlen, hz, hrec, hrow⟩
  · cases h
    exact ⟨none, 0, [], rfl, fun h => absurd rfl h, by simp, by simp, fun e he => by simp at he⟩
  · cases hv
    obtain ⟨l, rfl, hok⟩ := rows_of' (f := HArc.cells) (Q := HArc.i) fun row hr => rdarc (hrow row hr).2
    rw [List.length_map] at hlen
    subst hlen
    rw [DBarc] at hz
    unfold reachBytes at hz
    exact ⟨some a, cap, l, rfl, hrec, hl, by omega, hok⟩
end
end Go.Proofs.Ytmnhgdedkniafaa

/- A contract of the library, laid at this dump: the table of numbers typed out. -/
namespace Go.Proofs.Ytmnhgdedkniafaa
open Go.Shelf Go.Proofs
def bitsMul_lay_ren : Go.Shelf.Ren := ⟨fun | 212 => 212 | 263 => 241 | 264 => 242 | n => n, fun | 46 => 97 | 51 => 264 | 146 => 285 | 53 => 201 | 148 => 287 | n => n, fun | n => n⟩
theorem bitsMul_lay : Go.Proofs.Lays.n212 Try.prog bitsMul_lay_ren := {
  mixed := by kernel_rfl
  f212 := Try.func212.trans (congrArg some (by kernel_rfl))
  f263 := Try.func241.trans (congrArg some (by kernel_rfl))
  f264 := Try.func242.trans (congrArg some (by kernel_rfl))
  t46 := Try.underlying97
  a46 := Try.isAgg97
  z46 := Try.sizeOf97
  v46 := Try.zeroValue97
  t51 := Try.underlying264
  a51 := Try.isAgg264
  z51 := Try.sizeOf264
  v51 := Try.zeroValue264
  t53 := Try.underlying201
  a53 := Try.isAgg201
  z53 := Try.sizeOf201
  v53 := Try.zeroValue201
  t146 := Try.underlying285
  a146 := Try.isAgg285
  z146 := Try.sizeOf285
  v146 := Try.zeroValue285
  t148 := Try.underlying287
  a148 := Try.isAgg287
  z148 := Try.sizeOf287
  v148 := Try.zeroValue287 }
end Go.Proofs.Ytmnhgdedkniafaa

/- Ways: one number, repeated. -/
namespace Go.Proofs.Ytmnhgdedkniafaa
set_option linter.unusedVariables false
open Go.RowKit
/-- numbers of the call's own, in a block of their own -/
def NewD (w : World) (l : List Int) (e : Ending) (w' : World) : Prop :=
  ∃ g, e = .returned (.slice (some ⟨g, 0, none⟩) l.length l.length) ∧ Blk w' g 3 (l.map (Value.int .i64)) ∧ w.heap.size ≤ g ∧ Upd No w w'
theorem made_ints (N : Nat) : madeCells #[Value.int .i64 0] (N * 1) = ((List.replicate N (0 : Int)).map (Value.int .i64)).toArray := by
  apply Array.ext
  · simp [madeCells]
  · intro i h1 h2
    simp [madeCells, Nat.mod_one]
def zerosA (N : Nat) : Array Value := ((List.replicate N (0 : Int)).map (Value.int .i64)).toArray
theorem mk_ints (N : Nat) (hN : N ≤ 1000000) (m : Int) (hm : m = (N : Int)) (W : World) : (Instr.makeSlice 50 (.int .i64 m) (.int .i64 m)).run Try.prog W = .ok (.slice (some ⟨W.heap.size, 0, none⟩) N N) (W.alloc (.cells (zerosA N) 3)) := by
  subst hm
  have := run_mk (P := Try.prog) W slt_int (z := .int .i64 0) (by kernel_rfl) N (by omega) (by omega)
  rw [this]
  show _ = Result.ok _ (W.alloc (.cells (zerosA N) _))
  unfold zerosA
  rw [← made_ints]
  rfl
theorem blk_zeros (W : World) (N : Nat) : Blk (W.alloc (.cells (zerosA N) 3)) W.heap.size 3 ((List.replicate N (0 : Int)).map (Value.int .i64)) := Blk.new W _ _
/-- the first k are x, the others nought -/
def partR (x : Int) (N k : Nat) : List Value := (List.replicate k x ++ List.replicate (N - k) 0).map (Value.int .i64)
theorem partR_len (x : Int) {N k : Nat} (h : k ≤ N) : (partR x N k).length = N := by unfold partR; simp; omega
theorem partR_copy (x : Int) {N k m : Nat} (h : k + m ≤ N) (hm : m ≤ k) : (partR x N k).take k ++ (List.replicate m x).map (Value.int .i64) ++ (partR x N k).drop (k + m) = partR x N (k + m) := by
  unfold partR
  rw [← List.map_take, ← List.map_drop, ← List.map_append, ← List.map_append]
  congr 1
  rw [List.take_append_of_le_length (by simp), List.take_of_length_le (by simp), List.drop_append, List.drop_of_length_le (by simp), List.nil_append, List.drop_replicate]
  simp only [List.length_replicate]
  rw [← List.replicate_append_replicate (n := k) (m := m)]
  congr 2
  omega
theorem bitsmul1 (w : World) (N : Nat) (hN : N ≤ 1000000) : Calls Try.prog 212 #[.int .u64 1, .int .u64 (N : Int)] w fun e w' => e = .returned (.tuple #[.int .u64 0, .int .u64 (N : Int)]) ∧ w = w' := by
  refine Calls.mono (Any.bits_Mul bitsMul_lay 1 N (by omega) (by omega) w) ?_
  rintro e w' ⟨rfl, rfl⟩
  refine ⟨?_, rfl⟩
  rw [show 1 * N / 18446744073709551616 = 0 by omega, show 1 * N % 18446744073709551616 = N by omega]
  rfl
set_option maxRecDepth 100000 in
set_option maxHeartbeats 1000000 in
theorem irepeat (w : World) (F : Nat → Prop) (A : Option Addr) (c : Nat) (x : Int) (N : Nat) (hN : N ≤ 1000000) (h : Ints F w A [x]) : Calls Try.prog 169 #[.slice A 1 c, .int .i64 (N : Int)] w (NewD w (List.replicate N x)) := by
  obtain ⟨ad, rfl, hF, hl, hc⟩ := h (by simp)
  have hc0 := hc 0 x rfl
  have hMk := fun m hm W => mk_ints N hN m hm W
  have hM := Lib.hid (fun W => bitsmul1 W N hN)
  have h0 : decide ((N : Int) < 0) = false := decide_eq_false (by omega)
  have h1 : decide ((0 : Int) < 0) = false := by decide
  have h2 : decide ((9223372036854775807 : Int) < (N : Int)) = false := decide_eq_false (by omega)
  have w1 : IntKind.u64.wrap (N : Int) = (N : Int) := by unfold IntKind.wrap; simp [IntKind.signed, IntKind.bits]; omega
  have w2 : IntKind.i64.wrap (N : Int) = (N : Int) := IntWalk.i64_in _ (by omega)
  go_enter Try.func169, Try.ntmps169
  go_wp2_with fail
  refine (hM.out _).mono ?_
  rintro e w1 ⟨rfl, rfl⟩
  obtain ⟨m0, hm0⟩ : ∃ m, min 1 N = m := ⟨_, rfl⟩
  have HM0 := Lib.hid hm0
  obtain ⟨wz, hwz⟩ : ∃ wz, w.alloc (.cells (zerosA N) 3) = wz := ⟨_, rfl⟩
  have uz : Upd No w wz := by rw [← hwz]; exact (Upd.refl No w).alloc _
  have bz : Blk wz w.heap.size 3 (partR x N 0) := by
    rw [← hwz]
    have := blk_zeros w N
    unfold partR
    simpa using this
  have hcz := uz.keepNo hc0
  have e0 : ad.add 0 = ad := by unfold Addr.add; simp
  rw [e0] at hcz
  have HW := Lib.hid hwz
  have BZ := Lib.hid bz
  have UZ := Lib.hid uz
  have HC := Lib.hid (show ∀ (j : Nat) v, ((List.replicate m0 x).map (Value.int .i64))[j]? = some v → wz.cell? (ad.add j) = some v from fun j v hj => by
    have hj1 : j < m0 := by have := (List.getElem?_eq_some_iff.1 hj).1; simpa using this
    obtain rfl : j = 0 := by omega
    rw [e0, hcz]
    rw [List.getElem?_map, List.getElem?_replicate, if_pos hj1] at hj
    exact hj)
  clear hm0 hwz uz bz hcz hc0 hc hM h e0
  go_wp2_with (refine wp_copyB rfl rfl slt_int (g := w.heap.size) (off := 0) (n := m0) (cs := (List.replicate m0 x).map (Value.int .i64)) rfl rfl (show Blk _ _ 3 (partR x N 0) by first | exact BZ.out | (rw [HW.out]; exact BZ.out)) (by have := HM0.out; simp only [Nat.min_def] at *; split at this <;> split <;> omega) (by simp) (by first | exact HC.out | (rw [HW.out]; exact HC.out)) (by rw [partR_len x (by omega)]; simp; have := HM0.out; omega) (Ints.one_ _) ?_; intro w5 hb5 hu5)
  have hb5' : Blk w5 w.heap.size 3 (partR x N m0) := by
    have e : List.take 0 (partR x N 0) ++ List.map (Value.int .i64) (List.replicate m0 x) ++ List.drop (0 + (List.map (Value.int .i64) (List.replicate m0 x)).length) (partR x N 0) = partR x N m0 := by
      have hm := HM0.out
      rw [List.length_map, List.length_replicate, List.take_zero, List.nil_append, Nat.zero_add]
      unfold partR
      rw [List.replicate_zero, List.nil_append, ← List.map_drop, ← List.map_append, List.drop_replicate]
      rfl
    rw [← e]
    exact hb5
  have hu5' : Upd No w w5 := UZ.out.then_ (HW.out ▸ hu5) fun i e => .inr (by unfold One at e; omega)
  clear hb5 hu5
  go_loopg [8] N (fun gk s wr => ∃ (k : Nat), s = .int .i64 k ∧ k ≤ N ∧ (k = 0 → N = 0) ∧ N ≤ k + gk ∧ Blk wr w.heap.size 3 (partR x N k) ∧ Upd No w wr)
  case atStart => exact ⟨m0, rfl, by have := HM0.out; omega, fun h => by have := HM0.out; omega, by omega, hb5', hu5'⟩
  case round =>
    obtain ⟨k, rfl, hkN, hk0, hgk, hb, hu⟩ := hrel
    by_cases hlt : k < N
    · have hkp : 0 < k := by omega
      obtain ⟨m, hm⟩ : ∃ m, min k (N - k) = m := ⟨_, rfl⟩
      have hn1 : (k : Int) < (N : Int) := by omega
      have hn2 : (0 : Int) ≤ (k : Int) := by omega
      have k2 : ∀ W, (Instr.slice 50 (.slice (some ⟨w.heap.size, 0, none⟩) N N) none (some (.int .i64 (k : Int))) none).run Try.prog W = .ok (.slice (some ⟨w.heap.size, 0, none⟩) k N) W := fun W => by
        have := run_cut_h W slt_int (some ⟨w.heap.size, 0, none⟩) N N k hkN
        rwa [cutA0] at this
      have k3 : ∀ W, (Instr.slice 50 (.slice (some ⟨w.heap.size, 0, none⟩) N N) (some (.int .i64 (k : Int))) none none).run Try.prog W = .ok (.slice (some ⟨w.heap.size, k * 1, none⟩) (N - k) (N - k)) W := fun W => by
        have := run_cut_l W slt_int (some ⟨w.heap.size, 0, none⟩) N N k hkN
        rwa [cutAi (by omega)] at this
      have HB := Lib.hid hb
      have HS := Lib.hid (show ∀ (j : Nat) v, ((List.replicate m x).map (Value.int .i64))[j]? = some v → wr.cell? ((⟨w.heap.size, 0, none⟩ : Addr).add j) = some v from fun j v hj => by
        have hj1 : j < m := by have := (List.getElem?_eq_some_iff.1 hj).1; simpa using this
        rw [blk_lit_add, Nat.zero_add, hb.cell j]
        unfold partR
        rw [List.getElem?_map, List.getElem?_append_left (by simp; omega)]
        simp only [List.getElem?_map] at hj
        rw [← hj]
        simp [show j < k by omega, hj1])
      have HM := Lib.hid hm
      have hwp : IntKind.i64.wrap ((k : Int) + (m : Int)) = (k : Int) + (m : Int) := IntWalk.i64_in _ (by omega)
      have hms : m ≤ k ∧ m ≤ N - k ∧ 0 < m := by omega
      have HU := Lib.hid hu
      clear hb hm hu
      go_wp2
      refine wp_region_noPanic ?_
      refine wp_region_held_drew (S := (fun w' => Upd (One w.heap.size) wr w')) (by kernel_rfl) ?_ (fun hHeld => ?_)
      · (first | exact (Upd.refl _ _).drew | exact hU5)
      refine wpT 0 ⟨some 38, .move (.tmp 8), 3, "slices.go:528", #[], none⟩ ?_ (.inl ⟨by rfl, ?_⟩) ?_
      rotate_left
      · (intro W hSw; (try dsimp only at hSw); go_simp; try (with_reducible rfl))
      try simp only [Act.put]
      try simp only [List.setIfInBounds_toArray]
      try simp only [List.set_cons_succ]
      try simp only [List.set_cons_zero]
      refine wpT 1 ⟨some 39, .move (.tmp 7), 50, "slices.go:528", #[], none⟩ ?_ (.inl ⟨by rfl, ?_⟩) ?_
      rotate_left
      · (intro W hSw; (try dsimp only at hSw); go_simp; try (with_reducible rfl))
      try simp only [Act.put]
      try simp only [List.setIfInBounds_toArray]
      try simp only [List.set_cons_succ]
      try simp only [List.set_cons_zero]
      refine wpT 2 ⟨some 40, .move (.tmp 8), 3, "slices.go:528", #[], none⟩ ?_ (.inl ⟨by rfl, ?_⟩) ?_
      rotate_left
      · (intro W hSw; (try dsimp only at hSw); go_simp; try (with_reducible rfl))
      try simp only [Act.put]
      try simp only [List.setIfInBounds_toArray]
      try simp only [List.set_cons_succ]
      try simp only [List.set_cons_zero]
      refine wpT 3 ⟨some 41, .slice 50 (.tmp 39) (some (.tmp 40)) none none, 50, "slices.go:528", #[⟨1, .data⟩, ⟨2, .data⟩], none⟩ ?_ (.inl ⟨by rfl, ?_⟩) ?_
      rotate_left
      · (intro W hSw; (try dsimp only at hSw); go_simp; try (with_reducible rfl))
      try simp only [Act.put]
      try simp only [List.setIfInBounds_toArray]
      try simp only [List.set_cons_succ]
      try simp only [List.set_cons_zero]
      refine wpT 4 ⟨some 42, .move (.tmp 7), 50, "slices.go:528", #[], none⟩ ?_ (.inl ⟨by rfl, ?_⟩) ?_
      rotate_left
      · (intro W hSw; (try dsimp only at hSw); go_simp; try (with_reducible rfl))
      try simp only [Act.put]
      try simp only [List.setIfInBounds_toArray]
      try simp only [List.set_cons_succ]
      try simp only [List.set_cons_zero]
      refine wpT 5 ⟨some 43, .move (.tmp 8), 3, "slices.go:528", #[], none⟩ ?_ (.inl ⟨by rfl, ?_⟩) ?_
      rotate_left
      · (intro W hSw; (try dsimp only at hSw); go_simp; try (with_reducible rfl))
      try simp only [Act.put]
      try simp only [List.setIfInBounds_toArray]
      try simp only [List.set_cons_succ]
      try simp only [List.set_cons_zero]
      refine wpT 6 ⟨some 44, .slice 50 (.tmp 42) none (some (.tmp 43)) none, 50, "slices.go:528", #[⟨4, .data⟩, ⟨5, .data⟩], none⟩ ?_ (.inl ⟨by rfl, ?_⟩) ?_
      rotate_left
      · (intro W hSw; (try dsimp only at hSw); go_simp; try (with_reducible rfl))
      try simp only [Act.put]
      try simp only [List.setIfInBounds_toArray]
      try simp only [List.set_cons_succ]
      try simp only [List.set_cons_zero]
      refine wpAnyH_ready (rs := [7]) (by kernel_rfl) (by simp) ?_
      refine AllReadyH.cons (o := ⟨some 45, .call { callee := .builtin .copy, args := #[.tmp 41, .tmp 44], argTypes := #[50, 50] }, 3, "slices.go:528", #[⟨3, .data⟩, ⟨6, .data⟩], none⟩) rfl (fun K hK => ?_) AllReadyH.nil
      (first
    | (refine step_copyB rfl rfl slt_int (g := w.heap.size) (off := k) (n := m) (cs := (List.replicate m x).map (Value.int .i64)) rfl rfl (show Blk _ w.heap.size 3 (partR x N k) from HB.out) (show Nat.min k (N - k) = m from HM.out) (by simp) HS.out (by rw [partR_len x hkN]; simp; omega) (Ints.one_ _) ?_; intro w5 hB5 hu5; have hU5 : Upd (One w.heap.size) wr w5 := hu5.of_drew))
      refine hK.out _ _ ?_ (fun hHeld => ?_)
      · (first | exact (Upd.refl _ _).drew | exact hU5)
      clear hK K
      try simp only [Act.put]
      try simp only [List.setIfInBounds_toArray]
      try simp only [List.set_cons_succ]
      try simp only [List.set_cons_zero]
      refine wpT 8 ⟨some 46, .binOp .add 3 (.tmp 38) (.tmp 45) 3, 3, "slices.go:528", #[⟨0, .data⟩, ⟨7, .data⟩], none⟩ ?_ (.inl ⟨by rfl, ?_⟩) ?_
      rotate_left
      · (intro W hSw; (try dsimp only at hSw); go_simp; try (with_reducible rfl))
      try simp only [Act.put]
      try simp only [List.setIfInBounds_toArray]
      try simp only [List.set_cons_succ]
      try simp only [List.set_cons_zero]
      refine wpT 9 ⟨some 8, .assign (.tmp 46), 3, "slices.go:528", #[⟨8, .data⟩, ⟨7, .chain⟩, ⟨0, .phase⟩, ⟨1, .phase⟩, ⟨2, .phase⟩, ⟨3, .phase⟩, ⟨4, .phase⟩, ⟨5, .phase⟩, ⟨6, .phase⟩, ⟨7, .phase⟩, ⟨8, .phase⟩], none⟩ ?_ (.inl ⟨by rfl, ?_⟩) ?_
      rotate_left
      · (intro W hSw; (try dsimp only at hSw); go_simp; try (with_reducible rfl))
      try simp only [Act.put]
      try simp only [List.setIfInBounds_toArray]
      try simp only [List.set_cons_succ]
      try simp only [List.set_cons_zero]
      refine wpAnyH_done (by kernel_rfl) (NoPanic.normal ?_) _
      have hb6 : Blk w5 w.heap.size 3 (partR x N (k + m)) := by
        rw [← partR_copy x (N := N) (k := k) (m := m) (by omega) (by omega)]
        simpa using hB5
      have HU5 := Lib.hid hU5
      clear hHeld hU5 hu5 hB5
      go_wp2
      go_roundg (gk - 1)
      case measure => omega
      case rel => exact ⟨k + m, by go_num, by omega, by omega, by omega, hb6, HU.out.then_ HU5.out fun i e => .inr (by unfold One at e; omega)⟩
    · obtain rfl : k = N := by omega
      go_wp2
      go_ret
      refine ⟨w.heap.size, by simp, ?_, Nat.le_refl _, hu⟩
      unfold partR at hb
      simpa using hb
end Go.Proofs.Ytmnhgdedkniafaa
