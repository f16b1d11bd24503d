/- Digraphs: the contracts by the arcs alone, nil or not. -/
import Derived.Test.YtmnhgdedkniafaaProg
import Derived.Test.YtmnhgdedkniafaaMap
namespace Go.Proofs.Ytmnhgdedkniafaa
set_option linter.unusedVariables false
open Go.RowKit
theorem dlen0 (w : World) : Calls Try.prog 48 #[.pointer none] w fun e w' => e = .returned (.int .i64 0) ∧ w = w' := by
  go_enter Try.func48, Try.ntmps48
  go_wp2
  go_ret
  exact ⟨rfl, rfl⟩
theorem dprev0 (w : World) (i mask : Int) : Calls Try.prog 56 #[.pointer none, .int .i64 i, .int .i64 mask] w (NewI w []) := by
  have HN := Lib.hid (dnode0 w i)
  go_enter Try.func56, Try.ntmps56
  go_wp2_with fail
  refine (HN.out).mono ?_
  rintro e w1 ⟨rfl, rfl⟩
  go_wp2
  go_ret
  exact newI_nil _ _ (Upd.refl _ _)
theorem dout0 (w : World) (i mask : Int) : Calls Try.prog 52 #[.pointer none, .int .i64 i, .int .i64 mask] w (NewA w []) := by
  have HN := Lib.hid (dnode0 w i)
  go_enter Try.func52, Try.ntmps52
  go_wp2_with fail
  refine (HN.out).mono ?_
  rintro e w1 ⟨rfl, rfl⟩
  go_wp2
  go_ret
  exact ⟨none, 0, rfl, World.ownsRow_nil _ _ _ _, Upd.refl _ _⟩
theorem darcs0 (w : World) (mask : Int) : Calls Try.prog 51 #[.pointer none, .int .i64 mask] w (NewA w []) := by
  have HN := Lib.hid (dnodes0 w)
  go_enter Try.func51, Try.ntmps51
  go_wp2_with fail
  refine (HN.out).mono ?_
  rintro e w1 ⟨rfl, rfl⟩
  go_wp2
  go_loopg [5, 9] 0 (fun gk s i wr => gk = 0 ∧ i = .int .i64 0 ∧ s = .slice none 0 0 ∧ w = wr)
  case atStart => exact ⟨rfl, rfl, rfl, rfl⟩
  case round =>
    obtain ⟨hgk, rfl, rfl, rfl⟩ := hrel
    go_wp2
    go_ret
    exact ⟨none, 0, rfl, World.ownsRow_nil _ _ _ _, Upd.refl _ _⟩
/-- a digraph of arcs q lies there -/
def DGs (w : World) (G : Nat → Prop) (g N K : Nat) (q : List HArc) : Prop :=
  ∃ out inn ob ib oh ih base, GIs w G g out inn (q.length : Int) ob ib oh ih base ∧ DOk N K q out inn ∧ base ≤ w.heap.size
/-- the same, or it is nil -/
def DG (w : World) (G : Nat → Prop) (p : Option Addr) (N K : Nat) (q : List HArc) : Prop :=
  (p = none ∧ N = 0 ∧ q = []) ∨ ∃ g, p = some ⟨g, 0, none⟩ ∧ DGs w G g N K q
def DTs (w : World) (G : Nat → Prop) (p : Option Addr) (N K : Nat) (q : List HArc) (r : Value) (e : Ending) (w' : World) : Prop :=
  ∃ G', e = .returned r ∧ DG w' G' p N K q ∧ Upd G w w' ∧ ∀ k, G' k → G k ∨ w.heap.size ≤ k
def DMade (w : World) (N K : Nat) (q : List HArc) (e : Ending) (w' : World) : Prop :=
  ∃ G g, e = .returned (.pointer (some ⟨g, 0, none⟩)) ∧ DG w' G (some ⟨g, 0, none⟩) N K q ∧ Upd No w w' ∧ ∀ k, G k → w.heap.size ≤ k
theorem DG.nil (w : World) (G : Nat → Prop) : DG w G none 0 0 [] := .inl ⟨rfl, rfl, rfl⟩
section
variable {w : World} {G : Nat → Prop} {p : Option Addr} {N K : Nat} {q : List HArc}
theorem DG.upd (h : DG w G p N K q) {S : Nat → Prop} {w' : World} (k : Upd S w w') (hn : ∀ i, G i → ¬ S i) : DG w' G p N K q := by
  rcases h with h | ⟨g, rfl, out, inn, ob, ib, oh, ih, base, h1, h2, h3⟩
  · exact .inl h
  · exact .inr ⟨g, rfl, out, inn, ob, ib, oh, ih, base, h1.upd k hn, h2, Nat.le_trans h3 k.size⟩
theorem DG.no (h : DG w G p N K q) {w' : World} (k : Upd No w w') : DG w' G p N K q := h.upd k fun _ _ => id
theorem DG.sorted (h : DG w G p N K q) : sortedA q := by
  rcases h with ⟨_, _, rfl⟩ | ⟨g, rfl, out, inn, ob, ib, oh, ih, base, h1, h2, h3⟩
  · exact List.Pairwise.nil
  · exact h2.s
theorem DG.right (h : DG w G p N K q) : ∀ a ∈ q, rightA N a = true := by
  rcases h with ⟨_, _, rfl⟩ | ⟨g, rfl, out, inn, ob, ib, oh, ih, base, h1, h2, h3⟩
  · simp
  · exact h2.r
theorem DG.few (h : DG w G p N K q) : q.length ≤ K := by
  rcases h with ⟨_, _, rfl⟩ | ⟨g, rfl, out, inn, ob, ib, oh, ih, base, h1, h2, h3⟩
  · simp
  · exact h2.fq
theorem DG.old (h : DG w G p N K q) (hp : p ≠ none) : ∀ k, G k → k < w.heap.size := by
  rcases h with ⟨rfl, _, rfl⟩ | ⟨g, rfl, out, inn, ob, ib, oh, ih, base, h1, h2, h3⟩
  · exact absurd rfl hp
  · exact h1.old
theorem dgnodes (h : DG w G p N K q) : Calls Try.prog 47 #[.pointer p] w fun e w' => e = .returned (.int .i64 (N : Int)) ∧ w = w' := by
  rcases h with ⟨rfl, rfl, rfl⟩ | ⟨g, rfl, out, inn, ob, ib, oh, ih, base, h1, h2, h3⟩
  · exact dnodes0 w
  · rw [← h2.lo]; exact dnodes h1
theorem dglen (h : DG w G p N K q) : Calls Try.prog 48 #[.pointer p] w fun e w' => e = .returned (.int .i64 (q.length : Int)) ∧ w = w' := by
  rcases h with ⟨rfl, rfl, rfl⟩ | ⟨g, rfl, out, inn, ob, ib, oh, ih, base, h1, h2, h3⟩
  · exact dlen0 w
  · exact dlen h1
theorem dghas (h : DG w G p N K q) (a : HArc) : Calls Try.prog 49 #[.pointer p, .agg a.cells.toArray] w fun e w' => e = .returned (.bool (decide (a ∈ q))) ∧ Upd No w w' := by
  rcases h with ⟨rfl, rfl, rfl⟩ | ⟨g, rfl, out, inn, ob, ib, oh, ih, base, h1, h2, h3⟩
  · rw [decide_eq_false (by simp)]; exact dhas0 w a
  · rw [← h2.has a]; exact dhas h1 h2.so a
theorem dgnext (h : DG w G p N K q) (i mask : Int) : Calls Try.prog 54 #[.pointer p, .int .i64 i, .int .i64 mask] w (NewI w (nxA i false (ofA mask q))) := by
  rcases h with ⟨rfl, rfl, rfl⟩ | ⟨g, rfl, out, inn, ob, ib, oh, ih, base, h1, h2, h3⟩
  · exact dnext0 w i mask
  · rw [← h2.next_]; exact dnext h1 h2.ko i mask
theorem dgprev (h : DG w G p N K q) (i mask : Int) : Calls Try.prog 56 #[.pointer p, .int .i64 i, .int .i64 mask] w (NewI w (nxA i true (ofA mask q))) := by
  rcases h with ⟨rfl, rfl, rfl⟩ | ⟨g, rfl, out, inn, ob, ib, oh, ih, base, h1, h2, h3⟩
  · exact dprev0 w i mask
  · rw [← h2.prev_]; exact dprev h1 h2.ki i mask
theorem dgout (h : DG w G p N K q) (i mask : Int) : Calls Try.prog 52 #[.pointer p, .int .i64 i, .int .i64 mask] w (NewA w ((ofA mask q).filter fun x => x.f == i)) := by
  rcases h with ⟨rfl, rfl, rfl⟩ | ⟨g, rfl, out, inn, ob, ib, oh, ih, base, h1, h2, h3⟩
  · exact dout0 w i mask
  · rw [← h2.outD_]; exact dout h1 h2.ko i mask
theorem dgarcs (h : DG w G p N K q) (mask : Int) : Calls Try.prog 51 #[.pointer p, .int .i64 mask] w (NewA w (ofA mask q)) := by
  rcases h with ⟨rfl, rfl, rfl⟩ | ⟨g, rfl, out, inn, ob, ib, oh, ih, base, h1, h2, h3⟩
  · exact darcs0 w mask
  · rw [← h2.arcs_, ← h2.lo]; exact darcs h1 h2.ko mask
theorem dgadd (h : DG w G p N K q) (hK : K < 100000) (a : HArc) : Calls Try.prog 43 #[.pointer p, .agg a.cells.toArray] w (DTs w G p N (K + 1) (addQ N q a) (.int .i64 (addE N q a))) := by
  rcases h with ⟨rfl, rfl, rfl⟩ | ⟨g, rfl, out, inn, ob, ib, oh, ih, base, h1, h2, h3⟩
  · have hr : ¬ rightA 0 a = true := fun e => by rw [rightA_iff] at e; omega
    refine (dadd0 w a).mono ?_
    rintro e w' ⟨rfl, hu⟩
    exact ⟨G, by unfold addE; rw [if_neg hr], .inl ⟨rfl, rfl, by unfold addQ; rw [if_neg hr]⟩, hu.mono (fun _ _ e => e.elim), fun _ e => .inl e⟩
  · have hq := h2.fq
    refine (dadd (n := q.length) h1 h2.so h2.si ⟨fun l hl => by have := h2.fo l hl; omega, fun l hl => by have := h2.fi l hl; omega⟩ (by omega) h3 a).mono ?_
    rintro e w' ⟨G', oh', ih', rfl, k1, k2, k3⟩
    rw [h2.addN_] at k1
    exact ⟨G', by rw [h2.addW_], .inr ⟨g, rfl, _, _, _, _, _, _, _, k1, h2.add a, Nat.le_trans h3 k2.size⟩, k2, k3⟩
theorem dgdrop (h : DG w G p N K q) (hK : K < 100000) (a : HArc) : Calls Try.prog 45 #[.pointer p, .agg a.cells.toArray] w (DTs w G p N K (q.filter fun x => x != a) (.int .i64 (dropE q a))) := by
  rcases h with ⟨rfl, rfl, rfl⟩ | ⟨g, rfl, out, inn, ob, ib, oh, ih, base, h1, h2, h3⟩
  · refine (ddrop0 w a).mono ?_
    rintro e w' ⟨rfl, hu⟩
    exact ⟨G, rfl, .inl ⟨rfl, rfl, rfl⟩, hu.mono (fun _ _ e => e.elim), fun _ e => .inl e⟩
  · have hq := h2.fq
    refine (ddrop (n := q.length) h1 h2.so h2.si ⟨fun l hl => by have := h2.fo l hl; omega, fun l hl => by have := h2.fi l hl; omega⟩ (by omega) h3 a (fun hh => ?_)).mono ?_
    · rw [h2.has, decide_eq_true_eq] at hh
      obtain ⟨i, j, e1, e2, hi, hj⟩ := rightA_node (h2.r a hh)
      have hjl : j < inn.length := by rw [h2.li]; exact hj
      refine ⟨inn[j], by rw [e2]; simp [List.getElem?_eq_getElem hjl], ?_⟩
      rw [h2.mi j _ (List.getElem?_eq_getElem hjl)]
      have : (⟨(inE a).node, (j : Int), (inE a).kind, (inE a).label⟩ : HArc) = a := by rw [harc_eq]; exact ⟨rfl, e2.symm, rfl, rfl⟩
      rw [this]; exact hh
    · rintro e w' ⟨G', oh', ih', rfl, k1, k2, k3⟩
      rw [h2.dropN_] at k1
      exact ⟨G', by rw [h2.dropW_], .inr ⟨g, rfl, _, _, _, _, _, _, _, k1, h2.drop a, Nat.le_trans h3 k2.size⟩, k2, k3⟩
end
theorem dgnew (w : World) (n : Int) : Calls Try.prog 37 #[.int .i64 n] w (DMade w (roomN n) 0 []) := by
  refine (dnew w n).mono ?_
  rintro e w' ⟨G, g, ob, ib, oh, ih, rfl, h1, h2, h3⟩
  exact ⟨G, g, rfl, .inr ⟨g, rfl, _, _, _, _, _, _, _, h1, DOk.nil _, Nat.le_refl _⟩, h2, h3⟩
end Go.Proofs.Ytmnhgdedkniafaa

/- The document's digraph: an arc put among others. -/
namespace Go.Proofs.Ytmnhgdedkniafaa
set_option linter.unusedVariables false
open Go.RowKit
end Go.Proofs.Ytmnhgdedkniafaa

/- The document's digraph: whether an arc is right. -/
namespace Go.Proofs.Ytmnhgdedkniafaa
set_option linter.unusedVariables false
open Go.RowKit
end Go.Proofs.Ytmnhgdedkniafaa

/- Whether a number is among some. -/
namespace Go.Proofs.Ytmnhgdedkniafaa
set_option linter.unusedVariables false
open Go.RowKit
theorem rin01 (w : World) (F : Nat → Prop) (A : Option Addr) (c : Nat) (l : List Int) (a : Int) (h : Ints F w A l) (hl : l.length ≤ 4398046511103) :
    Calls Try.prog 36 #[.slice A l.length c, .int .i64 a] w fun e w' => e = .returned (.bool (decide (a ∈ l))) ∧ w = w' := by
  go_enter Try.func36, Try.ntmps36
  go_wp2
  go_loopg [9] l.length (fun gk i wr => ∃ k : Nat, k + gk = l.length ∧ i = .int .i64 k ∧ Hid (decide (a ∈ l) = decide (a ∈ l.drop k)) ∧ w = wr)
  case atStart => exact ⟨0, by omega, rfl, Lib.hid (by simp), rfl⟩
  case round =>
    obtain ⟨k, hgk, rfl, hs, rfl⟩ := hrel
    by_cases hlt : k < l.length
    · obtain ⟨ax, rfl, hc0⟩ := h.at_ hlt
      obtain ⟨x, hx⟩ : ∃ x, l[k] = x := ⟨_, rfl⟩
      have hd := Lib.hid (show l.drop k = x :: l.drop (k + 1) by rw [← hx]; exact List.drop_eq_getElem_cons hlt)
      rw [hx] at hc0
      have b1 : (0 : Int) ≤ (k : Int) := Int.natCast_nonneg _
      have b2 : (k : Int) < (l.length : Int) := by omega
      clear hx
      by_cases he : x = a
      · have heb : (x == a) = true := by rw [he]; simp
        have He := Lib.hid he
        clear he
        go_wp2
        go_ret
        exact ⟨by rw [hs.out, hd.out, He.out]; simp, rfl⟩
      · have heb : (x == a) = false := by simpa using he
        have He := Lib.hid he
        clear he
        go_wp2
        go_roundg (gk - 1)
        case measure => omega
        case rel =>
          refine ⟨k + 1, by omega, by go_num, Lib.hid ?_, rfl⟩
          rw [hs.out, hd.out]
          have := He.out
          simp only [List.mem_cons, decide_eq_decide]
          exact ⟨fun e => e.elim (fun e => absurd e.symm this) id, .inr⟩
    · obtain rfl : k = l.length := by omega
      go_wp2
      go_ret
      exact ⟨by rw [hs.out, List.drop_length]; simp, rfl⟩
end Go.Proofs.Ytmnhgdedkniafaa

/- When two lists of numbers are one, by the document. -/
namespace Go.Proofs.Ytmnhgdedkniafaa
set_option linter.unusedVariables false
open Go.RowKit
theorem samei (w : World) (F G : Nat → Prop) (A B : Option Addr) (c d : Nat) (xs ys : List Int) (hx : Ints F w A xs) (hy : Ints G w B ys) (hl : xs.length ≤ 1048576) (hl2 : ys.length ≤ 1048576) :
    Calls Try.prog 33 #[.slice A xs.length c, .slice B ys.length d] w fun e w' => e = .returned (.bool (xs == ys)) ∧ Upd No w w' := by
  by_cases hne : xs.length = ys.length
  · have hb : ((xs.length : Int) != (ys.length : Int)) = false := by rw [hne]; simp
    go_enter Try.func33, Try.ntmps33
    have Hne := Lib.hid hne
    clear hne
    go_wp2
    go_loopg [5, 13] xs.length (fun gk j i wr => ∃ k : Nat, k + gk = xs.length ∧ i = .int .i64 k ∧ xs.take k = ys.take k ∧ Upd No w wr)
    case atStart => exact ⟨0, by omega, rfl, by simp, Upd.refl _ _⟩
    case round =>
      obtain ⟨k, hgk, rfl, hs, hu⟩ := hrel
      have Hs := Lib.hid hs
      clear hs
      by_cases hlt : k < xs.length
      · have hlt2 : k < ys.length := by have := Hne.out; omega
        obtain ⟨ax, rfl, _, _, hcx⟩ := (hx.upd hu (fun _ _ => id)).at_ hlt
        obtain ⟨ay, rfl, _, _, hcy⟩ := (hy.upd hu (fun _ _ => id)).at_ hlt2
        have b1 : (0 : Int) ≤ (k : Int) := Int.natCast_nonneg _
        have b2 : (k : Int) < (xs.length : Int) := by omega
        have b3 : (k : Int) < (ys.length : Int) := by omega
        by_cases he : xs[k] = ys[k]
        · have heb : (xs[k] != ys[k]) = false := by rw [he]; simp
          have He := Lib.hid he
          clear he
          go_wp2
          go_quiet (fail)
          go_wp2
          go_roundg (gk - 1)
          case measure => omega
          case rel =>
            refine ⟨k + 1, by omega, by go_num, ?_, hu.drewN _⟩
            rw [List.take_succ_eq_append_getElem hlt, List.take_succ_eq_append_getElem hlt2, Hs.out, He.out]
        · have heb : (xs[k] != ys[k]) = true := by simpa using he
          have He := Lib.hid he
          clear he
          go_wp2
          go_quiet (fail)
          go_wp2
          go_ret
          have hne2 : (xs == ys) = false := by
            rw [beq_eq_false_iff_ne]
            rintro rfl
            exact He.out rfl
          exact ⟨by rw [hne2]; rfl, hu.drewN _⟩
      · obtain rfl : k = xs.length := by omega
        go_wp2
        go_ret
        have h2 := Hs.out
        rw [List.take_length, Hne.out, List.take_length] at h2
        exact ⟨by rw [h2, beq_self_eq_true]; rfl, hu⟩
  · have hb : ((xs.length : Int) != (ys.length : Int)) = true := by rw [bne_iff_ne]; omega
    have hf : (xs == ys) = false := by rw [beq_eq_false_iff_ne]; rintro rfl; exact hne rfl
    have Hf := Lib.hid hf
    clear hf
    go_enter Try.func33, Try.ntmps33
    go_wp2
    go_ret
    exact ⟨by rw [Hf.out]; rfl, Upd.refl _ _⟩
end Go.Proofs.Ytmnhgdedkniafaa
