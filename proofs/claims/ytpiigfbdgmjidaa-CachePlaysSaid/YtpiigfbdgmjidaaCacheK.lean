/- Caches: the law's asking for some answers. -/
import Derived.Test.YtpiigfbdgmjidaaProg
import Derived.Test.YtpiigfbdgmjidaaCacheH
import Derived.Test.YtpiigfbdgmjidaaCacheD
import Derived.Test.YtpiigfbdgmjidaaCacheJ
namespace Go.Proofs.Ytpiigfbdgmjidaa
set_option linter.unusedVariables false
open Go.RowKit

def wL : Wit := ⟨1, [⟨1, 2, 1, 3⟩], 0, 0, 0, 0, 0⟩
def wZ : Wit := ⟨0, [], 0, 0, 0, 0, 0⟩
def xA : Ent := ⟨1, 5, wL, true⟩
def xB : Ent := ⟨2, 5, wZ, false⟩
def xC : Ent := ⟨3, 4, wL, true⟩
def xD : Ent := ⟨1, 1, wL, true⟩
/-- two caches, and a witness -/
structure Env (w W : World) (b : Nat) (F1 F2 : Nat → Prop) (g1 g2 : Nat) (e1 e2 : List Ent) : Prop where
  c : CacheIs W F1 g1 2 e1
  d : CacheIs W F2 g2 0 e2
  ap : ∀ i, F1 i → ¬ F2 i
  n1 : ∀ i, F1 i → w.heap.size ≤ i ∧ i ≠ b ∧ i ≠ b + 1
  n2 : ∀ i, F2 i → w.heap.size ≤ i ∧ i ≠ b ∧ i ≠ b + 1
  blk : Blk W (b + 1) 47 [.int .i64 1, .slice (some ⟨b, 0, none⟩) 1 1, .int .i64 0, .int .i64 0, .int .i64 0, .int .i64 0, .int .i64 0]
  wk : Walk (fun i => i = b) W (some ⟨b, 0, none⟩) [⟨1, 2, 1, 3⟩]
  upd : Upd No w W
namespace Env
variable {w W W' : World} {b : Nat} {F1 F2 F' : Nat → Prop} {g1 g2 : Nat} {e1 e2 l : List Ent}
theorem same (h : Env w W b F1 F2 g1 g2 e1 e2) (k : Upd No W W') : Env w W' b F1 F2 g1 g2 e1 e2 :=
  ⟨h.c.upd k (fun _ _ => id), h.d.upd k (fun _ _ => id), h.ap, h.n1, h.n2, h.blk.upd k id, Recs.upd h.wk k (fun _ _ => id), h.upd.trans k⟩
theorem putc (h : Env w W b F1 F2 g1 g2 e1 e2) (hc : CacheIs W' F' g1 2 l) (hF : ∀ i, F' i → F1 i ∨ W.heap.size ≤ i) (k : Upd F1 W W') : Env w W' b F' F2 g1 g2 l e2 :=
  ⟨hc, h.d.upd k (fun i hi e => h.ap i e hi), fun i hi e => by
      rcases hF i hi with h' | h'
      · exact h.ap i h' e
      · have := h.d.lt i e; omega, fun i hi => by
      rcases hF i hi with h' | h'
      · exact h.n1 i h'
      · have := h.blk.lt; have := h.upd.size; omega, h.n2, h.blk.upd k (fun e => (h.n1 _ e).2.2 rfl), Recs.upd h.wk k (fun i hi e => (h.n1 i e).2.1 hi), h.upd.then_ k fun i e => .inr (h.n1 i e).1⟩
theorem putd (h : Env w W b F1 F2 g1 g2 e1 e2) (hc : CacheIs W' F' g2 0 l) (hF : ∀ i, F' i → F2 i ∨ W.heap.size ≤ i) (k : Upd F2 W W') : Env w W' b F1 F' g1 g2 e1 l :=
  ⟨h.c.upd k (fun i hi e => h.ap i hi e), hc, fun i hi e => by
      rcases hF i e with h' | h'
      · exact h.ap i hi h'
      · have := h.c.lt i hi; omega, h.n1, fun i hi => by
      rcases hF i hi with h' | h'
      · exact h.n2 i h'
      · have := h.blk.lt; have := h.upd.size; omega, h.blk.upd k (fun e => (h.n2 _ e).2.2 rfl), Recs.upd h.wk k (fun i hi e => (h.n2 i e).2.1 hi), h.upd.then_ k fun i e => .inr (h.n2 i e).1⟩
end Env
theorem shortL : short wL.walk.length := by unfold short; decide
theorem shortZ : short wZ.walk.length := by unfold short; decide

set_option maxRecDepth 100000 in
set_option maxHeartbeats 4000000 in
theorem lives34 (w : World) : Calls Try.prog 23 #[] w fun e w' => e = .returned (.bool true) ∧ Upd No w w' := by
  go_enter Try.func23, Try.ntmps23
  go_wp2_with fail
  refine (isnew _ 2).mono ?_
  rintro e w1 ⟨g1, F1, rfl, hc1, hn1, hu1⟩
  go_wp2_with fail
  refine (isnew _ 0).mono ?_
  rintro e w2 ⟨g2, F2, rfl, hc2, hn2, hu2⟩
  have t0 : Env w ((w2.alloc (.cells #[.int .i64 1, .int .i64 2, .int .i64 1, .int .i64 3] 93)).alloc (.cells #[.int .i64 1, .slice (some ⟨w2.heap.size, 0, none⟩) 1 1, .int .i64 0, .int .i64 0, .int .i64 0, .int .i64 0, .int .i64 0] 47)) w2.heap.size F1 F2 g1 g2 [] [] := by
    have ua := ((Upd.refl No w2).alloc (.cells #[.int .i64 1, .int .i64 2, .int .i64 1, .int .i64 3] 93)).alloc (.cells #[.int .i64 1, .slice (some ⟨w2.heap.size, 0, none⟩) 1 1, .int .i64 0, .int .i64 0, .int .i64 0, .int .i64 0, .int .i64 0] 47)
    have hs1 := hu1.size
    have hs2 := hu2.size
    refine ⟨((show CacheIs w1 F1 g1 2 [] from hc1).upd hu2 (fun _ _ => id)).upd ua (fun _ _ => id), (show CacheIs w2 F2 g2 0 [] from hc2).upd ua (fun _ _ => id), fun i hi e => ?_, fun i hi => ?_, fun i hi => ?_, ?_, ?_, (hu1.trans hu2).trans ua⟩
    · have := hc1.lt i hi
      have := hn2 i e
      omega
    · have := hc1.lt i hi
      have := hn1 i hi
      omega
    · have := hc2.lt i hi
      have := hn2 i hi
      omega
    · have := Blk.new (w2.alloc (.cells #[.int .i64 1, .int .i64 2, .int .i64 1, .int .i64 3] 93)) 47 [.int .i64 1, .slice (some ⟨w2.heap.size, 0, none⟩) 1 1, .int .i64 0, .int .i64 0, .int .i64 0, .int .i64 0, .int .i64 0]
      simp only [World.size_alloc] at this
      exact this
    · have bb := (Blk.new w2 93 [.int .i64 1, .int .i64 2, .int .i64 1, .int .i64 3]).alloc (.cells #[.int .i64 1, .slice (some ⟨w2.heap.size, 0, none⟩) 1 1, .int .i64 0, .int .i64 0, .int .i64 0, .int .i64 0, .int .i64 0] 47)
      intro _
      refine ⟨_, rfl, rfl, bb.lt, fun i row hi j v hj => ?_⟩
      have hi0 : i = 0 := by
        have := (List.getElem?_eq_some_iff.1 hi).1
        simp at this
        exact this
      subst hi0
      simp only [List.map_cons, List.map_nil, List.getElem?_cons_zero, Option.some.injEq] at hi
      subst hi
      have e1 : (⟨w2.heap.size, 0, none⟩ : Addr).add (0 * 4 + j) = ⟨w2.heap.size, j, none⟩ := by unfold Addr.add; split <;> simp_all
      rw [e1, bb.cell j]
      exact hj
  have hF2 : ∀ i, F2 i → i < w2.heap.size := hc2.lt
  clear hc1 hc2 hn1 hn2 hu1 hu2
  obtain ⟨b0, b1, b2, b3, b4, b5, b6⟩ := cell7 t0.blk
  go_wp2_with fail
  refine (isput _ _ _ _ [] t0.c _ (some ⟨w2.heap.size, 0, none⟩) 1 xA t0.wk shortL (by omega) (by simp) (fun i hi e => (t0.n1 i e).2.1 hi)).mono ?_
  rintro e w3 ⟨rfl, F3, hc, hF, hu⟩
  have t1 : Env w w3 w2.heap.size F3 F2 g1 g2 [xA] [] := t0.putc (show CacheIs w3 F3 g1 2 [xA] from hc) hF hu
  clear t0 hc hF hu b0 b1 b2 b3 b4 b5 b6
  go_wp2_with fail
  refine (isput _ _ _ _ [xA] t1.c (fun _ => False) none 0 xB (fun h => absurd rfl h) shortZ (by omega) (by decide) (fun i hi e => hi)).mono ?_
  rintro e w4 ⟨rfl, F4, hc, hF, hu⟩
  have t2 : Env w w4 w2.heap.size F4 F2 g1 g2 [xA, xB] [] := t1.putc (show CacheIs w4 F4 g1 2 [xA, xB] from hc) hF hu
  clear t1 hc hF hu
  go_wp2_with fail
  refine (isget _ _ _ _ [] [xB] xA t2.c).mono ?_
  rintro e w5 ⟨A5, c5, he, hw5, _, hc, hu⟩
  have t3 : Env w w5 w2.heap.size F4 F2 g1 g2 [xB, xA] [] := t2.putc (show CacheIs w5 F4 g1 2 [xB, xA] from hc) (fun i hi => .inl hi) hu
  have hz45 := hu.size
  have hz24 := t2.blk.lt
  have hF4 : ∀ i, F4 i → i < w4.heap.size := t2.c.lt
  clear t2 hc hu
  replace he : e = .returned (.tuple #[.agg #[.int .i64 1, .slice A5 1 c5, .int .i64 0, .int .i64 0, .int .i64 0, .int .i64 0, .int .i64 0], .bool true, .bool true]) := he
  subst he
  have u5 := (Upd.refl No w5).alloc (.cells [.int .i64 1, .slice A5 1 c5, .int .i64 0, .int .i64 0, .int .i64 0, .int .i64 0, .int .i64 0].toArray 47)
  have bx := Blk.new w5 47 [.int .i64 1, .slice A5 1 c5, .int .i64 0, .int .i64 0, .int .i64 0, .int .i64 0, .int .i64 0]
  have hwx : Walk (fun i => w4.heap.size ≤ i) (w5.alloc (.cells [.int .i64 1, .slice A5 1 c5, .int .i64 0, .int .i64 0, .int .i64 0, .int .i64 0, .int .i64 0].toArray 47)) A5 [⟨1, 2, 1, 3⟩] := Recs.upd hw5 u5 (fun _ _ => id)
  have t4 := t3.same u5
  clear t3 u5 hw5
  go_wp2_with fail
  refine (isoldest _ _ _ _ xB [xA] t4.c).mono ?_
  rintro e w6 ⟨he, hu⟩
  replace he : e = .returned (.tuple #[.int .i64 2, .int .i64 5, .bool true]) := he
  subst he
  have t5 := t4.same hu
  have bx5 := bx.upd hu id
  have hwx5 : Recs (fun i => i < w6.heap.size ∧ w4.heap.size ≤ i) w6 A5 4 ([⟨1, 2, 1, 3⟩].map Edge.cells) := Recs.lt' (Recs.upd hwx hu (fun _ _ => id))
  have hz56 := hu.size
  simp only [World.size_alloc] at hz56
  clear t4 hu bx hwx
  obtain ⟨b0, b1, b2, b3, b4, b5, b6⟩ := cell7 t5.blk
  go_wp2_with fail
  refine (isput _ _ _ _ [xB, xA] t5.c _ (some ⟨w2.heap.size, 0, none⟩) 1 xC t5.wk shortL (by omega) (by decide) (fun i hi e => (t5.n1 i e).2.1 hi)).mono ?_
  rintro e w7 ⟨rfl, F7, hc, hF, hu⟩
  have t6 : Env w w7 w2.heap.size F7 F2 g1 g2 [xA, xC] [] := t5.putc (show CacheIs w7 F7 g1 2 [xA, xC] from hc) hF hu
  have hFx := hF4
  have bx6 := bx5.upd hu (fun e => by have := hFx _ e; omega)
  have hwx6 := Recs.upd hwx5 hu (fun i hi e => by have := hFx _ e; omega)
  have hF7 : ∀ i, F7 i → i < w4.heap.size ∨ w6.heap.size ≤ i := fun i hi => by
    rcases hF i hi with h | h
    · exact .inl (hFx i h)
    · exact .inr h
  clear t5 hc hF hu b0 b1 b2 b3 b4 b5 b6 bx5 hwx5
  go_wp2_with fail
  refine (isget_no _ _ _ _ [xA, xC] t6.c 2 5 (by decide)).mono ?_
  rintro e w8 ⟨rfl, hu⟩
  have t7 := (t6.same hu).same ((Upd.refl No w8).alloc (.cells W0.toArray 47))
  have bx7 := (bx6.upd hu id).alloc (.cells W0.toArray 47)
  have hwx7 := Recs.upd (Recs.upd hwx6 hu (fun _ _ => id)) ((Upd.refl No w8).alloc (.cells W0.toArray 47)) (fun _ _ => id)
  clear t6 hu bx6 hwx6
  go_wp2_with fail
  refine (islen _ _ _ _ [xA, xC] t7.c).mono ?_
  rintro e w9 ⟨he, rfl⟩
  replace he : e = .returned (.int .i64 2) := he
  subst he
  go_wp2_with fail
  refine (isforget _ _ _ _ [xA, xC] t7.c 3 (by decide)).mono ?_
  rintro e w10 ⟨he, hc, hu⟩
  replace he : e = .returned (.int .i64 1) := he
  subst he
  have t8 : Env w w10 w2.heap.size F7 F2 g1 g2 [xA] [] := t7.putc (show CacheIs w10 F7 g1 2 [xA] from hc) (fun i hi => .inl hi) hu
  have bx8 := bx7.upd hu (fun e => by have := hF7 _ e; omega)
  have hwx8 := Recs.upd hwx7 hu (fun i hi e => by have := hF7 _ e; omega)
  clear t7 hu hc bx7 hwx7
  obtain ⟨b0, b1, b2, b3, b4, b5, b6⟩ := cell7 t8.blk
  go_wp2_with fail
  refine (isput _ _ _ _ [] t8.d _ (some ⟨w2.heap.size, 0, none⟩) 1 xD t8.wk shortL (by omega) (by simp) (fun i hi e => (t8.n2 i e).2.1 hi)).mono ?_
  rintro e w11 ⟨rfl, F11, hc, hF, hu⟩
  have t9 : Env w w11 w2.heap.size F7 F11 g1 g2 [xA] [] := t8.putd (show CacheIs w11 F11 g2 0 [] from hc) hF hu
  have bx9 := bx8.upd hu (fun e => by have := hF2 _ e; omega)
  have hwx9 := Recs.upd hwx8 hu (fun i hi e => by have := hF2 _ e; omega)
  clear t8 hc hF hu b0 b1 b2 b3 b4 b5 b6 bx8 hwx8
  go_wp2_with fail
  refine (isget_no _ _ _ _ [] t9.d 1 1 (by simp)).mono ?_
  rintro e w12 ⟨rfl, hu⟩
  have t10 := (t9.same hu).same ((Upd.refl No w12).alloc (.cells W0.toArray 47))
  have bx10 := (bx9.upd hu id).alloc (.cells W0.toArray 47)
  have hwx10 := Recs.upd (Recs.upd hwx9 hu (fun _ _ => id)) ((Upd.refl No w12).alloc (.cells W0.toArray 47)) (fun _ _ => id)
  clear t9 hu bx9 hwx9
  obtain ⟨b0, b1, b2, b3, b4, b5, b6⟩ := cell7 t10.blk
  go_wp2_with fail
  refine (cput_nil _ _ _ _ _).mono ?_
  rintro e w13 ⟨rfl, hu⟩
  have t11 := t10.same hu
  have bx11 := bx10.upd hu id
  have hwx11 := Recs.upd hwx10 hu (fun _ _ => id)
  clear t10 hu bx10 hwx10 b0 b1 b2 b3 b4 b5 b6
  go_wp2_with fail
  refine (coldest_nil _).mono ?_
  rintro e w14 ⟨rfl, rfl⟩
  obtain ⟨b0, b1, b2, b3, b4, b5, b6⟩ := cell7 t11.blk
  obtain ⟨d0, d1, d2, d3, d4, d5, d6⟩ := cell7 bx11
  go_wp2_with fail
  refine (wsame _ _ _ A5 (some ⟨w2.heap.size, 0, none⟩) c5 1 wL wL hwx11 t11.wk shortL shortL).mono ?_
  rintro e w15 ⟨he, hu⟩
  rw [beq_self_eq_true] at he
  subst he
  have t12 := t11.same hu
  clear t11 hu bx11 hwx11 b0 b1 b2 b3 b4 b5 b6 d0 d1 d2 d3 d4 d5 d6
  go_wp2_with fail
  refine (isforget _ _ _ _ [xA] t12.c 3 (by decide)).mono ?_
  rintro e w16 ⟨he, hc, hu⟩
  replace he : e = .returned (.int .i64 0) := he
  subst he
  have t13 : Env w w16 w2.heap.size F7 F11 g1 g2 [xA] [] := t12.putc (show CacheIs w16 F7 g1 2 [xA] from hc) (fun i hi => .inl hi) hu
  clear t12 hc hu
  go_wp2_with fail
  refine (islen _ _ _ _ [xA] t13.c).mono ?_
  rintro e w17 ⟨he, rfl⟩
  replace he : e = .returned (.int .i64 1) := he
  subst he
  go_wp2_with fail
  refine (islen _ _ _ _ [] t13.d).mono ?_
  rintro e w17 ⟨he, rfl⟩
  replace he : e = .returned (.int .i64 0) := he
  subst he
  go_wp2_with fail
  refine (clen_nil _).mono ?_
  rintro e w17 ⟨rfl, rfl⟩
  go_wp2_with fail
  refine (cforget_nil _ _).mono ?_
  rintro e w17 ⟨rfl, rfl⟩
  go_wp2
  go_ret
  exact ⟨rfl, t13.upd⟩
end Go.Proofs.Ytpiigfbdgmjidaa
