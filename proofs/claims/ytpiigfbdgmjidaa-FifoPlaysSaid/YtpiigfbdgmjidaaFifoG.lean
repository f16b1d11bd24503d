/- A queue and a stack side by side; the law's asking for some answers. -/
import Derived.Test.YtpiigfbdgmjidaaFifoE
namespace Go.Proofs.Ytpiigfbdgmjidaa
open Go.RowKit

/-- a queue and a stack that share nothing, made since w -/
structure Two (w W : World) (Fq Fs : Nat → Prop) (gq gs : Nat) (Nq Ns : Int) (xq xs : List Int) : Prop where
  q : Que W Fq gq Nq xq
  s : Sta W Fs gs Ns xs
  apart : ∀ i, Fq i → ¬ Fs i
  newq : ∀ i, Fq i → w.heap.size ≤ i
  news : ∀ i, Fs i → w.heap.size ≤ i
  upd : Upd No w W
namespace Two
variable {w W W' : World} {Fq Fs F' : Nat → Prop} {gq gs : Nat} {Nq Ns : Int} {xq xs l : List Int}
theorem same (h : Two w W Fq Fs gq gs Nq Ns xq xs) (k : Upd No W W') : Two w W' Fq Fs gq gs Nq Ns xq xs :=
  ⟨h.q.upd k (fun _ _ => id), h.s.upd k (fun _ _ => id), h.apart, h.newq, h.news, h.upd.trans k⟩
theorem dr (h : Two w W Fq Fs gq gs Nq Ns xq xs) (n : Nat) : Two w (W.drewN n) Fq Fs gq gs Nq Ns xq xs := h.same ((Upd.refl No W).drewN n)
theorem putq (h : Two w W Fq Fs gq gs Nq Ns xq xs) (hq : Que W' F' gq Nq l) (k : Upd Fq W W') (hF : ∀ i, F' i → Fq i ∨ W.heap.size ≤ i) : Two w W' F' Fs gq gs Nq Ns l xs :=
  ⟨hq, h.s.upd k (fun i hi e => h.apart i e hi), fun i hi e => by
      rcases hF i hi with h' | h'
      · exact h.apart i h' e
      · have := h.s.lt i e; omega, fun i hi => by
      rcases hF i hi with h' | h'
      · exact h.newq i h'
      · have := h.upd.size; omega, h.news, h.upd.then_ k fun i e => .inr (h.newq i e)⟩
theorem puts (h : Two w W Fq Fs gq gs Nq Ns xq xs) (hs : Sta W' F' gs Ns l) (k : Upd Fs W W') (hF : ∀ i, F' i → Fs i ∨ W.heap.size ≤ i) : Two w W' Fq F' gq gs Nq Ns xq l :=
  ⟨h.q.upd k (fun i hi e => h.apart i hi e), hs, fun i hi e => by
      rcases hF i e with h' | h'
      · exact h.apart i hi h'
      · have := h.q.lt i hi; omega, h.newq, fun i hi => by
      rcases hF i hi with h' | h'
      · exact h.news i h'
      · have := h.upd.size; omega, h.upd.then_ k fun i e => .inr (h.news i e)⟩
theorem make {w1 w2 : World} (hq : Que w1 (One gq) gq Nq []) (hs : Sta w2 (One gs) gs Ns []) (hg : w.heap.size ≤ gq) (hg2 : w1.heap.size ≤ gs) (h1 : Upd No w w1) (h2 : Upd No w1 w2) : Two w w2 (One gq) (One gs) gq gs Nq Ns [] [] :=
  ⟨hq.upd h2 (fun _ _ => id), hs, fun i e e' => by
      have e : i = gq := e
      have e' : i = gs := e'
      have := hq.lt gq rfl
      omega, fun i e => by have e : i = gq := e; omega, fun i e => by have e : i = gs := e; have := h1.size; omega, h1.trans h2⟩
end Two
theorem qlist_nil (w : World) : Calls Try.prog 50 #[.pointer none] w fun e w' => e = .returned (.slice none 0 0) ∧ w = w' := by
  go_enter Try.func50, Try.ntmps50
  go_wp2_with fail
  refine (qlen_nil _).mono ?_
  rintro e w' ⟨rfl, rfl⟩
  go_wp2
  refine wp_loop_rounds 1 ?_
  rw [rounds_succ]
  go_wp2
  go_ret
  exact ⟨rfl, rfl⟩
theorem lit3 : within 3 = 3 := by decide

set_option maxRecDepth 100000 in
set_option maxHeartbeats 4000000 in
theorem lives08 (w : World) : Calls Try.prog 36 #[] w fun e w' => e = .returned (.bool true) ∧ Upd No w w' := by
  go_enter Try.func36, Try.ntmps36
  go_wp2_with fail
  refine (qnew _ _).mono ?_
  rintro e w1 ⟨gq, rfl, hgq, hq1, hu1⟩
  go_wp2_with fail
  refine (snew _ _).mono ?_
  rintro e w2 ⟨gs, rfl, hgs, hs2, hu2⟩
  rw [lit3] at hq1 hs2
  have t0 := Two.make hq1 hs2 hgq hgs hu1 hu2
  clear hq1 hs2 hu1 hu2 hgq hgs
  go_wp2
  refine wp_loop_rounds 4 ?_
  rw [rounds_succ]
  go_wp2_with fail
  refine (qpush _ _ _ _ _ 1 t0.q (by omega) (by omega) (by simp)).mono ?_
  rintro e w3 ⟨rfl, Ft0, hFt0, hqt0, hut0⟩
  have t1 := t0.putq hqt0 hut0 hFt0
  clear hqt0 hut0 hFt0
  go_wp2_with fail
  refine (spush _ _ _ _ _ 1 t1.s (by omega) (by omega) (by simp)).mono ?_
  rintro e w4 ⟨rfl, Ft1, hFt1, hqt1, hut1⟩
  have t2 := t1.puts hqt1 hut1 hFt1
  clear hqt1 hut1 hFt1
  clear t0 t1
  go_wp2
  rw [rounds_succ]
  go_wp2_with fail
  refine (qpush _ _ _ _ _ 2 t2.q (by omega) (by omega) (by simp)).mono ?_
  rintro e w5 ⟨rfl, Ft2, hFt2, hqt2, hut2⟩
  have t3 := t2.putq hqt2 hut2 hFt2
  clear hqt2 hut2 hFt2
  go_wp2_with fail
  refine (spush _ _ _ _ _ 2 t3.s (by omega) (by omega) (by simp)).mono ?_
  rintro e w6 ⟨rfl, Ft3, hFt3, hqt3, hut3⟩
  have t4 := t3.puts hqt3 hut3 hFt3
  clear hqt3 hut3 hFt3
  clear t2 t3
  go_wp2
  rw [rounds_succ]
  go_wp2_with fail
  refine (qpush _ _ _ _ _ 3 t4.q (by omega) (by omega) (by simp)).mono ?_
  rintro e w7 ⟨rfl, Ft4, hFt4, hqt4, hut4⟩
  have t5 := t4.putq hqt4 hut4 hFt4
  clear hqt4 hut4 hFt4
  go_wp2_with fail
  refine (spush _ _ _ _ _ 3 t5.s (by omega) (by omega) (by simp)).mono ?_
  rintro e w8 ⟨rfl, Ft5, hFt5, hqt5, hut5⟩
  have t6 := t5.puts hqt5 hut5 hFt5
  clear hqt5 hut5 hFt5
  clear t4 t5
  replace t6 : Two w w8 _ _ gq gs 3 3 [1, 2, 3] [3, 2, 1] := t6
  go_wp2
  rw [rounds_succ]
  go_wp2_with fail
  refine (qpush_full _ _ _ _ [1, 2, 3] 4 t6.q (by omega) (by omega) (by decide)).mono ?_
  rintro e w' ⟨rfl, q1, rfl⟩
  go_wp2_with fail
  refine (spush_full _ _ _ _ [3, 2, 1] 4 (t6.dr _).s (by omega) (by omega) (by decide)).mono ?_
  rintro e w' ⟨rfl, q2, rfl⟩
  go_wp2_with fail
  refine (qpop _ _ _ _ 1 [2, 3] (t6.dr _).q).mono ?_
  rintro e w9 ⟨rfl, hq, hu⟩
  have t7 := (t6.dr _).putq hq hu (fun i hi => .inl hi)
  clear hq hu t6
  go_wp2_with fail
  refine (spop _ _ _ _ 3 [2, 1] t7.s (by decide)).mono ?_
  rintro e w10 ⟨rfl, hs, hu⟩
  have t8 := t7.puts hs hu (fun i hi => .inl hi)
  clear hs hu t7
  go_wp2_with fail
  refine (qfirst _ _ _ _ 2 [3] t8.q).mono ?_
  rintro e w' ⟨rfl, q3, rfl⟩
  go_wp2_with fail
  refine (sfirst _ _ _ _ 2 [1] (t8.dr _).s (by decide)).mono ?_
  rintro e w' ⟨rfl, q4, rfl⟩
  go_wp2_with fail
  refine (qpush _ _ _ _ [2, 3] 5 (t8.dr _).q (by omega) (by omega) (by simp)).mono ?_
  rintro e w11 ⟨rfl, F9, hF, hq, hu⟩
  have t9 : Two w w11 _ _ gq gs 3 3 [2, 3, 5] [2, 1] := (t8.dr _).putq hq hu hF
  clear hq hu hF t8
  go_wp2_with fail
  refine (qpop_nil _).mono ?_
  rintro e w' ⟨rfl, rfl⟩
  go_wp2_with fail
  refine (sfirst_nil _).mono ?_
  rintro e w' ⟨rfl, rfl⟩
  go_wp2_with fail
  refine (qlist _ _ _ _ [2, 3, 5] t9.q).mono ?_
  rintro e w12 ⟨A1, c1, rfl, hx, hu⟩
  have t10 := t9.same hu
  clear t9 hu
  go_wp2_with fail
  refine (sameints _ _ _ A1 _ _ _ [2, 3, 5] [2, 3, 5] (hx.upd ((Upd.refl No _).alloc _) (fun _ _ => id)) (lit_ints [2, 3, 5] 3) (by decide) (by decide)).mono ?_
  rintro e w13 ⟨he, hu⟩
  rw [beq_self_eq_true] at he
  subst he
  have t11 := (t10.same ((Upd.refl No _).alloc _)).same hu
  clear t10 hu hx
  go_wp2_with fail
  refine (slist _ _ _ _ [2, 1] t11.s (by decide)).mono ?_
  rintro e w14 ⟨A2, c2, rfl, hx, hu⟩
  have t12 := t11.same hu
  clear t11 hu
  go_wp2_with fail
  refine (sameints _ _ _ A2 _ _ _ [2, 1] [2, 1] (hx.upd ((Upd.refl No _).alloc _) (fun _ _ => id)) (lit_ints [2, 1] 3) (by decide) (by decide)).mono ?_
  rintro e w15 ⟨he, hu⟩
  rw [beq_self_eq_true] at he
  subst he
  have t13 := (t12.same ((Upd.refl No _).alloc _)).same hu
  clear t12 hu hx
  go_wp2_with fail
  refine (qroom _ _ _ _ [2, 3, 5] t13.q (by omega) (by omega)).mono ?_
  rintro e w' ⟨rfl, q5, rfl⟩
  go_wp2_with fail
  refine (sroom _ _ _ _ [2, 1] (t13.dr _).s (by omega) (by omega) (by decide)).mono ?_
  rintro e w' ⟨rfl, q6, rfl⟩
  go_wp2_with fail
  refine (slen _ _ _ _ [2, 1] (t13.dr _).s).mono ?_
  rintro e w' ⟨rfl, rfl⟩
  go_wp2_with fail
  refine (qpush_nil _ _).mono ?_
  rintro e w' ⟨rfl, rfl⟩
  go_wp2_with fail
  refine (spush_nil _ _).mono ?_
  rintro e w' ⟨rfl, rfl⟩
  go_wp2_with fail
  refine (qlen_nil _).mono ?_
  rintro e w' ⟨rfl, rfl⟩
  go_wp2_with fail
  refine (sroom_nil _).mono ?_
  rintro e w' ⟨rfl, rfl⟩
  go_wp2_with fail
  refine (qlist_nil _).mono ?_
  rintro e w' ⟨rfl, rfl⟩
  go_wp2
  go_ret
  exact ⟨rfl, t13.upd.drewN _⟩
end Go.Proofs.Ytpiigfbdgmjidaa
