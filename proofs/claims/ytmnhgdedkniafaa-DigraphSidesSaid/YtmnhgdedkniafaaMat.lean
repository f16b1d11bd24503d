/- Digraphs: the law of whatever is added and dropped. -/
import Derived.Test.YtmnhgdedkniafaaMas
namespace Go.Proofs.Ytmnhgdedkniafaa
set_option linter.unusedVariables false
open Go.RowKit
structure DDeed where
  k : Int
  a : HArc
def DDeed.cells (d : DDeed) : List Value := [.int .i64 d.k, .int .i64 d.a.f, .int .i64 d.a.t, .int .i64 d.a.kind, .int .i64 d.a.label]
def DeedsL (F : Nat → Prop) (w : World) (A : Option Addr) (l : List DDeed) : Prop := Recs F w A 5 (l.map DDeed.cells)
theorem DeedsL.at_ {F : Nat → Prop} {w : World} {A : Option Addr} {l : List DDeed} (h : DeedsL F w A l) {k : Nat} (hk : k < l.length) : ∃ ad, A = some ad ∧
    w.cell? (ad.add (k * 5)) = some (.int .i64 l[k].k) ∧ w.cell? ⟨(ad.add (k * 5)).block, (ad.add (k * 5)).off + 1, none⟩ = some (.int .i64 l[k].a.f) ∧
    w.cell? ⟨(ad.add (k * 5)).block, (ad.add (k * 5)).off + 2, none⟩ = some (.int .i64 l[k].a.t) ∧ w.cell? ⟨(ad.add (k * 5)).block, (ad.add (k * 5)).off + 3, none⟩ = some (.int .i64 l[k].a.kind) ∧
    w.cell? ⟨(ad.add (k * 5)).block, (ad.add (k * 5)).off + 4, none⟩ = some (.int .i64 l[k].a.label) := by
  have hk' : k < (l.map DDeed.cells).length := by simpa using hk
  obtain ⟨ad, e, _, _, hc⟩ := Recs.at_ h hk'
  rw [List.getElem_map] at hc
  exact ⟨ad, e, by simpa using hc 0 _ rfl, by simpa using hc 1 _ rfl, by simpa using hc 2 _ rfl, by simpa using hc 3 _ rfl, by simpa using hc 4 _ rfl⟩
theorem DeedsL.upd {F S : Nat → Prop} {w w' : World} {A : Option Addr} {l : List DDeed} (h : DeedsL F w A l) (k : Upd S w w') (hn : ∀ i, F i → ¬ S i) : DeedsL F w' A l := Recs.upd h k hn
/-- what a round of the law knows: the digraph holds q, the slice holds s; a box of the call's own -/
def BSt (w : World) (g N K : Nat) (q : List HArc) (A : Option Addr) (s : List HArc) (b : Nat) (cs : List Value) (W : World) : Prop :=
  ∃ G F, DG W G (some ⟨g, 0, none⟩) N K q ∧ Upd No w W ∧ (∀ k, G k → w.heap.size ≤ k) ∧ ArcsL F W A s ∧ (∀ i, F i → ¬ G i ∧ i < W.heap.size) ∧ (cs ≠ [] → ¬ G b ∧ Blk W b 65 cs)
namespace BSt
variable {w W W' : World} {g N K : Nat} {q s : List HArc} {A : Option Addr} {b : Nat} {cs : List Value}
theorem no (h : BSt w g N K q A s b cs W) (k : Upd No W W') : BSt w g N K q A s b cs W' := by
  obtain ⟨G, F, h1, h2, h3, h4, h5, h6⟩ := h
  exact ⟨G, F, h1.no k, h2.trans k, h3, h4.upd k (fun _ _ => id), fun i hi => ⟨(h5 i hi).1, Nat.lt_of_lt_of_le (h5 i hi).2 k.size⟩, fun e => ⟨(h6 e).1, (h6 e).2.upd k id⟩⟩
theorem box (h : BSt w g N K q A s b cs W) (c2 : List Value) : BSt w g N K q A s W.heap.size c2 (W.alloc (.cells c2.toArray 65)) := by
  obtain ⟨G, F, h1, h2, h3, h4, h5, h6⟩ := h
  have k := (Upd.refl No W).alloc (.cells c2.toArray 65)
  exact ⟨G, F, h1.no k, h2.trans k, h3, h4.upd k (fun _ _ => id), fun i hi => ⟨(h5 i hi).1, Nat.lt_of_lt_of_le (h5 i hi).2 k.size⟩, fun _ => ⟨fun e => by have := h1.old (by simp) _ e; omega, Blk.new W _ c2⟩⟩
theorem upd (h : BSt w g N K q A s b cs W) : Upd No w W := by
  obtain ⟨G, F, h1, h2, h3, h4, h5, h6⟩ := h
  exact h2
theorem blk (h : BSt w g N K q A s b cs W) (hc : cs ≠ []) : Blk W b 65 cs := by
  obtain ⟨G, F, h1, h2, h3, h4, h5, h6⟩ := h
  exact (h6 hc).2
theorem put (h : BSt w g N K q A s b cs W) {A' : Option Addr} {s' : List HArc} {c' : Nat} (ho : W'.ownsRow W.heap.size 63 4 (.slice A' s'.length c') s'.length (arcsF s')) (k : Upd No W W') : BSt w g N K q A' s' b cs W' := by
  obtain ⟨G, F, h1, h2, h3, h4, h5, h6⟩ := h
  have hold := h1.old (by simp)
  exact ⟨G, Own (.slice A' s'.length c'), h1.no k, h2.trans k, h3, arcs_own' ho, fun i hi => ⟨fun e => by have := hold i e; have := (ho.lt i hi).1; omega, (ho.lt i hi).2⟩, fun e => ⟨(h6 e).1, (h6 e).2.upd k id⟩⟩
theorem turn_ (h : BSt w g N K q A s b cs W) {K' : Nat} {q' : List HArc} {v : Value} (hc : ∀ G, DG W G (some ⟨g, 0, none⟩) N K q → ∀ e w', DTs W G (some ⟨g, 0, none⟩) N K' q' v e w' → e = .returned v ∧ ∃ G', DG w' G' (some ⟨g, 0, none⟩) N K' q' ∧ Upd G W w' ∧ ∀ k, G' k → G k ∨ W.heap.size ≤ k)
    {G : Nat → Prop} {F : Nat → Prop} (h1 : DG W G (some ⟨g, 0, none⟩) N K q) (h2 : Upd No w W) (h3 : ∀ k, G k → w.heap.size ≤ k) (h4 : ArcsL F W A s) (h5 : ∀ i, F i → ¬ G i ∧ i < W.heap.size) (h6 : cs ≠ [] → ¬ G b ∧ Blk W b 65 cs)
    {e : Ending} {w' : World} (hd : DTs W G (some ⟨g, 0, none⟩) N K' q' v e w') : e = .returned v ∧ BSt w g N K' q' A s b cs w' := by
  obtain ⟨e1, G', k1, k2, k3⟩ := hc G h1 e w' hd
  have hne : ∀ i, i < W.heap.size → ¬ G i → ¬ G' i := fun i hi hn e => by
    rcases k3 i e with e | e
    · exact hn e
    · omega
  refine ⟨e1, G', F, k1, h2.then_ k2 fun i e => .inr (h3 i e), fun k hk => ?_, h4.upd k2 (fun i hi => (h5 i hi).1), fun i hi => ⟨hne i (h5 i hi).2 (h5 i hi).1, Nat.lt_of_lt_of_le (h5 i hi).2 k2.size⟩, fun e => ⟨hne b (h6 e).2.lt (h6 e).1, (h6 e).2.upd k2 (h6 e).1⟩⟩
  have := h2.size
  rcases k3 k hk with e | e
  · exact h3 k e
  · omega
theorem add (h : BSt w g N K q A s b cs W) (hK : K < 100000) (a : HArc) : Calls Try.prog 43 #[.pointer (some ⟨g, 0, none⟩), .agg a.cells.toArray] W fun e w' => e = .returned (.int .i64 (addE N q a)) ∧ BSt w g N (K + 1) (addQ N q a) A s b cs w' := by
  have h' := h
  obtain ⟨G, F, h1, h2, h3, h4, h5, h6⟩ := h
  refine (dgadd h1 hK a).mono fun e w' hd => h'.turn_ (fun G _ e w' hd => ?_) h1 h2 h3 h4 h5 h6 hd
  obtain ⟨G', rfl, k⟩ := hd
  exact ⟨rfl, G', k⟩
theorem drop (h : BSt w g N K q A s b cs W) (hK : K < 100000) (a : HArc) : Calls Try.prog 45 #[.pointer (some ⟨g, 0, none⟩), .agg a.cells.toArray] W fun e w' => e = .returned (.int .i64 (dropE q a)) ∧ BSt w g N (K + 1) (q.filter fun x => x != a) A s b cs w' := by
  have h' := h
  obtain ⟨G, F, h1, h2, h3, h4, h5, h6⟩ := h
  refine (dgdrop h1 hK a).mono fun e w' hd => ?_
  have hz := h'.turn_ (fun G _ e w' hd => by obtain ⟨G', rfl, k⟩ := hd; exact ⟨rfl, G', k⟩) h1 h2 h3 h4 h5 h6 hd
  obtain ⟨e1, G, F, k1, k2, k3, k4, k5, k6⟩ := hz
  refine ⟨e1, G, F, ?_, k2, k3, k4, k5, k6⟩
  rcases k1 with ⟨e, _⟩ | ⟨g', e, out, inn, ob, ib, oh, ih, base, z1, z2, z3⟩
  · cases e
  · exact .inr ⟨g', e, out, inn, ob, ib, oh, ih, base, z1, z2.mono (by omega), z3⟩
end BSt
end Go.Proofs.Ytmnhgdedkniafaa
