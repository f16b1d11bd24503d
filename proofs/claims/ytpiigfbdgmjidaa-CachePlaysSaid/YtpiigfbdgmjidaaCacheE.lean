/- Caches: the ring and the map in memory; what stays when an entry is taken out, put in, or struck from the map. -/
import Derived.Test.YtpiigfbdgmjidaaProg
import Derived.Test.YtpiigfbdgmjidaaCacheC
namespace Go.Proofs.Ytpiigfbdgmjidaa
set_option linter.unusedVariables false
open Go.RowKit

section
variable {α : Type} [DecidableEq α]
theorem look_none (a : α) : ∀ (m : List (α × Value)) (i : Nat), look a m i = none ↔ a ∉ m.map (·.1)
  | [], i => by simp [look]
  | p :: m, i => by
    unfold look
    by_cases h : a = p.1
    · simp [h]
    · simp only [List.map_cons, List.mem_cons, h, if_false, false_or]
      exact look_none a m (i + 1)
theorem eraseIdx_perm {β : Type} {x : β} : ∀ {l : List β} {i : Nat}, l[i]? = some x → l.Perm (x :: l.eraseIdx i)
  | [], i, h => by simp at h
  | y :: l, 0, h => by
    simp only [List.getElem?_cons_zero, Option.some.injEq] at h
    subst h
    exact List.Perm.refl _
  | y :: l, i + 1, h => by
    simp only [List.getElem?_cons_succ] at h
    exact ((eraseIdx_perm h).cons y).trans (List.Perm.swap x y _)
omit [DecidableEq α] in
theorem mem_unique {kvs : List (α × Value)} (hn : (kvs.map (·.1)).Nodup) {a : α} {v v' : Value} (h : (a, v) ∈ kvs) (h' : (a, v') ∈ kvs) : v = v' := by
  induction kvs with
  | nil => simp at h
  | cons p l ih =>
    simp only [List.map_cons, List.nodup_cons] at hn
    simp only [List.mem_cons] at h h'
    rcases h with rfl | h <;> rcases h' with h' | h'
    · cases h'; rfl
    · exact absurd (List.mem_map.2 ⟨_, h', rfl⟩) hn.1
    · subst h'
      exact absurd (List.mem_map.2 ⟨_, h, rfl⟩) hn.1
    · exact ih hn.2 h h'
theorem mget_perm {m kvs : List (α × Value)} (h : m.Perm kvs) (hn : (kvs.map (·.1)).Nodup) {a : α} {v : Value} (hm : (a, v) ∈ kvs) : mget m a = some v := by
  unfold mget
  cases hl : look a m 0 with
  | none =>
    exact absurd (List.mem_map.2 ⟨_, h.mem_iff.2 hm, rfl⟩) ((look_none a m 0).1 hl)
  | some r =>
    have h1 := (look_lt a m 0 r hl).2
    have h2 := h.mem_iff.1 (List.mem_of_getElem? h1)
    rw [mem_unique hn hm h2]
    rfl
theorem mget_none {m kvs : List (α × Value)} (h : m.Perm kvs) {a : α} (hm : a ∉ kvs.map (·.1)) : mget m a = none := by
  unfold mget
  rw [(look_none a m 0).2 (fun h' => hm ((h.map _).mem_iff.1 h'))]
  rfl
theorem mput_new {m kvs : List (α × Value)} (h : m.Perm kvs) {a : α} {v : Value} (hm : a ∉ kvs.map (·.1)) : (mput m a v).Perm (kvs ++ [(a, v)]) := by
  unfold mput
  rw [(look_none a m 0).2 (fun h' => hm ((h.map _).mem_iff.1 h'))]
  exact h.append_right _
theorem mdel_perm {m xs ys : List (α × Value)} {a : α} {v : Value} (h : m.Perm (xs ++ (a, v) :: ys)) (hn : ((xs ++ (a, v) :: ys).map (·.1)).Nodup) : (mdel m a).Perm (xs ++ ys) := by
  have hg := mget_perm h hn (a := a) (v := v) (by simp)
  unfold mget at hg
  unfold mdel
  cases hl : look a m 0 with
  | none => rw [hl] at hg; simp at hg
  | some r =>
    have h1 := (look_lt a m 0 r hl).2
    rw [hl] at hg
    simp only [Option.map_some, Option.some.injEq] at hg
    rw [Nat.sub_zero, hg] at h1
    exact ((eraseIdx_perm h1).symm.trans (h.trans List.perm_middle)).cons_inv
end

/-- an entry of a cache -/
structure Ent where
  l : Int
  p : Int
  w : Wit
  has : Bool
deriving DecidableEq
def Ent.key (e : Ent) : Int × Int := (e.l, e.p)
def kenc (p : Int × Int) : Value := .agg #[.int .i64 p.1, .int .i64 p.2]
/-- an entry's block: between the one before it and the one behind -/
def entv (e : Ent) (A : Option Addr) (c : Nat) (o n : Value) : List Value :=
  [.int .i64 e.l, .int .i64 e.p, .int .i64 e.w.phen, .slice A e.w.walk.length c, .int .i64 e.w.r0, .int .i64 e.w.r1, .int .i64 e.w.r2, .int .i64 e.w.r3, .int .i64 e.w.r4, .bool e.has, o, n]
abbrev entb (e : Ent) (A : Option Addr) (c : Nat) (o n : Nat) : List Value := entv e A c (pt o) (pt n)
/-- a walk is no longer than memory has room for -/
def short (n : Nat) : Prop := n ≤ 4398046511103
structure Node where
  b : Nat
  e : Ent
  A : Option Addr
  c : Nat
def NodeOk (w : World) (V : Nat → Prop) (n : Node) (o x : Nat) : Prop :=
  Blk w n.b 88 (entb n.e n.A n.c o x) ∧ Walk V w n.A n.e.w.walk ∧ short n.e.w.walk.length
def e0 : Ent := ⟨0, 0, ⟨0, [], 0, 0, 0, 0, 0⟩, false⟩

theorem Like.upd {w' X : World} (h : Like w' X) (S : Nat → Prop) : Upd S X w' :=
  ⟨h.1, h.2.1, h.2.2.1, by rw [h.2.2.2]; exact Nat.le_refl _, fun _ _ _ => by rw [h.2.2.2]⟩
theorem Blk.like {w' X : World} {g : Nat} {t : TypeId} {cs : List Value} (h : Blk X g t cs) (k : Like w' X) : Blk w' g t cs := by
  unfold Blk at *; rw [k.2.2.2]; exact h
theorem pt_if {p : Prop} [Decidable p] (x y : Nat) : (if p then pt x else pt y) = pt (if p then x else y) := by split <;> rfl
theorem entb11 {w : World} {k : Nat} {e : Ent} {A : Option Addr} {c : Nat} {a b : Value} (h : Blk w k 88 (entv e A c a b)) (o x : Nat) :
    Blk (w.setCell ⟨o, 11, none⟩ (pt x)) k 88 (entv e A c a (if k = o then pt x else b)) := by
  split
  · rename_i h'
    subst h'
    exact h.set_ 11 (pt x)
  · rename_i h'
    exact h.far (p := ⟨o, 11, none⟩) h' _
theorem entb10 {w : World} {k : Nat} {e : Ent} {A : Option Addr} {c : Nat} {a b : Value} (h : Blk w k 88 (entv e A c a b)) (o x : Nat) :
    Blk (w.setCell ⟨o, 10, none⟩ (pt x)) k 88 (entv e A c (if k = o then pt x else a) b) := by
  split
  · rename_i h'
    subst h'
    exact h.set_ 10 (pt x)
  · rename_i h'
    exact h.far (p := ⟨o, 10, none⟩) h' _

/-- the ring in memory: T its blocks, V those of the walks -/
structure Ring (w : World) (T V : Nat → Prop) (r : Nat) (ns : List Node) (nw od : Nat → Nat) : Prop where
  chain : Chain nw od r (ns.map (·.b)) r
  nd : (r :: ns.map (·.b)).Nodup
  root : Blk w r 88 (entb e0 none 0 (od r) (nw r))
  at_ : ∀ n ∈ ns, NodeOk w V n (od n.b) (nw n.b)
  inT : ∀ i, i ∈ r :: ns.map (·.b) → T i
  apart : ∀ i, T i → ¬ V i
theorem NodeOk.upd {w w' : World} {S V : Nat → Prop} {n : Node} {o x : Nat} (h : NodeOk w V n o x) (k : Upd S w w') (h1 : ¬ S n.b) (h2 : ∀ i, V i → ¬ S i) : NodeOk w' V n o x :=
  ⟨h.1.upd k h1, Recs.upd h.2.1 k h2, h.2.2⟩
theorem Ring.upd {w w' : World} {S T V : Nat → Prop} {r : Nat} {ns : List Node} {nw od : Nat → Nat} (h : Ring w T V r ns nw od) (k : Upd S w w') (h1 : ∀ i, T i → ¬ S i) (h2 : ∀ i, V i → ¬ S i) : Ring w' T V r ns nw od :=
  ⟨h.chain, h.nd, h.root.upd k (h1 _ (h.inT _ (List.mem_cons_self ..))), fun n hn => (h.at_ n hn).upd k (h1 _ (h.inT _ (List.mem_cons_of_mem _ (List.mem_map_of_mem hn)))) h2, h.inT, h.apart⟩
/-- who stands at a place of the ring -/
theorem Ring.cellsOf {w : World} {T V : Nat → Prop} {r : Nat} {ns : List Node} {nw od : Nat → Nat} (h : Ring w T V r ns nw od) {k : Nat} (hk : k ∈ r :: ns.map (·.b)) :
    ∃ (e : Ent) (A : Option Addr) (c : Nat), Blk w k 88 (entb e A c (od k) (nw k)) := by
  rcases List.mem_cons.1 hk with rfl | hk
  · exact ⟨_, _, _, h.root⟩
  · obtain ⟨n, hn, rfl⟩ := List.mem_map.1 hk
    exact ⟨_, _, _, (h.at_ n hn).1⟩
theorem Chain.nw_mem {nw od : Nat → Nat} : ∀ {l : List Nat} {x z i : Nat}, Chain nw od x l z → i ∈ x :: l → nw i ∈ z :: l
  | [], x, z, i, h, hi => by
    simp only [List.mem_cons, List.not_mem_nil, or_false] at hi
    subst hi
    simp [h.1]
  | y :: l, x, z, i, h, hi => by
    obtain ⟨h1, h2, h3⟩ := h
    rcases List.mem_cons.1 hi with rfl | hi
    · rw [h1]; simp
    · have := Chain.nw_mem h3 hi
      simp only [List.mem_cons] at this ⊢
      rcases this with h | h
      · exact .inl h
      · exact .inr (.inr h)
theorem Chain.od_mem {nw od : Nat → Nat} : ∀ {l : List Nat} {x z i : Nat}, Chain nw od x l z → i ∈ z :: l → od i ∈ x :: l
  | [], x, z, i, h, hi => by
    simp only [List.mem_cons, List.not_mem_nil, or_false] at hi
    subst hi
    simp [h.2]
  | y :: l, x, z, i, h, hi => by
    obtain ⟨h1, h2, h3⟩ := h
    simp only [List.mem_cons] at hi
    rcases hi with hi | hi | hi
    · have := Chain.od_mem h3 (i := i) (by simp [hi])
      exact List.mem_cons_of_mem _ this
    · rw [hi, h2]; simp
    · have := Chain.od_mem h3 (i := i) (by simp [hi])
      exact List.mem_cons_of_mem _ this
theorem Ring.nw_mem {w : World} {T V : Nat → Prop} {r : Nat} {ns : List Node} {nw od : Nat → Nat} (h : Ring w T V r ns nw od) {k : Nat} (hk : k ∈ r :: ns.map (·.b)) : nw k ∈ r :: ns.map (·.b) := h.chain.nw_mem hk
theorem Ring.od_mem {w : World} {T V : Nat → Prop} {r : Nat} {ns : List Node} {nw od : Nat → Nat} (h : Ring w T V r ns nw od) {k : Nat} (hk : k ∈ r :: ns.map (·.b)) : od k ∈ r :: ns.map (·.b) := h.chain.od_mem hk
/-- no one of a ring of two and more is next to itself -/
theorem Chain.nw_ne {nw od : Nat → Nat} : ∀ {l : List Nat} {x z i : Nat}, Chain nw od x l z → (x :: l).Nodup → (l ++ [z]).Nodup → i ∈ l → nw i ≠ i ∧ od i ≠ i
  | [], x, z, i, h, hn, hn2, hi => by simp at hi
  | y :: l, x, z, i, h, hn, hn2, hi => by
    obtain ⟨h1, h2, h3⟩ := h
    simp only [List.nodup_cons, List.mem_cons, not_or] at hn
    simp only [List.cons_append, List.nodup_cons, List.mem_append, List.mem_singleton, not_or] at hn2
    rcases List.mem_cons.1 hi with rfl | hi
    · constructor
      · have hne : nw i ∈ l ++ [z] := by
          cases l with
          | nil => simp [h3.1]
          | cons a l => rw [h3.1]; simp
        intro e
        rw [e] at hne
        simp only [List.mem_append, List.mem_singleton] at hne
        rcases hne with h | h
        · exact hn2.1.1 h
        · exact hn2.1.2 h
      · rw [h2]
        exact fun e => hn.1.1 e
    · exact Chain.nw_ne h3 (by simpa using hn.2) hn2.2 hi
theorem Ring.ne {w : World} {T V : Nat → Prop} {r : Nat} {ns : List Node} {nw od : Nat → Nat} (h : Ring w T V r ns nw od) {k : Nat} (hk : k ∈ ns.map (·.b)) : nw k ≠ k ∧ od k ≠ k := by
  have hn := h.nd
  refine h.chain.nw_ne hn ?_ hk
  simp only [List.nodup_cons] at hn
  rw [List.nodup_append]
  refine ⟨hn.2, by simp, ?_⟩
  intro a ha b hb
  simp only [List.mem_singleton] at hb
  subst hb
  rintro rfl
  exact hn.1 ha

theorem rout (w : World) (T V : Nat → Prop) (r : Nat) (as_ bs : List Node) (n : Node) (nw od : Nat → Nat) (h : Ring w T V r (as_ ++ n :: bs) nw od) :
    Calls Try.prog 59 #[pt n.b] w fun en w' => en = .returned (.tuple #[]) ∧ Ring w' T V r (as_ ++ bs) (upd1 nw (od n.b) (nw n.b)) (upd1 od (nw n.b) (od n.b)) ∧
      NodeOk w' V n (od n.b) (nw n.b) ∧ Upd T w w' := by
  have hm : n ∈ as_ ++ n :: bs := by simp
  have hb : n.b ∈ r :: (as_ ++ n :: bs).map (·.b) := List.mem_cons_of_mem _ (List.mem_map_of_mem hm)
  have ho := h.od_mem hb
  have hx := h.nw_mem hb
  obtain ⟨hne1, hne2⟩ := h.ne (List.mem_map_of_mem hm)
  have h1 := (h.at_ n hm).1.cell 10
  have h2 := (h.at_ n hm).1.cell 11
  obtain ⟨e3, A3, c3, b3⟩ := h.cellsOf ho
  obtain ⟨e4, A4, c4, b4⟩ := h.cellsOf hx
  have h3 := b3.cell 11
  have h4 := b4.cell 10
  have f3 := b3.free 11
  have f4 := b4.free 10
  refine (cout w n.b (od n.b) (nw n.b) _ _ h1 h2 h3 h4 f3 f4 (Ne.symm hne2) (Ne.symm hne1)).mono ?_
  rintro e w' ⟨he, hl⟩
  have hu : Upd T w w' := (((Upd.refl T w).setCell (p := ⟨od n.b, 11, none⟩) (.inl (h.inT _ ho)) _).setCell (p := ⟨nw n.b, 10, none⟩) (.inl (h.inT _ hx)) _).trans (hl.upd T)
  have key : ∀ (k : Nat) (e : Ent) (A : Option Addr) (c : Nat), Blk w k 88 (entb e A c (od k) (nw k)) →
      Blk w' k 88 (entb e A c (upd1 od (nw n.b) (od n.b) k) (upd1 nw (od n.b) (nw n.b) k)) := fun k e A c hk => by
    have := (entb10 (entb11 hk (od n.b) (nw n.b)) (nw n.b) (od n.b)).like hl
    unfold upd1
    simp only [pt_if] at this
    exact this
  have hnd := h.nd
  rw [List.map_append, List.map_cons] at hnd
  have hc := h.chain
  rw [List.map_append, List.map_cons] at hc
  have hmem : ∀ k, k ∈ as_ ++ bs → k ∈ as_ ++ n :: bs := fun k hk => by
    simp only [List.mem_append, List.mem_cons] at hk ⊢
    rcases hk with hk | hk
    · exact .inl hk
    · exact .inr (.inr hk)
  refine ⟨he, ⟨?_, ?_, key _ _ _ _ h.root, fun k hk => ?_, fun i hi => ?_, h.apart⟩, ?_, hu⟩
  · rw [List.map_append]
    exact ring_out hc hnd
  · rw [List.map_append]
    have hs : List.Sublist (r :: (as_.map (·.b) ++ bs.map (·.b))) (r :: (as_.map (·.b) ++ n.b :: bs.map (·.b))) :=
      List.Sublist.cons_cons _ (List.Sublist.append (List.Sublist.refl _) (List.sublist_cons_self _ _))
    exact hs.nodup hnd
  · have hk' := h.at_ k (hmem k hk)
    exact ⟨key _ _ _ _ hk'.1, Recs.upd hk'.2.1 hu (fun i hi hT => h.apart i hT hi), hk'.2.2⟩
  · refine h.inT i ?_
    simp only [List.map_append, List.map_cons, List.mem_cons, List.mem_append] at hi ⊢
    rcases hi with hi | hi | hi
    · exact .inl hi
    · exact .inr (.inl hi)
    · exact .inr (.inr (.inr hi))
  · have hk' := h.at_ n hm
    have := key n.b _ _ _ hk'.1
    unfold upd1 at this
    rw [if_neg (Ne.symm hne1), if_neg (Ne.symm hne2)] at this
    exact ⟨this, Recs.upd hk'.2.1 hu (fun i hi hT => h.apart i hT hi), hk'.2.2⟩

theorem rin (w : World) (T V : Nat → Prop) (g r : Nat) (x y : Value) (ns : List Node) (n : Node) (o0 x0 : Value) (nw od : Nat → Nat) (h : Ring w T V r ns nw od) (hg : Blk w g 91 [x, y, pt r]) (hn : Blk w n.b 88 (entv n.e n.A n.c o0 x0) ∧ Walk V w n.A n.e.w.walk ∧ short n.e.w.walk.length)
    (hT : T n.b) (hnew : n.b ∉ r :: ns.map (·.b)) (hgT : ¬ T g) :
    Calls Try.prog 57 #[pt g, pt n.b] w fun en w' => en = .returned (.tuple #[]) ∧
      Ring w' T V r (ns ++ [n]) (upd1 (upd1 nw n.b r) (od r) n.b) (upd1 (upd1 od n.b (od r)) r n.b) ∧ Upd T w w' := by
  have hr : r ∈ r :: ns.map (·.b) := List.mem_cons_self ..
  have ho := h.od_mem hr
  obtain ⟨e3, A3, c3, b3⟩ := h.cellsOf ho
  have h1 := hg.cell 2
  have h2 := h.root.cell 10
  have h3 := hn.1.cell 10
  have h4 := hn.1.cell 11
  have h5 := b3.cell 11
  have f3 := hn.1.free 10
  have f4 := hn.1.free 11
  have f5 := b3.free 11
  have f6 := h.root.free 10
  have her : n.b ≠ r := fun e => hnew (by rw [e]; exact hr)
  have heo : n.b ≠ od r := fun e => hnew (by rw [e]; exact ho)
  have hge : g ≠ n.b := fun e => hgT (by rw [e]; exact hT)
  have hgo : g ≠ od r := fun e => hgT (by rw [e]; exact h.inT _ ho)
  have hgr : g ≠ r := fun e => hgT (by rw [e]; exact h.inT _ hr)
  refine (cin w g r n.b (od r) _ _ _ (.bool true) h1 h2 h3 h4 h5 f3 f4 f5 f6 her heo hge hgo hgr).mono ?_
  rintro e w' ⟨he, hl⟩
  have hu : Upd T w w' := (((((Upd.refl T w).setCell (p := ⟨n.b, 10, none⟩) (.inl hT) _).setCell (p := ⟨n.b, 11, none⟩) (.inl hT) _).setCell (p := ⟨od r, 11, none⟩) (.inl (h.inT _ ho)) _).setCell (p := ⟨r, 10, none⟩) (.inl (h.inT _ hr)) _).trans (hl.upd T)
  have key : ∀ (k : Nat) (e : Ent) (A : Option Addr) (c : Nat) (a b : Value), Blk w k 88 (entv e A c a b) →
      Blk w' k 88 (entv e A c (if k = r then pt n.b else if k = n.b then pt (od r) else a) (if k = od r then pt n.b else if k = n.b then pt r else b)) :=
    fun k e A c a b hk => (entb10 (entb11 (entb11 (entb10 hk _ _) _ _) _ _) _ _).like hl
  have key2 : ∀ (k : Nat) (e : Ent) (A : Option Addr) (c : Nat), Blk w k 88 (entb e A c (od k) (nw k)) →
      Blk w' k 88 (entb e A c (upd1 (upd1 od n.b (od r)) r n.b k) (upd1 (upd1 nw n.b r) (od r) n.b k)) := fun k e A c hk => by
    have := key k e A c _ _ hk
    unfold upd1
    simp only [pt_if] at this
    exact this
  refine ⟨he, ⟨?_, ?_, key2 _ _ _ _ h.root, fun k hk => ?_, fun i hi => ?_, h.apart⟩, hu⟩
  · rw [List.map_append]
    exact ring_in h.chain h.nd hnew
  · have := h.nd
    rw [List.map_append, List.map_cons, List.map_nil, ← List.cons_append, List.nodup_append]
    refine ⟨this, by simp, ?_⟩
    intro a ha b hb
    simp only [List.mem_singleton] at hb
    subst hb
    rintro rfl
    exact hnew ha
  · rcases List.mem_append.1 hk with hk | hk
    · have hk' := h.at_ k hk
      exact ⟨key2 _ _ _ _ hk'.1, Recs.upd hk'.2.1 hu (fun i hi hT => h.apart i hT hi), hk'.2.2⟩
    · simp only [List.mem_singleton] at hk
      subst hk
      have := key _ _ _ _ _ _ hn.1
      simp only [upd1, if_true, if_neg her, if_neg heo] at this ⊢
      exact ⟨this, Recs.upd hn.2.1 hu (fun i hi hT => h.apart i hT hi), hn.2.2⟩
  · simp only [List.map_append, List.map_cons, List.map_nil, List.mem_cons, List.mem_append, List.not_mem_nil, or_false] at hi
    rcases hi with hi | hi | hi
    · exact h.inT i (by simp [hi])
    · exact h.inT i (List.mem_cons_of_mem _ hi)
    · rw [hi]; exact hT
end Go.Proofs.Ytpiigfbdgmjidaa
