/- Digraphs: ends put in and taken out. -/
import Derived.Test.YtmnhgdedkniafaaMba
namespace Go.Proofs.Ytmnhgdedkniafaa
set_option linter.unusedVariables false
open Go.RowKit
theorem dends_own {w : World} {base : Nat} {A : Option Addr} {c : Nat} {l : List DEnd} (h : w.ownsRow base 138 3 (.slice A l.length c) l.length (l.map DEnd.cells).flatten) : DEnds (Own (.slice A l.length c)) w A l :=
  Recs.of_own (n := l.length) (c := c) dends_len (by omega) h
theorem Grew.older {w W : World} {v v' : Value} (h : Grew W v v') (k : w.heap.size ≤ W.heap.size) : Grew w v v' := by
  rcases h with h | ⟨j, h1, h2⟩
  · exact .inl h
  · exact .inr ⟨j, h1, Nat.le_trans k h2⟩
set_option maxRecDepth 100000 in
theorem dput (w : World) (base : Nat) (A : Option Addr) (c : Nat) (l : List DEnd) (e : DEnd) (p : Nat) (hown : w.ownsRow base 138 3 (.slice A l.length c) l.length (l.map DEnd.cells).flatten) (hp : Parts l e p) (hl : l.length ≤ 100000) (hbase : base ≤ w.heap.size) :
    Calls Try.prog 102 #[.slice A l.length c, .agg e.cells.toArray] w (Insd w base (.slice A l.length c) (insAt l p e)) := by
  have u0 := (Upd.refl No w).alloc (.cells e.cells.toArray 138)
  have bE := Lib.hid (Blk.new w 138 e.cells)
  have hf := Lib.hid (dfind _ (w.alloc (.cells e.cells.toArray 138)) A c l e p ((dends_own hown).upd u0 (fun _ _ => id)) (by omega) hp)
  have hp1 := hp.1
  have HO := Lib.hid hown
  have U0 := Lib.hid u0
  obtain ⟨ek, el, en⟩ := e
  unfold DEnd.cells at *
  clear hown hp u0
  go_enter Try.func102, Try.ntmps102
  go_wp2_with fail
  refine (hf.out).mono ?_
  rintro e w1 ⟨rfl, hu1⟩
  have b1 := bE.out.upd hu1 id
  have c0 := b1.cell 0
  have c1 := b1.cell 1
  have c2 := b1.cell 2
  simp only [List.getElem?_cons_zero, List.getElem?_cons_succ] at c0 c1 c2
  have hU := U0.out.trans hu1
  have uV := hU.alloc (.cells #[.int .i64 ek, .int .i64 el, .int .i64 en] 138)
  have hown2 := own_upd HO.out uV (fun _ _ => id)
  have hnv : ¬ Own (.slice A l.length c) w1.heap.size := fun e => by
    have h1 := (HO.out.lt _ e).2
    have h2 := hU.size
    omega
  have hd := Lib.hid (dins (w1.alloc (.cells #[.int .i64 ek, .int .i64 el, .int .i64 en] 138)) base A c l p ⟨ek, el, en⟩ w1.heap.size hown2 (Blk.new w1 138 [.int .i64 ek, .int .i64 el, .int .i64 en]) hnv hp1 hl (Nat.le_trans hbase uV.size))
  have UV := Lib.hid uV
  clear b1 hu1 hU uV hown2 hnv
  go_wp2_with fail
  refine (hd.out).mono ?_
  rintro e w2 ⟨A4, c4, rfl, ho4, hu4, hg4⟩
  have H4 := Lib.hid (And.intro ho4 (And.intro hu4 hg4))
  clear ho4 hu4 hg4
  go_wp2
  go_ret
  exact ⟨A4, c4, rfl, H4.out.1, (UV.out.mono (fun _ _ e => e.elim)).trans H4.out.2.1, H4.out.2.2.older UV.out.size⟩
/-! rising ends -/
def riseD (l : List DEnd) : Prop := l.Pairwise fun a b => cmpD a b < 0
theorem cmpI_lt {a b : Int} : cmpI a b < 0 ↔ a < b := by unfold cmpI; split <;> (try split) <;> omega
theorem cmpI_eq {a b : Int} : cmpI a b = 0 ↔ a = b := by unfold cmpI; split <;> (try split) <;> omega
theorem cmpD_lt (a b : DEnd) : cmpD a b < 0 ↔ a.kind < b.kind ∨ (a.kind = b.kind ∧ (a.label < b.label ∨ (a.label = b.label ∧ a.node < b.node))) := by
  unfold cmpD
  simp only [orI_cons]
  by_cases h1 : a.kind = b.kind
  · rw [if_pos (cmpI_eq.2 h1)]
    by_cases h2 : a.label = b.label
    · rw [if_pos (cmpI_eq.2 h2)]
      by_cases h3 : a.node = b.node
      · rw [if_pos (cmpI_eq.2 h3)]
        simp [orI, h1, h2, h3]
      · rw [if_neg (fun e => h3 (cmpI_eq.1 e)), cmpI_lt]
        simp [h1, h2]
    · rw [if_neg (fun e => h2 (cmpI_eq.1 e)), cmpI_lt]
      simp [h1, h2]
  · rw [if_neg (fun e => h1 (cmpI_eq.1 e)), cmpI_lt]
    simp [h1]
theorem cmpD_eq (a b : DEnd) : cmpD a b = 0 ↔ a = b := by
  obtain ⟨ak, al, an⟩ := a
  obtain ⟨bk, bl, bn⟩ := b
  unfold cmpD
  simp only [orI_cons, DEnd.mk.injEq]
  by_cases h1 : ak = bk
  · rw [if_pos (cmpI_eq.2 h1)]
    by_cases h2 : al = bl
    · rw [if_pos (cmpI_eq.2 h2)]
      by_cases h3 : an = bn
      · rw [if_pos (cmpI_eq.2 h3)]
        simp [orI, h1, h2, h3]
      · rw [if_neg (fun e => h3 (cmpI_eq.1 e)), cmpI_eq]
        simp [h1, h2]
    · rw [if_neg (fun e => h2 (cmpI_eq.1 e)), cmpI_eq]
      simp [h2]
  · rw [if_neg (fun e => h1 (cmpI_eq.1 e)), cmpI_eq]
    simp [h1]
theorem cmpD_trans {a b c : DEnd} (h : cmpD a b < 0) (k : cmpD b c < 0) : cmpD a c < 0 := by
  rw [cmpD_lt] at *; omega
/-- where an end stands, or would -/
def posD (l : List DEnd) (e : DEnd) : Nat := l.countP fun x => decide (cmpD x e < 0)
theorem posD_parts {l : List DEnd} (h : riseD l) (e : DEnd) : Parts l e (posD l e) := by
  refine ⟨List.countP_le_length, ?_⟩
  induction l with
  | nil => intro k hk; simp at hk
  | cons a l ih =>
    have h' := List.pairwise_cons.1 h
    intro k hk
    unfold posD
    rw [List.countP_cons]
    by_cases ha : cmpD a e < 0
    · rw [if_pos (by simpa using ha)]
      cases k with
      | zero => simp only [List.getElem_cons_zero, ha, true_iff]; omega
      | succ k =>
        rw [List.getElem_cons_succ, ih h'.2 k (by simpa using hk)]
        unfold posD
        omega
    · rw [if_neg (by simpa using ha)]
      have h0 : l.countP (fun x => decide (cmpD x e < 0)) = 0 := by
        rw [List.countP_eq_zero]
        intro x hx
        simp only [decide_eq_true_eq]
        exact fun hxe => ha (cmpD_trans (h'.1 x hx) hxe)
      rw [h0]
      cases k with
      | zero => simp only [List.getElem_cons_zero, ha, false_iff]; omega
      | succ k =>
        rw [List.getElem_cons_succ]
        constructor
        · intro hx
          exact absurd (cmpD_trans (h'.1 _ (List.getElem_mem _)) hx) ha
        · intro hx; omega
theorem isAt_mem {l : List DEnd} (h : riseD l) (e : DEnd) : isAt l e (posD l e) = decide (e ∈ l) := by
  have hp := posD_parts h e
  rw [Bool.eq_iff_iff, decide_eq_true_eq]
  unfold isAt
  constructor
  · intro hi
    split at hi
    · rename_i x hx
      have := (cmpD_eq x e).1 (by simpa using hi)
      subst this
      exact List.mem_of_getElem? hx
    · cases hi
  · intro hm
    obtain ⟨k, hk, rfl⟩ := List.mem_iff_getElem.1 hm
    have h1 : ¬ k < posD l l[k] := fun hlt => by
      have := (hp.2 k hk).2 hlt
      rw [(cmpD_eq _ _).2 rfl] at this
      omega
    have h2 : ¬ posD l l[k] < k := fun hlt => by
      have h3 := List.pairwise_iff_getElem.1 h (posD l l[k]) k (by omega) hk hlt
      have := (hp.2 _ (by omega)).1 h3
      omega
    have h3 : posD l l[k] = k := by omega
    rw [h3, List.getElem?_eq_getElem hk]
    simp [(cmpD_eq _ _).2 rfl]
end Go.Proofs.Ytmnhgdedkniafaa

/- Digraphs: how one lies in memory; what reads it. -/
namespace Go.Proofs.Ytmnhgdedkniafaa
set_option linter.unusedVariables false
open Go.RowKit
/-- an arc -/
structure HArc where
  f : Int
  t : Int
  kind : Int
  label : Int
deriving DecidableEq
def HArc.cells (a : HArc) : List Value := [.int .i64 a.f, .int .i64 a.t, .int .i64 a.kind, .int .i64 a.label]
/-- rows of ends, each with a row of its own -/
def RowsD (w : World) (base : Nat) (hs : List Value) (ls : List (List DEnd)) : Prop :=
  hs.length = ls.length ∧ ∀ i (hi : i < ls.length), ∃ A c, hs[i]? = some (.slice A ls[i].length c) ∧ w.ownsRow base 138 3 (.slice A ls[i].length c) ls[i].length (ls[i].map DEnd.cells).flatten
/-- no two have a block -/
def ApartD (hs : List Value) : Prop := ∀ (i j : Nat) (v u : Value) (k : Nat), hs[i]? = some v → hs[j]? = some u → i ≠ j → Own v k → ¬ Own u k
/-- a digraph lies there: its blocks are of G -/
structure GIs (w : World) (G : Nat → Prop) (g : Nat) (out inn : List (List DEnd)) (n : Int) (ob ib : Nat) (oh ih : List Value) (base : Nat) : Prop where
  blk : Blk w g 135 [.slice (some ⟨ob, 0, none⟩) out.length out.length, .slice (some ⟨ib, 0, none⟩) out.length out.length, .int .i64 n]
  ob_ : Blk w ob 141 oh
  ib_ : Blk w ib 141 ih
  len : inn.length = out.length
  ro : RowsD w base oh out
  ri : RowsD w base ih inn
  dis : ApartD (oh ++ ih)
  low : g < base ∧ ob < base ∧ ib < base
  ne : g ≠ ob ∧ g ≠ ib ∧ ob ≠ ib
  inG : G g ∧ G ob ∧ G ib ∧ ∀ v ∈ oh ++ ih, ∀ k, Own v k → G k
  old : ∀ k, G k → k < w.heap.size
  few : out.length ≤ 4096 ∧ (∀ l ∈ out, l.length ≤ 100000) ∧ (∀ l ∈ inn, l.length ≤ 100000)
theorem RowsD.upd {S : Nat → Prop} {w w' : World} {base : Nat} {hs : List Value} {ls : List (List DEnd)} (h : RowsD w base hs ls) (k : Upd S w w') (hn : ∀ v ∈ hs, ∀ i, Own v i → ¬ S i) : RowsD w' base hs ls :=
  ⟨h.1, fun i hi => by
    obtain ⟨A, c, h1, h2⟩ := h.2 i hi
    exact ⟨A, c, h1, own_upd h2 k (fun j e => hn _ (List.mem_of_getElem? h1) j e)⟩⟩
theorem GIs.upd {S : Nat → Prop} {w w' : World} {G : Nat → Prop} {g : Nat} {out inn : List (List DEnd)} {n : Int} {ob ib : Nat} {oh ih : List Value} {base : Nat} (h : GIs w G g out inn n ob ib oh ih base) (k : Upd S w w') (hn : ∀ i, G i → ¬ S i) : GIs w' G g out inn n ob ib oh ih base :=
  { h with
    blk := h.blk.upd k (hn _ h.inG.1)
    ob_ := h.ob_.upd k (hn _ h.inG.2.1)
    ib_ := h.ib_.upd k (hn _ h.inG.2.2.1)
    ro := h.ro.upd k fun v hv i e => hn _ (h.inG.2.2.2 v (List.mem_append_left _ hv) i e)
    old := fun i hi => Nat.lt_of_lt_of_le (h.old i hi) k.size
    ri := h.ri.upd k fun v hv i e => hn _ (h.inG.2.2.2 v (List.mem_append_right _ hv) i e) }
section
variable {w : World} {G : Nat → Prop} {g : Nat} {out inn : List (List DEnd)} {n : Int} {ob ib : Nat} {oh ih : List Value} {base : Nat}
theorem dnodes (h : GIs w G g out inn n ob ib oh ih base) : Calls Try.prog 47 #[.pointer (some ⟨g, 0, none⟩)] w fun e w' => e = .returned (.int .i64 (out.length : Int)) ∧ w = w' := by
  have c0 := h.blk.cell 0
  simp only [List.getElem?_cons_zero] at c0
  go_enter Try.func47, Try.ntmps47
  go_wp2
  go_ret
  exact ⟨rfl, rfl⟩
def nodeB (N : Nat) (i : Int) : Bool := decide (0 ≤ i) && decide (i < (N : Int))
theorem dnode (h : GIs w G g out inn n ob ib oh ih base) (i : Int) : Calls Try.prog 107 #[.pointer (some ⟨g, 0, none⟩), .int .i64 i] w fun e w' => e = .returned (.bool (nodeB out.length i)) ∧ w = w' := by
  have HN := Lib.hid (dnodes h)
  by_cases h0 : 0 ≤ i
  · have HV := Lib.hid (show nodeB out.length i = decide (i < (out.length : Int)) by unfold nodeB; rw [decide_eq_true h0]; rfl)
    go_enter Try.func107, Try.ntmps107
    go_wp2_with fail
    refine (HN.out).mono ?_
    rintro e w1 ⟨rfl, rfl⟩
    go_wp2
    go_ret
    exact ⟨by rw [HV.out]; rfl, rfl⟩
  · have HV := Lib.hid (show nodeB out.length i = false by unfold nodeB; rw [decide_eq_false h0]; rfl)
    have hb : decide (0 ≤ i) = false := decide_eq_false h0
    clear h0
    go_enter Try.func107, Try.ntmps107
    go_wp2
    go_ret
    exact ⟨by rw [HV.out]; rfl, rfl⟩
def rightA (N : Nat) (a : HArc) : Bool := nodeB N a.f && (nodeB N a.t && (decide (1 ≤ a.kind) && (decide (a.kind ≤ 3) && (decide (0 ≤ a.label) && decide (a.label ≤ 1048575)))))
set_option maxRecDepth 100000 in
theorem dright (h : GIs w G g out inn n ob ib oh ih base) (a : HArc) : Calls Try.prog 100 #[.pointer (some ⟨g, 0, none⟩), .agg a.cells.toArray] w fun e w' => e = .returned (.bool (rightA out.length a)) ∧ Upd No w w' := by
  obtain ⟨af, at', ak, al⟩ := a
  unfold HArc.cells
  have u0 := (Upd.refl No w).alloc (.cells #[.int .i64 af, .int .i64 at', .int .i64 ak, .int .i64 al] 63)
  have hn := fun i => dnode (h.upd u0 (fun _ _ => id)) i
  obtain ⟨b1, hb1⟩ : ∃ b, nodeB out.length af = b := ⟨_, rfl⟩
  obtain ⟨b2, hb2⟩ : ∃ b, nodeB out.length at' = b := ⟨_, rfl⟩
  have hn1 := hn af
  have hn2 := hn at'
  rw [hb1] at hn1
  rw [hb2] at hn2
  have HN1 := Lib.hid hn1
  have HN2 := Lib.hid hn2
  have hv : rightA out.length ⟨af, at', ak, al⟩ = (b1 && (b2 && (decide (1 ≤ ak) && (decide (ak ≤ 3) && (decide (0 ≤ al) && decide (al ≤ 1048575)))))) := by unfold rightA; rw [hb1, hb2]
  have HV := Lib.hid hv
  clear hn hn1 hn2 hb1 hb2 hv
  cases b1
  · go_enter Try.func100, Try.ntmps100
    go_wp2_with fail
    refine (HN1.out).mono ?_
    rintro e w1 ⟨rfl, rfl⟩
    go_wp2
    go_ret
    exact ⟨by rw [HV.out]; rfl, u0⟩
  · cases b2
    · go_enter Try.func100, Try.ntmps100
      go_wp2_with fail
      refine (HN1.out).mono ?_
      rintro e w1 ⟨rfl, rfl⟩
      go_wp2_with fail
      refine (HN2.out).mono ?_
      rintro e w1 ⟨rfl, rfl⟩
      go_wp2
      go_ret
      exact ⟨by rw [HV.out]; rfl, u0⟩
    · by_cases k1 : 1 ≤ ak
      · by_cases k2 : ak ≤ 3
        · by_cases k3 : 0 ≤ al
          · have HW := Lib.hid (show rightA out.length ⟨af, at', ak, al⟩ = decide (al ≤ 1048575) by rw [HV.out, decide_eq_true k1, decide_eq_true k2, decide_eq_true k3]; rfl)
            go_enter Try.func100, Try.ntmps100
            go_wp2_with fail
            refine (HN1.out).mono ?_
            rintro e w1 ⟨rfl, rfl⟩
            go_wp2_with fail
            refine (HN2.out).mono ?_
            rintro e w1 ⟨rfl, rfl⟩
            go_wp2
            go_ret
            exact ⟨by rw [HW.out]; rfl, u0⟩
          · have HW := Lib.hid (show rightA out.length ⟨af, at', ak, al⟩ = false by rw [HV.out, decide_eq_false k3]; simp)
            have kb : decide (0 ≤ al) = false := decide_eq_false k3
            clear k3
            go_enter Try.func100, Try.ntmps100
            go_wp2_with fail
            refine (HN1.out).mono ?_
            rintro e w1 ⟨rfl, rfl⟩
            go_wp2_with fail
            refine (HN2.out).mono ?_
            rintro e w1 ⟨rfl, rfl⟩
            go_wp2
            go_ret
            exact ⟨by rw [HW.out]; rfl, u0⟩
        · have HW := Lib.hid (show rightA out.length ⟨af, at', ak, al⟩ = false by rw [HV.out, decide_eq_false k2]; simp)
          have kb : decide (ak ≤ 3) = false := decide_eq_false k2
          clear k2
          go_enter Try.func100, Try.ntmps100
          go_wp2_with fail
          refine (HN1.out).mono ?_
          rintro e w1 ⟨rfl, rfl⟩
          go_wp2_with fail
          refine (HN2.out).mono ?_
          rintro e w1 ⟨rfl, rfl⟩
          go_wp2
          go_ret
          exact ⟨by rw [HW.out]; rfl, u0⟩
      · have HW := Lib.hid (show rightA out.length ⟨af, at', ak, al⟩ = false by rw [HV.out, decide_eq_false k1]; simp)
        have kb : decide (1 ≤ ak) = false := decide_eq_false k1
        clear k1
        go_enter Try.func100, Try.ntmps100
        go_wp2_with fail
        refine (HN1.out).mono ?_
        rintro e w1 ⟨rfl, rfl⟩
        go_wp2_with fail
        refine (HN2.out).mono ?_
        rintro e w1 ⟨rfl, rfl⟩
        go_wp2
        go_ret
        exact ⟨by rw [HW.out]; rfl, u0⟩
end
def outE (a : HArc) : DEnd := ⟨a.kind, a.label, a.t⟩
def inE (a : HArc) : DEnd := ⟨a.kind, a.label, a.f⟩
theorem Upd.blk {S : Nat → Prop} {w w' : World} {g : Nat} {t : TypeId} {cs : List Value} (k : Upd S w w') (h : Blk w g t cs) (hn : ¬ S g) : Blk w' g t cs := h.upd k hn
/-- two new boxes -/
def Two2 (a b : Nat) : Nat → Prop := fun i => i = a ∨ i = b
set_option maxRecDepth 100000 in
set_option maxHeartbeats 1000000 in
theorem dends (w : World) (a : HArc) : Calls Try.prog 101 #[.agg a.cells.toArray] w fun e w' => e = .returned (.tuple #[.agg (outE a).cells.toArray, .agg (inE a).cells.toArray]) ∧ Upd No w w' := by
  obtain ⟨af, at', ak, al⟩ := a
  unfold HArc.cells
  obtain ⟨wb, hwb⟩ : ∃ wb, ((w.alloc (.cells #[.int .i64 af, .int .i64 at', .int .i64 ak, .int .i64 al] 63)).alloc (.cells #[.int .i64 0, .int .i64 0, .int .i64 0] 138)).alloc (.cells #[.int .i64 0, .int .i64 0, .int .i64 0] 138) = wb := ⟨_, rfl⟩
  have u0 : Upd No w wb := by rw [← hwb]; exact (((Upd.refl No w).alloc _).alloc _).alloc _
  have bA : Blk wb w.heap.size 63 [.int .i64 af, .int .i64 at', .int .i64 ak, .int .i64 al] := by rw [← hwb]; exact ((Blk.new w 63 [.int .i64 af, .int .i64 at', .int .i64 ak, .int .i64 al]).alloc _).alloc _
  have h1 : Blk wb (w.heap.size + 1) 138 [.int .i64 0, .int .i64 0, .int .i64 0] := by
    rw [← hwb]
    have := (Blk.new (w.alloc (.cells #[.int .i64 af, .int .i64 at', .int .i64 ak, .int .i64 al] 63)) 138 [.int .i64 0, .int .i64 0, .int .i64 0]).alloc (.cells #[.int .i64 0, .int .i64 0, .int .i64 0] 138)
    simpa using this
  have h2 : Blk wb (w.heap.size + 1 + 1) 138 [.int .i64 0, .int .i64 0, .int .i64 0] := by
    rw [← hwb]
    have := Blk.new ((w.alloc (.cells #[.int .i64 af, .int .i64 at', .int .i64 ak, .int .i64 al] 63)).alloc (.cells #[.int .i64 0, .int .i64 0, .int .i64 0] 138)) 138 [.int .i64 0, .int .i64 0, .int .i64 0]
    simpa using this
  have hn : ¬ Two2 (w.heap.size + 1) (w.heap.size + 1 + 1) w.heap.size := by unfold Two2; omega
  have a0 : ∀ W, Upd (Two2 (w.heap.size + 1) (w.heap.size + 1 + 1)) wb W → W.cell? ⟨w.heap.size, 0, none⟩ = some (.int .i64 af) := fun W hW => (bA.upd hW hn).cell 0
  have a1 : ∀ W, Upd (Two2 (w.heap.size + 1) (w.heap.size + 1 + 1)) wb W → W.cell? ⟨w.heap.size, 1, none⟩ = some (.int .i64 at') := fun W hW => (bA.upd hW hn).cell 1
  have a2 : ∀ W, Upd (Two2 (w.heap.size + 1) (w.heap.size + 1 + 1)) wb W → W.cell? ⟨w.heap.size, 2, none⟩ = some (.int .i64 ak) := fun W hW => (bA.upd hW hn).cell 2
  have a3 : ∀ W, Upd (Two2 (w.heap.size + 1) (w.heap.size + 1 + 1)) wb W → W.cell? ⟨w.heap.size, 3, none⟩ = some (.int .i64 al) := fun W hW => (bA.upd hW hn).cell 3
  have HWB := Lib.hid hwb
  have U0 := Lib.hid u0
  clear hwb u0 bA hn
  have H1 := Lib.hid h1
  have H2 := Lib.hid h2
  clear h1 h2
  go_enter Try.func101, Try.ntmps101
  go_wp2
  rw [HWB.out]
  refine wp_region_noPanic ?_
  refine wp_region_held_drew (S := (fun w' => Upd (Two2 (w.heap.size + 1) (w.heap.size + 1 + 1)) wb w')) (by kernel_rfl) ?_ (fun hHeld => ?_)
  · (first | exact (Upd.refl _ _).drew | exact hHeld.trans hq)
  refine wpT 0 ⟨some 4, .fieldAddr 63 (.tmp 1) 2, 0, "digraph.go:58", #[], none⟩ ?_ (.inl ⟨by rfl, ?_⟩) ?_
  rotate_left
  · (intro W hSw; (try dsimp only at hSw); go_simp; try (with_reducible rfl))
  try simp only [Act.put]
  try simp only [List.setIfInBounds_toArray]
  try simp only [List.set_cons_succ]
  try simp only [List.set_cons_zero]
  refine wpT 1 ⟨some 5, .load 3 (.tmp 4), 3, "digraph.go:58", #[⟨0, .data⟩], none⟩ ?_ (.inl ⟨by rfl, ?_⟩) ?_
  rotate_left
  · (intro W hSw; (try dsimp only at hSw); go_simp; try (with_reducible rfl))
  try simp only [Act.put]
  try simp only [List.setIfInBounds_toArray]
  try simp only [List.set_cons_succ]
  try simp only [List.set_cons_zero]
  refine wpT 2 ⟨some 6, .fieldAddr 63 (.tmp 1) 3, 0, "digraph.go:58", #[], none⟩ ?_ (.inl ⟨by rfl, ?_⟩) ?_
  rotate_left
  · (intro W hSw; (try dsimp only at hSw); go_simp; try (with_reducible rfl))
  try simp only [Act.put]
  try simp only [List.setIfInBounds_toArray]
  try simp only [List.set_cons_succ]
  try simp only [List.set_cons_zero]
  refine wpT 3 ⟨some 7, .load 3 (.tmp 6), 3, "digraph.go:58", #[⟨2, .data⟩], none⟩ ?_ (.inl ⟨by rfl, ?_⟩) ?_
  rotate_left
  · (intro W hSw; (try dsimp only at hSw); go_simp; try (with_reducible rfl))
  try simp only [Act.put]
  try simp only [List.setIfInBounds_toArray]
  try simp only [List.set_cons_succ]
  try simp only [List.set_cons_zero]
  refine wpT 4 ⟨some 8, .fieldAddr 63 (.tmp 1) 1, 0, "digraph.go:58", #[], none⟩ ?_ (.inl ⟨by rfl, ?_⟩) ?_
  rotate_left
  · (intro W hSw; (try dsimp only at hSw); go_simp; try (with_reducible rfl))
  try simp only [Act.put]
  try simp only [List.setIfInBounds_toArray]
  try simp only [List.set_cons_succ]
  try simp only [List.set_cons_zero]
  refine wpT 5 ⟨some 9, .load 3 (.tmp 8), 3, "digraph.go:58", #[⟨4, .data⟩], none⟩ ?_ (.inl ⟨by rfl, ?_⟩) ?_
  rotate_left
  · (intro W hSw; (try dsimp only at hSw); go_simp; try (with_reducible rfl))
  try simp only [Act.put]
  try simp only [List.setIfInBounds_toArray]
  try simp only [List.set_cons_succ]
  try simp only [List.set_cons_zero]
  refine wpT 6 ⟨some 10, .build 138 #[(0, .tmp 5), (1, .tmp 7), (2, .tmp 9)], 138, "digraph.go:58", #[⟨1, .data⟩, ⟨3, .data⟩, ⟨5, .data⟩], none⟩ ?_ (.inl ⟨by rfl, ?_⟩) ?_
  rotate_left
  · (intro W hSw; (try dsimp only at hSw); go_simp; try (with_reducible rfl))
  try simp only [Act.put]
  try simp only [List.setIfInBounds_toArray]
  try simp only [List.set_cons_succ]
  try simp only [List.set_cons_zero]
  refine wpT 7 ⟨some 11, .fieldAddr 63 (.tmp 1) 2, 0, "digraph.go:58", #[{ on := 14, ground := Go.Ground.gcOnly Go.Departure.lateStores }], none⟩ ?_ (.inl ⟨by rfl, ?_⟩) ?_
  rotate_left
  · (intro W hSw; (try dsimp only at hSw); go_simp; try (with_reducible rfl))
  try simp only [Act.put]
  try simp only [List.setIfInBounds_toArray]
  try simp only [List.set_cons_succ]
  try simp only [List.set_cons_zero]
  refine wpT 8 ⟨some 12, .load 3 (.tmp 11), 3, "digraph.go:58", #[⟨7, .data⟩, { on := 14, ground := Go.Ground.gcOnly Go.Departure.lateStores }], none⟩ ?_ (.inl ⟨by rfl, ?_⟩) ?_
  rotate_left
  · (intro W hSw; (try dsimp only at hSw); go_simp; try (with_reducible rfl))
  try simp only [Act.put]
  try simp only [List.setIfInBounds_toArray]
  try simp only [List.set_cons_succ]
  try simp only [List.set_cons_zero]
  refine wpT 9 ⟨some 13, .fieldAddr 63 (.tmp 1) 3, 0, "digraph.go:58", #[{ on := 14, ground := Go.Ground.gcOnly Go.Departure.lateStores }], none⟩ ?_ (.inl ⟨by rfl, ?_⟩) ?_
  rotate_left
  · (intro W hSw; (try dsimp only at hSw); go_simp; try (with_reducible rfl))
  try simp only [Act.put]
  try simp only [List.setIfInBounds_toArray]
  try simp only [List.set_cons_succ]
  try simp only [List.set_cons_zero]
  refine wpT 10 ⟨some 14, .load 3 (.tmp 13), 3, "digraph.go:58", #[⟨9, .data⟩, { on := 14, ground := Go.Ground.gcOnly Go.Departure.lateStores }], none⟩ ?_ (.inl ⟨by rfl, ?_⟩) ?_
  rotate_left
  · (intro W hSw; (try dsimp only at hSw); go_simp; try (with_reducible rfl))
  try simp only [Act.put]
  try simp only [List.setIfInBounds_toArray]
  try simp only [List.set_cons_succ]
  try simp only [List.set_cons_zero]
  refine wpT 11 ⟨some 15, .fieldAddr 63 (.tmp 1) 0, 0, "digraph.go:58", #[{ on := 14, ground := Go.Ground.gcOnly Go.Departure.lateStores }], none⟩ ?_ (.inl ⟨by rfl, ?_⟩) ?_
  rotate_left
  · (intro W hSw; (try dsimp only at hSw); go_simp; try (with_reducible rfl))
  try simp only [Act.put]
  try simp only [List.setIfInBounds_toArray]
  try simp only [List.set_cons_succ]
  try simp only [List.set_cons_zero]
  refine wpT 12 ⟨some 16, .load 3 (.tmp 15), 3, "digraph.go:58", #[⟨11, .data⟩, { on := 14, ground := Go.Ground.gcOnly Go.Departure.lateStores }], none⟩ ?_ (.inl ⟨by rfl, ?_⟩) ?_
  rotate_left
  · (intro W hSw; (try dsimp only at hSw); go_simp; try (with_reducible rfl))
  try simp only [Act.put]
  try simp only [List.setIfInBounds_toArray]
  try simp only [List.set_cons_succ]
  try simp only [List.set_cons_zero]
  refine wpT 13 ⟨some 17, .build 138 #[(0, .tmp 12), (1, .tmp 14), (2, .tmp 16)], 138, "digraph.go:58", #[⟨8, .data⟩, ⟨10, .data⟩, ⟨12, .data⟩, { on := 14, ground := Go.Ground.gcOnly Go.Departure.lateStores }], none⟩ ?_ (.inl ⟨by rfl, ?_⟩) ?_
  rotate_left
  · (intro W hSw; (try dsimp only at hSw); go_simp; try (with_reducible rfl))
  try simp only [Act.put]
  try simp only [List.setIfInBounds_toArray]
  try simp only [List.set_cons_succ]
  try simp only [List.set_cons_zero]
  refine wpAnyH_ready (rs := [14]) (by kernel_rfl) (by simp) ?_
  refine AllReadyH.cons (o := ⟨none, .store 138 (.tmp 2) (.tmp 10), 0, "digraph.go:58", #[⟨6, .data⟩, ⟨0, .phase⟩, ⟨1, .phase⟩, ⟨2, .phase⟩, ⟨3, .phase⟩, ⟨4, .phase⟩, ⟨5, .phase⟩, ⟨6, .phase⟩, { on := 7, ground := Go.Ground.textOnly Go.Departure.lateStores }, { on := 8, ground := Go.Ground.textOnly Go.Departure.lateStores }, { on := 9, ground := Go.Ground.textOnly Go.Departure.lateStores }, { on := 10, ground := Go.Ground.textOnly Go.Departure.lateStores }, { on := 11, ground := Go.Ground.textOnly Go.Departure.lateStores }, { on := 12, ground := Go.Ground.textOnly Go.Departure.lateStores }, { on := 13, ground := Go.Ground.textOnly Go.Departure.lateStores }], none⟩) rfl (fun K hK => ?_) AllReadyH.nil
  (first
    | (refine step_storeC rfl rfl (g := w.heap.size + 1) (cells := [.int .i64 ak, .int .i64 al, .int .i64 at']) rfl rfl (show Blk _ _ 138 [.int .i64 0, .int .i64 0, .int .i64 0] from H1.out) (by kernel_rfl) rfl rfl ?_; intro w5 hb5 hu5; have H1 := Lib.hid hb5; have H2 := Lib.hid (hu5.blk (g := w.heap.size + 1 + 1) (t := 138) (cs := [.int .i64 0, .int .i64 0, .int .i64 0]) (by exact H2.out) (by unfold One; omega)); have hq := hu5.mono (T := Two2 (w.heap.size + 1) (w.heap.size + 1 + 1)) (fun _ _ e => Or.inl e); clear hb5 hu5)
    | (refine step_storeC rfl rfl (g := w.heap.size + 1 + 1) (cells := [.int .i64 ak, .int .i64 al, .int .i64 af]) rfl rfl (show Blk _ _ 138 [.int .i64 0, .int .i64 0, .int .i64 0] from H2.out) (by kernel_rfl) rfl rfl ?_; intro w5 hb5 hu5; have H2 := Lib.hid hb5; have H1 := Lib.hid (hu5.blk (g := w.heap.size + 1) (t := 138) (cs := [.int .i64 ak, .int .i64 al, .int .i64 at']) (by exact H1.out) (by unfold One; omega)); have hq := hu5.mono (T := Two2 (w.heap.size + 1) (w.heap.size + 1 + 1)) (fun _ _ e => Or.inr e); clear hb5 hu5))
  refine hK.out _ _ ?_ (fun hHeld => ?_)
  · (first | exact (Upd.refl _ _).drew | exact hHeld.trans hq)
  clear hK K
  try simp only [Act.put]
  try simp only [List.setIfInBounds_toArray]
  try simp only [List.set_cons_succ]
  try simp only [List.set_cons_zero]
  refine wpAnyH_ready (rs := [15]) (by kernel_rfl) (by simp) ?_
  refine AllReadyH.cons (o := ⟨none, .store 138 (.tmp 3) (.tmp 17), 0, "digraph.go:58", #[⟨13, .data⟩, ⟨14, .chain⟩, ⟨0, .phase⟩, ⟨1, .phase⟩, ⟨2, .phase⟩, ⟨3, .phase⟩, ⟨4, .phase⟩, ⟨5, .phase⟩, ⟨6, .phase⟩, ⟨7, .phase⟩, ⟨8, .phase⟩, ⟨9, .phase⟩, ⟨10, .phase⟩, ⟨11, .phase⟩, ⟨12, .phase⟩, ⟨13, .phase⟩, ⟨14, .phase⟩], none⟩) rfl (fun K hK => ?_) AllReadyH.nil
  (first
    | (refine step_storeC rfl rfl (g := w.heap.size + 1) (cells := [.int .i64 ak, .int .i64 al, .int .i64 at']) rfl rfl (show Blk _ _ 138 [.int .i64 0, .int .i64 0, .int .i64 0] from H1.out) (by kernel_rfl) rfl rfl ?_; intro w5 hb5 hu5; have H1 := Lib.hid hb5; have H2 := Lib.hid (hu5.blk (g := w.heap.size + 1 + 1) (t := 138) (cs := [.int .i64 0, .int .i64 0, .int .i64 0]) (by exact H2.out) (by unfold One; omega)); have hq := hu5.mono (T := Two2 (w.heap.size + 1) (w.heap.size + 1 + 1)) (fun _ _ e => Or.inl e); clear hb5 hu5)
    | (refine step_storeC rfl rfl (g := w.heap.size + 1 + 1) (cells := [.int .i64 ak, .int .i64 al, .int .i64 af]) rfl rfl (show Blk _ _ 138 [.int .i64 0, .int .i64 0, .int .i64 0] from H2.out) (by kernel_rfl) rfl rfl ?_; intro w5 hb5 hu5; have H2 := Lib.hid hb5; have H1 := Lib.hid (hu5.blk (g := w.heap.size + 1) (t := 138) (cs := [.int .i64 ak, .int .i64 al, .int .i64 at']) (by exact H1.out) (by unfold One; omega)); have hq := hu5.mono (T := Two2 (w.heap.size + 1) (w.heap.size + 1 + 1)) (fun _ _ e => Or.inr e); clear hb5 hu5))
  refine hK.out _ _ ?_ (fun hHeld => ?_)
  · (first | exact (Upd.refl _ _).drew | exact hHeld.trans hq)
  clear hK K
  try simp only [Act.put]
  try simp only [List.setIfInBounds_toArray]
  try simp only [List.set_cons_succ]
  try simp only [List.set_cons_zero]
  refine wpAnyH_done (by kernel_rfl) (NoPanic.normal ?_) _
  all_goals
    have r0 := H1.out.cell 0
    have r1 := H1.out.cell 1
    have r2 := H1.out.cell 2
    have s0 := H2.out.cell 0
    have s1 := H2.out.cell 1
    have s2 := H2.out.cell 2
    simp only [List.getElem?_cons_zero, List.getElem?_cons_succ] at r0 r1 r2 s0 s1 s2
    have HU := Lib.hid (U0.out.then_ hHeld (fun i e => by unfold Two2 at e; exact .inr (by omega)))
    clear hHeld a0 a1 a2 a3
    go_wp2
    refine bodyPost_ret (v := .tuple #[.agg #[.int .i64 ak, .int .i64 al, .int .i64 at'], .agg #[.int .i64 ak, .int .i64 al, .int .i64 af]]) (by simp [results, Try.results101, go_sem, r0, r1, r2, s0, s1, s2]) rfl ?_
    exact ⟨rfl, HU.out⟩
end Go.Proofs.Ytmnhgdedkniafaa
