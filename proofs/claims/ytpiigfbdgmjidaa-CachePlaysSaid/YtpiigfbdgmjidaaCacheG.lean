/- Caches: an entry is put. -/
import Derived.Test.YtpiigfbdgmjidaaProg
import Derived.Test.YtpiigfbdgmjidaaCacheF
namespace Go.Proofs.Ytpiigfbdgmjidaa
set_option linter.unusedVariables false
open Go.RowKit

def putE (N : Int) (es : List Ent) (x : Ent) : List Ent :=
  if N = 0 then [] else (if N ≤ (es.filter fun y => y.key ≠ x.key).length then (es.filter fun y => y.key ≠ x.key).drop 1 else es.filter fun y => y.key ≠ x.key) ++ [x]
def PutPost (w : World) (T V : Nat → Prop) (g bm r : Nat) (room : Int) (ns : List Node) (x : Ent) (e : Ending) (w' : World) : Prop :=
  e = .returned (.tuple #[]) ∧ ∃ (T' V' : Nat → Prop) (ns' : List Node) (nw' od' : Nat → Nat) (m' : List ((Int × Int) × Value)), CacheW w' T' V' g bm r room ns' nw' od' m' ∧
    ns'.map (·.e) = putE room (ns.map (·.e)) x ∧ (∀ i, T' i → T i ∨ w.heap.size ≤ i) ∧ (∀ i, V' i → V i ∨ w.heap.size ≤ i) ∧ Upd (fun i => T i ∨ i = bm) w w'

theorem filter_all {es : List Ent} {k : Int × Int} (h : k ∉ es.map Ent.key) : (es.filter fun y => y.key ≠ k) = es := by
  rw [List.filter_eq_self]
  intro y hy
  simp only [ne_eq, decide_not, Bool.not_eq_eq_eq_not, Bool.not_true, decide_eq_false_iff_not]
  rintro rfl
  exact h (List.mem_map_of_mem hy)
theorem filter_one {as_ bs : List Ent} {x : Ent} (h : ((as_ ++ x :: bs).map Ent.key).Nodup) : ((as_ ++ x :: bs).filter fun y => y.key ≠ x.key) = as_ ++ bs := by
  rw [List.map_append, List.map_cons, List.nodup_append] at h
  obtain ⟨_, h2, h3⟩ := h
  rw [List.nodup_cons] at h2
  rw [List.filter_append, List.filter_cons_of_neg (by simp), filter_all, filter_all h2.1]
  intro hm
  exact h3 _ hm _ (List.mem_cons_self ..) rfl
theorem key_map (ns : List Node) : (ns.map fun n => n.e.key) = (ns.map (·.e)).map Ent.key := by rw [List.map_map]; rfl
theorem zeroP (w : World) : (zeroValue 85).run Try.prog w = .ok (.pointer none) w := by kernel_rfl
theorem CacheW.look {w : World} {T V : Nat → Prop} {g bm r : Nat} {room : Int} {ns : List Node} {nw od : Nat → Nat} {m : List ((Int × Int) × Value)} (h : CacheW w T V g bm r room ns nw od m) {n : Node} (hn : n ∈ ns) :
    mget m n.e.key = some (pt n.b) := by
  refine mget_perm h.perm (by rw [keys_fst]; exact h.keys) (List.mem_map.2 ⟨n, hn, rfl⟩)
theorem CacheW.look_none {w : World} {T V : Nat → Prop} {g bm r : Nat} {room : Int} {ns : List Node} {nw od : Nat → Nat} {m : List ((Int × Int) × Value)} (h : CacheW w T V g bm r room ns nw od m) {k : Int × Int} (hn : k ∉ ns.map fun n => n.e.key) :
    mget m k = none := mget_none h.perm (by rw [keys_fst]; exact hn)
theorem Ring.more {w : World} {T V T' V' : Nat → Prop} {r : Nat} {ns : List Node} {nw od : Nat → Nat} (h : Ring w T V r ns nw od) (h1 : ∀ i, T i → T' i) (h2 : ∀ i, V i → V' i) (h3 : ∀ i, T' i → ¬ V' i) : Ring w T' V' r ns nw od :=
  ⟨h.chain, h.nd, h.root, fun n hn => ⟨(h.at_ n hn).1, Recs.weak (h.at_ n hn).2.1 (fun i _ hi => h2 i hi), (h.at_ n hn).2.2⟩, fun i hi => h1 i (h.inT i hi), h3⟩

theorem cput_nil (w : World) (a b d : Value) (xs : Array Value) : Calls Try.prog 24 #[.pointer none, a, b, .agg xs, d] w fun e w' => e = .returned (.tuple #[]) ∧ Upd No w w' := by
  go_enter Try.func24, Try.ntmps24
  go_wp2
  refine bodyPost_ret (by simp [results, Try.results24, go_sem]) rfl ⟨rfl, (Upd.refl _ _).alloc _⟩

theorem CacheW.dr {w : World} {T V : Nat → Prop} {g bm r : Nat} {room : Int} {ns : List Node} {nw od : Nat → Nat} {m : List ((Int × Int) × Value)} (h : CacheW w T V g bm r room ns nw od m) (q : Nat) : CacheW (w.drewN q) T V g bm r room ns nw od m :=
  h.upd ((Upd.refl No _).drewN _) id id (fun _ _ => id) (fun _ _ => id)
theorem MapIs.dr {w : World} {b : Nat} {α : Type} {enc : α → Value} {m : List (α × Value)} (h : MapIs w b enc m) (q : Nat) : MapIs (w.drewN q) b enc m := h.upd ((Upd.refl No _).drewN _) id

set_option maxRecDepth 100000 in
set_option maxHeartbeats 1000000 in
theorem cput (w : World) (T V : Nat → Prop) (g bm r : Nat) (room : Int) (ns : List Node) (nw od : Nat → Nat) (m : List ((Int × Int) × Value)) (h : CacheW w T V g bm r room ns nw od m)
    (F : Nat → Prop) (A : Option Addr) (c : Nat) (x : Ent) (hx : Walk F w A x.w.walk) (hs : short x.w.walk.length) (hr : 0 ≤ room) (hl : (ns.length : Int) ≤ room) (hF : ∀ i, F i → ¬ T i ∧ i ≠ bm) :
    Calls Try.prog 24 #[pt g, .int .i64 x.l, .int .i64 x.p, .agg (x.w.cells A c).toArray, .bool x.has] w (PutPost w T V g bm r room ns x) := by
  have hx' : Walk (fun i => i < w.heap.size ∧ ¬ T i ∧ i ≠ bm) w A x.w.walk := Recs.weak (Recs.lt' hx) (fun i _ hi => ⟨hi.1, hF i hi.2⟩)
  obtain ⟨xl, xp, ⟨ph, l, r0, r1, r2, r3, r4⟩, xh⟩ := x
  unfold Wit.cells
  simp only at hx hs hx'
  have hu0 : Upd No w ((w.alloc (.cells [.int .i64 ph, .slice A l.length c, .int .i64 r0, .int .i64 r1, .int .i64 r2, .int .i64 r3, .int .i64 r4].toArray 47)).alloc (.cells [.int .i64 xl, .int .i64 xp].toArray 86)) := ((Upd.refl No w).alloc _).alloc _
  have bw := (Blk.new w 47 [.int .i64 ph, .slice A l.length c, .int .i64 r0, .int .i64 r1, .int .i64 r2, .int .i64 r3, .int .i64 r4]).alloc (.cells [.int .i64 xl, .int .i64 xp].toArray 86)
  have ba := Blk.new (w.alloc (.cells [.int .i64 ph, .slice A l.length c, .int .i64 r0, .int .i64 r1, .int .i64 r2, .int .i64 r3, .int .i64 r4].toArray 47)) 86 [.int .i64 xl, .int .i64 xp]
  simp only [World.size_alloc] at ba
  have h0 := h.upd hu0 id id (fun _ _ => id) (fun _ _ => id)
  have hx0 := Recs.upd hx' hu0 (fun _ _ => id)
  have hbm := h.map.lt
  have hna : ¬ (T (w.heap.size + 1) ∨ w.heap.size + 1 = bm) := by
    rintro (e | e)
    · have := h.lt _ (.inl e); omega
    · omega
  have hnw : ¬ (T w.heap.size ∨ w.heap.size = bm) := by
    rintro (e | e)
    · have := h.lt _ (.inl e); omega
    · omega
  have c1 := h0.blk.cell 1
  have a0 := ba.cell 0
  have a1 := ba.cell 1
  simp only [List.getElem?_cons_zero, List.getElem?_cons_succ] at c1 a0 a1
  obtain ⟨L, hL⟩ : ∃ L, L = (ns.map (·.e)).filter fun y => y.key ≠ (⟨xl, xp, ⟨ph, l, r0, r1, r2, r3, r4⟩, xh⟩ : Ent).key := ⟨_, rfl⟩
  have HL := Lib.hid hL
  by_cases hin : (xl, xp) ∈ ns.map fun n => n.e.key
  · obtain ⟨n, hn, hk⟩ := List.mem_map.1 hin
    obtain ⟨as_, bs, hsp⟩ := List.append_of_mem hn
    have h0' := h0
    rw [hsp] at h0'
    have hlk : Hid (∀ W, MapIs W bm kenc m → (Instr.lookup 89 (.map (some bm)) (.agg #[.int .i64 xl, .int .i64 xp]) false).run Try.prog W = .ok (pt n.b) W) := by
      refine Lib.hid fun W hM => ?_
      have := run_look kby Try.underlying89 zeroP hM (xl, xp)
      rw [← hk, h0.look hn, hk] at this
      exact this
    have E1 : Hid ((as_ ++ bs).map (·.e) = L) := by
      refine Lib.hid ?_
      rw [hL, hsp, show (⟨xl, xp, ⟨ph, l, r0, r1, r2, r3, r4⟩, xh⟩ : Ent).key = n.e.key from hk.symm, List.map_append, List.map_append, List.map_cons, filter_one]
      have := h0'.keys
      rw [key_map, List.map_append, List.map_cons] at this
      exact this
    have K1 : (xl, xp) ∉ (as_ ++ bs).map fun n => n.e.key := by
      have := h0'.keys
      rw [← hk]
      rw [List.map_append, List.map_cons, List.nodup_append] at this
      rw [List.map_append, List.mem_append]
      rintro (hm | hm)
      · exact this.2.2 _ hm _ (List.mem_cons_self ..) rfl
      · exact (List.nodup_cons.1 this.2.1).1 hm
    have hl1 : ((as_ ++ bs).length : Int) ≤ room := by
      rw [hsp] at hl
      simp only [List.length_append, List.length_cons] at hl ⊢
      omega
    clear hk hsp hL
    go_enter Try.func24, Try.ntmps24
    go_wp2
    go_region_held3 (fun w' => w'.cell? ⟨g, 1, none⟩ = some (.map (some bm)) ∧ w'.cell? ⟨w.heap.size + 1, 0, none⟩ = some (.int .i64 xl) ∧ w'.cell? ⟨w.heap.size + 1, 1, none⟩ = some (.int .i64 xp) ∧
        (Instr.lookup 89 (.map (some bm)) (.agg #[.int .i64 xl, .int .i64 xp]) false).run Try.prog w' = .ok (pt n.b) w')
      (first | exact ⟨c1, a0, a1, hlk.out _ (by exact h0.map)⟩ | go_keep) (fail)
    go_wp2_with fail
    refine (cdrop _ T V g bm r room as_ bs n nw od m (h0'.dr _)).mono ?_
    rintro e w1 ⟨rfl, h1, hu1⟩
    have hu1' : Upd (fun i => T i ∨ i = bm) ((w.alloc (.cells [.int .i64 ph, .slice A l.length c, .int .i64 r0, .int .i64 r1, .int .i64 r2, .int .i64 r3, .int .i64 r4].toArray 47)).alloc (.cells [.int .i64 xl, .int .i64 xp].toArray 86)) w1 := hu1.of_drewN
    have ba1 := ba.upd hu1' hna
    have bw1 := bw.upd hu1' hnw
    have hx1 := Recs.upd hx0 hu1' (fun i hi => by rintro (e | e); exact hi.2.1 e; exact hi.2.2 e)
    have uw1 := (hu0.mono (T := fun i => T i ∨ i = bm) (fun i _ h => h.elim)).trans hu1'
    generalize as_ ++ bs = ns1 at *
    generalize upd1 nw (od n.b) (nw n.b) = nw1 at *
    generalize upd1 od (nw n.b) (od n.b) = od1 at *
    generalize mdel m n.e.key = m1 at *
    clear hu1 hu1' hx0 ba bw h0 h0' hlk c1 a0 a1 hu0 hx hx'
    have d0 := h1.blk.cell 0
    have d1 := h1.blk.cell 1
    have d2 := h1.blk.cell 2
    simp only [List.getElem?_cons_zero, List.getElem?_cons_succ] at d0 d1 d2
    have hml : m1.length = ns1.length := by have := h1.perm.length_eq; simpa using this
    have hlen : Hid (∀ W, MapIs W bm kenc m1 → (Builtin.len_ #[89] 3 #[.map (some bm)]).run Try.prog W = .ok (.int .i64 ns1.length) W) := by
      refine Lib.hid fun W hM => ?_
      rw [run_mlen Try.underlying89 hM, hml]
    clear hml
    by_cases hr0 : room = 0
    · have hz : (room == 0) = true := by rw [beq_iff_eq]; exact hr0
      have Hr0 := Lib.hid hr0
      clear hr0
      go_wp2
      refine bodyPost_ret (results_none rfl _ _ _) rfl ⟨rfl, T, V, ns1, nw1, od1, m1, h1, ?_, fun i hi => .inl hi, fun i hi => .inl hi, uw1⟩
      have := Hr0.out
      unfold putE
      rw [if_pos this]
      have : ns1 = [] := List.eq_nil_of_length_eq_zero (by omega)
      rw [this]
      rfl
    · have hz : (room == 0) = false := by rw [beq_eq_false_iff_ne]; exact hr0
      by_cases hfull : (ns1.length : Int) = room
      · have hfb : ((ns1.length : Int) == room) = true := by rw [beq_iff_eq]; exact hfull
        obtain ⟨n0, ns2, hns⟩ : ∃ n0 ns2, ns1 = n0 :: ns2 := by
          cases hh : ns1 with
          | nil => rw [hh] at hfull; simp at hfull; omega
          | cons a b => exact ⟨a, b, rfl⟩
        have h1' := h1
        rw [hns] at h1'
        have c11 := h1.ring.root.cell 11
        rw [show nw1 r = n0.b from h1'.ring.chain.1] at c11
        simp only [entv, List.getElem?_cons_zero, List.getElem?_cons_succ] at c11
        have E2 : Hid ((if room ≤ L.length then L.drop 1 else L) = ns2.map (·.e)) := by
          refine Lib.hid ?_
          rw [← E1.out, if_pos (by rw [List.length_map]; omega), hns]
          rfl
        have K2 : (xl, xp) ∉ ns2.map fun n => n.e.key := fun hm => K1 (by rw [hns]; exact List.mem_cons_of_mem _ hm)
        clear hfull hns
        go_wp2
        go_region_held3 (fun w' => w'.cell? ⟨g, 0, none⟩ = some (.int .i64 room) ∧ w'.cell? ⟨g, 1, none⟩ = some (.map (some bm)) ∧
            (Builtin.len_ #[89] 3 #[.map (some bm)]).run Try.prog w' = .ok (.int .i64 ns1.length) w')
          (first | exact ⟨d0, d1, hlen.out _ (by exact h1.map)⟩ | go_keep) (fail)
        go_wp2_with fail
        refine (cdrop _ T V g bm r room [] ns2 n0 nw1 od1 m1 (h1'.dr _)).mono ?_
        rintro e w2 ⟨rfl, h2, hu2⟩
        have hu2' : Upd (fun i => T i ∨ i = bm) w1 w2 := hu2.of_drewN
        have ba2 := ba1.upd hu2' hna
        have bw2 := bw1.upd hu2' hnw
        have hx2 := Recs.upd hx1 hu2' (fun i hi => by rintro (e | e); exact hi.2.1 e; exact hi.2.2 e)
        have uw2 := uw1.trans hu2'
        clear h1 h1' hu2 hu2' ba1 bw1 hx1 uw1 d0 d1 d2 c11 hlen
        simp only [List.nil_append] at h2
        generalize upd1 nw1 (od1 n0.b) (nw1 n0.b) = nw2 at *
        generalize upd1 od1 (nw1 n0.b) (od1 n0.b) = od2 at *
        generalize mdel m1 n0.e.key = m2 at *
        have g1 := h2.blk.cell 1
        have a0 := ba2.cell 0
        have a1 := ba2.cell 1
        have b0 := bw2.cell 0
        have b1 := bw2.cell 1
        have b2 := bw2.cell 2
        have b3 := bw2.cell 3
        have b4 := bw2.cell 4
        have b5 := bw2.cell 5
        have b6 := bw2.cell 6
        simp only [List.getElem?_cons_zero, List.getElem?_cons_succ] at g1 a0 a1 b0 b1 b2 b3 b4 b5 b6
        go_wp2
        go_region_held3 (fun w' => w'.cell? ⟨g, 1, none⟩ = some (.map (some bm)) ∧ w'.cell? ⟨w.heap.size + 1, 0, none⟩ = some (.int .i64 xl) ∧ w'.cell? ⟨w.heap.size + 1, 1, none⟩ = some (.int .i64 xp) ∧
            w'.cell? ⟨w.heap.size, 0, none⟩ = some (.int .i64 ph) ∧ w'.cell? ⟨w.heap.size, 1, none⟩ = some (.slice A l.length c) ∧ w'.cell? ⟨w.heap.size, 2, none⟩ = some (.int .i64 r0) ∧ w'.cell? ⟨w.heap.size, 3, none⟩ = some (.int .i64 r1) ∧
            w'.cell? ⟨w.heap.size, 4, none⟩ = some (.int .i64 r2) ∧ w'.cell? ⟨w.heap.size, 5, none⟩ = some (.int .i64 r3) ∧ w'.cell? ⟨w.heap.size, 6, none⟩ = some (.int .i64 r4))
          (first | exact ⟨g1, a0, a1, b0, b1, b2, b3, b4, b5, b6⟩ | (go_split_ands; refine ⟨?_, ?_, ?_, ?_, ?_, ?_, ?_, ?_, ?_, ?_⟩ <;> first | assumption | (exact hu3.keep (by assumption) id) | (exact ((Upd.refl No _).alloc _).keep (by assumption) id) | go_keep))
          ((go_at_call 56; refine (wcopied (fun i => i < w.heap.size ∧ ¬ T i ∧ i ≠ bm) _ A c ⟨ph, l, r0, r1, r2, r3, r4⟩ (by exact hx2) hs).mono ?_; rintro e w3 ⟨A', c', he, hw3, hu3⟩; replace he : e = .returned (.agg #[.int .i64 ph, .slice A' l.length c', .int .i64 r0, .int .i64 r1, .int .i64 r2, .int .i64 r3, .int .i64 r4]) := he; subst he))
        have hu3' : Upd No w2 w3 := hu3.of_drewN
        have hsz3 := hu3'.size
        have hw3' : Walk (fun i => w2.heap.size ≤ i) w3 A' l := hw3
        have h3 := h2.upd hu3' id id (fun _ _ => id) (fun _ _ => id)
        have be4 := Blk.new w3 88 (entv ⟨xl, xp, ⟨ph, l, r0, r1, r2, r3, r4⟩, xh⟩ A' c' (.pointer none) (.pointer none))
        have hu4 := (Upd.refl No w3).alloc (.cells (entv ⟨xl, xp, ⟨ph, l, r0, r1, r2, r3, r4⟩, xh⟩ A' c' (.pointer none) (.pointer none)).toArray 88)
        have h4 := h3.upd hu4 id id (fun _ _ => id) (fun _ _ => id)
        have hw4 := Recs.upd (Recs.lt' hw3') hu4 (fun _ _ => id)
        have ba4 := (ba2.upd hu3' id).upd hu4 id
        have k1 := h4.blk.cell 1
        have ka0 := ba4.cell 0
        have ka1 := ba4.cell 1
        simp only [List.getElem?_cons_zero, List.getElem?_cons_succ] at k1 ka0 ka1
        have hg1 : ¬ One bm g := h2.gT.2.2.2.2
        have hbm2 := h2.map.lt
        have hwz : w.heap.size + 1 < w2.heap.size := ba2.lt
        have hg2 : ¬ One bm (w.heap.size + 1) := fun e => hna (.inr e)
        clear g1 a0 a1 b0 b1 b2 b3 b4 b5 b6
        obtain ⟨w5, hput, hm5, hu5⟩ := run_put kby Try.underlying89 (h4.dr 1).map (xl, xp) (pt w3.heap.size)
        change (Instr.mapUpdate 89 (.map (some bm)) (.agg #[.int .i64 xl, .int .i64 xp]) (pt w3.heap.size)).run Try.prog (w3.alloc (.cells #[.int .i64 xl, .int .i64 xp, .int .i64 ph, .slice A' l.length c', .int .i64 r0, .int .i64 r1, .int .i64 r2, .int .i64 r3, .int .i64 r4, .bool xh, .pointer none, .pointer none] 88)).drew = .ok () w5 at hput
        replace hu5 : Upd (One bm) (w3.alloc (.cells #[.int .i64 xl, .int .i64 xp, .int .i64 ph, .slice A' l.length c', .int .i64 r0, .int .i64 r1, .int .i64 r2, .int .i64 r3, .int .i64 r4, .bool xh, .pointer none, .pointer none] 88)).drew w5 := hu5
        go_wp2
        go_region_held3 (fun w' => w'.cell? ⟨g, 1, none⟩ = some (.map (some bm)) ∧ w'.cell? ⟨w.heap.size + 1, 0, none⟩ = some (.int .i64 xl) ∧ w'.cell? ⟨w.heap.size + 1, 1, none⟩ = some (.int .i64 xp))
          (first | exact ⟨k1, ka0, ka1⟩ | (go_split_ands; refine ⟨?_, ?_, ?_⟩ <;> first | assumption | (exact hu5.keep (by assumption) (by assumption)) | go_keep))
          (fail)
        have hu5' : Upd (One bm) (w3.alloc (.cells (entv ⟨xl, xp, ⟨ph, l, r0, r1, r2, r3, r4⟩, xh⟩ A' c' (.pointer none) (.pointer none)).toArray 88)) w5 := hu5.of_drew
        have uT : ∀ i, T i → i < w2.heap.size := fun i hi => h2.lt i (.inl hi)
        have uV : ∀ i, V i → i < w2.heap.size := fun i hi => h2.lt i (.inr hi)
        have hR : Ring w5 (fun i => T i ∨ i = w3.heap.size) (fun i => V i ∨ (w2.heap.size ≤ i ∧ i < w3.heap.size)) r ns2 nw2 od2 := by
          refine (h4.ring.upd hu5' (fun i hi e => h2.gT.2.2.1 ?_) (fun i hi e => h2.gT.2.2.2.1 ?_)).more (fun i hi => .inl hi) (fun i hi => .inl hi) ?_
          · rw [← show i = bm from e]; exact hi
          · rw [← show i = bm from e]; exact hi
          · rintro i (hi | hi) (hv | hv)
            · exact h2.ring.apart i hi hv
            · have := uT i hi; omega
            · have := uV i hv; omega
            · omega
        have hne5 : ∀ i, w2.heap.size ≤ i → ¬ One bm i := fun i hi e => by
          have e : i = bm := e
          omega
        have hn5 : Blk w5 w3.heap.size 88 (entv ⟨xl, xp, ⟨ph, l, r0, r1, r2, r3, r4⟩, xh⟩ A' c' (.pointer none) (.pointer none)) := be4.upd hu5' (hne5 _ hsz3)
        have hw5 : Walk (fun i => V i ∨ (w2.heap.size ≤ i ∧ i < w3.heap.size)) w5 A' l := Recs.weak (Recs.upd hw4 hu5' (fun i hi => hne5 i hi.2)) (fun i _ hi => .inr ⟨hi.2, hi.1⟩)
        have hnew5 : w3.heap.size ∉ r :: ns2.map (·.b) := fun hm => by
          have := uT _ (h2.ring.inT _ hm)
          omega
        have hTg : ¬ (T g ∨ g = w3.heap.size) := by
          rintro (e | e)
          · exact h2.gT.1 e
          · have := h2.blk.lt; omega
        have hTb : ¬ (T bm ∨ bm = w3.heap.size) := by
          rintro (e | e)
          · exact h2.gT.2.2.1 e
          · omega
        go_wp2_with fail
        refine (rin w5 (fun i => T i ∨ i = w3.heap.size) (fun i => V i ∨ (w2.heap.size ≤ i ∧ i < w3.heap.size)) g r (.int .i64 room) (.map (some bm)) ns2 ⟨w3.heap.size, ⟨xl, xp, ⟨ph, l, r0, r1, r2, r3, r4⟩, xh⟩, A', c'⟩ (.pointer none) (.pointer none) nw2 od2 hR (h4.blk.upd hu5' hg1) ⟨hn5, hw5, hs⟩ (.inr rfl) hnew5 hTg).mono ?_
        rintro e w6 ⟨rfl, hr6, hu6⟩
        have uw6 : Upd (fun i => T i ∨ i = bm) w w6 := ((((uw2.trans (hu3'.mono (fun i _ h => h.elim))).trans (hu4.mono (fun i _ h => h.elim))).trans (hu5'.mono (fun i _ h => .inr h)))).then_ hu6 (fun i e => by
          rcases e with e | e
          · exact .inl (.inl e)
          · right; omega)
        have hsz6 := uw6.size
        have hs56 := hu6.size
        have hs45 := hu5'.size
        simp only [World.size_alloc] at hs45
        go_wp2
        refine bodyPost_end (results_none rfl _ _ _) rfl ⟨rfl, fun i => T i ∨ i = w3.heap.size, fun i => V i ∨ (w2.heap.size ≤ i ∧ i < w3.heap.size), ns2 ++ [⟨w3.heap.size, ⟨xl, xp, ⟨ph, l, r0, r1, r2, r3, r4⟩, xh⟩, A', c'⟩], _, _, _,
          ⟨(h4.blk.upd hu5' hg1).upd hu6 hTg, hm5.upd hu6 hTb, ?_, ?_, hr6, ⟨hTg, ?_, hTb, ?_, h2.gT.2.2.2.2⟩, ?_⟩, ?_, ?_, ?_, uw6⟩
        · rw [List.map_append]
          exact mput_new h2.perm (by rw [keys_fst]; exact K2)
        · rw [List.map_append, List.nodup_append]
          refine ⟨h2.keys, by simp, ?_⟩
          intro a ha b hb
          simp only [List.map_cons, List.map_nil, List.mem_singleton] at hb
          subst hb
          rintro rfl
          exact K2 ha
        · rintro (e | e)
          · exact h2.gT.2.1 e
          · have := h2.blk.lt; omega
        · rintro (e | e)
          · exact h2.gT.2.2.2.1 e
          · omega
        · rintro i ((e | e) | (e | e))
          · have := uT i e; omega
          · omega
          · have := uV i e; omega
          · omega
        · unfold putE
          rw [← HL.out, E2.out, if_neg hr0, List.map_append]
          rfl
        · rintro i (e | e)
          · exact .inl e
          · right; omega
        · rintro i (e | e)
          · exact .inl e
          · right; omega
      · have hfb : ((ns1.length : Int) == room) = false := by rw [beq_eq_false_iff_ne]; exact hfull
        have E2 : Hid ((if room ≤ L.length then L.drop 1 else L) = ns1.map (·.e)) := by
          refine Lib.hid ?_
          rw [← E1.out, if_neg (by rw [List.length_map]; omega)]
        clear hfull
        go_wp2
        go_region_held3 (fun w' => w'.cell? ⟨g, 0, none⟩ = some (.int .i64 room) ∧ w'.cell? ⟨g, 1, none⟩ = some (.map (some bm)) ∧
            (Builtin.len_ #[89] 3 #[.map (some bm)]).run Try.prog w' = .ok (.int .i64 ns1.length) w')
          (first | exact ⟨d0, d1, hlen.out _ (by exact h1.map)⟩ | go_keep) (fail)
        obtain ⟨w2, hw2⟩ : ∃ w2, w2 = w1.drew := ⟨_, rfl⟩
        have h2 : CacheW w2 T V g bm r room ns1 nw1 od1 m1 := by rw [hw2]; exact h1.dr 1
        have ba2 : Blk w2 (w.heap.size + 1) 86 [.int .i64 xl, .int .i64 xp] := by rw [hw2]; exact ba1.drewN 1
        have bw2 : Blk w2 w.heap.size 47 [.int .i64 ph, .slice A l.length c, .int .i64 r0, .int .i64 r1, .int .i64 r2, .int .i64 r3, .int .i64 r4] := by rw [hw2]; exact bw1.drewN 1
        have hx2 : Recs (fun i => i < w.heap.size ∧ ¬ T i ∧ i ≠ bm) w2 A 4 (l.map Edge.cells) := by rw [hw2]; exact Recs.upd hx1 ((Upd.refl No _).drewN 1) (fun _ _ => id)
        have uw2 : Upd (fun i => T i ∨ i = bm) w w2 := by rw [hw2]; exact uw1.drewN 1
        simp only [← hw2]
        have K2 := K1
        clear hw2 h1 ba1 bw1 hx1 uw1 d0 d1 d2 hlen K1
        have g1 := h2.blk.cell 1
        have a0 := ba2.cell 0
        have a1 := ba2.cell 1
        have b0 := bw2.cell 0
        have b1 := bw2.cell 1
        have b2 := bw2.cell 2
        have b3 := bw2.cell 3
        have b4 := bw2.cell 4
        have b5 := bw2.cell 5
        have b6 := bw2.cell 6
        simp only [List.getElem?_cons_zero, List.getElem?_cons_succ] at g1 a0 a1 b0 b1 b2 b3 b4 b5 b6
        go_wp2
        go_region_held3 (fun w' => w'.cell? ⟨g, 1, none⟩ = some (.map (some bm)) ∧ w'.cell? ⟨w.heap.size + 1, 0, none⟩ = some (.int .i64 xl) ∧ w'.cell? ⟨w.heap.size + 1, 1, none⟩ = some (.int .i64 xp) ∧
            w'.cell? ⟨w.heap.size, 0, none⟩ = some (.int .i64 ph) ∧ w'.cell? ⟨w.heap.size, 1, none⟩ = some (.slice A l.length c) ∧ w'.cell? ⟨w.heap.size, 2, none⟩ = some (.int .i64 r0) ∧ w'.cell? ⟨w.heap.size, 3, none⟩ = some (.int .i64 r1) ∧
            w'.cell? ⟨w.heap.size, 4, none⟩ = some (.int .i64 r2) ∧ w'.cell? ⟨w.heap.size, 5, none⟩ = some (.int .i64 r3) ∧ w'.cell? ⟨w.heap.size, 6, none⟩ = some (.int .i64 r4))
          (first | exact ⟨g1, a0, a1, b0, b1, b2, b3, b4, b5, b6⟩ | (go_split_ands; refine ⟨?_, ?_, ?_, ?_, ?_, ?_, ?_, ?_, ?_, ?_⟩ <;> first | assumption | (exact hu3.keep (by assumption) id) | (exact ((Upd.refl No _).alloc _).keep (by assumption) id) | go_keep))
          ((go_at_call 56; refine (wcopied (fun i => i < w.heap.size ∧ ¬ T i ∧ i ≠ bm) _ A c ⟨ph, l, r0, r1, r2, r3, r4⟩ (by exact hx2) hs).mono ?_; rintro e w3 ⟨A', c', he, hw3, hu3⟩; replace he : e = .returned (.agg #[.int .i64 ph, .slice A' l.length c', .int .i64 r0, .int .i64 r1, .int .i64 r2, .int .i64 r3, .int .i64 r4]) := he; subst he))
        have hu3' : Upd No w2 w3 := hu3.of_drewN
        have hsz3 := hu3'.size
        have hw3' : Walk (fun i => w2.heap.size ≤ i) w3 A' l := hw3
        have h3 := h2.upd hu3' id id (fun _ _ => id) (fun _ _ => id)
        have be4 := Blk.new w3 88 (entv ⟨xl, xp, ⟨ph, l, r0, r1, r2, r3, r4⟩, xh⟩ A' c' (.pointer none) (.pointer none))
        have hu4 := (Upd.refl No w3).alloc (.cells (entv ⟨xl, xp, ⟨ph, l, r0, r1, r2, r3, r4⟩, xh⟩ A' c' (.pointer none) (.pointer none)).toArray 88)
        have h4 := h3.upd hu4 id id (fun _ _ => id) (fun _ _ => id)
        have hw4 := Recs.upd (Recs.lt' hw3') hu4 (fun _ _ => id)
        have ba4 := (ba2.upd hu3' id).upd hu4 id
        have k1 := h4.blk.cell 1
        have ka0 := ba4.cell 0
        have ka1 := ba4.cell 1
        simp only [List.getElem?_cons_zero, List.getElem?_cons_succ] at k1 ka0 ka1
        have hg1 : ¬ One bm g := h2.gT.2.2.2.2
        have hbm2 := h2.map.lt
        have hwz : w.heap.size + 1 < w2.heap.size := ba2.lt
        have hg2 : ¬ One bm (w.heap.size + 1) := fun e => hna (.inr e)
        clear g1 a0 a1 b0 b1 b2 b3 b4 b5 b6
        obtain ⟨w5, hput, hm5, hu5⟩ := run_put kby Try.underlying89 (h4.dr 1).map (xl, xp) (pt w3.heap.size)
        change (Instr.mapUpdate 89 (.map (some bm)) (.agg #[.int .i64 xl, .int .i64 xp]) (pt w3.heap.size)).run Try.prog (w3.alloc (.cells #[.int .i64 xl, .int .i64 xp, .int .i64 ph, .slice A' l.length c', .int .i64 r0, .int .i64 r1, .int .i64 r2, .int .i64 r3, .int .i64 r4, .bool xh, .pointer none, .pointer none] 88)).drew = .ok () w5 at hput
        replace hu5 : Upd (One bm) (w3.alloc (.cells #[.int .i64 xl, .int .i64 xp, .int .i64 ph, .slice A' l.length c', .int .i64 r0, .int .i64 r1, .int .i64 r2, .int .i64 r3, .int .i64 r4, .bool xh, .pointer none, .pointer none] 88)).drew w5 := hu5
        go_wp2
        go_region_held3 (fun w' => w'.cell? ⟨g, 1, none⟩ = some (.map (some bm)) ∧ w'.cell? ⟨w.heap.size + 1, 0, none⟩ = some (.int .i64 xl) ∧ w'.cell? ⟨w.heap.size + 1, 1, none⟩ = some (.int .i64 xp))
          (first | exact ⟨k1, ka0, ka1⟩ | (go_split_ands; refine ⟨?_, ?_, ?_⟩ <;> first | assumption | (exact hu5.keep (by assumption) (by assumption)) | go_keep))
          (fail)
        have hu5' : Upd (One bm) (w3.alloc (.cells (entv ⟨xl, xp, ⟨ph, l, r0, r1, r2, r3, r4⟩, xh⟩ A' c' (.pointer none) (.pointer none)).toArray 88)) w5 := hu5.of_drew
        have uT : ∀ i, T i → i < w2.heap.size := fun i hi => h2.lt i (.inl hi)
        have uV : ∀ i, V i → i < w2.heap.size := fun i hi => h2.lt i (.inr hi)
        have hR : Ring w5 (fun i => T i ∨ i = w3.heap.size) (fun i => V i ∨ (w2.heap.size ≤ i ∧ i < w3.heap.size)) r ns1 nw1 od1 := by
          refine (h4.ring.upd hu5' (fun i hi e => h2.gT.2.2.1 ?_) (fun i hi e => h2.gT.2.2.2.1 ?_)).more (fun i hi => .inl hi) (fun i hi => .inl hi) ?_
          · rw [← show i = bm from e]; exact hi
          · rw [← show i = bm from e]; exact hi
          · rintro i (hi | hi) (hv | hv)
            · exact h2.ring.apart i hi hv
            · have := uT i hi; omega
            · have := uV i hv; omega
            · omega
        have hne5 : ∀ i, w2.heap.size ≤ i → ¬ One bm i := fun i hi e => by
          have e : i = bm := e
          omega
        have hn5 : Blk w5 w3.heap.size 88 (entv ⟨xl, xp, ⟨ph, l, r0, r1, r2, r3, r4⟩, xh⟩ A' c' (.pointer none) (.pointer none)) := be4.upd hu5' (hne5 _ hsz3)
        have hw5 : Walk (fun i => V i ∨ (w2.heap.size ≤ i ∧ i < w3.heap.size)) w5 A' l := Recs.weak (Recs.upd hw4 hu5' (fun i hi => hne5 i hi.2)) (fun i _ hi => .inr ⟨hi.2, hi.1⟩)
        have hnew5 : w3.heap.size ∉ r :: ns1.map (·.b) := fun hm => by
          have := uT _ (h2.ring.inT _ hm)
          omega
        have hTg : ¬ (T g ∨ g = w3.heap.size) := by
          rintro (e | e)
          · exact h2.gT.1 e
          · have := h2.blk.lt; omega
        have hTb : ¬ (T bm ∨ bm = w3.heap.size) := by
          rintro (e | e)
          · exact h2.gT.2.2.1 e
          · omega
        go_wp2_with fail
        refine (rin w5 (fun i => T i ∨ i = w3.heap.size) (fun i => V i ∨ (w2.heap.size ≤ i ∧ i < w3.heap.size)) g r (.int .i64 room) (.map (some bm)) ns1 ⟨w3.heap.size, ⟨xl, xp, ⟨ph, l, r0, r1, r2, r3, r4⟩, xh⟩, A', c'⟩ (.pointer none) (.pointer none) nw1 od1 hR (h4.blk.upd hu5' hg1) ⟨hn5, hw5, hs⟩ (.inr rfl) hnew5 hTg).mono ?_
        rintro e w6 ⟨rfl, hr6, hu6⟩
        have uw6 : Upd (fun i => T i ∨ i = bm) w w6 := ((((uw2.trans (hu3'.mono (fun i _ h => h.elim))).trans (hu4.mono (fun i _ h => h.elim))).trans (hu5'.mono (fun i _ h => .inr h)))).then_ hu6 (fun i e => by
          rcases e with e | e
          · exact .inl (.inl e)
          · right; omega)
        have hsz6 := uw6.size
        have hs56 := hu6.size
        have hs45 := hu5'.size
        simp only [World.size_alloc] at hs45
        go_wp2
        refine bodyPost_end (results_none rfl _ _ _) rfl ⟨rfl, fun i => T i ∨ i = w3.heap.size, fun i => V i ∨ (w2.heap.size ≤ i ∧ i < w3.heap.size), ns1 ++ [⟨w3.heap.size, ⟨xl, xp, ⟨ph, l, r0, r1, r2, r3, r4⟩, xh⟩, A', c'⟩], _, _, _,
          ⟨(h4.blk.upd hu5' hg1).upd hu6 hTg, hm5.upd hu6 hTb, ?_, ?_, hr6, ⟨hTg, ?_, hTb, ?_, h2.gT.2.2.2.2⟩, ?_⟩, ?_, ?_, ?_, uw6⟩
        · rw [List.map_append]
          exact mput_new h2.perm (by rw [keys_fst]; exact K2)
        · rw [List.map_append, List.nodup_append]
          refine ⟨h2.keys, by simp, ?_⟩
          intro a ha b hb
          simp only [List.map_cons, List.map_nil, List.mem_singleton] at hb
          subst hb
          rintro rfl
          exact K2 ha
        · rintro (e | e)
          · exact h2.gT.2.1 e
          · have := h2.blk.lt; omega
        · rintro (e | e)
          · exact h2.gT.2.2.2.1 e
          · omega
        · rintro i ((e | e) | (e | e))
          · have := uT i e; omega
          · omega
          · have := uV i e; omega
          · omega
        · unfold putE
          rw [← HL.out, E2.out, if_neg hr0, List.map_append]
          rfl
        · rintro i (e | e)
          · exact .inl e
          · right; omega
        · rintro i (e | e)
          · exact .inl e
          · right; omega
  · have hlk : Hid (∀ W, MapIs W bm kenc m → (Instr.lookup 89 (.map (some bm)) (.agg #[.int .i64 xl, .int .i64 xp]) false).run Try.prog W = .ok (.pointer none) W) := by
      refine Lib.hid fun W hM => ?_
      have := run_look kby Try.underlying89 zeroP hM (xl, xp)
      rw [h0.look_none hin] at this
      exact this
    have E1 : Hid (ns.map (·.e) = L) := by
      refine Lib.hid ?_
      rw [hL, filter_all]
      rw [← key_map]
      exact hin
    have K1 := hin
    have hl1 := hl
    clear hL
    go_enter Try.func24, Try.ntmps24
    go_wp2
    go_region_held3 (fun w' => w'.cell? ⟨g, 1, none⟩ = some (.map (some bm)) ∧ w'.cell? ⟨w.heap.size + 1, 0, none⟩ = some (.int .i64 xl) ∧ w'.cell? ⟨w.heap.size + 1, 1, none⟩ = some (.int .i64 xp) ∧
        (Instr.lookup 89 (.map (some bm)) (.agg #[.int .i64 xl, .int .i64 xp]) false).run Try.prog w' = .ok (.pointer none) w')
      (first | exact ⟨c1, a0, a1, hlk.out _ (by exact h0.map)⟩ | go_keep) (fail)
    obtain ⟨w1, hw1⟩ : ∃ w1, w1 = ((w.alloc (.cells #[.int .i64 ph, .slice A l.length c, .int .i64 r0, .int .i64 r1, .int .i64 r2, .int .i64 r3, .int .i64 r4] 47)).alloc (.cells #[.int .i64 xl, .int .i64 xp] 86)).drew := ⟨_, rfl⟩
    have h1 : CacheW w1 T V g bm r room ns nw od m := by rw [hw1]; exact h0.dr 1
    have ba1 : Blk w1 (w.heap.size + 1) 86 [.int .i64 xl, .int .i64 xp] := by rw [hw1]; exact ba.drewN 1
    have bw1 : Blk w1 w.heap.size 47 [.int .i64 ph, .slice A l.length c, .int .i64 r0, .int .i64 r1, .int .i64 r2, .int .i64 r3, .int .i64 r4] := by rw [hw1]; exact bw.drewN 1
    have hx1 : Recs (fun i => i < w.heap.size ∧ ¬ T i ∧ i ≠ bm) w1 A 4 (l.map Edge.cells) := by rw [hw1]; exact Recs.upd hx0 ((Upd.refl No _).drewN 1) (fun _ _ => id)
    have uw1 : Upd (fun i => T i ∨ i = bm) w w1 := by rw [hw1]; exact (hu0.mono (T := fun i => T i ∨ i = bm) (fun i _ h => h.elim)).drewN 1
    simp only [← hw1]
    obtain ⟨ns1, hns1⟩ : ∃ l, l = ns := ⟨_, rfl⟩
    rw [← hns1] at h1 E1 K1 hl1
    obtain ⟨nw1, hnw1⟩ : ∃ l, l = nw := ⟨_, rfl⟩
    rw [← hnw1] at h1
    obtain ⟨od1, hod1⟩ : ∃ l, l = od := ⟨_, rfl⟩
    rw [← hod1] at h1
    obtain ⟨m1, hm1⟩ : ∃ l, l = m := ⟨_, rfl⟩
    rw [← hm1] at h1
    clear hw1 hns1 hnw1 hod1 hm1 hx0 ba bw h0 hlk c1 a0 a1 hu0 hx hx' hin
    have d0 := h1.blk.cell 0
    have d1 := h1.blk.cell 1
    have d2 := h1.blk.cell 2
    simp only [List.getElem?_cons_zero, List.getElem?_cons_succ] at d0 d1 d2
    have hml : m1.length = ns1.length := by have := h1.perm.length_eq; simpa using this
    have hlen : Hid (∀ W, MapIs W bm kenc m1 → (Builtin.len_ #[89] 3 #[.map (some bm)]).run Try.prog W = .ok (.int .i64 ns1.length) W) := by
      refine Lib.hid fun W hM => ?_
      rw [run_mlen Try.underlying89 hM, hml]
    clear hml
    by_cases hr0 : room = 0
    · have hz : (room == 0) = true := by rw [beq_iff_eq]; exact hr0
      have Hr0 := Lib.hid hr0
      clear hr0
      go_wp2
      refine bodyPost_ret (results_none rfl _ _ _) rfl ⟨rfl, T, V, ns1, nw1, od1, m1, h1, ?_, fun i hi => .inl hi, fun i hi => .inl hi, uw1⟩
      have := Hr0.out
      unfold putE
      rw [if_pos this]
      have : ns1 = [] := List.eq_nil_of_length_eq_zero (by omega)
      rw [this]
      rfl
    · have hz : (room == 0) = false := by rw [beq_eq_false_iff_ne]; exact hr0
      by_cases hfull : (ns1.length : Int) = room
      · have hfb : ((ns1.length : Int) == room) = true := by rw [beq_iff_eq]; exact hfull
        obtain ⟨n0, ns2, hns⟩ : ∃ n0 ns2, ns1 = n0 :: ns2 := by
          cases hh : ns1 with
          | nil => rw [hh] at hfull; simp at hfull; omega
          | cons a b => exact ⟨a, b, rfl⟩
        have h1' := h1
        rw [hns] at h1'
        have c11 := h1.ring.root.cell 11
        rw [show nw1 r = n0.b from h1'.ring.chain.1] at c11
        simp only [entv, List.getElem?_cons_zero, List.getElem?_cons_succ] at c11
        have E2 : Hid ((if room ≤ L.length then L.drop 1 else L) = ns2.map (·.e)) := by
          refine Lib.hid ?_
          rw [← E1.out, if_pos (by rw [List.length_map]; omega), hns]
          rfl
        have K2 : (xl, xp) ∉ ns2.map fun n => n.e.key := fun hm => K1 (by rw [hns]; exact List.mem_cons_of_mem _ hm)
        clear hfull hns
        go_wp2
        go_region_held3 (fun w' => w'.cell? ⟨g, 0, none⟩ = some (.int .i64 room) ∧ w'.cell? ⟨g, 1, none⟩ = some (.map (some bm)) ∧
            (Builtin.len_ #[89] 3 #[.map (some bm)]).run Try.prog w' = .ok (.int .i64 ns1.length) w')
          (first | exact ⟨d0, d1, hlen.out _ (by exact h1.map)⟩ | go_keep) (fail)
        go_wp2_with fail
        refine (cdrop _ T V g bm r room [] ns2 n0 nw1 od1 m1 (h1'.dr _)).mono ?_
        rintro e w2 ⟨rfl, h2, hu2⟩
        have hu2' : Upd (fun i => T i ∨ i = bm) w1 w2 := hu2.of_drewN
        have ba2 := ba1.upd hu2' hna
        have bw2 := bw1.upd hu2' hnw
        have hx2 := Recs.upd hx1 hu2' (fun i hi => by rintro (e | e); exact hi.2.1 e; exact hi.2.2 e)
        have uw2 := uw1.trans hu2'
        clear h1 h1' hu2 hu2' ba1 bw1 hx1 uw1 d0 d1 d2 c11 hlen
        simp only [List.nil_append] at h2
        generalize upd1 nw1 (od1 n0.b) (nw1 n0.b) = nw2 at *
        generalize upd1 od1 (nw1 n0.b) (od1 n0.b) = od2 at *
        generalize mdel m1 n0.e.key = m2 at *
        have g1 := h2.blk.cell 1
        have a0 := ba2.cell 0
        have a1 := ba2.cell 1
        have b0 := bw2.cell 0
        have b1 := bw2.cell 1
        have b2 := bw2.cell 2
        have b3 := bw2.cell 3
        have b4 := bw2.cell 4
        have b5 := bw2.cell 5
        have b6 := bw2.cell 6
        simp only [List.getElem?_cons_zero, List.getElem?_cons_succ] at g1 a0 a1 b0 b1 b2 b3 b4 b5 b6
        go_wp2
        go_region_held3 (fun w' => w'.cell? ⟨g, 1, none⟩ = some (.map (some bm)) ∧ w'.cell? ⟨w.heap.size + 1, 0, none⟩ = some (.int .i64 xl) ∧ w'.cell? ⟨w.heap.size + 1, 1, none⟩ = some (.int .i64 xp) ∧
            w'.cell? ⟨w.heap.size, 0, none⟩ = some (.int .i64 ph) ∧ w'.cell? ⟨w.heap.size, 1, none⟩ = some (.slice A l.length c) ∧ w'.cell? ⟨w.heap.size, 2, none⟩ = some (.int .i64 r0) ∧ w'.cell? ⟨w.heap.size, 3, none⟩ = some (.int .i64 r1) ∧
            w'.cell? ⟨w.heap.size, 4, none⟩ = some (.int .i64 r2) ∧ w'.cell? ⟨w.heap.size, 5, none⟩ = some (.int .i64 r3) ∧ w'.cell? ⟨w.heap.size, 6, none⟩ = some (.int .i64 r4))
          (first | exact ⟨g1, a0, a1, b0, b1, b2, b3, b4, b5, b6⟩ | (go_split_ands; refine ⟨?_, ?_, ?_, ?_, ?_, ?_, ?_, ?_, ?_, ?_⟩ <;> first | assumption | (exact hu3.keep (by assumption) id) | (exact ((Upd.refl No _).alloc _).keep (by assumption) id) | go_keep))
          ((go_at_call 56; refine (wcopied (fun i => i < w.heap.size ∧ ¬ T i ∧ i ≠ bm) _ A c ⟨ph, l, r0, r1, r2, r3, r4⟩ (by exact hx2) hs).mono ?_; rintro e w3 ⟨A', c', he, hw3, hu3⟩; replace he : e = .returned (.agg #[.int .i64 ph, .slice A' l.length c', .int .i64 r0, .int .i64 r1, .int .i64 r2, .int .i64 r3, .int .i64 r4]) := he; subst he))
        have hu3' : Upd No w2 w3 := hu3.of_drewN
        have hsz3 := hu3'.size
        have hw3' : Walk (fun i => w2.heap.size ≤ i) w3 A' l := hw3
        have h3 := h2.upd hu3' id id (fun _ _ => id) (fun _ _ => id)
        have be4 := Blk.new w3 88 (entv ⟨xl, xp, ⟨ph, l, r0, r1, r2, r3, r4⟩, xh⟩ A' c' (.pointer none) (.pointer none))
        have hu4 := (Upd.refl No w3).alloc (.cells (entv ⟨xl, xp, ⟨ph, l, r0, r1, r2, r3, r4⟩, xh⟩ A' c' (.pointer none) (.pointer none)).toArray 88)
        have h4 := h3.upd hu4 id id (fun _ _ => id) (fun _ _ => id)
        have hw4 := Recs.upd (Recs.lt' hw3') hu4 (fun _ _ => id)
        have ba4 := (ba2.upd hu3' id).upd hu4 id
        have k1 := h4.blk.cell 1
        have ka0 := ba4.cell 0
        have ka1 := ba4.cell 1
        simp only [List.getElem?_cons_zero, List.getElem?_cons_succ] at k1 ka0 ka1
        have hg1 : ¬ One bm g := h2.gT.2.2.2.2
        have hbm2 := h2.map.lt
        have hwz : w.heap.size + 1 < w2.heap.size := ba2.lt
        have hg2 : ¬ One bm (w.heap.size + 1) := fun e => hna (.inr e)
        clear g1 a0 a1 b0 b1 b2 b3 b4 b5 b6
        obtain ⟨w5, hput, hm5, hu5⟩ := run_put kby Try.underlying89 (h4.dr 1).map (xl, xp) (pt w3.heap.size)
        change (Instr.mapUpdate 89 (.map (some bm)) (.agg #[.int .i64 xl, .int .i64 xp]) (pt w3.heap.size)).run Try.prog (w3.alloc (.cells #[.int .i64 xl, .int .i64 xp, .int .i64 ph, .slice A' l.length c', .int .i64 r0, .int .i64 r1, .int .i64 r2, .int .i64 r3, .int .i64 r4, .bool xh, .pointer none, .pointer none] 88)).drew = .ok () w5 at hput
        replace hu5 : Upd (One bm) (w3.alloc (.cells #[.int .i64 xl, .int .i64 xp, .int .i64 ph, .slice A' l.length c', .int .i64 r0, .int .i64 r1, .int .i64 r2, .int .i64 r3, .int .i64 r4, .bool xh, .pointer none, .pointer none] 88)).drew w5 := hu5
        go_wp2
        go_region_held3 (fun w' => w'.cell? ⟨g, 1, none⟩ = some (.map (some bm)) ∧ w'.cell? ⟨w.heap.size + 1, 0, none⟩ = some (.int .i64 xl) ∧ w'.cell? ⟨w.heap.size + 1, 1, none⟩ = some (.int .i64 xp))
          (first | exact ⟨k1, ka0, ka1⟩ | (go_split_ands; refine ⟨?_, ?_, ?_⟩ <;> first | assumption | (exact hu5.keep (by assumption) (by assumption)) | go_keep))
          (fail)
        have hu5' : Upd (One bm) (w3.alloc (.cells (entv ⟨xl, xp, ⟨ph, l, r0, r1, r2, r3, r4⟩, xh⟩ A' c' (.pointer none) (.pointer none)).toArray 88)) w5 := hu5.of_drew
        have uT : ∀ i, T i → i < w2.heap.size := fun i hi => h2.lt i (.inl hi)
        have uV : ∀ i, V i → i < w2.heap.size := fun i hi => h2.lt i (.inr hi)
        have hR : Ring w5 (fun i => T i ∨ i = w3.heap.size) (fun i => V i ∨ (w2.heap.size ≤ i ∧ i < w3.heap.size)) r ns2 nw2 od2 := by
          refine (h4.ring.upd hu5' (fun i hi e => h2.gT.2.2.1 ?_) (fun i hi e => h2.gT.2.2.2.1 ?_)).more (fun i hi => .inl hi) (fun i hi => .inl hi) ?_
          · rw [← show i = bm from e]; exact hi
          · rw [← show i = bm from e]; exact hi
          · rintro i (hi | hi) (hv | hv)
            · exact h2.ring.apart i hi hv
            · have := uT i hi; omega
            · have := uV i hv; omega
            · omega
        have hne5 : ∀ i, w2.heap.size ≤ i → ¬ One bm i := fun i hi e => by
          have e : i = bm := e
          omega
        have hn5 : Blk w5 w3.heap.size 88 (entv ⟨xl, xp, ⟨ph, l, r0, r1, r2, r3, r4⟩, xh⟩ A' c' (.pointer none) (.pointer none)) := be4.upd hu5' (hne5 _ hsz3)
        have hw5 : Walk (fun i => V i ∨ (w2.heap.size ≤ i ∧ i < w3.heap.size)) w5 A' l := Recs.weak (Recs.upd hw4 hu5' (fun i hi => hne5 i hi.2)) (fun i _ hi => .inr ⟨hi.2, hi.1⟩)
        have hnew5 : w3.heap.size ∉ r :: ns2.map (·.b) := fun hm => by
          have := uT _ (h2.ring.inT _ hm)
          omega
        have hTg : ¬ (T g ∨ g = w3.heap.size) := by
          rintro (e | e)
          · exact h2.gT.1 e
          · have := h2.blk.lt; omega
        have hTb : ¬ (T bm ∨ bm = w3.heap.size) := by
          rintro (e | e)
          · exact h2.gT.2.2.1 e
          · omega
        go_wp2_with fail
        refine (rin w5 (fun i => T i ∨ i = w3.heap.size) (fun i => V i ∨ (w2.heap.size ≤ i ∧ i < w3.heap.size)) g r (.int .i64 room) (.map (some bm)) ns2 ⟨w3.heap.size, ⟨xl, xp, ⟨ph, l, r0, r1, r2, r3, r4⟩, xh⟩, A', c'⟩ (.pointer none) (.pointer none) nw2 od2 hR (h4.blk.upd hu5' hg1) ⟨hn5, hw5, hs⟩ (.inr rfl) hnew5 hTg).mono ?_
        rintro e w6 ⟨rfl, hr6, hu6⟩
        have uw6 : Upd (fun i => T i ∨ i = bm) w w6 := ((((uw2.trans (hu3'.mono (fun i _ h => h.elim))).trans (hu4.mono (fun i _ h => h.elim))).trans (hu5'.mono (fun i _ h => .inr h)))).then_ hu6 (fun i e => by
          rcases e with e | e
          · exact .inl (.inl e)
          · right; omega)
        have hsz6 := uw6.size
        have hs56 := hu6.size
        have hs45 := hu5'.size
        simp only [World.size_alloc] at hs45
        go_wp2
        refine bodyPost_end (results_none rfl _ _ _) rfl ⟨rfl, fun i => T i ∨ i = w3.heap.size, fun i => V i ∨ (w2.heap.size ≤ i ∧ i < w3.heap.size), ns2 ++ [⟨w3.heap.size, ⟨xl, xp, ⟨ph, l, r0, r1, r2, r3, r4⟩, xh⟩, A', c'⟩], _, _, _,
          ⟨(h4.blk.upd hu5' hg1).upd hu6 hTg, hm5.upd hu6 hTb, ?_, ?_, hr6, ⟨hTg, ?_, hTb, ?_, h2.gT.2.2.2.2⟩, ?_⟩, ?_, ?_, ?_, uw6⟩
        · rw [List.map_append]
          exact mput_new h2.perm (by rw [keys_fst]; exact K2)
        · rw [List.map_append, List.nodup_append]
          refine ⟨h2.keys, by simp, ?_⟩
          intro a ha b hb
          simp only [List.map_cons, List.map_nil, List.mem_singleton] at hb
          subst hb
          rintro rfl
          exact K2 ha
        · rintro (e | e)
          · exact h2.gT.2.1 e
          · have := h2.blk.lt; omega
        · rintro (e | e)
          · exact h2.gT.2.2.2.1 e
          · omega
        · rintro i ((e | e) | (e | e))
          · have := uT i e; omega
          · omega
          · have := uV i e; omega
          · omega
        · unfold putE
          rw [← HL.out, E2.out, if_neg hr0, List.map_append]
          rfl
        · rintro i (e | e)
          · exact .inl e
          · right; omega
        · rintro i (e | e)
          · exact .inl e
          · right; omega
      · have hfb : ((ns1.length : Int) == room) = false := by rw [beq_eq_false_iff_ne]; exact hfull
        have E2 : Hid ((if room ≤ L.length then L.drop 1 else L) = ns1.map (·.e)) := by
          refine Lib.hid ?_
          rw [← E1.out, if_neg (by rw [List.length_map]; omega)]
        clear hfull
        go_wp2
        go_region_held3 (fun w' => w'.cell? ⟨g, 0, none⟩ = some (.int .i64 room) ∧ w'.cell? ⟨g, 1, none⟩ = some (.map (some bm)) ∧
            (Builtin.len_ #[89] 3 #[.map (some bm)]).run Try.prog w' = .ok (.int .i64 ns1.length) w')
          (first | exact ⟨d0, d1, hlen.out _ (by exact h1.map)⟩ | go_keep) (fail)
        obtain ⟨w2, hw2⟩ : ∃ w2, w2 = w1.drew := ⟨_, rfl⟩
        have h2 : CacheW w2 T V g bm r room ns1 nw1 od1 m1 := by rw [hw2]; exact h1.dr 1
        have ba2 : Blk w2 (w.heap.size + 1) 86 [.int .i64 xl, .int .i64 xp] := by rw [hw2]; exact ba1.drewN 1
        have bw2 : Blk w2 w.heap.size 47 [.int .i64 ph, .slice A l.length c, .int .i64 r0, .int .i64 r1, .int .i64 r2, .int .i64 r3, .int .i64 r4] := by rw [hw2]; exact bw1.drewN 1
        have hx2 : Recs (fun i => i < w.heap.size ∧ ¬ T i ∧ i ≠ bm) w2 A 4 (l.map Edge.cells) := by rw [hw2]; exact Recs.upd hx1 ((Upd.refl No _).drewN 1) (fun _ _ => id)
        have uw2 : Upd (fun i => T i ∨ i = bm) w w2 := by rw [hw2]; exact uw1.drewN 1
        simp only [← hw2]
        have K2 := K1
        clear hw2 h1 ba1 bw1 hx1 uw1 d0 d1 d2 hlen K1
        have g1 := h2.blk.cell 1
        have a0 := ba2.cell 0
        have a1 := ba2.cell 1
        have b0 := bw2.cell 0
        have b1 := bw2.cell 1
        have b2 := bw2.cell 2
        have b3 := bw2.cell 3
        have b4 := bw2.cell 4
        have b5 := bw2.cell 5
        have b6 := bw2.cell 6
        simp only [List.getElem?_cons_zero, List.getElem?_cons_succ] at g1 a0 a1 b0 b1 b2 b3 b4 b5 b6
        go_wp2
        go_region_held3 (fun w' => w'.cell? ⟨g, 1, none⟩ = some (.map (some bm)) ∧ w'.cell? ⟨w.heap.size + 1, 0, none⟩ = some (.int .i64 xl) ∧ w'.cell? ⟨w.heap.size + 1, 1, none⟩ = some (.int .i64 xp) ∧
            w'.cell? ⟨w.heap.size, 0, none⟩ = some (.int .i64 ph) ∧ w'.cell? ⟨w.heap.size, 1, none⟩ = some (.slice A l.length c) ∧ w'.cell? ⟨w.heap.size, 2, none⟩ = some (.int .i64 r0) ∧ w'.cell? ⟨w.heap.size, 3, none⟩ = some (.int .i64 r1) ∧
            w'.cell? ⟨w.heap.size, 4, none⟩ = some (.int .i64 r2) ∧ w'.cell? ⟨w.heap.size, 5, none⟩ = some (.int .i64 r3) ∧ w'.cell? ⟨w.heap.size, 6, none⟩ = some (.int .i64 r4))
          (first | exact ⟨g1, a0, a1, b0, b1, b2, b3, b4, b5, b6⟩ | (go_split_ands; refine ⟨?_, ?_, ?_, ?_, ?_, ?_, ?_, ?_, ?_, ?_⟩ <;> first | assumption | (exact hu3.keep (by assumption) id) | (exact ((Upd.refl No _).alloc _).keep (by assumption) id) | go_keep))
          ((go_at_call 56; refine (wcopied (fun i => i < w.heap.size ∧ ¬ T i ∧ i ≠ bm) _ A c ⟨ph, l, r0, r1, r2, r3, r4⟩ (by exact hx2) hs).mono ?_; rintro e w3 ⟨A', c', he, hw3, hu3⟩; replace he : e = .returned (.agg #[.int .i64 ph, .slice A' l.length c', .int .i64 r0, .int .i64 r1, .int .i64 r2, .int .i64 r3, .int .i64 r4]) := he; subst he))
        have hu3' : Upd No w2 w3 := hu3.of_drewN
        have hsz3 := hu3'.size
        have hw3' : Walk (fun i => w2.heap.size ≤ i) w3 A' l := hw3
        have h3 := h2.upd hu3' id id (fun _ _ => id) (fun _ _ => id)
        have be4 := Blk.new w3 88 (entv ⟨xl, xp, ⟨ph, l, r0, r1, r2, r3, r4⟩, xh⟩ A' c' (.pointer none) (.pointer none))
        have hu4 := (Upd.refl No w3).alloc (.cells (entv ⟨xl, xp, ⟨ph, l, r0, r1, r2, r3, r4⟩, xh⟩ A' c' (.pointer none) (.pointer none)).toArray 88)
        have h4 := h3.upd hu4 id id (fun _ _ => id) (fun _ _ => id)
        have hw4 := Recs.upd (Recs.lt' hw3') hu4 (fun _ _ => id)
        have ba4 := (ba2.upd hu3' id).upd hu4 id
        have k1 := h4.blk.cell 1
        have ka0 := ba4.cell 0
        have ka1 := ba4.cell 1
        simp only [List.getElem?_cons_zero, List.getElem?_cons_succ] at k1 ka0 ka1
        have hg1 : ¬ One bm g := h2.gT.2.2.2.2
        have hbm2 := h2.map.lt
        have hwz : w.heap.size + 1 < w2.heap.size := ba2.lt
        have hg2 : ¬ One bm (w.heap.size + 1) := fun e => hna (.inr e)
        clear g1 a0 a1 b0 b1 b2 b3 b4 b5 b6
        obtain ⟨w5, hput, hm5, hu5⟩ := run_put kby Try.underlying89 (h4.dr 1).map (xl, xp) (pt w3.heap.size)
        change (Instr.mapUpdate 89 (.map (some bm)) (.agg #[.int .i64 xl, .int .i64 xp]) (pt w3.heap.size)).run Try.prog (w3.alloc (.cells #[.int .i64 xl, .int .i64 xp, .int .i64 ph, .slice A' l.length c', .int .i64 r0, .int .i64 r1, .int .i64 r2, .int .i64 r3, .int .i64 r4, .bool xh, .pointer none, .pointer none] 88)).drew = .ok () w5 at hput
        replace hu5 : Upd (One bm) (w3.alloc (.cells #[.int .i64 xl, .int .i64 xp, .int .i64 ph, .slice A' l.length c', .int .i64 r0, .int .i64 r1, .int .i64 r2, .int .i64 r3, .int .i64 r4, .bool xh, .pointer none, .pointer none] 88)).drew w5 := hu5
        go_wp2
        go_region_held3 (fun w' => w'.cell? ⟨g, 1, none⟩ = some (.map (some bm)) ∧ w'.cell? ⟨w.heap.size + 1, 0, none⟩ = some (.int .i64 xl) ∧ w'.cell? ⟨w.heap.size + 1, 1, none⟩ = some (.int .i64 xp))
          (first | exact ⟨k1, ka0, ka1⟩ | (go_split_ands; refine ⟨?_, ?_, ?_⟩ <;> first | assumption | (exact hu5.keep (by assumption) (by assumption)) | go_keep))
          (fail)
        have hu5' : Upd (One bm) (w3.alloc (.cells (entv ⟨xl, xp, ⟨ph, l, r0, r1, r2, r3, r4⟩, xh⟩ A' c' (.pointer none) (.pointer none)).toArray 88)) w5 := hu5.of_drew
        have uT : ∀ i, T i → i < w2.heap.size := fun i hi => h2.lt i (.inl hi)
        have uV : ∀ i, V i → i < w2.heap.size := fun i hi => h2.lt i (.inr hi)
        have hR : Ring w5 (fun i => T i ∨ i = w3.heap.size) (fun i => V i ∨ (w2.heap.size ≤ i ∧ i < w3.heap.size)) r ns1 nw1 od1 := by
          refine (h4.ring.upd hu5' (fun i hi e => h2.gT.2.2.1 ?_) (fun i hi e => h2.gT.2.2.2.1 ?_)).more (fun i hi => .inl hi) (fun i hi => .inl hi) ?_
          · rw [← show i = bm from e]; exact hi
          · rw [← show i = bm from e]; exact hi
          · rintro i (hi | hi) (hv | hv)
            · exact h2.ring.apart i hi hv
            · have := uT i hi; omega
            · have := uV i hv; omega
            · omega
        have hne5 : ∀ i, w2.heap.size ≤ i → ¬ One bm i := fun i hi e => by
          have e : i = bm := e
          omega
        have hn5 : Blk w5 w3.heap.size 88 (entv ⟨xl, xp, ⟨ph, l, r0, r1, r2, r3, r4⟩, xh⟩ A' c' (.pointer none) (.pointer none)) := be4.upd hu5' (hne5 _ hsz3)
        have hw5 : Walk (fun i => V i ∨ (w2.heap.size ≤ i ∧ i < w3.heap.size)) w5 A' l := Recs.weak (Recs.upd hw4 hu5' (fun i hi => hne5 i hi.2)) (fun i _ hi => .inr ⟨hi.2, hi.1⟩)
        have hnew5 : w3.heap.size ∉ r :: ns1.map (·.b) := fun hm => by
          have := uT _ (h2.ring.inT _ hm)
          omega
        have hTg : ¬ (T g ∨ g = w3.heap.size) := by
          rintro (e | e)
          · exact h2.gT.1 e
          · have := h2.blk.lt; omega
        have hTb : ¬ (T bm ∨ bm = w3.heap.size) := by
          rintro (e | e)
          · exact h2.gT.2.2.1 e
          · omega
        go_wp2_with fail
        refine (rin w5 (fun i => T i ∨ i = w3.heap.size) (fun i => V i ∨ (w2.heap.size ≤ i ∧ i < w3.heap.size)) g r (.int .i64 room) (.map (some bm)) ns1 ⟨w3.heap.size, ⟨xl, xp, ⟨ph, l, r0, r1, r2, r3, r4⟩, xh⟩, A', c'⟩ (.pointer none) (.pointer none) nw1 od1 hR (h4.blk.upd hu5' hg1) ⟨hn5, hw5, hs⟩ (.inr rfl) hnew5 hTg).mono ?_
        rintro e w6 ⟨rfl, hr6, hu6⟩
        have uw6 : Upd (fun i => T i ∨ i = bm) w w6 := ((((uw2.trans (hu3'.mono (fun i _ h => h.elim))).trans (hu4.mono (fun i _ h => h.elim))).trans (hu5'.mono (fun i _ h => .inr h)))).then_ hu6 (fun i e => by
          rcases e with e | e
          · exact .inl (.inl e)
          · right; omega)
        have hsz6 := uw6.size
        have hs56 := hu6.size
        have hs45 := hu5'.size
        simp only [World.size_alloc] at hs45
        go_wp2
        refine bodyPost_end (results_none rfl _ _ _) rfl ⟨rfl, fun i => T i ∨ i = w3.heap.size, fun i => V i ∨ (w2.heap.size ≤ i ∧ i < w3.heap.size), ns1 ++ [⟨w3.heap.size, ⟨xl, xp, ⟨ph, l, r0, r1, r2, r3, r4⟩, xh⟩, A', c'⟩], _, _, _,
          ⟨(h4.blk.upd hu5' hg1).upd hu6 hTg, hm5.upd hu6 hTb, ?_, ?_, hr6, ⟨hTg, ?_, hTb, ?_, h2.gT.2.2.2.2⟩, ?_⟩, ?_, ?_, ?_, uw6⟩
        · rw [List.map_append]
          exact mput_new h2.perm (by rw [keys_fst]; exact K2)
        · rw [List.map_append, List.nodup_append]
          refine ⟨h2.keys, by simp, ?_⟩
          intro a ha b hb
          simp only [List.map_cons, List.map_nil, List.mem_singleton] at hb
          subst hb
          rintro rfl
          exact K2 ha
        · rintro (e | e)
          · exact h2.gT.2.1 e
          · have := h2.blk.lt; omega
        · rintro (e | e)
          · exact h2.gT.2.2.2.1 e
          · omega
        · rintro i ((e | e) | (e | e))
          · have := uT i e; omega
          · omega
          · have := uV i e; omega
          · omega
        · unfold putE
          rw [← HL.out, E2.out, if_neg hr0, List.map_append]
          rfl
        · rintro i (e | e)
          · exact .inl e
          · right; omega
        · rintro i (e | e)
          · exact .inl e
          · right; omega
end Go.Proofs.Ytpiigfbdgmjidaa
