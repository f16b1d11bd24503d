/- Caches: an entry is dropped; a cache is made; how many entries there are, and the oldest one. -/
import Derived.Test.YtpiigfbdgmjidaaProg
import Derived.Test.YtpiigfbdgmjidaaCacheE
import Derived.Deep.RegionHeld3
namespace Go.Proofs.Ytpiigfbdgmjidaa
set_option linter.unusedVariables false
open Go.RowKit

/-- a cache in memory -/
structure CacheW (w : World) (T V : Nat → Prop) (g bm r : Nat) (room : Int) (ns : List Node) (nw od : Nat → Nat) (m : List ((Int × Int) × Value)) : Prop where
  blk : Blk w g 91 [.int .i64 room, .map (some bm), pt r]
  map : MapIs w bm kenc m
  perm : m.Perm (ns.map fun n => (n.e.key, pt n.b))
  keys : (ns.map fun n => n.e.key).Nodup
  ring : Ring w T V r ns nw od
  gT : ¬ T g ∧ ¬ V g ∧ ¬ T bm ∧ ¬ V bm ∧ g ≠ bm
  lt : ∀ i, T i ∨ V i → i < w.heap.size
theorem kby : KeyBy Try.prog 86 kenc := KeyBy.arr2 Try.underlying86 Try.underlying3 (by kernel_rfl)
theorem CacheW.upd {w w' : World} {S T V : Nat → Prop} {g bm r : Nat} {room : Int} {ns : List Node} {nw od : Nat → Nat} {m : List ((Int × Int) × Value)} (h : CacheW w T V g bm r room ns nw od m) (k : Upd S w w')
    (h0 : ¬ S g) (h1 : ¬ S bm) (h2 : ∀ i, T i → ¬ S i) (h3 : ∀ i, V i → ¬ S i) : CacheW w' T V g bm r room ns nw od m :=
  ⟨h.blk.upd k h0, h.map.upd k h1, h.perm, h.keys, h.ring.upd k h2 h3, h.gT, fun i hi => Nat.lt_of_lt_of_le (h.lt i hi) k.size⟩
theorem keys_fst (ns : List Node) : (ns.map fun n => (n.e.key, pt n.b)).map (·.1) = ns.map fun n => n.e.key := by
  rw [List.map_map]; rfl

theorem cdrop (w : World) (T V : Nat → Prop) (g bm r : Nat) (room : Int) (as_ bs : List Node) (n : Node) (nw od : Nat → Nat) (m : List ((Int × Int) × Value)) (h : CacheW w T V g bm r room (as_ ++ n :: bs) nw od m) :
    Calls Try.prog 55 #[pt g, pt n.b] w fun en w' => en = .returned (.tuple #[]) ∧
      CacheW w' T V g bm r room (as_ ++ bs) (upd1 nw (od n.b) (nw n.b)) (upd1 od (nw n.b) (od n.b)) (mdel m n.e.key) ∧ Upd (fun i => T i ∨ i = bm) w w' := by
  go_enter Try.func55, Try.ntmps55
  go_wp2_with fail
  refine (rout w T V r as_ bs n nw od h.ring).mono ?_
  rintro e w1 ⟨rfl, hr1, hn1, hu1⟩
  have hb1 := h.blk.upd hu1 h.gT.1
  have hm1 := h.map.upd hu1 h.gT.2.2.1
  have c1 := hb1.cell 1
  have d0 := hn1.1.cell 0
  have d1 := hn1.1.cell 1
  simp only [entb, entv, List.getElem?_cons_zero, List.getElem?_cons_succ] at c1 d0 d1
  have hT1 := h.ring.inT n.b (List.mem_cons_of_mem _ (List.mem_map_of_mem (by simp)))
  have hg1 : ¬ One bm g := h.gT.2.2.2.2
  have hg2 : ¬ One bm n.b := fun e => h.gT.2.2.1 (by rw [← show n.b = bm from e]; exact hT1)
  go_wp2
  go_region_held3 (fun w' => w'.cell? ⟨g, 1, none⟩ = some (.map (some bm)) ∧ w'.cell? ⟨n.b, 0, none⟩ = some (.int .i64 n.e.l) ∧ w'.cell? ⟨n.b, 1, none⟩ = some (.int .i64 n.e.p))
    (first | exact ⟨c1, d0, d1⟩ | (go_split_ands; refine ⟨?_, ?_, ?_⟩ <;> first | assumption | (exact hu2.keep (by assumption) (by assumption)) | go_keep))
    ((refine step_mapdel (by rfl) (by rfl) kby Try.underlying89 (a := n.e.key) (by rfl) (by rfl) (by exact hm1) ?_; intro w2 hm2 hu2))
  have hu2' : Upd (One bm) w1 w2 := by first | exact hu2 | exact hu2.of_drewN | exact hu2.of_drew
  have hu : Upd (fun i => T i ∨ i = bm) w w2 := (hu1.mono (fun i _ h => .inl h)).trans (hu2'.mono (fun i _ h => .inr h))
  have hp := h.perm
  have hk := h.keys
  rw [← keys_fst] at hk
  rw [List.map_append, List.map_cons] at hp hk
  refine bodyPost_end (results_none rfl _ _ _) rfl ⟨rfl, ⟨hb1.upd hu2' hg1, hm2, ?_, ?_, hr1.upd hu2' (fun i hi e => ?_) (fun i hi e => ?_), h.gT, fun i hi => Nat.lt_of_lt_of_le (h.lt i hi) hu.size⟩, hu⟩
  · rw [List.map_append]
    exact mdel_perm hp hk
  · have hs : List.Sublist (as_ ++ bs) (as_ ++ n :: bs) := List.Sublist.append (List.Sublist.refl _) (List.sublist_cons_self _ _)
    exact (hs.map _).nodup h.keys
  · have e : i = bm := e
    exact h.gT.2.2.1 (by rw [← e]; exact hi)
  · have e : i = bm := e
    exact h.gT.2.2.2.1 (by rw [← e]; exact hi)

def roomOf (n : Int) : Int := min (max n 0) 65536
def NewCache (w : World) (N : Int) (e : Ending) (w' : World) : Prop :=
  ∃ g bm r, e = .returned (pt g) ∧ w.heap.size ≤ g ∧ w.heap.size ≤ bm ∧ w.heap.size ≤ r ∧ CacheW w' (One r) No g bm r N [] (fun _ => r) (fun _ => r) [] ∧ Upd No w w'
theorem newcache (w : World) (N : Int) : NewCache w N (.returned (pt (w.heap.size + 1 + 1))) (((w.alloc (.cells (entb e0 none 0 w.heap.size w.heap.size).toArray 88)).alloc (.map #[] 0)).alloc (.cells #[.int .i64 N, .map (some (w.heap.size + 1)), pt w.heap.size] 91)) := by
  have b1 : Blk _ w.heap.size 88 (entb e0 none 0 w.heap.size w.heap.size) := Blk.new w 88 (entb e0 none 0 w.heap.size w.heap.size)
  have m1 := MapIs.new (w.alloc (.cells (entb e0 none 0 w.heap.size w.heap.size).toArray 88)) kenc
  have b3 := Blk.new ((w.alloc (.cells (entb e0 none 0 w.heap.size w.heap.size).toArray 88)).alloc (.map #[] 0)) 91 [.int .i64 N, .map (some (w.heap.size + 1)), pt w.heap.size]
  simp only [World.size_alloc] at m1 b3
  refine ⟨_, w.heap.size + 1, w.heap.size, rfl, by omega, by omega, by omega, ⟨b3, m1.upd ((Upd.refl No _).alloc _) id, List.Perm.nil, List.nodup_nil,
    ⟨⟨rfl, rfl⟩, by simp, (b1.alloc _).alloc _, fun n hn => by simp at hn, fun i hi => ?_, fun i _ h => h⟩, ?_, fun i hi => ?_⟩, (((Upd.refl No w).alloc _).alloc _).alloc _⟩
  · simp only [List.map_nil, List.mem_cons, List.not_mem_nil, or_false] at hi
    exact hi
  · refine ⟨fun e => ?_, id, fun e => ?_, id, by omega⟩
    · have e : w.heap.size + 1 + 1 = w.heap.size := e
      omega
    · have e : w.heap.size + 1 = w.heap.size := e
      omega
  · rcases hi with hi | hi
    · have hi : i = w.heap.size := hi
      simp only [World.size_alloc]
      omega
    · exact hi.elim
theorem cnew (w : World) (room : Int) : Calls Try.prog 22 #[.int .i64 room] w (NewCache w (roomOf room)) := by
  have hmm := @run_makeMap Try.prog
  unfold roomOf
  go_enter Try.func22, Try.ntmps22
  go_wp2
  all_goals
    go_ret
  · rw [show min (max room 0) 65536 = 0 by omega]
    exact newcache w 0
  · rw [show min (max room 0) 65536 = 65536 by omega]
    exact newcache w 65536
  · rw [show min (max room 0) 65536 = room by omega]
    exact newcache w room
theorem clen_nil (w : World) : Calls Try.prog 33 #[.pointer none] w fun e w' => e = .returned (.int .i64 0) ∧ w = w' := by
  go_enter Try.func33, Try.ntmps33
  go_wp2
  go_ret
  exact ⟨rfl, rfl⟩
theorem clen (w : World) (T V : Nat → Prop) (g bm r : Nat) (room : Int) (ns : List Node) (nw od : Nat → Nat) (m : List ((Int × Int) × Value)) (h : CacheW w T V g bm r room ns nw od m) :
    Calls Try.prog 33 #[pt g] w fun e w' => e = .returned (.int .i64 ns.length) ∧ w = w' := by
  have c1 := h.blk.cell 1
  simp only [List.getElem?_cons_zero, List.getElem?_cons_succ] at c1
  have hl : m.length = ns.length := by have := h.perm.length_eq; simpa using this
  have hr := fun ty => run_mlen (P := Try.prog) Try.underlying89 h.map ty
  rw [hl] at hr
  have Hl := Lib.hid hl
  clear hl
  go_enter Try.func33, Try.ntmps33
  go_wp2
  go_ret
  exact ⟨rfl, rfl⟩
theorem coldest_nil (w : World) : Calls Try.prog 32 #[.pointer none] w fun e w' => e = .returned (.tuple #[.int .i64 0, .int .i64 0, .bool false]) ∧ w = w' := by
  go_enter Try.func32, Try.ntmps32
  go_wp2_with fail
  refine (clen_nil _).mono ?_
  rintro e w' ⟨rfl, rfl⟩
  go_wp2
  go_ret3
  exact ⟨rfl, rfl⟩
theorem coldest_none (w : World) (T V : Nat → Prop) (g bm r : Nat) (room : Int) (nw od : Nat → Nat) (m : List ((Int × Int) × Value)) (h : CacheW w T V g bm r room [] nw od m) :
    Calls Try.prog 32 #[pt g] w fun e w' => e = .returned (.tuple #[.int .i64 0, .int .i64 0, .bool false]) ∧ w = w' := by
  go_enter Try.func32, Try.ntmps32
  go_wp2_with fail
  refine (clen _ T V g bm r room [] nw od m h).mono ?_
  rintro e w' ⟨he, rfl⟩
  replace he : e = .returned (.int .i64 0) := he
  subst he
  go_wp2
  go_ret3
  exact ⟨rfl, rfl⟩
theorem coldest (w : World) (T V : Nat → Prop) (g bm r : Nat) (room : Int) (n : Node) (ns : List Node) (nw od : Nat → Nat) (m : List ((Int × Int) × Value)) (h : CacheW w T V g bm r room (n :: ns) nw od m) :
    Calls Try.prog 32 #[pt g] w fun e w' => e = .returned (.tuple #[.int .i64 n.e.l, .int .i64 n.e.p, .bool true]) ∧ Upd No w w' := by
  have hz : ((((n :: ns).length : Nat) : Int) == 0) = false := by rw [beq_eq_false_iff_ne, List.length_cons]; omega
  have c2 := h.blk.cell 2
  have hc : nw r = n.b := h.ring.chain.1
  have c4 := h.ring.root.cell 11
  have d0 := (h.ring.at_ n (List.mem_cons_self ..)).1.cell 0
  have d1 := (h.ring.at_ n (List.mem_cons_self ..)).1.cell 1
  rw [hc] at c4
  simp only [entb, entv, List.getElem?_cons_zero, List.getElem?_cons_succ] at c2 c4 d0 d1
  clear hc
  go_enter Try.func32, Try.ntmps32
  go_wp2_with fail
  refine (clen _ T V g bm r room (n :: ns) nw od m h).mono ?_
  rintro e w' ⟨rfl, rfl⟩
  go_wp2
  go_quiet (fail)
  go_wp2
  go_ret3
  exact ⟨rfl, ((Upd.refl _ _).alloc _).drewN _⟩
end Go.Proofs.Ytpiigfbdgmjidaa
