/- The search that goes wide, plain: what it comes to. -/
import Derived.WalkKit
import Derived.Test.YtmnhgdedkniafaaProg
import Derived.Deep.RegionHeld3
import Derived.Deep.AppendLies
import Derived.Test.YtmnhgdedkniafaaMao
namespace Go.Proofs.Ytmnhgdedkniafaa
set_option linter.unusedVariables false
def updF {α : Type} [DecidableEq α] (d : α → Int) (u : α) (v : Int) : α → Int := fun x => if x = u then v else d x
section
variable {α : Type} [DecidableEq α]
theorem updF_eq (d : α → Int) (u : α) (v : Int) : updF d u v u = v := if_pos rfl
theorem updF_ne (d : α → Int) {u x : α} (v : Int) (h : x ≠ u) : updF d u v x = d x := if_neg h
def relaxA (ok : α → Bool) (dx : Int) : List α → (α → Int) × List α → (α → Int) × List α
  | [], s => s
  | u :: us, s => relaxA ok dx us (if (ok u && decide (s.1 u < 0)) = true then (updF s.1 u (dx + 1), s.2 ++ [u]) else s)
def bfsA (ok : α → Bool) (ps : α → List α) : Nat → (α → Int) × List α → (α → Int)
  | 0, s => s.1
  | f + 1, s => match s.2 with
    | [] => s.1
    | x :: qu => bfsA ok ps f (relaxA ok (s.1 x) (ps x) (s.1, qu))
theorem relaxA_cons (ok : α → Bool) (dx : Int) (u : α) (us : List α) (d : α → Int) (qu : List α) :
    relaxA ok dx (u :: us) (d, qu) = if (ok u && decide (d u < 0)) = true then relaxA ok dx us (updF d u (dx + 1), qu ++ [u]) else relaxA ok dx us (d, qu) := by
  show relaxA ok dx us _ = _
  split <;> rfl
theorem bfsA_nil (ok : α → Bool) (ps : α → List α) (f : Nat) (d : α → Int) : bfsA ok ps f (d, []) = d := by cases f <;> rfl
theorem bfsA_cons (ok : α → Bool) (ps : α → List α) (f : Nat) (d : α → Int) (x : α) (qu : List α) : bfsA ok ps (f + 1) (d, x :: qu) = bfsA ok ps f (relaxA ok (d x) (ps x) (d, qu)) := rfl
/-- how many are not met -/
def negs (dom : List α) (d : α → Int) : Nat := dom.countP fun u => decide (d u < 0)
theorem negs_out {dom : List α} {d : α → Int} {u : α} {v : Int} (h : u ∉ dom) : negs dom (updF d u v) = negs dom d := by
  unfold negs
  apply List.countP_congr
  intro x hx
  rw [updF_ne _ _ (show x ≠ u from fun e => h (by rw [← e]; exact hx))]
theorem negs_upd {dom : List α} {d : α → Int} {u : α} {v : Int} (hn : dom.Nodup) (hu : u ∈ dom) (hd : d u < 0) (hv : 0 ≤ v) : negs dom (updF d u v) + 1 = negs dom d := by
  induction dom with
  | nil => cases hu
  | cons a l ih =>
    have hn' := List.nodup_cons.1 hn
    by_cases e : a = u
    · subst e
      have h1 := negs_out (d := d) (v := v) hn'.1
      unfold negs at *
      rw [List.countP_cons, List.countP_cons, h1, updF_eq, if_neg (by simpa using hv), if_pos (by simpa using hd)]
    · have h1 := ih hn'.2 ((List.mem_cons.1 hu).resolve_left (fun h => e h.symm))
      unfold negs at *
      rw [List.countP_cons, List.countP_cons, updF_ne _ _ e]
      omega
/-- the room that is left in the queue -/
def Fits (dom : List α) (d : α → Int) (qu : List α) : Prop := negs dom d + qu.length ≤ dom.length
theorem Fits.push {dom : List α} {d : α → Int} {qu : List α} (h : Fits dom d qu) (hn : dom.Nodup) {u : α} (hu : u ∈ dom) (hd : d u < 0) {v : Int} (hv : 0 ≤ v) : Fits dom (updF d u v) (qu ++ [u]) ∧ qu.length < dom.length := by
  have := negs_upd hn hu hd hv
  unfold Fits at *
  rw [List.length_append, List.length_singleton]
  omega
structure BInv (ok : α → Bool) (ps : α → List α) (dom : List α) (root : α) (d : α → Int) (qu : List α) : Prop where
  lo : ∀ u, -1 ≤ d u
  q0 : ∀ u ∈ qu, 0 ≤ d u
  nd : qu.Nodup
  srt : qu.Pairwise fun a b => d a ≤ d b
  top : ∀ u, ∀ a ∈ qu, d u ≤ d a + 1
  clo : ∀ v, 0 ≤ d v → v ∉ qu → ∀ u ∈ ps v, ok u = true → 0 ≤ d u ∧ d u ≤ d v + 1
  par : ∀ u, 0 ≤ d u → u = root ∨ ∃ v, u ∈ ps v ∧ ok u = true ∧ 0 ≤ d v ∧ d v + 1 = d u
  z : ∀ u, d u = 0 ↔ u = root
  dm : ∀ u, 0 ≤ d u → u ∈ dom
  fit : Fits dom d qu
  cap : ∀ u, d u + 1 + (negs dom d : Int) ≤ (dom.length : Int)
structure RInv (ok : α → Bool) (ps : α → List α) (dom : List α) (root x : α) (dx : Int) (p : List α) (d : α → Int) (qu : List α) : Prop where
  lo : ∀ u, -1 ≤ d u
  q0 : ∀ u ∈ qu, 0 ≤ d u
  nd : qu.Nodup
  srt : qu.Pairwise fun a b => d a ≤ d b
  dxe : d x = dx
  dxp : 0 ≤ dx
  xq : x ∉ qu
  topx : ∀ u, d u ≤ dx + 1
  qx : ∀ a ∈ qu, dx ≤ d a
  clo : ∀ v, 0 ≤ d v → v ∉ qu → v ≠ x → ∀ u ∈ ps v, ok u = true → 0 ≤ d u ∧ d u ≤ d v + 1
  clox : ∀ u ∈ p, ok u = true → 0 ≤ d u ∧ d u ≤ dx + 1
  par : ∀ u, 0 ≤ d u → u = root ∨ ∃ v, u ∈ ps v ∧ ok u = true ∧ 0 ≤ d v ∧ d v + 1 = d u
  z : ∀ u, d u = 0 ↔ u = root
  dm : ∀ u, 0 ≤ d u → u ∈ dom
  fit : Fits dom d qu
  cap : ∀ u, d u + 1 + (negs dom d : Int) ≤ (dom.length : Int)
variable {ok : α → Bool} {ps : α → List α} {dom : List α} {root : α}
theorem BInv.start (hr : root ∈ dom) (hn : dom.Nodup) : BInv ok ps dom root (fun u => if u = root then 0 else -1) [root] := by
  refine ⟨fun u => by split <;> omega, fun u hu => by rw [List.mem_singleton] at hu; rw [if_pos hu]; omega, by simp, by simp, fun u a ha => ?_, fun v hv hq => ?_, fun u hu => .inl ?_, fun u => ?_, fun u hu => ?_, ?_, fun u => ?_⟩
  · rw [List.mem_singleton] at ha
    rw [if_pos ha]
    split <;> omega
  · exact absurd (by by_cases e : v = root
                     · exact List.mem_singleton.2 e
                     · rw [if_neg e] at hv; omega) hq
  · by_cases e : u = root
    · exact e
    · rw [if_neg e] at hu; omega
  · constructor
    · intro h
      by_cases e : u = root
      · exact e
      · rw [if_neg e] at h; omega
    · intro h; rw [if_pos h]
  · by_cases e : u = root
    · rw [e]; exact hr
    · rw [if_neg e] at hu; omega
  · unfold Fits
    have h1 := negs_upd (d := fun _ => (-1 : Int)) (v := 0) hn hr (by omega) (by omega)
    have h2 : negs dom (fun _ : α => (-1 : Int)) ≤ dom.length := List.countP_le_length
    have h3 : updF (fun _ : α => (-1 : Int)) root 0 = fun u => if u = root then 0 else -1 := rfl
    rw [h3] at h1
    simp only [List.length_singleton]
    omega
  · have h1 := negs_upd (d := fun _ => (-1 : Int)) (v := 0) hn hr (by omega) (by omega)
    have h2 : negs dom (fun _ : α => (-1 : Int)) ≤ dom.length := List.countP_le_length
    have h3 : updF (fun _ : α => (-1 : Int)) root 0 = fun u => if u = root then 0 else -1 := rfl
    rw [h3] at h1
    split <;> omega
end
theorem BInv.pop {α : Type} {ok : α → Bool} {ps : α → List α} {dom : List α} {root : α} {d : α → Int} {x : α} {qu : List α} (h : BInv ok ps dom root d (x :: qu)) : RInv ok ps dom root x (d x) [] d qu := by
  have hs := List.pairwise_cons.1 h.srt
  have hn := List.nodup_cons.1 h.nd
  exact ⟨h.lo, fun u hu => h.q0 u (List.mem_cons_of_mem _ hu), hn.2, hs.2, rfl, h.q0 x List.mem_cons_self, hn.1, fun u => h.top u x List.mem_cons_self, hs.1,
    fun v hv hq hx => h.clo v hv (fun e => (List.mem_cons.1 e).elim hx hq), fun u hu => (by cases hu), h.par, h.z, h.dm, by have := h.fit; unfold Fits at *; simp only [List.length_cons] at this; omega, h.cap⟩
theorem RInv.skip {α : Type} {ok : α → Bool} {ps : α → List α} {dom : List α} {root : α} {x : α} {dx : Int} {p : List α} {d : α → Int} {qu : List α} {u : α} (h : RInv ok ps dom root x dx p d qu) (hs : ¬ ((ok u && decide (d u < 0)) = true)) : RInv ok ps dom root x dx (p ++ [u]) d qu :=
  { h with
    clox := fun v hv ho => by
      rcases List.mem_append.1 hv with hv | hv
      · exact h.clox v hv ho
      · rw [List.mem_singleton] at hv
        subst hv
        have h1 : ¬ d v < 0 := fun e => hs (by rw [ho, decide_eq_true e]; rfl)
        exact ⟨by omega, h.topx v⟩ }
section
variable {α : Type} [DecidableEq α] {ok : α → Bool} {ps : α → List α} {dom : List α} {root : α}
theorem RInv.done {x : α} {dx : Int} {d : α → Int} {qu : List α} (h : RInv ok ps dom root x dx (ps x) d qu) : BInv ok ps dom root d qu :=
  ⟨h.lo, h.q0, h.nd, h.srt, fun u a ha => by have := h.topx u; have := h.qx a ha; omega,
    fun v hv hq u hu ho => by
      by_cases e : v = x
      · subst e
        rw [h.dxe]
        exact h.clox u hu ho
      · exact h.clo v hv hq e u hu ho, h.par, h.z, h.dm, h.fit, h.cap⟩
theorem RInv.push (hn : dom.Nodup) (hc : ∀ v ∈ dom, ∀ u ∈ ps v, ok u = true → u ∈ dom) {x : α} {dx : Int} {p : List α} {d : α → Int} {qu : List α} {u : α} (h : RInv ok ps dom root x dx p d qu) (hup : u ∈ ps x) (hs : (ok u && decide (d u < 0)) = true) :
    RInv ok ps dom root x dx (p ++ [u]) (updF d u (dx + 1)) (qu ++ [u]) := by
  rw [Bool.and_eq_true, decide_eq_true_eq] at hs
  obtain ⟨ho, hd⟩ := hs
  have hux : x ≠ u := fun e => by have := h.dxe; have := h.dxp; subst e; omega
  have huq : u ∉ qu := fun e => by have := h.q0 u e; omega
  have hxd : x ∈ dom := h.dm x (by have := h.dxe; have := h.dxp; omega)
  have hud : u ∈ dom := hc x hxd u hup ho
  have hdx0 := h.dxp
  have ge : ∀ v, 0 ≤ d v → v ≠ u := fun v hv e => by subst e; omega
  constructor
  case lo =>
    intro v
    unfold updF
    split
    · omega
    · exact h.lo v
  case q0 =>
    intro v hv
    rcases List.mem_append.1 hv with hv | hv
    · rw [updF_ne _ _ (ge v (h.q0 v hv))]; exact h.q0 v hv
    · rw [List.mem_singleton] at hv; subst hv; rw [updF_eq]; omega
  case nd =>
    rw [List.nodup_append]
    exact ⟨h.nd, by simp, fun a ha b hb e => by rw [List.mem_singleton] at hb; subst hb; subst e; exact huq ha⟩
  case srt =>
    rw [List.pairwise_append]
    refine ⟨h.srt.imp_of_mem fun {a b} ha hb hab => ?_, by simp, fun a ha b hb => ?_⟩
    · rw [updF_ne _ _ (ge a (h.q0 a ha)), updF_ne _ _ (ge b (h.q0 b hb))]; exact hab
    · rw [List.mem_singleton] at hb
      subst hb
      rw [updF_eq, updF_ne _ _ (ge a (h.q0 a ha))]
      exact h.topx a
  case dxe => rw [updF_ne _ _ hux]; exact h.dxe
  case dxp => exact h.dxp
  case xq =>
    intro hx
    rcases List.mem_append.1 hx with hx | hx
    · exact h.xq hx
    · rw [List.mem_singleton] at hx; exact hux hx
  case topx =>
    intro v
    unfold updF
    split
    · omega
    · exact h.topx v
  case qx =>
    intro v hv
    rcases List.mem_append.1 hv with hv | hv
    · rw [updF_ne _ _ (ge v (h.q0 v hv))]; exact h.qx v hv
    · rw [List.mem_singleton] at hv; subst hv; rw [updF_eq]; omega
  case clo =>
    intro v hv hq hvx y hy hoy
    have hvu : v ≠ u := fun e => hq (List.mem_append_right _ (List.mem_singleton.2 e))
    rw [updF_ne _ _ hvu] at hv ⊢
    have := h.clo v hv (fun e => hq (List.mem_append_left _ e)) hvx y hy hoy
    rw [updF_ne _ _ (ge y this.1)]
    exact this
  case clox =>
    intro y hy hoy
    rcases List.mem_append.1 hy with hy | hy
    · have := h.clox y hy hoy
      rw [updF_ne _ _ (ge y this.1)]
      exact this
    · rw [List.mem_singleton] at hy
      subst hy
      rw [updF_eq]
      omega
  case par =>
    intro v hv
    by_cases e : v = u
    · subst e
      refine .inr ⟨x, hup, ho, ?_, ?_⟩
      · rw [updF_ne _ _ hux, h.dxe]; exact h.dxp
      · rw [updF_ne _ _ hux, updF_eq, h.dxe]
    · rw [updF_ne _ _ e] at hv
      rcases h.par v hv with h1 | ⟨y, h1, h2, h3, h4⟩
      · exact .inl h1
      · exact .inr ⟨y, h1, h2, by rw [updF_ne _ _ (ge y h3)]; exact h3, by rw [updF_ne _ _ (ge y h3), updF_ne _ _ e]; exact h4⟩
  case z =>
    intro v
    by_cases e : v = u
    · subst e
      rw [updF_eq]
      constructor
      · intro h1; omega
      · intro h1
        have := (h.z v).2 h1
        omega
    · rw [updF_ne _ _ e]; exact h.z v
  case dm =>
    intro v hv
    by_cases e : v = u
    · rw [e]; exact hud
    · rw [updF_ne _ _ e] at hv; exact h.dm v hv
  case fit => exact (h.fit.push hn hud hd (by omega)).1
  case cap =>
    intro v
    have h1 := negs_upd (v := dx + 1) hn hud hd (by omega)
    by_cases e : v = u
    · subst e
      rw [updF_eq]
      have := h.cap x
      rw [h.dxe] at this
      omega
    · rw [updF_ne _ _ e]
      have := h.cap v
      omega
theorem RInv.all (hn : dom.Nodup) (hc : ∀ v ∈ dom, ∀ u ∈ ps v, ok u = true → u ∈ dom) {x : α} {dx : Int} : ∀ (l p : List α) (d : α → Int) (qu : List α), p ++ l = ps x → RInv ok ps dom root x dx p d qu →
    RInv ok ps dom root x dx (ps x) (relaxA ok dx l (d, qu)).1 (relaxA ok dx l (d, qu)).2
  | [], p, d, qu, hp, h => by
    rw [List.append_nil] at hp
    subst hp
    exact h
  | u :: l, p, d, qu, hp, h => by
    have hp2 : (p ++ [u]) ++ l = ps x := by rw [← hp]; simp
    rw [relaxA_cons]
    by_cases hs : (ok u && decide (d u < 0)) = true
    · rw [if_pos hs]
      exact RInv.all hn hc l (p ++ [u]) _ _ hp2 (h.push hn hc (by rw [← hp]; simp) hs)
    · rw [if_neg hs]
      exact RInv.all hn hc l (p ++ [u]) _ _ hp2 (h.skip hs)
/-- the end of the search -/
theorem bfsA_end (hn : dom.Nodup) (hc : ∀ v ∈ dom, ∀ u ∈ ps v, ok u = true → u ∈ dom) : ∀ (f : Nat) (d : α → Int) (qu : List α), BInv ok ps dom root d qu → negs dom d + qu.length ≤ f → BInv ok ps dom root (bfsA ok ps f (d, qu)) []
  | 0, d, qu, h, hf => by
    have : qu = [] := List.eq_nil_of_length_eq_zero (by omega)
    subst this
    exact h
  | f + 1, d, [], h, hf => h
  | f + 1, d, x :: qu, h, hf => by
    rw [bfsA_cons]
    have h1 := RInv.all hn hc (ps x) [] d qu (by simp) h.pop
    refine bfsA_end hn hc f _ _ h1.done ?_
    have hm : ∀ (l : List α) (d' : α → Int) (q' : List α), (∀ u ∈ l, ok u = true → u ∈ dom) → 0 ≤ d x → negs dom (relaxA ok (d x) l (d', q')).1 + (relaxA ok (d x) l (d', q')).2.length = negs dom d' + q'.length := by
      intro l
      induction l with
      | nil => intro d' q' _ _; rfl
      | cons u l ih =>
        intro d' q' hl h0
        rw [relaxA_cons]
        by_cases hs : (ok u && decide (d' u < 0)) = true
        · rw [if_pos hs, ih _ _ (fun v hv => hl v (List.mem_cons_of_mem _ hv)) h0]
          rw [Bool.and_eq_true, decide_eq_true_eq] at hs
          have := negs_upd (v := d x + 1) hn (hl u List.mem_cons_self hs.1) hs.2 (by omega)
          rw [List.length_append, List.length_singleton]
          omega
        · rw [if_neg hs, ih _ _ (fun v hv => hl v (List.mem_cons_of_mem _ hv)) h0]
    have h0 : 0 ≤ d x := h.q0 x List.mem_cons_self
    rw [hm _ _ _ (fun u hu ho => hc x (h.dm x h0) u hu ho) h0]
    simp only [List.length_cons] at hf
    omega
end
end Go.Proofs.Ytmnhgdedkniafaa

/- Queues and stacks: what they are in memory, and walks of the calls that only look. -/
namespace Go.Proofs.Ytmnhgdedkniafaa
set_option linter.unusedVariables false
open Go.RowKit
theorem STint : SlT Try.prog 50 3 1 8 := SlT.mk_ Try.underlying50 (z := .int .i64 0) (by kernel_rfl) rfl (by omega)

/-- a ring of so many places, a power of two or none -/
def Pow (n : Nat) : Prop := n = 0 ∨ ∃ k, n = 2 ^ k
/-- where the number i stands -/
def spot (from_ i n : Nat) : Nat := (from_ + i) % n

/-- how long a full ring becomes -/
def grow (n : Nat) : Nat := if n = 0 then 1 else 2 * n
theorem grow_int (n : Nat) : (if 1 < (n : Int) * 2 then (n : Int) * 2 else 1) = ((grow n : Nat) : Int) := by
  unfold grow
  split <;> split <;> omega
theorem grow_le (n : Nat) : 1 ≤ grow n ∧ grow n ≤ 2 * n + 1 ∧ n < grow n := by unfold grow; split <;> omega
theorem grow_pow {n : Nat} (h : Pow n) : ∃ k, grow n = 2 ^ k := by
  unfold grow
  rcases h with rfl | ⟨k, rfl⟩
  · exact ⟨0, by simp⟩
  · exact ⟨k + 1, by have := Nat.one_le_two_pow (n := k); rw [if_neg (by omega), Nat.pow_succ]; omega⟩

theorem place_any (w : World) (g : Nat) (A : Option Addr) (n c k : Nat) (room cnt : Value) (fr : Nat) (i : Int) (hb : Blk w g 235 [room, .slice A n c, .int .u64 fr, cnt])
    (hn : n = 2 ^ k) (hs : n ≤ 1048576) (hi : 0 ≤ i) (hi2 : i ≤ 1048576) (hf : fr ≤ 1048576) :
    Calls Try.prog 172 #[.pointer (some ⟨g, 0, none⟩), .int .i64 i] w fun e w' => e = .returned (.int .u64 (spot fr i.toNat n : Nat)) ∧ ∃ q, w' = w.drewN q := by
  have c1 := hb.cell 1
  have c2 := hb.cell 2
  simp only [List.getElem?_cons_zero, List.getElem?_cons_succ] at c1 c2
  have hn0 : 1 ≤ n := by rw [hn]; exact Nat.one_le_two_pow
  obtain ⟨j, rfl⟩ := Int.eq_ofNat_of_zero_le hi
  have hbits : bits .and .u64 ((fr : Int) + j) ((n : Int) - 1) = ((spot fr j n : Nat) : Int) := by
    have h1 := u64_and_nat (fr + j) (n - 1) (by omega) (by omega)
    rw [show ((fr : Int) + j) = ((fr + j : Nat) : Int) by omega, show ((n : Int) - 1) = ((n - 1 : Nat) : Int) by omega, h1]
    unfold spot
    rw [hn, Nat.and_two_pow_sub_one_eq_mod]
  have Hb := Lib.hid hbits
  have Hn := Lib.hid hn
  clear hbits hn
  go_enter Try.func172, Try.ntmps172
  go_wp2
  go_quiet (fail)
  go_wp2
  go_ret
  exact ⟨by rw [Hb.out]; rfl, _, rfl⟩

def Que (w : World) (F : Nat → Prop) (g : Nat) (room : Int) (xs : List Int) : Prop :=
  ∃ (v : Value) (n : Nat) (ring : List Int) (fr : Nat), F g ∧ (∀ k, v.ownBlock = some k → F k ∧ k ≠ g) ∧ (∀ k, F k → k < w.heap.size) ∧
    Blk w g 235 [.int .i64 room, v, .int .u64 ((fr : Nat) : Int), .int .i64 xs.length] ∧ w.ownsRow 0 3 1 v n (ring.map (Value.int .i64)) ∧
    Pow n ∧ n ≤ 131072 ∧ fr ≤ n ∧ xs.length ≤ n ∧ ∀ i v, xs[i]? = some v → ring[spot fr i n]? = some v
namespace Que
variable {w w' : World} {F S : Nat → Prop} {g : Nat} {room : Int} {xs : List Int}
theorem upd (h : Que w F g room xs) (k : Upd S w w') (hn : ∀ i, F i → ¬ S i) : Que w' F g room xs := by
  obtain ⟨v, n, ring, fr, h1, h2, h3, h4, h5, h6⟩ := h
  exact ⟨v, n, ring, fr, h1, h2, fun i hi => Nat.lt_of_lt_of_le (h3 i hi) k.size, h4.upd k (hn _ h1), own_upd h5 k (fun i hi => hn _ (h2 i hi).1), h6⟩
theorem lt (h : Que w F g room xs) : ∀ i, F i → i < w.heap.size := by
  obtain ⟨v, n, ring, fr, h1, h2, h3, _⟩ := h
  exact h3
end Que

theorem spot_ne {fr i j n : Nat} (hij : i < j) (hj : j < n) : spot fr i n ≠ spot fr j n := fun e => by
  unfold spot at e
  have h := Nat.sub_mod_eq_zero_of_mod_eq e.symm
  rw [show fr + j - (fr + i) = j - i by omega, Nat.mod_eq_of_lt (by omega)] at h
  omega
theorem spot_lt {fr i n : Nat} (h : 0 < n) : spot fr i n < n := Nat.mod_lt _ h
theorem made_zero (n : Nat) : (madeCells #[Value.int .i64 0] n).toList = (List.replicate n (0 : Int)).map (Value.int .i64) := by
  apply List.ext_getElem
  · simp [madeCells]
  · intro i h1 h2
    simp [madeCells, Nat.mod_one]

/-- a number put behind, in the ring and in the count -/
theorem que_put {W : World} {F : Nat → Prop} {g gl n c fr : Nat} {room : Int} {xs ring : List Int} (x : Int)
    (hb : Blk W g 235 [.int .i64 room, .slice (some ⟨gl, 0, none⟩) n c, .int .u64 ((fr : Nat) : Int), .int .i64 xs.length])
    (ho : W.ownsRow 0 3 1 (.slice (some ⟨gl, 0, none⟩) n c) n (ring.map (Value.int .i64))) (hne : gl ≠ g) (hF : F g) (hF2 : F gl) (hF3 : ∀ k, F k → k < W.heap.size)
    (hp : Pow n) (hn : n ≤ 131072) (hfr : fr ≤ n) (hl : xs.length < n) (hr : ∀ i v, xs[i]? = some v → ring[spot fr i n]? = some v) :
    Que ((W.setCell ⟨gl, spot fr xs.length n, none⟩ (.int .i64 x)).setCell ⟨g, 3, none⟩ (.int .i64 ((xs.length : Int) + 1))) F g room (xs ++ [x]) := by
  have hrl : ring.length = n := by have := ho.1; simpa using this
  have hsl : spot fr xs.length n < n := spot_lt (by omega)
  have ho2 := (ho.stored (spot fr xs.length n) (.int .i64 x)).1
  have ho3 := own_upd ho2 (((Upd.refl (One g) _).setOne 3 (.int .i64 ((xs.length : Int) + 1)))) (fun i hi e => by
    have e1 : gl = i := by simpa [Value.ownBlock] using hi
    have e2 : i = g := e
    omega)
  refine ⟨.slice (some ⟨gl, 0, none⟩) n c, n, ring.set (spot fr xs.length n) x, fr, hF, ?_, ?_, ?_, ?_, hp, hn, hfr, by simp; omega, ?_⟩
  · intro k hk
    have e1 : gl = k := by simpa [Value.ownBlock] using hk
    exact ⟨e1 ▸ hF2, by omega⟩
  · intro k hk; simpa [World.setCell] using hF3 k hk
  · have := (hb.far (p := ⟨gl, spot fr xs.length n, none⟩) (Ne.symm hne) (.int .i64 x)).set_ 3 (.int .i64 ((xs.length : Int) + 1))
    simpa using this
  · rw [List.map_set]; exact ho3
  · intro i v hi
    rw [List.getElem?_append] at hi
    split at hi
    · rename_i hil
      rw [List.getElem?_set_ne (Ne.symm (spot_ne hil hl))]
      exact hr i v hi
    · have hi0 : i = xs.length := by
        have := (List.getElem?_eq_some_iff.1 hi).1
        simp at this
        omega
      subst hi0
      simp at hi
      subst hi
      rw [List.getElem?_set_self (by omega)]

theorem qlen (w : World) (F : Nat → Prop) (g : Nat) (room : Int) (xs : List Int) (h : Que w F g room xs) :
    Calls Try.prog 213 #[.pointer (some ⟨g, 0, none⟩)] w fun e w' => e = .returned (.int .i64 xs.length) ∧ w = w' := by
  obtain ⟨v, n, ring, fr, h1, h2, h3, h4, h5, h6⟩ := h
  have c3 := h4.cell 3
  simp only [List.getElem?_cons_zero, List.getElem?_cons_succ] at c3
  clear h2 h3 h6
  go_enter Try.func213, Try.ntmps213
  go_wp2
  go_ret
  exact ⟨rfl, rfl⟩
theorem qroom (w : World) (F : Nat → Prop) (g : Nat) (room : Int) (xs : List Int) (h : Que w F g room xs) (hr : 0 ≤ room) (hr2 : room ≤ 65536) :
    Calls Try.prog 170 #[.pointer (some ⟨g, 0, none⟩)] w fun e w' => e = .returned (.int .i64 (room - xs.length)) ∧ ∃ q, w' = w.drewN q := by
  obtain ⟨v, n, ring, fr, h1, h2, h3, h4, h5, h6, h7, h8, h9, _⟩ := h
  have c3 := h4.cell 3
  have c0 := h4.cell 0
  simp only [List.getElem?_cons_zero, List.getElem?_cons_succ] at c3 c0
  clear h2 h3 h6
  go_enter Try.func170, Try.ntmps170
  go_wp2
  go_quiet (fail)
  go_wp2
  go_ret
  exact ⟨rfl, _, rfl⟩
set_option maxHeartbeats 1000000 in
set_option maxRecDepth 100000 in
theorem qlist (w : World) (F : Nat → Prop) (g : Nat) (room : Int) (xs : List Int) (h : Que w F g room xs) :
    Calls Try.prog 171 #[.pointer (some ⟨g, 0, none⟩)] w fun e w' => ∃ A c, e = .returned (.slice A xs.length c) ∧ Ints (fun i => w.heap.size ≤ i) w' A xs ∧ Upd No w w' := by
  go_enter Try.func171, Try.ntmps171
  go_wp2_with fail
  refine (qlen _ F _ _ _ h).mono ?_
  rintro e w' ⟨rfl, rfl⟩
  go_wp2
  have hlen : xs.length ≤ 131072 := by obtain ⟨v, n, ring, fr, _, _, _, _, _, _, h7, _, h9, _⟩ := h; omega
  go_loopg [3, 4, 7] xs.length (fun gk l j i wr => ∃ k : Nat, k + gk = xs.length ∧ i = .int .i64 k ∧ wr.ownsRow w.heap.size 3 1 l k ((xs.take k).map (Value.int .i64)) ∧ Upd No w wr)
  case atStart => exact ⟨0, by omega, rfl, by simpa using World.ownsRow_nil _ _ _ _, Upd.refl _ _⟩
  case round =>
    obtain ⟨k, hgk, rfl, hor, hur⟩ := hrel
    have hsz := hur.size
    by_cases hlt : k < xs.length
    · obtain ⟨v, n, ring, fr, h1, h2, h3, h4, h5, h6, h7, h8, h9, h10⟩ := h.upd hur (fun _ _ => id)
      obtain ⟨gl, cap, rfl, hbl, hll⟩ := h5.form (by omega)
      have hgl := h2 gl rfl
      have hx : xs[k]? = some xs[k] := List.getElem?_eq_getElem hlt
      have hr := h10 k xs[k] hx
      have hrl := (List.getElem?_eq_some_iff.1 hr).1
      have hcell := h5.cells (g := gl) rfl (spot fr k n) (.int .i64 xs[k]) (by rw [List.getElem?_map, hr]; rfl)
      have hfl := h.lt g h1
      have hfl2 := h.lt gl hgl.1
      have c1 := h4.cell 1
      simp only [List.getElem?_cons_zero, List.getElem?_cons_succ] at c1
      rcases h6 with h6 | ⟨kk, h6⟩
      · omega
      have Hx := Lib.hid hx
      have Hr := Lib.hid hr
      have H6 := Lib.hid h6
      have e1 : (⟨gl, 0, none⟩ : Addr).add (spot fr k n) = ⟨gl, spot fr k n, none⟩ := by unfold Addr.add; split <;> simp_all
      rw [e1] at hcell
      clear hx hr h6 h10 h2 h3 e1
      have hsp : ((spot fr k n : Nat) : Int) < (n : Int) := by have := Nat.mod_lt (fr + k) (show 0 < n by omega); unfold spot; omega
      have hsp0 : (0 : Int) ≤ ((spot fr k n : Nat) : Int) := Int.natCast_nonneg _
      have hno : ∀ i, Own u3 i → w.heap.size ≤ i := fun i e => (hor.lt i e).1
      go_wp2
      go_region_held3 (fun w' => Blk w' g 235 [.int .i64 room, .slice (some ⟨gl, 0, none⟩) n cap, .int .u64 (fr : Int), .int .i64 xs.length] ∧ w'.cell? ⟨g, 1, none⟩ = some (.slice (some ⟨gl, 0, none⟩) n cap) ∧ w'.cell? ⟨gl, spot fr k n, none⟩ = some (.int .i64 xs[k]))
        (first | exact ⟨h4, c1, hcell⟩ | (go_split_ands; refine ⟨?_, ?_, ?_⟩ <;> first | assumption | (apply Blk.alloc; assumption) | (apply Blk.drew; assumption) | (exact Blk.upd (by assumption) hupd1 (fun e => by have := hno _ e; omega)) | (exact hupd1.keep (by assumption) (fun e => by have := hno _ e; simp at this; omega)) | go_keep)) (first | (refine step_app1 (by rfl) (by rfl) STint (by rfl) (by rfl) (by exact hor.alloc _) rfl (by exact news_new) (by rfl) (by omega) (by omega) (by exact (Upd.refl No w |>.trans hur |>.alloc _).size) ?_; intro gn capn w1 hown1 hupd1 hgrew1 hlt1) | (go_at_call 172; refine (place_any _ g _ n cap kk _ _ fr _ (by assumption) H6.out (by omega) (by omega) (by omega) (by omega)).mono ?_; rintro e w' ⟨rfl, q, rfl⟩))
      go_wp2
      go_roundg (gk - 1)
      case measure => omega
      case rel =>
        refine ⟨k + 1, by omega, by go_num, ?_, (hur.alloc _).trans_ (hupd1.of_drewN) (fun i hi e => by have := hno _ e; omega)⟩
        rw [List.take_succ_eq_append_getElem hlt, List.map_append]
        exact hown1
    · obtain rfl : k = xs.length := by omega
      obtain ⟨A, c, rfl⟩ := own_slice hor
      have hx := Ints.of_own hor
      rw [List.take_length] at hx
      go_wp2
      go_ret
      exact ⟨A, c, rfl, hx, hur⟩
end Go.Proofs.Ytmnhgdedkniafaa
