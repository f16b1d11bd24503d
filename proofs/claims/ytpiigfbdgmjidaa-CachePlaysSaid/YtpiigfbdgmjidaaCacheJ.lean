/- Caches: those of a label are forgotten; a cache as its entries. -/
import Derived.Test.YtpiigfbdgmjidaaProg
import Derived.Test.YtpiigfbdgmjidaaCacheI
import Derived.LaidEqlPtr
import Derived.Lib.Builder
namespace Go.Proofs.Ytpiigfbdgmjidaa
set_option linter.unusedVariables false
open Go.RowKit

theorem run_neq_ptr_other {P : Program} (w : World) {tp te : TypeId} {j : TypeInfo} {a b : Addr} {ca cb : Array Value} {ta tb : TypeId} (hp : P.underlying tp = some (.pointer te)) (hte : P.info? te = some j) (hsz : j.size ≠ 0)
    (hne : a ≠ b) (ha : w.heap[a.block]? = some (.cells ca ta (0, 0))) (hb : w.heap[b.block]? = some (.cells cb tb (0, 0))) :
    (binOp .neq tp (.pointer (some a)) (.pointer (some b))).run P w = .ok (.bool true) w := by
  have h : ∀ d : Nat, (Op.equalIn (d + 1) tp (.pointer (some a)) (.pointer (some b))).run P w = .ok false w := fun d => by
    simp [Op.equalIn, run_underlying hp, sizeOf, typeInfo, hte, hsz, run_sameAddr_other w hne ha hb]
  simp only [binOp]
  simp [Op.equal, Op.maxDepth, h 9999]
theorem info_entry : ∃ j, Try.prog.info? 88 = some j ∧ j.size ≠ 0 := by
  have h : (Try.prog.info? 88).map (·.size) = some 12 := by kernel_rfl
  cases hi : Try.prog.info? 88 with
  | none => rw [hi] at h; simp at h
  | some j => rw [hi] at h; simp at h; exact ⟨j, rfl, by omega⟩
def hdOf (r : Nat) : List Nat → Nat := fun l => l.foldr (fun x _ => x) r
def hdB (r : Nat) (ns : List Node) : Nat := hdOf r (ns.map (·.b))
theorem hdB_nil (r : Nat) : hdB r [] = r := rfl
theorem hdB_cons (r : Nat) (n : Node) (ns : List Node) : hdB r (n :: ns) = n.b := rfl
theorem Chain.hd {nw od : Nat → Nat} {x z : Nat} {l : List Node} (h : Chain nw od x (l.map (·.b)) z) : nw x = hdB z l := by
  cases l with
  | nil => exact h.1
  | cons n l => exact h.1
def ForgetPost (w : World) (T V : Nat → Prop) (g bm r : Nat) (room : Int) (ns : List Node) (a : Int) (e : Ending) (w' : World) : Prop :=
  e = .returned (.int .i64 ((ns.filter fun n => n.e.l = a).length : Nat)) ∧ ∃ nw' od' m', CacheW w' T V g bm r room (ns.filter fun n => n.e.l ≠ a) nw' od' m' ∧ Upd (fun i => T i ∨ i = bm) w w'
theorem cforget_nil (w : World) (a : Int) : Calls Try.prog 31 #[.pointer none, .int .i64 a] w fun e w' => e = .returned (.int .i64 0) ∧ w = w' := by
  go_enter Try.func31, Try.ntmps31
  go_wp2
  go_ret
  exact ⟨rfl, rfl⟩
set_option maxRecDepth 100000 in
theorem cforget (w : World) (T V : Nat → Prop) (g bm r : Nat) (room : Int) (ns : List Node) (nw od : Nat → Nat) (m : List ((Int × Int) × Value)) (h : CacheW w T V g bm r room ns nw od m) (a : Int) (hl : ns.length ≤ 1000000) :
    Calls Try.prog 31 #[pt g, .int .i64 a] w (ForgetPost w T V g bm r room ns a) := by
  have c2 := h.blk.cell 2
  have c11 := h.ring.root.cell 11
  rw [h.ring.chain.hd] at c11
  simp only [entv, List.getElem?_cons_zero, List.getElem?_cons_succ] at c2 c11
  go_enter Try.func31, Try.ntmps31
  go_wp2
  go_loopg [5, 6, 7] ns.length (fun gk n e nx wr => ∃ (ds rs : List Node) (nw' od' : Nat → Nat) (m' : List ((Int × Int) × Value)), Hid (ns = ds ++ rs) ∧ rs.length = gk ∧ n = .int .i64 ((ds.filter fun n => n.e.l = a).length : Nat) ∧ e = pt (hdB r rs) ∧
    CacheW wr T V g bm r room ((ds.filter fun n => n.e.l ≠ a) ++ rs) nw' od' m' ∧ Upd (fun i => T i ∨ i = bm) w wr)
  case atStart => exact ⟨[], ns, nw, od, m, Lib.hid rfl, rfl, rfl, rfl, by simpa using h, Upd.refl _ _⟩
  case round =>
    obtain ⟨ds, rs, nw', od', m', hsp, hgk, rfl, rfl, hc, hu⟩ := hrel
    have hdl : ds.length + rs.length ≤ 1000000 := by have := congrArg List.length hsp.out; rw [List.length_append] at this; omega
    have hdf := List.length_filter_le (fun n : Node => decide (n.e.l = a)) ds
    have d2 := hc.blk.cell 2
    simp only [List.getElem?_cons_zero, List.getElem?_cons_succ] at d2
    have Hgk := Lib.hid hgk
    clear c2 c11 hgk
    cases rs with
    | nil =>
      simp only [hdB_nil, hdB_cons]
      obtain ⟨j, hj, _⟩ := info_entry
      have hpn := Lib.run_neq_ptr_same wr (j := j) ⟨r, 0, none⟩ Try.underlying85 hj
      have Hj := Lib.hid hj
      clear hj
      have HD := Lib.hid (show ns = ds by rw [hsp.out, List.append_nil])
      rw [List.append_nil] at hc
      go_wp2
      go_ret
      refine ⟨by rw [HD.out]; rfl, nw', od', m', by rw [HD.out]; exact hc, hu⟩
    | cons n rs =>
      simp only [hdB_nil, hdB_cons]
      have hn : n ∈ (ds.filter fun n => n.e.l ≠ a) ++ n :: rs := by simp
      have hnr : n.b ≠ r := by
        have := hc.ring.nd
        rw [List.nodup_cons, List.mem_map] at this
        exact fun e => this.1 ⟨n, hn, e⟩
      obtain ⟨bn, _, _⟩ := hc.ring.at_ n hn
      have e0 := bn.cell 0
      have e11 := bn.cell 11
      have hx : nw' n.b = hdB r rs := by
        have := hc.ring.chain
        rw [List.map_append, List.map_cons, Chain.append] at this
        exact Chain.hd this.2
      rw [hx] at e11
      obtain ⟨j, hj, hjs⟩ := info_entry
      have hpn : (binOp .neq 85 (pt n.b) (pt r)).run Try.prog wr = .ok (.bool true) wr := run_neq_ptr_other wr Try.underlying85 hj hjs (by intro e; cases e; exact hnr rfl) bn hc.ring.root
      clear hj hjs
      simp only [entv, List.getElem?_cons_zero, List.getElem?_cons_succ] at e0 e11
      clear hx
      by_cases ha : n.e.l = a
      · have hab : (n.e.l == a) = true := by rw [beq_iff_eq]; exact ha
        have F1 := Lib.hid (show (ds ++ [n]).filter (fun n => n.e.l ≠ a) = ds.filter (fun n => n.e.l ≠ a) by rw [List.filter_append]; simp [ha])
        have F2 := Lib.hid (show ((ds ++ [n]).filter (fun n => n.e.l = a)).length = (ds.filter (fun n => n.e.l = a)).length + 1 by rw [List.filter_append]; simp [ha])
        clear ha
        go_wp2_with fail
        refine (cdrop _ T V g bm r room _ rs n nw' od' m' hc).mono ?_
        rintro e w2 ⟨rfl, h2, hu2⟩
        go_wp2
        go_roundg (gk - 1)
        case measure => have := Hgk.out; simp at this; omega
        case rel => exact ⟨ds ++ [n], rs, _, _, _, Lib.hid (by rw [hsp.out]; simp), by have := Hgk.out; simp at this; omega, by rw [F2.out]; go_num, rfl, by rw [F1.out]; exact h2, hu.trans hu2⟩
      · have hab : (n.e.l == a) = false := by rw [beq_eq_false_iff_ne]; exact ha
        have F1 := Lib.hid (show (ds ++ [n]).filter (fun n => n.e.l ≠ a) ++ rs = ds.filter (fun n => n.e.l ≠ a) ++ n :: rs by rw [List.filter_append]; simp [ha])
        have F2 := Lib.hid (show ((ds ++ [n]).filter (fun n => n.e.l = a)).length = (ds.filter (fun n => n.e.l = a)).length by rw [List.filter_append]; simp [ha])
        clear ha
        go_wp2
        go_roundg (gk - 1)
        case measure => have := Hgk.out; simp at this; omega
        case rel => exact ⟨ds ++ [n], rs, _, _, _, Lib.hid (by rw [hsp.out]; simp), by have := Hgk.out; simp at this; omega, by rw [F2.out], rfl, by rw [F1.out]; exact hc, hu⟩

/-- a cache, F its blocks, and its entries, the oldest one first -/
def CacheIs (w : World) (F : Nat → Prop) (g : Nat) (room : Int) (es : List Ent) : Prop :=
  ∃ (T V : Nat → Prop) (bm r : Nat) (ns : List Node) (nw od : Nat → Nat) (m : List ((Int × Int) × Value)), CacheW w T V g bm r room ns nw od m ∧ ns.map (·.e) = es ∧ (∀ i, F i ↔ (T i ∨ V i ∨ i = g ∨ i = bm))
namespace CacheIs
variable {w w' : World} {F S : Nat → Prop} {g : Nat} {room : Int} {es : List Ent}
theorem upd (h : CacheIs w F g room es) (k : Upd S w w') (hn : ∀ i, F i → ¬ S i) : CacheIs w' F g room es := by
  obtain ⟨T, V, bm, r, ns, nw, od, m, hc, he, hF⟩ := h
  exact ⟨T, V, bm, r, ns, nw, od, m, hc.upd k (hn _ ((hF _).2 (.inr (.inr (.inl rfl))))) (hn _ ((hF _).2 (.inr (.inr (.inr rfl))))) (fun i hi => hn _ ((hF _).2 (.inl hi))) (fun i hi => hn _ ((hF _).2 (.inr (.inl hi)))), he, hF⟩
theorem lt (h : CacheIs w F g room es) : ∀ i, F i → i < w.heap.size := by
  obtain ⟨T, V, bm, r, ns, nw, od, m, hc, he, hF⟩ := h
  intro i hi
  rcases (hF i).1 hi with h | h | rfl | rfl
  · exact hc.lt i (.inl h)
  · exact hc.lt i (.inr h)
  · exact hc.blk.lt
  · exact hc.map.lt
theorem keys (h : CacheIs w F g room es) : (es.map Ent.key).Nodup := by
  obtain ⟨T, V, bm, r, ns, nw, od, m, hc, rfl, hF⟩ := h
  have := hc.keys
  rwa [key_map] at this
end CacheIs

def IsNew (w : World) (N : Int) (e : Ending) (w' : World) : Prop :=
  ∃ g F, e = .returned (pt g) ∧ CacheIs w' F g N [] ∧ (∀ i, F i → w.heap.size ≤ i) ∧ Upd No w w'
theorem isnew (w : World) (room : Int) : Calls Try.prog 22 #[.int .i64 room] w (IsNew w (roomOf room)) :=
  (cnew w room).mono fun e w' ⟨g, bm, r, he, hg, hb, hr, hc, hu⟩ => ⟨g, fun i => One r i ∨ No i ∨ i = g ∨ i = bm, he, ⟨_, _, bm, r, [], _, _, [], hc, rfl, fun i => Iff.rfl⟩, fun i hi => by
    rcases hi with h | h | rfl | rfl
    · have h : i = r := h
      omega
    · exact h.elim
    · exact hg
    · exact hb, hu⟩
def IsPut (w : World) (F : Nat → Prop) (g : Nat) (room : Int) (es : List Ent) (e : Ending) (w' : World) : Prop :=
  e = .returned (.tuple #[]) ∧ ∃ F', CacheIs w' F' g room es ∧ (∀ i, F' i → F i ∨ w.heap.size ≤ i) ∧ Upd F w w'
theorem isput (w : World) (F : Nat → Prop) (g : Nat) (room : Int) (es : List Ent) (h : CacheIs w F g room es)
    (G : Nat → Prop) (A : Option Addr) (c : Nat) (x : Ent) (hx : Walk G w A x.w.walk) (hs : short x.w.walk.length) (hr : 0 ≤ room) (hl : (es.length : Int) ≤ room) (hG : ∀ i, G i → ¬ F i) :
    Calls Try.prog 24 #[pt g, .int .i64 x.l, .int .i64 x.p, .agg (x.w.cells A c).toArray, .bool x.has] w (IsPut w F g room (putE room es x)) := by
  obtain ⟨T, V, bm, r, ns, nw, od, m, hc, rfl, hF⟩ := h
  refine (cput w T V g bm r room ns nw od m hc G A c x hx hs hr (by simpa using hl) (fun i hi => ⟨fun e => hG i hi ((hF i).2 (.inl e)), fun e => hG i hi ((hF i).2 (.inr (.inr (.inr e))))⟩)).mono ?_
  rintro e w' ⟨he, T', V', ns', nw', od', m', hc', hm', hT', hV', hu⟩
  refine ⟨he, fun i => T' i ∨ V' i ∨ i = g ∨ i = bm, ⟨T', V', bm, r, ns', nw', od', m', hc', hm', fun i => Iff.rfl⟩, fun i hi => ?_, hu.mono fun i _ hi => ?_⟩
  · rcases hi with h | h | h | h
    · rcases hT' i h with h | h
      · exact .inl ((hF i).2 (.inl h))
      · exact .inr h
    · rcases hV' i h with h | h
      · exact .inl ((hF i).2 (.inr (.inl h)))
      · exact .inr h
    · exact .inl ((hF i).2 (.inr (.inr (.inl h))))
    · exact .inl ((hF i).2 (.inr (.inr (.inr h))))
  · rcases hi with h | h
    · exact (hF i).2 (.inl h)
    · exact (hF i).2 (.inr (.inr (.inr h)))
theorem isget_no (w : World) (F : Nat → Prop) (g : Nat) (room : Int) (es : List Ent) (h : CacheIs w F g room es) (a b : Int) (hno : (a, b) ∉ es.map Ent.key) :
    Calls Try.prog 26 #[pt g, .int .i64 a, .int .i64 b] w fun e w' => e = .returned (.tuple #[.agg W0.toArray, .bool false, .bool false]) ∧ Upd No w w' := by
  obtain ⟨T, V, bm, r, ns, nw, od, m, hc, rfl, hF⟩ := h
  exact cget_no w T V g bm r room ns nw od m hc a b (by rw [key_map]; exact hno)
def IsGet (w : World) (F : Nat → Prop) (g : Nat) (room : Int) (es : List Ent) (x : Ent) (e : Ending) (w' : World) : Prop :=
  ∃ A c, e = .returned (.tuple #[.agg (x.w.cells A c).toArray, .bool x.has, .bool true]) ∧ Walk (fun i => w.heap.size ≤ i) w' A x.w.walk ∧ short x.w.walk.length ∧ CacheIs w' F g room es ∧ Upd F w w'
theorem map_split {ns : List Node} {as_ bs : List Ent} {x : Ent} (h : ns.map (·.e) = as_ ++ x :: bs) : ∃ ns1 n ns2, ns = ns1 ++ n :: ns2 ∧ ns1.map (·.e) = as_ ∧ n.e = x ∧ ns2.map (·.e) = bs := by
  obtain ⟨l1, l2, rfl, h1, h2⟩ := List.map_eq_append_iff.1 h
  obtain ⟨n, l3, rfl, h3, h4⟩ := List.map_eq_cons_iff.1 h2
  exact ⟨l1, n, l3, rfl, h1, h3, h4⟩
theorem isget (w : World) (F : Nat → Prop) (g : Nat) (room : Int) (as_ bs : List Ent) (x : Ent) (h : CacheIs w F g room (as_ ++ x :: bs)) :
    Calls Try.prog 26 #[pt g, .int .i64 x.l, .int .i64 x.p] w (IsGet w F g room (as_ ++ bs ++ [x]) x) := by
  obtain ⟨T, V, bm, r, ns, nw, od, m, hc, hm, hF⟩ := h
  obtain ⟨ns1, n, ns2, rfl, rfl, rfl, rfl⟩ := map_split hm
  refine (cget w T V g bm r room ns1 ns2 n nw od m hc).mono ?_
  rintro e w' ⟨A', c', nw', od', he, hw, hc', hu⟩
  exact ⟨A', c', he, hw, (hc.ring.at_ n (by simp)).2.2, ⟨T, V, bm, r, _, nw', od', m, hc', by simp, hF⟩, hu.mono fun i _ hi => (hF i).2 (.inl hi)⟩
def IsForget (w : World) (F : Nat → Prop) (g : Nat) (room : Int) (es : List Ent) (a : Int) (e : Ending) (w' : World) : Prop :=
  e = .returned (.int .i64 ((es.filter fun x => x.l = a).length : Nat)) ∧ CacheIs w' F g room (es.filter fun x => x.l ≠ a) ∧ Upd F w w'
theorem isforget (w : World) (F : Nat → Prop) (g : Nat) (room : Int) (es : List Ent) (h : CacheIs w F g room es) (a : Int) (hl : es.length ≤ 1000000) :
    Calls Try.prog 31 #[pt g, .int .i64 a] w (IsForget w F g room es a) := by
  obtain ⟨T, V, bm, r, ns, nw, od, m, hc, rfl, hF⟩ := h
  refine (cforget w T V g bm r room ns nw od m hc a (by simpa using hl)).mono ?_
  rintro e w' ⟨he, nw', od', m', hc', hu⟩
  refine ⟨?_, ⟨T, V, bm, r, _, nw', od', m', hc', ?_, hF⟩, hu.mono fun i _ hi => ?_⟩
  · rw [he, List.filter_map, List.length_map]; rfl
  · rw [List.filter_map]; rfl
  · rcases hi with h | h
    · exact (hF i).2 (.inl h)
    · exact (hF i).2 (.inr (.inr (.inr h)))
theorem islen (w : World) (F : Nat → Prop) (g : Nat) (room : Int) (es : List Ent) (h : CacheIs w F g room es) : Calls Try.prog 33 #[pt g] w fun e w' => e = .returned (.int .i64 es.length) ∧ w = w' := by
  obtain ⟨T, V, bm, r, ns, nw, od, m, hc, rfl, hF⟩ := h
  rw [List.length_map]
  exact clen w T V g bm r room ns nw od m hc
theorem isoldest_none (w : World) (F : Nat → Prop) (g : Nat) (room : Int) (h : CacheIs w F g room []) : Calls Try.prog 32 #[pt g] w fun e w' => e = .returned (.tuple #[.int .i64 0, .int .i64 0, .bool false]) ∧ w = w' := by
  obtain ⟨T, V, bm, r, ns, nw, od, m, hc, hm, hF⟩ := h
  obtain rfl := List.map_eq_nil_iff.1 hm
  exact coldest_none w T V g bm r room nw od m hc
theorem isoldest (w : World) (F : Nat → Prop) (g : Nat) (room : Int) (x : Ent) (es : List Ent) (h : CacheIs w F g room (x :: es)) : Calls Try.prog 32 #[pt g] w fun e w' => e = .returned (.tuple #[.int .i64 x.l, .int .i64 x.p, .bool true]) ∧ Upd No w w' := by
  obtain ⟨T, V, bm, r, ns, nw, od, m, hc, hm, hF⟩ := h
  obtain ⟨n, ns', rfl, rfl, rfl⟩ := List.map_eq_cons_iff.1 hm
  exact coldest w T V g bm r room n ns' nw od m hc
end Go.Proofs.Ytpiigfbdgmjidaa
