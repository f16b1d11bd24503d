/- Edges of a history: the example's history. -/
import Derived.Test.YtaicemjckagcaaaGreatMbn
import Derived.Test.YtaicemjckagcaaaGreatMbs
namespace Go.Proofs.YtaicemjckagcaaaGreat
set_option linter.unusedVariables false
open Go.RowKit
/-- the example's history, at such places -/
def smallH (n : Nat) : Hist :=
  ⟨[⟨1, true, [⟨false, 5, 0, 0⟩], some ⟨n + 1 + 1, 0, none⟩, 1⟩, ⟨2, true, [⟨false, 5, 0, 0⟩, ⟨true, 5, 1, 1⟩], some ⟨n + 1 + 1 + 1, 0, none⟩, 2⟩, ⟨3, true, [⟨true, 5, 0, 0⟩, ⟨true, 5, 0, 0⟩], some ⟨n + 1 + 1 + 1 + 1, 0, none⟩, 2⟩],
   [⟨5, [1, 2], some ⟨n + 1 + 1 + 1 + 1 + 1 + 1, 0, none⟩, 2⟩], some ⟨n + 1 + 1 + 1 + 1 + 1, 0, none⟩, 3, some ⟨n + 1 + 1 + 1 + 1 + 1 + 1 + 1, 0, none⟩, 1⟩
theorem small_lies {W : World} {n : Nat} {t1 t2 t3 t4 : TypeId}
    (b1 : Blk W (n + 1 + 1) t1 [.bool false, .int .i64 5, .int .i64 0, .int .i64 0])
    (b2 : Blk W (n + 1 + 1 + 1) t1 [.bool false, .int .i64 5, .int .i64 0, .int .i64 0, .bool true, .int .i64 5, .int .i64 1, .int .i64 1])
    (b3 : Blk W (n + 1 + 1 + 1 + 1) t1 [.bool true, .int .i64 5, .int .i64 0, .int .i64 0, .bool true, .int .i64 5, .int .i64 0, .int .i64 0])
    (b4 : Blk W (n + 1 + 1 + 1 + 1 + 1) t2 [.int .i64 1, .bool true, .slice (some ⟨n + 1 + 1, 0, none⟩) 1 1, .int .i64 2, .bool true, .slice (some ⟨n + 1 + 1 + 1, 0, none⟩) 2 2, .int .i64 3, .bool true, .slice (some ⟨n + 1 + 1 + 1 + 1, 0, none⟩) 2 2])
    (b5 : Blk W (n + 1 + 1 + 1 + 1 + 1 + 1) t3 [.int .i64 1, .int .i64 2])
    (b6 : Blk W (n + 1 + 1 + 1 + 1 + 1 + 1 + 1) t4 [.int .i64 5, .slice (some ⟨n + 1 + 1 + 1 + 1 + 1 + 1, 0, none⟩) 2 2]) :
    (smallH n).lies (fun _ => True) W := by
  have h3 : ∀ (l : List HTx), ∀ r ∈ l.map HTx.cells, r.length = 3 := fun l r hr => by
    obtain ⟨e, _, rfl⟩ := List.mem_map.1 hr
    rfl
  have h2 : ∀ (l : List HOrd), ∀ r ∈ l.map HOrd.cells, r.length = 2 := fun l r hr => by
    obtain ⟨e, _, rfl⟩ := List.mem_map.1 hr
    rfl
  refine ⟨(recs_blk (h3 _) b4).weak fun _ _ _ => trivial, (recs_blk (h2 _) b6).weak fun _ _ _ => trivial, ?_, ?_, by simp [smallH], by simp [smallH], by simp [smallH], by simp [smallH]⟩
  · intro t ht
    simp only [smallH, List.mem_cons, List.not_mem_nil, or_false] at ht
    rcases ht with rfl | rfl | rfl
    · refine ⟨Recs.weak (recs_blk hops_len b1) fun _ _ _ => trivial, by simp, by unfold fewOps; simp, by unfold i64; simp, ?_⟩
      intro o ho
      simp only [List.mem_cons, List.not_mem_nil, or_false] at ho
      subst ho
      unfold HOp.ok i64; decide
    · refine ⟨Recs.weak (recs_blk hops_len b2) fun _ _ _ => trivial, by simp, by unfold fewOps; simp, by unfold i64; simp, ?_⟩
      intro o ho
      simp only [List.mem_cons, List.not_mem_nil, or_false] at ho
      rcases ho with rfl | rfl <;> (unfold HOp.ok i64; decide)
    · refine ⟨Recs.weak (recs_blk hops_len b3) fun _ _ _ => trivial, by simp, by unfold fewOps; simp, by unfold i64; simp, ?_⟩
      intro o ho
      simp only [List.mem_cons, List.not_mem_nil, or_false] at ho
      rcases ho with rfl | rfl <;> (unfold HOp.ok i64; decide)
  · intro o ho
    simp only [smallH, List.mem_cons, List.not_mem_nil, or_false] at ho
    subst ho
    refine ⟨(ints_blk (xs := [1, 2]) b5).weak fun _ _ _ => trivial, by simp, by simp, by unfold i64; simp, ?_⟩
    intro n hn
    simp only [List.mem_cons, List.not_mem_nil, or_false] at hn
    rcases hn with rfl | rfl <;> (unfold i64; decide)
def nSmall (w : World) (e : Ending) (w' : World) : Prop := e = .returned (.agg #[.slice (some ⟨w.heap.size + 1 + 1 + 1 + 1 + 1, 0, none⟩) 3 3, .slice (some ⟨w.heap.size + 1 + 1 + 1 + 1 + 1 + 1 + 1, 0, none⟩) 1 1]) ∧ (smallH w.heap.size).lies (fun _ => True) w' ∧ Upd No w w'
set_option maxRecDepth 100000 in
theorem ssmall (w : World) : Calls Tryz.prog 38 #[] w (nSmall w) := by
  go_enter Tryz.func38, Tryz.ntmps38
  go_wp2
  refine bodyPost_ret (v := .agg #[.slice (some ⟨w.heap.size + 1 + 1 + 1 + 1 + 1, 0, none⟩) 3 3, .slice (some ⟨w.heap.size + 1 + 1 + 1 + 1 + 1 + 1 + 1, 0, none⟩) 1 1]) (by simp [results, Tryz.results38, go_sem]) rfl ⟨rfl, ?_, (((((((((Upd.refl No w).alloc _).alloc _).alloc _).alloc _).alloc _).alloc _).alloc _).alloc _)⟩
  exact small_lies ((((((Blk.new_at (by simp only [World.size_alloc])).alloc _).alloc _).alloc _).alloc _).alloc _) (((((Blk.new_at (by simp only [World.size_alloc])).alloc _).alloc _).alloc _).alloc _) ((((Blk.new_at (by simp only [World.size_alloc])).alloc _).alloc _).alloc _) (((Blk.new_at (by simp only [World.size_alloc])).alloc _).alloc _) ((Blk.new_at (by simp only [World.size_alloc])).alloc _) (Blk.new_at (by simp only [World.size_alloc]))
/-- the edges that are told of it -/
def s1 : Hvy := ⟨⟨1, 2, 1, 5⟩, 1⟩
def s2 : Hvy := ⟨⟨1, 2, 2, 5⟩, 1⟩
def s3 : Hvy := ⟨⟨3, 1, 3, 5⟩, 2⟩
section
variable (n : Nat)
theorem sa1 : edgesR (smallH n) = [s1, s2, s3] := by kernel_rfl
theorem sa2 : ofKey 5 (edgesR (smallH n)) = [s1, s2, s3] := by kernel_rfl
theorem sa3 : ofKey 4 (edgesR (smallH n)) = [] := by kernel_rfl
theorem sa4 : countR (smallH n) ⟨3, 1, 3, 5⟩ = 2 := by kernel_rfl
theorem sa5 : countR (smallH n) ⟨2, 1, 1, 5⟩ = 0 := by kernel_rfl
theorem sa6 (B : Option Addr) : edgesR ⟨(smallH n).txs, [], (smallH n).A, 3, B, 0⟩ = [] := by kernel_rfl
theorem sa7 (B : Option Addr) : countR ⟨(smallH n).txs, [], (smallH n).A, 3, B, 0⟩ ⟨1, 2, 2, 5⟩ = 0 := by kernel_rfl
end
end Go.Proofs.YtaicemjckagcaaaGreat

/- Edges of a history: the answers that the document gives. -/
namespace Go.Proofs.YtaicemjckagcaaaGreat
set_option linter.unusedVariables false
open Go.RowKit
/-- edges with counts lie somewhere -/
def HvX (w : World) (A : Option Addr) (l : List Hvy) : Prop := ∃ G, Hvys G w A l
theorem HvX.upd {w w' : World} {A : Option Addr} {l : List Hvy} (h : HvX w A l) (k : Upd No w w') : HvX w' A l := by
  obtain ⟨G, h⟩ := h
  exact ⟨G, Hvys.upd h k (fun _ _ => id)⟩
theorem HvX.own {w : World} {b c : Nat} {A : Option Addr} {l : List Hvy} (h : w.ownsRow b 75 5 (.slice A l.length c) l.length (hvyF l)) : HvX w A l := ⟨_, Recs.of_own hvy_len (by omega) h⟩
/-- edges lie somewhere -/
def EdX (w : World) (A : Option Addr) (l : List Edge) : Prop := ∃ G, Walk G w A l
theorem EdX.upd {w w' : World} {A : Option Addr} {l : List Edge} (h : EdX w A l) (k : Upd No w w') : EdX w' A l := by
  obtain ⟨G, h⟩ := h
  exact ⟨G, Recs.upd h k (fun _ _ => id)⟩
section
variable {F : Nat → Prop} {w : World} {txs : List HTx} {ords : List HOrd} {A : Option Addr} {c : Nat} {B : Option Addr} {d : Nat} {n m : Nat}
theorem vEdges (H : Hist.lies F w ⟨txs, ords, A, c, B, d⟩) (n1 : txs.length ≤ 12) (n2 : ∀ t ∈ txs, t.ops.length ≤ 24) (hn : txs.length = n) (hm : ords.length = m) {l : List Hvy} {k : Nat} (he : edgesR ⟨txs, ords, A, c, B, d⟩ = l) (hk : l.length = k) :
    Calls Tryz.prog 11 #[.agg #[.slice A n c, .slice B m d]] w fun e w' => ∃ A' c', e = .returned (.slice A' k c') ∧ HvX w' A' l ∧ Upd No w w' := by
  subst hn hm hk
  refine (dEdges H (few_all (h := ⟨txs, ords, A, c, B, d⟩) n1 n2 _) (he ▸ edgesR_all)).mono ?_
  rintro e w' ⟨A', c', rfl, ho, hu⟩
  exact ⟨A', c', rfl, HvX.own ho, hu⟩
theorem vOf {key : Int} (H : Hist.lies F w ⟨txs, ords, A, c, B, d⟩) (n1 : txs.length ≤ 12) (n2 : ∀ t ∈ txs, t.ops.length ≤ 24) (hn : txs.length = n) (hm : ords.length = m) {l : List Hvy} {k : Nat} (he : ofKey key (edgesR ⟨txs, ords, A, c, B, d⟩) = l) (hk : l.length = k) :
    Calls Tryz.prog 12 #[.agg #[.slice A n c, .slice B m d], .int .i64 key] w fun e w' => ∃ A' c', e = .returned (.slice A' k c') ∧ HvX w' A' l ∧ Upd No w w' := by
  subst hn hm hk
  refine (dOf key H (few_all (h := ⟨txs, ords, A, c, B, d⟩) n1 n2 _) (he ▸ edgesR_of key)).mono ?_
  rintro e w' ⟨A', c', rfl, ho, hu⟩
  exact ⟨A', c', rfl, HvX.own ho, hu⟩
theorem vCount {ef et ek ey : Int} (H : Hist.lies F w ⟨txs, ords, A, c, B, d⟩) (hn : txs.length = n) (hm : ords.length = m) {k : Nat} {v : Int} (he : countR ⟨txs, ords, A, c, B, d⟩ ⟨ef, et, ek, ey⟩ = k) (hv : (k : Int) = v) :
    Calls Tryz.prog 14 #[.agg #[.slice A n c, .slice B m d], .agg #[.int .i64 ef, .int .i64 et, .int .i64 ek, .int .i64 ey]] w fun r w' => r = .returned (.int .i64 v) ∧ Upd No w w' := by
  subst hn hm hv
  exact dCount (F := F) ⟨ef, et, ek, ey⟩ H ((count_all (h := ⟨txs, ords, A, c, B, d⟩) ⟨ef, et, ek, ey⟩).trans he)
theorem vSame {l k : List Hvy} (hx : HvX w A l) (hy : HvX w B k) (hl : l.length ≤ 1048576) (hl2 : k.length ≤ 1048576) (hn : l.length = n) (hm : k.length = m) {v : Bool} (hv : (l == k) = v) :
    Calls Tryz.prog 10 #[.slice A n c, .slice B m d] w fun e w' => e = .returned (.bool v) ∧ Upd No w w' := by
  subst hn hm
  obtain ⟨F, hx⟩ := hx
  obtain ⟨G, hy⟩ := hy
  exact rSame16 w F G A B c d l k hx hy hl hl2 hv
theorem vPlain {l : List Hvy} (hx : HvX w A l) (hl : l.length ≤ 1000000) (hn : l.length = n) {k : List Edge} (he : plainL l = k) (hm : k.length = m) :
    Calls Tryz.prog 17 #[.slice A n c] w fun e w' => ∃ A' c', e = .returned (.slice A' m c') ∧ EdX w' A' k ∧ Upd No w w' := by
  subst hn hm he
  obtain ⟨F, hx⟩ := hx
  refine (dPlain F w A c l hx hl).mono ?_
  rintro e w' ⟨A', c', rfl, ho, hu⟩
  exact ⟨A', c', rfl, ⟨_, Recs.of_own edges_len (by omega) ho⟩, hu⟩
theorem vSameE {l k : List Edge} (hx : EdX w A l) (hy : EdX w B k) (hl : l.length ≤ 1048576) (hl2 : k.length ≤ 1048576) (hn : l.length = n) (hm : k.length = m) {v : Bool} (hv : (l == k) = v) :
    Calls Tryz.prog 16 #[.slice A n c, .slice B m d] w fun e w' => e = .returned (.bool v) ∧ Upd No w w' := by
  subst hn hm hv
  obtain ⟨F, hx⟩ := hx
  obtain ⟨G, hy⟩ := hy
  exact sameedges w F G A B c d l k hx hy (by omega) (by omega)
end
theorem edx_blk {w : World} {g : Nat} {t : TypeId} {l : List Edge} {cells : List Value} (h : Blk w g t cells) (hc : cells = (l.map Edge.cells).flatten) : EdX w (some ⟨g, 0, none⟩) l := edges_blk (hc ▸ h)
theorem small_n1 (n : Nat) : (smallH n).txs.length ≤ 12 := by simp [smallH]
theorem small_n2 (n : Nat) : ∀ t ∈ (smallH n).txs, t.ops.length ≤ 24 := by
  intro t ht
  simp only [smallH, List.mem_cons, List.not_mem_nil, or_false] at ht
  rcases ht with rfl | rfl | rfl <;> simp
set_option maxRecDepth 100000 in
set_option maxHeartbeats 8000000 in
theorem lives16 (w : World) : Calls Tryz.prog 8 #[] w fun e w' => e = .returned (.bool true) ∧ Upd No w w' := by
  go_enter Tryz.func8, Tryz.ntmps8
  go_wp2_with fail
  refine (ssmall _).mono ?_
  rintro e w1 ⟨rfl, hs, hu1⟩
  obtain ⟨z, hz⟩ : ∃ z, w.heap.size = z := ⟨_, rfl⟩
  rw [hz] at hs
  simp only [hz]
  obtain ⟨y, hy⟩ : ∃ y, w1.heap.size = y := ⟨_, rfl⟩
  obtain ⟨wb, hwb⟩ : ∃ wb, (w1.alloc (.cells #[.slice (some ⟨z + 1 + 1 + 1 + 1 + 1, 0, none⟩) 3 3, .slice (some ⟨z + 1 + 1 + 1 + 1 + 1 + 1 + 1, 0, none⟩) 1 1] 25)).alloc
    (.cells #[.int .i64 1, .int .i64 2, .int .i64 1, .int .i64 5, .int .i64 1, .int .i64 1, .int .i64 2, .int .i64 2, .int .i64 5, .int .i64 1, .int .i64 3, .int .i64 1, .int .i64 3, .int .i64 5, .int .i64 2] 75) = wb := ⟨_, rfl⟩
  have u0 : Upd No w1 wb := by rw [← hwb]; exact ((Upd.refl No w1).alloc _).alloc _
  have bH : Blk wb y 25 [.slice (some ⟨z + 1 + 1 + 1 + 1 + 1, 0, none⟩) 3 3, .slice (some ⟨z + 1 + 1 + 1 + 1 + 1 + 1 + 1, 0, none⟩) 1 1] := by rw [← hwb, ← hy]; exact (Blk.new w1 _ _).alloc _
  have bL : Blk wb (y + 1) 75 [.int .i64 1, .int .i64 2, .int .i64 1, .int .i64 5, .int .i64 1, .int .i64 1, .int .i64 2, .int .i64 2, .int .i64 5, .int .i64 1, .int .i64 3, .int .i64 1, .int .i64 3, .int .i64 5, .int .i64 2] := by
    rw [← hwb, ← hy]
    have := Blk.new (w1.alloc (.cells #[.slice (some ⟨z + 1 + 1 + 1 + 1 + 1, 0, none⟩) 3 3, .slice (some ⟨z + 1 + 1 + 1 + 1 + 1 + 1 + 1, 0, none⟩) 1 1] 25)) 75 [.int .i64 1, .int .i64 2, .int .i64 1, .int .i64 5, .int .i64 1, .int .i64 1, .int .i64 2, .int .i64 2, .int .i64 5, .int .i64 1, .int .i64 3, .int .i64 1, .int .i64 3, .int .i64 5, .int .i64 2]
    simpa using this
  have HL := Lib.hid (show HvX wb (some ⟨y + 1, 0, none⟩) [s1, s2, s3] from ⟨_, recs_blk (rows := [s1, s2, s3].map Hvy.cells) hvy_len bL⟩)
  have HS := Lib.hid (hs.upd u0 (fun _ _ => id))
  have h0 : ∀ W, Upd No wb W → W.cell? ⟨y, 0, none⟩ = some (.slice (some ⟨z + 1 + 1 + 1 + 1 + 1, 0, none⟩) 3 3) := fun W u => (bH.upd u id).cell 0
  have h1 : ∀ W, Upd No wb W → W.cell? ⟨y, 1, none⟩ = some (.slice (some ⟨z + 1 + 1 + 1 + 1 + 1 + 1 + 1, 0, none⟩) 1 1) := fun W u => (bH.upd u id).cell 1
  have p0 : ∀ W, Upd No wb W → W.cell? ⟨y + 1, 0, none⟩ = some (.int .i64 1) := fun W u => (bL.upd u id).cell 0
  have p1 : ∀ W, Upd No wb W → W.cell? ⟨y + 1, 1, none⟩ = some (.int .i64 2) := fun W u => (bL.upd u id).cell 1
  have p2 : ∀ W, Upd No wb W → W.cell? ⟨y + 1, 2, none⟩ = some (.int .i64 1) := fun W u => (bL.upd u id).cell 2
  have p3 : ∀ W, Upd No wb W → W.cell? ⟨y + 1, 3, none⟩ = some (.int .i64 5) := fun W u => (bL.upd u id).cell 3
  have p5 : ∀ W, Upd No wb W → W.cell? ⟨y + 1, 5, none⟩ = some (.int .i64 1) := fun W u => (bL.upd u id).cell 5
  have p6 : ∀ W, Upd No wb W → W.cell? ⟨y + 1, 6, none⟩ = some (.int .i64 2) := fun W u => (bL.upd u id).cell 6
  have p7 : ∀ W, Upd No wb W → W.cell? ⟨y + 1, 7, none⟩ = some (.int .i64 2) := fun W u => (bL.upd u id).cell 7
  have p8 : ∀ W, Upd No wb W → W.cell? ⟨y + 1, 8, none⟩ = some (.int .i64 5) := fun W u => (bL.upd u id).cell 8
  have p10 : ∀ W, Upd No wb W → W.cell? ⟨y + 1, 10, none⟩ = some (.int .i64 3) := fun W u => (bL.upd u id).cell 10
  have p11 : ∀ W, Upd No wb W → W.cell? ⟨y + 1, 11, none⟩ = some (.int .i64 1) := fun W u => (bL.upd u id).cell 11
  have p12 : ∀ W, Upd No wb W → W.cell? ⟨y + 1, 12, none⟩ = some (.int .i64 3) := fun W u => (bL.upd u id).cell 12
  have p13 : ∀ W, Upd No wb W → W.cell? ⟨y + 1, 13, none⟩ = some (.int .i64 5) := fun W u => (bL.upd u id).cell 13
  have hr : Upd No wb wb := Upd.refl _ _
  have HU := Lib.hid (hu1.trans u0)
  clear bH bL hs u0 hu1 hz
  go_wp2_with fail
  try simp only [hy, hwb]
  have ALL := Lib.hid (show ∀ W, Upd No wb W → Upd No wb W ∧ W.cell? ⟨y, 0, none⟩ = some (.slice (some ⟨z + 1 + 1 + 1 + 1 + 1, 0, none⟩) 3 3) ∧ W.cell? ⟨y, 1, none⟩ = some (.slice (some ⟨z + 1 + 1 + 1 + 1 + 1 + 1 + 1, 0, none⟩) 1 1) ∧ W.cell? ⟨y + 1, 0, none⟩ = some (.int .i64 1) ∧ W.cell? ⟨y + 1, 1, none⟩ = some (.int .i64 2) ∧ W.cell? ⟨y + 1, 2, none⟩ = some (.int .i64 1) ∧ W.cell? ⟨y + 1, 3, none⟩ = some (.int .i64 5) ∧ W.cell? ⟨y + 1, 5, none⟩ = some (.int .i64 1) ∧ W.cell? ⟨y + 1, 6, none⟩ = some (.int .i64 2) ∧ W.cell? ⟨y + 1, 7, none⟩ = some (.int .i64 2) ∧ W.cell? ⟨y + 1, 8, none⟩ = some (.int .i64 5) ∧ W.cell? ⟨y + 1, 10, none⟩ = some (.int .i64 3) ∧ W.cell? ⟨y + 1, 11, none⟩ = some (.int .i64 1) ∧ W.cell? ⟨y + 1, 12, none⟩ = some (.int .i64 3) ∧ W.cell? ⟨y + 1, 13, none⟩ = some (.int .i64 5) from fun W hu => ⟨hu, h0 W hu, h1 W hu, p0 W hu, p1 W hu, p2 W hu, p3 W hu, p5 W hu, p6 W hu, p7 W hu, p8 W hu, p10 W hu, p11 W hu, p12 W hu, p13 W hu⟩)
  clear h0 h1 p0 p1 p2 p3 p5 p6 p7 p8 p10 p11 p12 p13 hr
  have hHeld := ALL.out _ ((Upd.refl No wb).drew)
  refine wp_region_noPanic ?_
  refine peel_start (by kernel_rfl) ?_
  generalize wb.drew = w5 at hHeld ⊢
  refine peelQ 5 (by kernel_rfl) (by kernel_rfl) 64 rfl (fun _ _ _ _ _ h => h) (fun QQ hq hdone => ?_)
  simp only [List.append, partOps_lit, partL, shiftO_mk, shiftA, shiftG]
  refine wpAny_of_held (S := (fun W => Upd No wb W ∧ W.cell? ⟨y, 0, none⟩ = some (.slice (some ⟨z + 1 + 1 + 1 + 1 + 1, 0, none⟩) 3 3) ∧ W.cell? ⟨y, 1, none⟩ = some (.slice (some ⟨z + 1 + 1 + 1 + 1 + 1 + 1 + 1, 0, none⟩) 1 1) ∧ W.cell? ⟨y + 1, 0, none⟩ = some (.int .i64 1) ∧ W.cell? ⟨y + 1, 1, none⟩ = some (.int .i64 2) ∧ W.cell? ⟨y + 1, 2, none⟩ = some (.int .i64 1) ∧ W.cell? ⟨y + 1, 3, none⟩ = some (.int .i64 5) ∧ W.cell? ⟨y + 1, 5, none⟩ = some (.int .i64 1) ∧ W.cell? ⟨y + 1, 6, none⟩ = some (.int .i64 2) ∧ W.cell? ⟨y + 1, 7, none⟩ = some (.int .i64 2) ∧ W.cell? ⟨y + 1, 8, none⟩ = some (.int .i64 5) ∧ W.cell? ⟨y + 1, 10, none⟩ = some (.int .i64 3) ∧ W.cell? ⟨y + 1, 11, none⟩ = some (.int .i64 1) ∧ W.cell? ⟨y + 1, 12, none⟩ = some (.int .i64 3) ∧ W.cell? ⟨y + 1, 13, none⟩ = some (.int .i64 5))) _ _ _ _ ?_
  refine wpAnyH_take (i := 0) (v := ?_) rfl (by kernel_rfl) (by kernel_rfl) (by kernel_rfl) (fun c a w h => hq c a _ _ w h) (Or.inl ⟨by rfl, ?_⟩) (by assumption) ?_
  rotate_left
  · (intro W hSw; (try dsimp only at hSw); go_simp; try (with_reducible rfl))
  try simp only [Act.put]
  try simp only [List.setIfInBounds_toArray]
  try simp only [List.set_cons_succ]
  try simp only [List.set_cons_zero]
  refine wpAnyH_take (i := 2) (v := ?_) rfl (by kernel_rfl) (by kernel_rfl) (by kernel_rfl) (fun c a w h => hq c a _ _ w h) (Or.inl ⟨by rfl, ?_⟩) (by assumption) ?_
  rotate_left
  · (intro W hSw; (try dsimp only at hSw); go_simp; try (with_reducible rfl))
  try simp only [Act.put]
  try simp only [List.setIfInBounds_toArray]
  try simp only [List.set_cons_succ]
  try simp only [List.set_cons_zero]
  refine wpAnyH_ready (rs := [1]) (by kernel_rfl) (by simp) ?_
  refine AllReadyH.cons rfl (fun K hK => ?_) AllReadyH.nil
  go_simp
  (first
      | (go_at_call 11; refine (vEdges (HS.out.upd hHeld.1 (fun _ _ => id)) (small_n1 z) (small_n2 z) rfl rfl (sa1 z) (k := 3) rfl).mono ?_; rintro e w2 ⟨A2, c2, rfl, hx2, hu2⟩))
  try (go_wp2_with fail)
  refine hK.out _ _ ?_ (fun hHeld => ?_)
  · (first | exact ALL.out _ (hHeld.1.trans hu2) | exact ALL.out _ (hHeld.1.alloc _))
  clear hK K
  try simp only [Act.put]
  try simp only [List.setIfInBounds_toArray]
  try simp only [List.set_cons_succ]
  try simp only [List.set_cons_zero]
  refine wpAnyH_ready (rs := [3]) (by kernel_rfl) (by simp) ?_
  refine AllReadyH.cons rfl (fun K hK => ?_) AllReadyH.nil
  go_simp
  (first
      | (go_at_call 10; refine (vSame hx2 (HL.out.upd hHeld.1) (by decide) (by decide) (n := 3) (m := 3) rfl rfl (v := true) rfl).mono ?_; rintro e w2 ⟨rfl, hu2⟩))
  try (go_wp2_with fail)
  refine hK.out _ _ ?_ (fun hHeld => ?_)
  · (first | exact ALL.out _ (hHeld.1.trans hu2) | exact ALL.out _ (hHeld.1.alloc _))
  clear hK K
  try simp only [Act.put]
  try simp only [List.setIfInBounds_toArray]
  try simp only [List.set_cons_succ]
  try simp only [List.set_cons_zero]
  refine wpAnyH_take (i := 4) (v := ?_) rfl (by kernel_rfl) (by kernel_rfl) (by kernel_rfl) (fun c a w h => hq c a _ _ w h) (Or.inl ⟨by rfl, ?_⟩) (by assumption) ?_
  rotate_left
  · (intro W hSw; (try dsimp only at hSw); go_simp; try (with_reducible rfl))
  try simp only [Act.put]
  try simp only [List.setIfInBounds_toArray]
  try simp only [List.set_cons_succ]
  try simp only [List.set_cons_zero]
  refine wpAnyH_done (by kernel_rfl) (hdone.out _ _ ?_) _
  clear hdone hq QQ
  refine peelQ 6 (by kernel_rfl) (by kernel_rfl) 58 rfl (fun _ _ _ _ _ h => h) (fun QQ hq hdone => ?_)
  simp only [List.append, partOps_lit, partL, shiftO_mk, shiftA, shiftG]
  refine wpAny_of_held (S := (fun W => Upd No wb W ∧ W.cell? ⟨y, 0, none⟩ = some (.slice (some ⟨z + 1 + 1 + 1 + 1 + 1, 0, none⟩) 3 3) ∧ W.cell? ⟨y, 1, none⟩ = some (.slice (some ⟨z + 1 + 1 + 1 + 1 + 1 + 1 + 1, 0, none⟩) 1 1) ∧ W.cell? ⟨y + 1, 0, none⟩ = some (.int .i64 1) ∧ W.cell? ⟨y + 1, 1, none⟩ = some (.int .i64 2) ∧ W.cell? ⟨y + 1, 2, none⟩ = some (.int .i64 1) ∧ W.cell? ⟨y + 1, 3, none⟩ = some (.int .i64 5) ∧ W.cell? ⟨y + 1, 5, none⟩ = some (.int .i64 1) ∧ W.cell? ⟨y + 1, 6, none⟩ = some (.int .i64 2) ∧ W.cell? ⟨y + 1, 7, none⟩ = some (.int .i64 2) ∧ W.cell? ⟨y + 1, 8, none⟩ = some (.int .i64 5) ∧ W.cell? ⟨y + 1, 10, none⟩ = some (.int .i64 3) ∧ W.cell? ⟨y + 1, 11, none⟩ = some (.int .i64 1) ∧ W.cell? ⟨y + 1, 12, none⟩ = some (.int .i64 3) ∧ W.cell? ⟨y + 1, 13, none⟩ = some (.int .i64 5))) _ _ _ _ ?_
  refine wpAnyH_take (i := 0) (v := ?_) rfl (by kernel_rfl) (by kernel_rfl) (by kernel_rfl) (fun c a w h => hq c a _ _ w h) (Or.inl ⟨by rfl, ?_⟩) (by assumption) ?_
  rotate_left
  · (intro W hSw; (try dsimp only at hSw); go_simp; try (with_reducible rfl))
  try simp only [Act.put]
  try simp only [List.setIfInBounds_toArray]
  try simp only [List.set_cons_succ]
  try simp only [List.set_cons_zero]
  refine wpAnyH_take (i := 2) (v := ?_) rfl (by kernel_rfl) (by kernel_rfl) (by kernel_rfl) (fun c a w h => hq c a _ _ w h) (Or.inl ⟨by rfl, ?_⟩) (by assumption) ?_
  rotate_left
  · (intro W hSw; (try dsimp only at hSw); go_simp; try (with_reducible rfl))
  try simp only [Act.put]
  try simp only [List.setIfInBounds_toArray]
  try simp only [List.set_cons_succ]
  try simp only [List.set_cons_zero]
  refine wpAnyH_ready (rs := [1]) (by kernel_rfl) (by simp) ?_
  refine AllReadyH.cons rfl (fun K hK => ?_) AllReadyH.nil
  go_simp
  (first
      | (go_at_call 12; refine (vOf (HS.out.upd hHeld.1 (fun _ _ => id)) (small_n1 z) (small_n2 z) rfl rfl (sa2 z) (k := 3) rfl).mono ?_; rintro e w2 ⟨A2, c2, rfl, hx2, hu2⟩))
  try (go_wp2_with fail)
  refine hK.out _ _ ?_ (fun hHeld => ?_)
  · (first | exact ALL.out _ (hHeld.1.trans hu2) | exact ALL.out _ (hHeld.1.alloc _))
  clear hK K
  try simp only [Act.put]
  try simp only [List.setIfInBounds_toArray]
  try simp only [List.set_cons_succ]
  try simp only [List.set_cons_zero]
  refine wpAnyH_ready (rs := [3]) (by kernel_rfl) (by simp) ?_
  refine AllReadyH.cons rfl (fun K hK => ?_) AllReadyH.nil
  go_simp
  (first
      | (go_at_call 10; refine (vSame hx2 (HL.out.upd hHeld.1) (by decide) (by decide) (n := 3) (m := 3) rfl rfl (v := true) rfl).mono ?_; rintro e w2 ⟨rfl, hu2⟩))
  try (go_wp2_with fail)
  refine hK.out _ _ ?_ (fun hHeld => ?_)
  · (first | exact ALL.out _ (hHeld.1.trans hu2) | exact ALL.out _ (hHeld.1.alloc _))
  clear hK K
  try simp only [Act.put]
  try simp only [List.setIfInBounds_toArray]
  try simp only [List.set_cons_succ]
  try simp only [List.set_cons_zero]
  refine wpAnyH_take (i := 4) (v := ?_) rfl (by kernel_rfl) (by kernel_rfl) (by kernel_rfl) (fun c a w h => hq c a _ _ w h) (Or.inl ⟨by rfl, ?_⟩) (by assumption) ?_
  rotate_left
  · (intro W hSw; (try dsimp only at hSw); go_simp; try (with_reducible rfl))
  try simp only [Act.put]
  try simp only [List.setIfInBounds_toArray]
  try simp only [List.set_cons_succ]
  try simp only [List.set_cons_zero]
  refine wpAnyH_take (i := 5) (v := ?_) rfl (by kernel_rfl) (by kernel_rfl) (by kernel_rfl) (fun c a w h => hq c a _ _ w h) (Or.inl ⟨by rfl, ?_⟩) (by assumption) ?_
  rotate_left
  · (intro W hSw; (try dsimp only at hSw); go_simp; try (with_reducible rfl))
  try simp only [Act.put]
  try simp only [List.setIfInBounds_toArray]
  try simp only [List.set_cons_succ]
  try simp only [List.set_cons_zero]
  refine wpAnyH_done (by kernel_rfl) (hdone.out _ _ ?_) _
  clear hdone hq QQ
  refine peelQ 6 (by kernel_rfl) (by kernel_rfl) 52 rfl (fun _ _ _ _ _ h => h) (fun QQ hq hdone => ?_)
  simp only [List.append, partOps_lit, partL, shiftO_mk, shiftA, shiftG]
  refine wpAny_of_held (S := (fun W => Upd No wb W ∧ W.cell? ⟨y, 0, none⟩ = some (.slice (some ⟨z + 1 + 1 + 1 + 1 + 1, 0, none⟩) 3 3) ∧ W.cell? ⟨y, 1, none⟩ = some (.slice (some ⟨z + 1 + 1 + 1 + 1 + 1 + 1 + 1, 0, none⟩) 1 1) ∧ W.cell? ⟨y + 1, 0, none⟩ = some (.int .i64 1) ∧ W.cell? ⟨y + 1, 1, none⟩ = some (.int .i64 2) ∧ W.cell? ⟨y + 1, 2, none⟩ = some (.int .i64 1) ∧ W.cell? ⟨y + 1, 3, none⟩ = some (.int .i64 5) ∧ W.cell? ⟨y + 1, 5, none⟩ = some (.int .i64 1) ∧ W.cell? ⟨y + 1, 6, none⟩ = some (.int .i64 2) ∧ W.cell? ⟨y + 1, 7, none⟩ = some (.int .i64 2) ∧ W.cell? ⟨y + 1, 8, none⟩ = some (.int .i64 5) ∧ W.cell? ⟨y + 1, 10, none⟩ = some (.int .i64 3) ∧ W.cell? ⟨y + 1, 11, none⟩ = some (.int .i64 1) ∧ W.cell? ⟨y + 1, 12, none⟩ = some (.int .i64 3) ∧ W.cell? ⟨y + 1, 13, none⟩ = some (.int .i64 5))) _ _ _ _ ?_
  refine wpAnyH_take (i := 0) (v := ?_) rfl (by kernel_rfl) (by kernel_rfl) (by kernel_rfl) (fun c a w h => hq c a _ _ w h) (Or.inl ⟨by rfl, ?_⟩) (by assumption) ?_
  rotate_left
  · (intro W hSw; (try dsimp only at hSw); go_simp; try (with_reducible rfl))
  try simp only [Act.put]
  try simp only [List.setIfInBounds_toArray]
  try simp only [List.set_cons_succ]
  try simp only [List.set_cons_zero]
  refine wpAnyH_ready (rs := [1]) (by kernel_rfl) (by simp) ?_
  refine AllReadyH.cons rfl (fun K hK => ?_) AllReadyH.nil
  go_simp
  (first
      | (go_at_call 12; refine (vOf (HS.out.upd hHeld.1 (fun _ _ => id)) (small_n1 z) (small_n2 z) rfl rfl (sa3 z) (k := 0) rfl).mono ?_; rintro e w2 ⟨A2, c2, rfl, hx2, hu2⟩))
  try (go_wp2_with fail)
  refine hK.out _ _ ?_ (fun hHeld => ?_)
  · (first | exact ALL.out _ (hHeld.1.trans hu2) | exact ALL.out _ (hHeld.1.alloc _))
  clear hK K
  try simp only [Act.put]
  try simp only [List.setIfInBounds_toArray]
  try simp only [List.set_cons_succ]
  try simp only [List.set_cons_zero]
  refine wpAnyH_take (i := 2) (v := ?_) rfl (by kernel_rfl) (by kernel_rfl) (by kernel_rfl) (fun c a w h => hq c a _ _ w h) (Or.inl ⟨by rfl, ?_⟩) (by assumption) ?_
  rotate_left
  · (intro W hSw; (try dsimp only at hSw); go_simp; try (with_reducible rfl))
  try simp only [Act.put]
  try simp only [List.setIfInBounds_toArray]
  try simp only [List.set_cons_succ]
  try simp only [List.set_cons_zero]
  refine wpAnyH_take (i := 3) (v := ?_) rfl (by kernel_rfl) (by kernel_rfl) (by kernel_rfl) (fun c a w h => hq c a _ _ w h) (Or.inl ⟨by rfl, ?_⟩) (by assumption) ?_
  rotate_left
  · (intro W hSw; (try dsimp only at hSw); go_simp; try (with_reducible rfl))
  try simp only [Act.put]
  try simp only [List.setIfInBounds_toArray]
  try simp only [List.set_cons_succ]
  try simp only [List.set_cons_zero]
  refine wpAnyH_take (i := 4) (v := ?_) rfl (by kernel_rfl) (by kernel_rfl) (by kernel_rfl) (fun c a w h => hq c a _ _ w h) (Or.inl ⟨by rfl, ?_⟩) (by assumption) ?_
  rotate_left
  · (intro W hSw; (try dsimp only at hSw); go_simp; try (with_reducible rfl))
  try simp only [Act.put]
  try simp only [List.setIfInBounds_toArray]
  try simp only [List.set_cons_succ]
  try simp only [List.set_cons_zero]
  refine wpAnyH_take (i := 5) (v := ?_) rfl (by kernel_rfl) (by kernel_rfl) (by kernel_rfl) (fun c a w h => hq c a _ _ w h) (Or.inl ⟨by rfl, ?_⟩) (by assumption) ?_
  rotate_left
  · (intro W hSw; (try dsimp only at hSw); go_simp; try (with_reducible rfl))
  try simp only [Act.put]
  try simp only [List.setIfInBounds_toArray]
  try simp only [List.set_cons_succ]
  try simp only [List.set_cons_zero]
  refine wpAnyH_done (by kernel_rfl) (hdone.out _ _ ?_) _
  clear hdone hq QQ
  refine peelQ 9 (by kernel_rfl) (by kernel_rfl) 43 rfl (fun _ _ _ _ _ h => h) (fun QQ hq hdone => ?_)
  simp only [List.append, partOps_lit, partL, shiftO_mk, shiftA, shiftG]
  refine wpAny_of_held (S := (fun W => Upd No wb W ∧ W.cell? ⟨y, 0, none⟩ = some (.slice (some ⟨z + 1 + 1 + 1 + 1 + 1, 0, none⟩) 3 3) ∧ W.cell? ⟨y, 1, none⟩ = some (.slice (some ⟨z + 1 + 1 + 1 + 1 + 1 + 1 + 1, 0, none⟩) 1 1) ∧ W.cell? ⟨y + 1, 0, none⟩ = some (.int .i64 1) ∧ W.cell? ⟨y + 1, 1, none⟩ = some (.int .i64 2) ∧ W.cell? ⟨y + 1, 2, none⟩ = some (.int .i64 1) ∧ W.cell? ⟨y + 1, 3, none⟩ = some (.int .i64 5) ∧ W.cell? ⟨y + 1, 5, none⟩ = some (.int .i64 1) ∧ W.cell? ⟨y + 1, 6, none⟩ = some (.int .i64 2) ∧ W.cell? ⟨y + 1, 7, none⟩ = some (.int .i64 2) ∧ W.cell? ⟨y + 1, 8, none⟩ = some (.int .i64 5) ∧ W.cell? ⟨y + 1, 10, none⟩ = some (.int .i64 3) ∧ W.cell? ⟨y + 1, 11, none⟩ = some (.int .i64 1) ∧ W.cell? ⟨y + 1, 12, none⟩ = some (.int .i64 3) ∧ W.cell? ⟨y + 1, 13, none⟩ = some (.int .i64 5))) _ _ _ _ ?_
  refine wpAnyH_take (i := 0) (v := ?_) rfl (by kernel_rfl) (by kernel_rfl) (by kernel_rfl) (fun c a w h => hq c a _ _ w h) (Or.inl ⟨by rfl, ?_⟩) (by assumption) ?_
  rotate_left
  · (intro W hSw; (try dsimp only at hSw); go_simp; try (with_reducible rfl))
  try simp only [Act.put]
  try simp only [List.setIfInBounds_toArray]
  try simp only [List.set_cons_succ]
  try simp only [List.set_cons_zero]
  refine wpAnyH_take (i := 1) (v := ?_) rfl (by kernel_rfl) (by kernel_rfl) (by kernel_rfl) (fun c a w h => hq c a _ _ w h) (Or.inl ⟨by rfl, ?_⟩) (by assumption) ?_
  rotate_left
  · (intro W hSw; (try dsimp only at hSw); go_simp; try (with_reducible rfl))
  try simp only [Act.put]
  try simp only [List.setIfInBounds_toArray]
  try simp only [List.set_cons_succ]
  try simp only [List.set_cons_zero]
  refine wpAnyH_take (i := 2) (v := ?_) rfl (by kernel_rfl) (by kernel_rfl) (by kernel_rfl) (fun c a w h => hq c a _ _ w h) (Or.inl ⟨by rfl, ?_⟩) (by assumption) ?_
  rotate_left
  · (intro W hSw; (try dsimp only at hSw); go_simp; try (with_reducible rfl))
  try simp only [Act.put]
  try simp only [List.setIfInBounds_toArray]
  try simp only [List.set_cons_succ]
  try simp only [List.set_cons_zero]
  refine wpAnyH_take (i := 3) (v := ?_) rfl (by kernel_rfl) (by kernel_rfl) (by kernel_rfl) (fun c a w h => hq c a _ _ w h) (Or.inl ⟨by rfl, ?_⟩) (by assumption) ?_
  rotate_left
  · (intro W hSw; (try dsimp only at hSw); go_simp; try (with_reducible rfl))
  try simp only [Act.put]
  try simp only [List.setIfInBounds_toArray]
  try simp only [List.set_cons_succ]
  try simp only [List.set_cons_zero]
  refine wpAnyH_take (i := 4) (v := ?_) rfl (by kernel_rfl) (by kernel_rfl) (by kernel_rfl) (fun c a w h => hq c a _ _ w h) (Or.inl ⟨by rfl, ?_⟩) (by assumption) ?_
  rotate_left
  · (intro W hSw; (try dsimp only at hSw); go_simp; try (with_reducible rfl))
  try simp only [Act.put]
  try simp only [List.setIfInBounds_toArray]
  try simp only [List.set_cons_succ]
  try simp only [List.set_cons_zero]
  refine wpAnyH_ready (rs := [5]) (by kernel_rfl) (by simp) ?_
  refine AllReadyH.cons rfl (fun K hK => ?_) AllReadyH.nil
  go_simp
  (first
      | (go_at_call 14; refine (vCount (HS.out.upd hHeld.1 (fun _ _ => id)) rfl rfl (sa4 z) (v := 2) rfl).mono ?_; rintro e w2 ⟨rfl, hu2⟩))
  try (go_wp2_with fail)
  refine hK.out _ _ ?_ (fun hHeld => ?_)
  · (first | exact ALL.out _ (hHeld.1.trans hu2) | exact ALL.out _ (hHeld.1.alloc _))
  clear hK K
  try simp only [Act.put]
  try simp only [List.setIfInBounds_toArray]
  try simp only [List.set_cons_succ]
  try simp only [List.set_cons_zero]
  refine wpAnyH_take (i := 6) (v := ?_) rfl (by kernel_rfl) (by kernel_rfl) (by kernel_rfl) (fun c a w h => hq c a _ _ w h) (Or.inl ⟨by rfl, ?_⟩) (by assumption) ?_
  rotate_left
  · (intro W hSw; (try dsimp only at hSw); go_simp; try (with_reducible rfl))
  try simp only [Act.put]
  try simp only [List.setIfInBounds_toArray]
  try simp only [List.set_cons_succ]
  try simp only [List.set_cons_zero]
  refine wpAnyH_take (i := 7) (v := ?_) rfl (by kernel_rfl) (by kernel_rfl) (by kernel_rfl) (fun c a w h => hq c a _ _ w h) (Or.inl ⟨by rfl, ?_⟩) (by assumption) ?_
  rotate_left
  · (intro W hSw; (try dsimp only at hSw); go_simp; try (with_reducible rfl))
  try simp only [Act.put]
  try simp only [List.setIfInBounds_toArray]
  try simp only [List.set_cons_succ]
  try simp only [List.set_cons_zero]
  refine wpAnyH_take (i := 8) (v := ?_) rfl (by kernel_rfl) (by kernel_rfl) (by kernel_rfl) (fun c a w h => hq c a _ _ w h) (Or.inl ⟨by rfl, ?_⟩) (by assumption) ?_
  rotate_left
  · (intro W hSw; (try dsimp only at hSw); go_simp; try (with_reducible rfl))
  try simp only [Act.put]
  try simp only [List.setIfInBounds_toArray]
  try simp only [List.set_cons_succ]
  try simp only [List.set_cons_zero]
  refine wpAnyH_done (by kernel_rfl) (hdone.out _ _ ?_) _
  clear hdone hq QQ
  refine peelQ 6 (by kernel_rfl) (by kernel_rfl) 37 rfl (fun _ _ _ _ _ h => h) (fun QQ hq hdone => ?_)
  simp only [List.append, partOps_lit, partL, shiftO_mk, shiftA, shiftG]
  refine wpAny_of_held (S := (fun W => Upd No wb W ∧ W.cell? ⟨y, 0, none⟩ = some (.slice (some ⟨z + 1 + 1 + 1 + 1 + 1, 0, none⟩) 3 3) ∧ W.cell? ⟨y, 1, none⟩ = some (.slice (some ⟨z + 1 + 1 + 1 + 1 + 1 + 1 + 1, 0, none⟩) 1 1) ∧ W.cell? ⟨y + 1, 0, none⟩ = some (.int .i64 1) ∧ W.cell? ⟨y + 1, 1, none⟩ = some (.int .i64 2) ∧ W.cell? ⟨y + 1, 2, none⟩ = some (.int .i64 1) ∧ W.cell? ⟨y + 1, 3, none⟩ = some (.int .i64 5) ∧ W.cell? ⟨y + 1, 5, none⟩ = some (.int .i64 1) ∧ W.cell? ⟨y + 1, 6, none⟩ = some (.int .i64 2) ∧ W.cell? ⟨y + 1, 7, none⟩ = some (.int .i64 2) ∧ W.cell? ⟨y + 1, 8, none⟩ = some (.int .i64 5) ∧ W.cell? ⟨y + 1, 10, none⟩ = some (.int .i64 3) ∧ W.cell? ⟨y + 1, 11, none⟩ = some (.int .i64 1) ∧ W.cell? ⟨y + 1, 12, none⟩ = some (.int .i64 3) ∧ W.cell? ⟨y + 1, 13, none⟩ = some (.int .i64 5))) _ _ _ _ ?_
  refine wpAnyH_take (i := 0) (v := ?_) rfl (by kernel_rfl) (by kernel_rfl) (by kernel_rfl) (fun c a w h => hq c a _ _ w h) (Or.inl ⟨by rfl, ?_⟩) (by assumption) ?_
  rotate_left
  · (intro W hSw; (try dsimp only at hSw); go_simp; try (with_reducible rfl))
  try simp only [Act.put]
  try simp only [List.setIfInBounds_toArray]
  try simp only [List.set_cons_succ]
  try simp only [List.set_cons_zero]
  refine wpAnyH_take (i := 1) (v := ?_) rfl (by kernel_rfl) (by kernel_rfl) (by kernel_rfl) (fun c a w h => hq c a _ _ w h) (Or.inl ⟨by rfl, ?_⟩) (by assumption) ?_
  rotate_left
  · (intro W hSw; (try dsimp only at hSw); go_simp; try (with_reducible rfl))
  try simp only [Act.put]
  try simp only [List.setIfInBounds_toArray]
  try simp only [List.set_cons_succ]
  try simp only [List.set_cons_zero]
  refine wpAnyH_ready (rs := [2]) (by kernel_rfl) (by simp) ?_
  refine AllReadyH.cons rfl (fun K hK => ?_) AllReadyH.nil
  go_simp
  (first
      | (go_at_call 14; refine (vCount (HS.out.upd hHeld.1 (fun _ _ => id)) rfl rfl (sa5 z) (v := 0) rfl).mono ?_; rintro e w2 ⟨rfl, hu2⟩))
  try (go_wp2_with fail)
  refine hK.out _ _ ?_ (fun hHeld => ?_)
  · (first | exact ALL.out _ (hHeld.1.trans hu2) | exact ALL.out _ (hHeld.1.alloc _))
  clear hK K
  try simp only [Act.put]
  try simp only [List.setIfInBounds_toArray]
  try simp only [List.set_cons_succ]
  try simp only [List.set_cons_zero]
  refine wpAnyH_take (i := 3) (v := ?_) rfl (by kernel_rfl) (by kernel_rfl) (by kernel_rfl) (fun c a w h => hq c a _ _ w h) (Or.inl ⟨by rfl, ?_⟩) (by assumption) ?_
  rotate_left
  · (intro W hSw; (try dsimp only at hSw); go_simp; try (with_reducible rfl))
  try simp only [Act.put]
  try simp only [List.setIfInBounds_toArray]
  try simp only [List.set_cons_succ]
  try simp only [List.set_cons_zero]
  refine wpAnyH_take (i := 4) (v := ?_) rfl (by kernel_rfl) (by kernel_rfl) (by kernel_rfl) (fun c a w h => hq c a _ _ w h) (Or.inl ⟨by rfl, ?_⟩) (by assumption) ?_
  rotate_left
  · (intro W hSw; (try dsimp only at hSw); go_simp; try (with_reducible rfl))
  try simp only [Act.put]
  try simp only [List.setIfInBounds_toArray]
  try simp only [List.set_cons_succ]
  try simp only [List.set_cons_zero]
  refine wpAnyH_take (i := 5) (v := ?_) rfl (by kernel_rfl) (by kernel_rfl) (by kernel_rfl) (fun c a w h => hq c a _ _ w h) (Or.inl ⟨by rfl, ?_⟩) (by assumption) ?_
  rotate_left
  · (intro W hSw; (try dsimp only at hSw); go_simp; try (with_reducible rfl))
  try simp only [Act.put]
  try simp only [List.setIfInBounds_toArray]
  try simp only [List.set_cons_succ]
  try simp only [List.set_cons_zero]
  refine wpAnyH_done (by kernel_rfl) (hdone.out _ _ ?_) _
  clear hdone hq QQ
  refine peelQ 18 (by kernel_rfl) (by kernel_rfl) 19 rfl (fun _ _ _ _ _ h => h) (fun QQ hq hdone => ?_)
  simp only [List.append, partOps_lit, partL, shiftO_mk, shiftA, shiftG]
  refine wpAny_of_held (S := (fun W => Upd No wb W ∧ W.cell? ⟨y, 0, none⟩ = some (.slice (some ⟨z + 1 + 1 + 1 + 1 + 1, 0, none⟩) 3 3) ∧ W.cell? ⟨y, 1, none⟩ = some (.slice (some ⟨z + 1 + 1 + 1 + 1 + 1 + 1 + 1, 0, none⟩) 1 1) ∧ W.cell? ⟨y + 1, 0, none⟩ = some (.int .i64 1) ∧ W.cell? ⟨y + 1, 1, none⟩ = some (.int .i64 2) ∧ W.cell? ⟨y + 1, 2, none⟩ = some (.int .i64 1) ∧ W.cell? ⟨y + 1, 3, none⟩ = some (.int .i64 5) ∧ W.cell? ⟨y + 1, 5, none⟩ = some (.int .i64 1) ∧ W.cell? ⟨y + 1, 6, none⟩ = some (.int .i64 2) ∧ W.cell? ⟨y + 1, 7, none⟩ = some (.int .i64 2) ∧ W.cell? ⟨y + 1, 8, none⟩ = some (.int .i64 5) ∧ W.cell? ⟨y + 1, 10, none⟩ = some (.int .i64 3) ∧ W.cell? ⟨y + 1, 11, none⟩ = some (.int .i64 1) ∧ W.cell? ⟨y + 1, 12, none⟩ = some (.int .i64 3) ∧ W.cell? ⟨y + 1, 13, none⟩ = some (.int .i64 5))) _ _ _ _ ?_
  refine peel_join [43, 44, 45, 46, 47, 48, 49, 50, 51, 52, 53, 54, 55, 56, 57, 58] [59, 60] (.bool true) ?_ (fun hrest => ?_)
  · intro vs W hHeld
    refine hdone.out _ _ ?_
    clear hdone hq QQ
    simp only [putS, putC]
    try simp only [Act.put]
    try simp only [List.setIfInBounds_toArray]
    try simp only [List.set_cons_succ]
    try simp only [List.set_cons_zero]
    refine peelQ 8 (by kernel_rfl) (by kernel_rfl) 11 rfl (fun _ _ _ _ _ h => h) (fun QQ hq hdone => ?_)
    simp only [List.append, partOps_lit, partL, shiftO_mk, shiftA, shiftG]
    refine wpAny_of_held (S := (fun W => Upd No wb W ∧ W.cell? ⟨y, 0, none⟩ = some (.slice (some ⟨z + 1 + 1 + 1 + 1 + 1, 0, none⟩) 3 3) ∧ W.cell? ⟨y, 1, none⟩ = some (.slice (some ⟨z + 1 + 1 + 1 + 1 + 1 + 1 + 1, 0, none⟩) 1 1) ∧ W.cell? ⟨y + 1, 0, none⟩ = some (.int .i64 1) ∧ W.cell? ⟨y + 1, 1, none⟩ = some (.int .i64 2) ∧ W.cell? ⟨y + 1, 2, none⟩ = some (.int .i64 1) ∧ W.cell? ⟨y + 1, 3, none⟩ = some (.int .i64 5) ∧ W.cell? ⟨y + 1, 5, none⟩ = some (.int .i64 1) ∧ W.cell? ⟨y + 1, 6, none⟩ = some (.int .i64 2) ∧ W.cell? ⟨y + 1, 7, none⟩ = some (.int .i64 2) ∧ W.cell? ⟨y + 1, 8, none⟩ = some (.int .i64 5) ∧ W.cell? ⟨y + 1, 10, none⟩ = some (.int .i64 3) ∧ W.cell? ⟨y + 1, 11, none⟩ = some (.int .i64 1) ∧ W.cell? ⟨y + 1, 12, none⟩ = some (.int .i64 3) ∧ W.cell? ⟨y + 1, 13, none⟩ = some (.int .i64 5))) _ _ _ _ ?_
    refine wpAnyH_take (i := 0) (v := ?_) rfl (by kernel_rfl) (by kernel_rfl) (by kernel_rfl) (fun c a w h => hq c a _ _ w h) (Or.inl ⟨by rfl, ?_⟩) (by assumption) ?_
    rotate_left
    · (intro W hSw; (try dsimp only at hSw); go_simp; try (with_reducible rfl))
    try simp only [Act.put]
    try simp only [List.setIfInBounds_toArray]
    try simp only [List.set_cons_succ]
    try simp only [List.set_cons_zero]
    refine wpAnyH_take (i := 1) (v := ?_) rfl (by kernel_rfl) (by kernel_rfl) (by kernel_rfl) (fun c a w h => hq c a _ _ w h) (Or.inl ⟨by rfl, ?_⟩) (by assumption) ?_
    rotate_left
    · (intro W hSw; (try dsimp only at hSw); go_simp; try (with_reducible rfl))
    try simp only [Act.put]
    try simp only [List.setIfInBounds_toArray]
    try simp only [List.set_cons_succ]
    try simp only [List.set_cons_zero]
    refine wpAnyH_take (i := 2) (v := ?_) rfl (by kernel_rfl) (by kernel_rfl) (by kernel_rfl) (fun c a w h => hq c a _ _ w h) (Or.inl ⟨by rfl, ?_⟩) (by assumption) ?_
    rotate_left
    · (intro W hSw; (try dsimp only at hSw); go_simp; try (with_reducible rfl))
    try simp only [Act.put]
    try simp only [List.setIfInBounds_toArray]
    try simp only [List.set_cons_succ]
    try simp only [List.set_cons_zero]
    refine wpAnyH_ready (rs := [3]) (by kernel_rfl) (by simp) ?_
    refine AllReadyH.cons rfl (fun K hK => ?_) AllReadyH.nil
    go_simp
    (first
        | (go_at_call 11; refine (vEdges (lies_txs (HS.out.upd hHeld.1 (fun _ _ => id))) (small_n1 z) (small_n2 z) rfl rfl (sa6 z none) (k := 0) rfl).mono ?_; rintro e w2 ⟨A2, c2, rfl, hx2, hu2⟩))
    try (go_wp2_with fail)
    refine hK.out _ _ ?_ (fun hHeld => ?_)
    · (first | exact ALL.out _ (hHeld.1.trans hu2) | exact ALL.out _ (hHeld.1.alloc _))
    clear hK K
    try simp only [Act.put]
    try simp only [List.setIfInBounds_toArray]
    try simp only [List.set_cons_succ]
    try simp only [List.set_cons_zero]
    refine wpAnyH_take (i := 4) (v := ?_) rfl (by kernel_rfl) (by kernel_rfl) (by kernel_rfl) (fun c a w h => hq c a _ _ w h) (Or.inl ⟨by rfl, ?_⟩) (by assumption) ?_
    rotate_left
    · (intro W hSw; (try dsimp only at hSw); go_simp; try (with_reducible rfl))
    try simp only [Act.put]
    try simp only [List.setIfInBounds_toArray]
    try simp only [List.set_cons_succ]
    try simp only [List.set_cons_zero]
    refine wpAnyH_take (i := 5) (v := ?_) rfl (by kernel_rfl) (by kernel_rfl) (by kernel_rfl) (fun c a w h => hq c a _ _ w h) (Or.inl ⟨by rfl, ?_⟩) (by assumption) ?_
    rotate_left
    · (intro W hSw; (try dsimp only at hSw); go_simp; try (with_reducible rfl))
    try simp only [Act.put]
    try simp only [List.setIfInBounds_toArray]
    try simp only [List.set_cons_succ]
    try simp only [List.set_cons_zero]
    refine wpAnyH_take (i := 6) (v := ?_) rfl (by kernel_rfl) (by kernel_rfl) (by kernel_rfl) (fun c a w h => hq c a _ _ w h) (Or.inl ⟨by rfl, ?_⟩) (by assumption) ?_
    rotate_left
    · (intro W hSw; (try dsimp only at hSw); go_simp; try (with_reducible rfl))
    try simp only [Act.put]
    try simp only [List.setIfInBounds_toArray]
    try simp only [List.set_cons_succ]
    try simp only [List.set_cons_zero]
    refine wpAnyH_take (i := 7) (v := ?_) rfl (by kernel_rfl) (by kernel_rfl) (by kernel_rfl) (fun c a w h => hq c a _ _ w h) (Or.inl ⟨by rfl, ?_⟩) (by assumption) ?_
    rotate_left
    · (intro W hSw; (try dsimp only at hSw); go_simp; try (with_reducible rfl))
    try simp only [Act.put]
    try simp only [List.setIfInBounds_toArray]
    try simp only [List.set_cons_succ]
    try simp only [List.set_cons_zero]
    refine wpAnyH_done (by kernel_rfl) (hdone.out _ _ ?_) _
    clear hdone hq QQ
    refine peelQ 11 (by kernel_rfl) (by kernel_rfl) 0 rfl (fun _ _ _ _ _ h => h) (fun QQ hq hdone => ?_)
    simp only [List.append, partOps_lit, partL, shiftO_mk, shiftA, shiftG]
    refine wpAny_of_held (S := (fun W => Upd No wb W ∧ W.cell? ⟨y, 0, none⟩ = some (.slice (some ⟨z + 1 + 1 + 1 + 1 + 1, 0, none⟩) 3 3) ∧ W.cell? ⟨y, 1, none⟩ = some (.slice (some ⟨z + 1 + 1 + 1 + 1 + 1 + 1 + 1, 0, none⟩) 1 1) ∧ W.cell? ⟨y + 1, 0, none⟩ = some (.int .i64 1) ∧ W.cell? ⟨y + 1, 1, none⟩ = some (.int .i64 2) ∧ W.cell? ⟨y + 1, 2, none⟩ = some (.int .i64 1) ∧ W.cell? ⟨y + 1, 3, none⟩ = some (.int .i64 5) ∧ W.cell? ⟨y + 1, 5, none⟩ = some (.int .i64 1) ∧ W.cell? ⟨y + 1, 6, none⟩ = some (.int .i64 2) ∧ W.cell? ⟨y + 1, 7, none⟩ = some (.int .i64 2) ∧ W.cell? ⟨y + 1, 8, none⟩ = some (.int .i64 5) ∧ W.cell? ⟨y + 1, 10, none⟩ = some (.int .i64 3) ∧ W.cell? ⟨y + 1, 11, none⟩ = some (.int .i64 1) ∧ W.cell? ⟨y + 1, 12, none⟩ = some (.int .i64 3) ∧ W.cell? ⟨y + 1, 13, none⟩ = some (.int .i64 5))) _ _ _ _ ?_
    refine wpAnyH_take (i := 0) (v := ?_) rfl (by kernel_rfl) (by kernel_rfl) (by kernel_rfl) (fun c a w h => hq c a _ _ w h) (Or.inl ⟨by rfl, ?_⟩) (by assumption) ?_
    rotate_left
    · (intro W hSw; (try dsimp only at hSw); go_simp; try (with_reducible rfl))
    try simp only [Act.put]
    try simp only [List.setIfInBounds_toArray]
    try simp only [List.set_cons_succ]
    try simp only [List.set_cons_zero]
    refine wpAnyH_take (i := 1) (v := ?_) rfl (by kernel_rfl) (by kernel_rfl) (by kernel_rfl) (fun c a w h => hq c a _ _ w h) (Or.inl ⟨by rfl, ?_⟩) (by assumption) ?_
    rotate_left
    · (intro W hSw; (try dsimp only at hSw); go_simp; try (with_reducible rfl))
    try simp only [Act.put]
    try simp only [List.setIfInBounds_toArray]
    try simp only [List.set_cons_succ]
    try simp only [List.set_cons_zero]
    refine wpAnyH_take (i := 2) (v := ?_) rfl (by kernel_rfl) (by kernel_rfl) (by kernel_rfl) (fun c a w h => hq c a _ _ w h) (Or.inl ⟨by rfl, ?_⟩) (by assumption) ?_
    rotate_left
    · (intro W hSw; (try dsimp only at hSw); go_simp; try (with_reducible rfl))
    try simp only [Act.put]
    try simp only [List.setIfInBounds_toArray]
    try simp only [List.set_cons_succ]
    try simp only [List.set_cons_zero]
    refine wpAnyH_take (i := 3) (v := ?_) rfl (by kernel_rfl) (by kernel_rfl) (by kernel_rfl) (fun c a w h => hq c a _ _ w h) (Or.inl ⟨by rfl, ?_⟩) (by assumption) ?_
    rotate_left
    · (intro W hSw; (try dsimp only at hSw); go_simp; try (with_reducible rfl))
    try simp only [Act.put]
    try simp only [List.setIfInBounds_toArray]
    try simp only [List.set_cons_succ]
    try simp only [List.set_cons_zero]
    refine wpAnyH_take (i := 4) (v := ?_) rfl (by kernel_rfl) (by kernel_rfl) (by kernel_rfl) (fun c a w h => hq c a _ _ w h) (Or.inl ⟨by rfl, ?_⟩) (by assumption) ?_
    rotate_left
    · (intro W hSw; (try dsimp only at hSw); go_simp; try (with_reducible rfl))
    try simp only [Act.put]
    try simp only [List.setIfInBounds_toArray]
    try simp only [List.set_cons_succ]
    try simp only [List.set_cons_zero]
    refine wpAnyH_take (i := 5) (v := ?_) rfl (by kernel_rfl) (by kernel_rfl) (by kernel_rfl) (fun c a w h => hq c a _ _ w h) (Or.inl ⟨by rfl, ?_⟩) (by assumption) ?_
    rotate_left
    · (intro W hSw; (try dsimp only at hSw); go_simp; try (with_reducible rfl))
    try simp only [Act.put]
    try simp only [List.setIfInBounds_toArray]
    try simp only [List.set_cons_succ]
    try simp only [List.set_cons_zero]
    refine wpAnyH_take (i := 6) (v := ?_) rfl (by kernel_rfl) (by kernel_rfl) (by kernel_rfl) (fun c a w h => hq c a _ _ w h) (Or.inl ⟨by rfl, ?_⟩) (by assumption) ?_
    rotate_left
    · (intro W hSw; (try dsimp only at hSw); go_simp; try (with_reducible rfl))
    try simp only [Act.put]
    try simp only [List.setIfInBounds_toArray]
    try simp only [List.set_cons_succ]
    try simp only [List.set_cons_zero]
    refine wpAnyH_ready (rs := [7]) (by kernel_rfl) (by simp) ?_
    refine AllReadyH.cons rfl (fun K hK => ?_) AllReadyH.nil
    go_simp
    (first
        | (go_at_call 14; refine (vCount (lies_txs (HS.out.upd hHeld.1 (fun _ _ => id))) rfl rfl (sa7 z none) (v := 0) rfl).mono ?_; rintro e w2 ⟨rfl, hu2⟩))
    try (go_wp2_with fail)
    refine hK.out _ _ ?_ (fun hHeld => ?_)
    · (first | exact ALL.out _ (hHeld.1.trans hu2) | exact ALL.out _ (hHeld.1.alloc _))
    clear hK K
    try simp only [Act.put]
    try simp only [List.setIfInBounds_toArray]
    try simp only [List.set_cons_succ]
    try simp only [List.set_cons_zero]
    refine wpAnyH_take (i := 8) (v := ?_) rfl (by kernel_rfl) (by kernel_rfl) (by kernel_rfl) (fun c a w h => hq c a _ _ w h) (Or.inl ⟨by rfl, ?_⟩) (by assumption) ?_
    rotate_left
    · (intro W hSw; (try dsimp only at hSw); go_simp; try (with_reducible rfl))
    try simp only [Act.put]
    try simp only [List.setIfInBounds_toArray]
    try simp only [List.set_cons_succ]
    try simp only [List.set_cons_zero]
    refine wpAnyH_take (i := 9) (v := ?_) rfl (by kernel_rfl) (by kernel_rfl) (by kernel_rfl) (fun c a w h => hq c a _ _ w h) (Or.inl ⟨by rfl, ?_⟩) (by assumption) ?_
    rotate_left
    · (intro W hSw; (try dsimp only at hSw); go_simp; try (with_reducible rfl))
    try simp only [Act.put]
    try simp only [List.setIfInBounds_toArray]
    try simp only [List.set_cons_succ]
    try simp only [List.set_cons_zero]
    refine wpAnyH_take (i := 10) (v := ?_) rfl (by kernel_rfl) (by kernel_rfl) (by kernel_rfl) (fun c a w h => hq c a _ _ w h) (Or.inl ⟨by rfl, ?_⟩) (by assumption) ?_
    rotate_left
    · (intro W hSw; (try dsimp only at hSw); go_simp; try (with_reducible rfl))
    try simp only [Act.put]
    try simp only [List.setIfInBounds_toArray]
    try simp only [List.set_cons_succ]
    try simp only [List.set_cons_zero]
    refine wpAnyH_done (by kernel_rfl) (hdone.out _ _ ?_) _
    clear hdone hq QQ
    refine peel_end (NoPanic.normal ?_)
    go_wp2
    go_ret
    exact ⟨rfl, HU.out.trans hHeld.1⟩
  refine wpAnyH_take (i := 0) (v := ?_) rfl (by kernel_rfl) (by kernel_rfl) (by kernel_rfl) (fun c a w h => hq c a _ _ w h) (Or.inl ⟨by rfl, ?_⟩) (by assumption) ?_
  rotate_left
  · (intro W hSw; (try dsimp only at hSw); go_simp; try (with_reducible rfl))
  try simp only [Act.put]
  try simp only [List.setIfInBounds_toArray]
  try simp only [List.set_cons_succ]
  try simp only [List.set_cons_zero]
  refine wpAnyH_take (i := 2) (v := ?_) rfl (by kernel_rfl) (by kernel_rfl) (by kernel_rfl) (fun c a w h => hq c a _ _ w h) (Or.inl ⟨by rfl, ?_⟩) (by assumption) ?_
  rotate_left
  · (intro W hSw; (try dsimp only at hSw); go_simp; try (with_reducible rfl))
  try simp only [Act.put]
  try simp only [List.setIfInBounds_toArray]
  try simp only [List.set_cons_succ]
  try simp only [List.set_cons_zero]
  refine wpAnyH_take (i := 3) (v := ?_) rfl (by kernel_rfl) (by kernel_rfl) (by kernel_rfl) (fun c a w h => hq c a _ _ w h) (Or.inl ⟨by rfl, ?_⟩) (by assumption) ?_
  rotate_left
  · (intro W hSw; (try dsimp only at hSw); go_simp; try (with_reducible rfl))
  try simp only [Act.put]
  try simp only [List.setIfInBounds_toArray]
  try simp only [List.set_cons_succ]
  try simp only [List.set_cons_zero]
  refine wpAnyH_take (i := 4) (v := ?_) rfl (by kernel_rfl) (by kernel_rfl) (by kernel_rfl) (fun c a w h => hq c a _ _ w h) (Or.inl ⟨by rfl, ?_⟩) (by assumption) ?_
  rotate_left
  · (intro W hSw; (try dsimp only at hSw); go_simp; try (with_reducible rfl))
  try simp only [Act.put]
  try simp only [List.setIfInBounds_toArray]
  try simp only [List.set_cons_succ]
  try simp only [List.set_cons_zero]
  refine wpAnyH_take (i := 5) (v := ?_) rfl (by kernel_rfl) (by kernel_rfl) (by kernel_rfl) (fun c a w h => hq c a _ _ w h) (Or.inl ⟨by rfl, ?_⟩) (by assumption) ?_
  rotate_left
  · (intro W hSw; (try dsimp only at hSw); go_simp; try (with_reducible rfl))
  try simp only [Act.put]
  try simp only [List.setIfInBounds_toArray]
  try simp only [List.set_cons_succ]
  try simp only [List.set_cons_zero]
  refine wpAnyH_take (i := 6) (v := ?_) rfl (by kernel_rfl) (by kernel_rfl) (by kernel_rfl) (fun c a w h => hq c a _ _ w h) (Or.inl ⟨by rfl, ?_⟩) (by assumption) ?_
  rotate_left
  · (intro W hSw; (try dsimp only at hSw); go_simp; try (with_reducible rfl))
  try simp only [Act.put]
  try simp only [List.setIfInBounds_toArray]
  try simp only [List.set_cons_succ]
  try simp only [List.set_cons_zero]
  refine wpAnyH_take (i := 7) (v := ?_) rfl (by kernel_rfl) (by kernel_rfl) (by kernel_rfl) (fun c a w h => hq c a _ _ w h) (Or.inl ⟨by rfl, ?_⟩) (by assumption) ?_
  rotate_left
  · (intro W hSw; (try dsimp only at hSw); go_simp; try (with_reducible rfl))
  try simp only [Act.put]
  try simp only [List.setIfInBounds_toArray]
  try simp only [List.set_cons_succ]
  try simp only [List.set_cons_zero]
  refine wpAnyH_take (i := 8) (v := ?_) rfl (by kernel_rfl) (by kernel_rfl) (by kernel_rfl) (fun c a w h => hq c a _ _ w h) (Or.inl ⟨by rfl, ?_⟩) (by assumption) ?_
  rotate_left
  · (intro W hSw; (try dsimp only at hSw); go_simp; try (with_reducible rfl))
  try simp only [Act.put]
  try simp only [List.setIfInBounds_toArray]
  try simp only [List.set_cons_succ]
  try simp only [List.set_cons_zero]
  refine wpAnyH_take (i := 9) (v := ?_) rfl (by kernel_rfl) (by kernel_rfl) (by kernel_rfl) (fun c a w h => hq c a _ _ w h) (Or.inl ⟨by rfl, ?_⟩) (by assumption) ?_
  rotate_left
  · (intro W hSw; (try dsimp only at hSw); go_simp; try (with_reducible rfl))
  try simp only [Act.put]
  try simp only [List.setIfInBounds_toArray]
  try simp only [List.set_cons_succ]
  try simp only [List.set_cons_zero]
  refine wpAnyH_take (i := 10) (v := ?_) rfl (by kernel_rfl) (by kernel_rfl) (by kernel_rfl) (fun c a w h => hq c a _ _ w h) (Or.inl ⟨by rfl, ?_⟩) (by assumption) ?_
  rotate_left
  · (intro W hSw; (try dsimp only at hSw); go_simp; try (with_reducible rfl))
  try simp only [Act.put]
  try simp only [List.setIfInBounds_toArray]
  try simp only [List.set_cons_succ]
  try simp only [List.set_cons_zero]
  refine wpAnyH_take (i := 11) (v := ?_) rfl (by kernel_rfl) (by kernel_rfl) (by kernel_rfl) (fun c a w h => hq c a _ _ w h) (Or.inl ⟨by rfl, ?_⟩) (by assumption) ?_
  rotate_left
  · (intro W hSw; (try dsimp only at hSw); go_simp; try (with_reducible rfl))
  try simp only [Act.put]
  try simp only [List.setIfInBounds_toArray]
  try simp only [List.set_cons_succ]
  try simp only [List.set_cons_zero]
  refine wpAnyH_take (i := 12) (v := ?_) rfl (by kernel_rfl) (by kernel_rfl) (by kernel_rfl) (fun c a w h => hq c a _ _ w h) (Or.inl ⟨by rfl, ?_⟩) (by assumption) ?_
  rotate_left
  · (intro W hSw; (try dsimp only at hSw); go_simp; try (with_reducible rfl))
  try simp only [Act.put]
  try simp only [List.setIfInBounds_toArray]
  try simp only [List.set_cons_succ]
  try simp only [List.set_cons_zero]
  refine wpAnyH_take (i := 13) (v := ?_) rfl (by kernel_rfl) (by kernel_rfl) (by kernel_rfl) (fun c a w h => hq c a _ _ w h) (Or.inl ⟨by rfl, ?_⟩) (by assumption) ?_
  rotate_left
  · (intro W hSw; (try dsimp only at hSw); go_simp; try (with_reducible rfl))
  try simp only [Act.put]
  try simp only [List.setIfInBounds_toArray]
  try simp only [List.set_cons_succ]
  try simp only [List.set_cons_zero]
  refine wpAnyH_ready (rs := [1, 14]) (by kernel_rfl) (by simp) ?_
  refine AllReadyH.cons rfl (fun K hK => ?_) ?_
  · go_simp
    (first
        | (go_at_call 17; refine (vPlain (HL.out.upd hHeld.1) (by decide) (n := 3) rfl (k := [s1.e, s2.e, s3.e]) rfl (m := 3) rfl).mono ?_; rintro e w2 ⟨A2, c2, rfl, hx2, hu2⟩))
    try (go_wp2_with fail)
    refine hK.out _ _ ?_ (fun hHeld => ?_)
    · (first | exact ALL.out _ (hHeld.1.trans hu2) | exact ALL.out _ (hHeld.1.alloc _))
    clear hK K
    try simp only [Act.put]
    try simp only [List.setIfInBounds_toArray]
    try simp only [List.set_cons_succ]
    try simp only [List.set_cons_zero]
    refine wpAnyH_ready (rs := [14]) (by kernel_rfl) (by simp) ?_
    refine AllReadyH.cons rfl (fun K hK => ?_) AllReadyH.nil
    go_simp
    refine hK.out _ _ ?_ (fun hHeld => ?_)
    · (first | exact ALL.out _ (hHeld.1.trans hu2) | exact ALL.out _ (hHeld.1.alloc _))
    clear hK K
    try simp only [Act.put]
    try simp only [List.setIfInBounds_toArray]
    try simp only [List.set_cons_succ]
    try simp only [List.set_cons_zero]
    refine wpAnyH_ready (rs := [15]) (by kernel_rfl) (by simp) ?_
    refine AllReadyH.cons rfl (fun K hK => ?_) AllReadyH.nil
    go_simp
    (first
        | (go_at_call 16; refine (vSameE hx2 (EdX.upd (edx_blk (l := [s1.e, s2.e, s3.e]) (Blk.new _ 27 [.int .i64 1, .int .i64 2, .int .i64 1, .int .i64 5, .int .i64 1, .int .i64 2, .int .i64 2, .int .i64 5, .int .i64 3, .int .i64 1, .int .i64 3, .int .i64 5]) rfl) hu2) (by decide) (by decide) (n := 3) (m := 3) rfl rfl (v := true) rfl).mono ?_; rintro e w2 ⟨rfl, hu2⟩) | (go_at_call 16; refine (vSameE (hx2.upd ((Upd.refl No _).alloc _)) (edx_blk (l := [s1.e, s2.e, s3.e]) (Blk.new _ 27 [.int .i64 1, .int .i64 2, .int .i64 1, .int .i64 5, .int .i64 1, .int .i64 2, .int .i64 2, .int .i64 5, .int .i64 3, .int .i64 1, .int .i64 3, .int .i64 5]) rfl) (by decide) (by decide) (n := 3) (m := 3) rfl rfl (v := true) rfl).mono ?_; rintro e w2 ⟨rfl, hu2⟩))
    try (go_wp2_with fail)
    refine hK.out _ _ ?_ (fun hHeld => ?_)
    · (first | exact ALL.out _ (hHeld.1.trans hu2) | exact ALL.out _ (hHeld.1.alloc _))
    clear hK K
    try simp only [Act.put]
    try simp only [List.setIfInBounds_toArray]
    try simp only [List.set_cons_succ]
    try simp only [List.set_cons_zero]
    refine wpAnyH_take (i := 16) (v := ?_) rfl (by kernel_rfl) (by kernel_rfl) (by kernel_rfl) (fun c a w h => hq c a _ _ w h) (Or.inl ⟨by rfl, ?_⟩) (by assumption) ?_
    rotate_left
    · (intro W hSw; (try dsimp only at hSw); go_simp; try (with_reducible rfl))
    try simp only [Act.put]
    try simp only [List.setIfInBounds_toArray]
    try simp only [List.set_cons_succ]
    try simp only [List.set_cons_zero]
    refine wpAnyH_take (i := 17) (v := ?_) rfl (by kernel_rfl) (by kernel_rfl) (by kernel_rfl) (fun c a w h => hq c a _ _ w h) (Or.inl ⟨by rfl, ?_⟩) (by assumption) ?_
    rotate_left
    · (intro W hSw; (try dsimp only at hSw); go_simp; try (with_reducible rfl))
    try simp only [Act.put]
    try simp only [List.setIfInBounds_toArray]
    try simp only [List.set_cons_succ]
    try simp only [List.set_cons_zero]
    refine wpAnyH_done (by kernel_rfl) (peel_use hrest.out ?_ (by kernel_rfl)) _
    exact hHeld
  refine AllReadyH.cons rfl (fun K hK => ?_) AllReadyH.nil
  go_simp
  refine hK.out _ _ ?_ (fun hHeld => ?_)
  · (first | exact ALL.out _ (hHeld.1.trans hu2) | exact ALL.out _ (hHeld.1.alloc _))
  clear hK K
  try simp only [Act.put]
  try simp only [List.setIfInBounds_toArray]
  try simp only [List.set_cons_succ]
  try simp only [List.set_cons_zero]
  refine wpAnyH_ready (rs := [1]) (by kernel_rfl) (by simp) ?_
  refine AllReadyH.cons rfl (fun K hK => ?_) AllReadyH.nil
  go_simp
  (first
      | (go_at_call 17; refine (vPlain (HL.out.upd hHeld.1) (by decide) (n := 3) rfl (k := [s1.e, s2.e, s3.e]) rfl (m := 3) rfl).mono ?_; rintro e w2 ⟨A2, c2, rfl, hx2, hu2⟩))
  try (go_wp2_with fail)
  refine hK.out _ _ ?_ (fun hHeld => ?_)
  · (first | exact ALL.out _ (hHeld.1.trans hu2) | exact ALL.out _ (hHeld.1.alloc _))
  clear hK K
  try simp only [Act.put]
  try simp only [List.setIfInBounds_toArray]
  try simp only [List.set_cons_succ]
  try simp only [List.set_cons_zero]
  refine wpAnyH_ready (rs := [15]) (by kernel_rfl) (by simp) ?_
  refine AllReadyH.cons rfl (fun K hK => ?_) AllReadyH.nil
  go_simp
  (first
      | (go_at_call 16; refine (vSameE hx2 (EdX.upd (edx_blk (l := [s1.e, s2.e, s3.e]) (Blk.new _ 27 [.int .i64 1, .int .i64 2, .int .i64 1, .int .i64 5, .int .i64 1, .int .i64 2, .int .i64 2, .int .i64 5, .int .i64 3, .int .i64 1, .int .i64 3, .int .i64 5]) rfl) hu2) (by decide) (by decide) (n := 3) (m := 3) rfl rfl (v := true) rfl).mono ?_; rintro e w2 ⟨rfl, hu2⟩) | (go_at_call 16; refine (vSameE (hx2.upd ((Upd.refl No _).alloc _)) (edx_blk (l := [s1.e, s2.e, s3.e]) (Blk.new _ 27 [.int .i64 1, .int .i64 2, .int .i64 1, .int .i64 5, .int .i64 1, .int .i64 2, .int .i64 2, .int .i64 5, .int .i64 3, .int .i64 1, .int .i64 3, .int .i64 5]) rfl) (by decide) (by decide) (n := 3) (m := 3) rfl rfl (v := true) rfl).mono ?_; rintro e w2 ⟨rfl, hu2⟩))
  try (go_wp2_with fail)
  refine hK.out _ _ ?_ (fun hHeld => ?_)
  · (first | exact ALL.out _ (hHeld.1.trans hu2) | exact ALL.out _ (hHeld.1.alloc _))
  clear hK K
  try simp only [Act.put]
  try simp only [List.setIfInBounds_toArray]
  try simp only [List.set_cons_succ]
  try simp only [List.set_cons_zero]
  refine wpAnyH_take (i := 16) (v := ?_) rfl (by kernel_rfl) (by kernel_rfl) (by kernel_rfl) (fun c a w h => hq c a _ _ w h) (Or.inl ⟨by rfl, ?_⟩) (by assumption) ?_
  rotate_left
  · (intro W hSw; (try dsimp only at hSw); go_simp; try (with_reducible rfl))
  try simp only [Act.put]
  try simp only [List.setIfInBounds_toArray]
  try simp only [List.set_cons_succ]
  try simp only [List.set_cons_zero]
  refine wpAnyH_take (i := 17) (v := ?_) rfl (by kernel_rfl) (by kernel_rfl) (by kernel_rfl) (fun c a w h => hq c a _ _ w h) (Or.inl ⟨by rfl, ?_⟩) (by assumption) ?_
  rotate_left
  · (intro W hSw; (try dsimp only at hSw); go_simp; try (with_reducible rfl))
  try simp only [Act.put]
  try simp only [List.setIfInBounds_toArray]
  try simp only [List.set_cons_succ]
  try simp only [List.set_cons_zero]
  refine wpAnyH_done (by kernel_rfl) (peel_use hrest.out ?_ (by kernel_rfl)) _
  exact hHeld
end Go.Proofs.YtaicemjckagcaaaGreat
