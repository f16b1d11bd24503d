/- Edges of a history: the example's history. -/
import Derived.Test.YtaicemjckagcaaaMbj
import Derived.Test.YtaicemjckagcaaaMbs
namespace Go.Proofs.Ytaicemjckagcaaa
set_option linter.unusedVariables false
open Go.RowKit
/-- the example's history, at such places -/
def smallH (n : Nat) : Hist :=
  ⟨[⟨1, true, [⟨false, 5, 0, 0⟩], some ⟨n + 1 + 1, 0, none⟩, 1⟩, ⟨2, true, [⟨false, 5, 0, 0⟩, ⟨true, 5, 1, 1⟩], some ⟨n + 1 + 1 + 1, 0, none⟩, 2⟩, ⟨3, true, [⟨true, 5, 0, 0⟩, ⟨true, 5, 0, 0⟩], some ⟨n + 1 + 1 + 1 + 1, 0, none⟩, 2⟩],
   [⟨5, [1, 2], some ⟨n + 1 + 1 + 1 + 1 + 1 + 1, 0, none⟩, 2⟩], some ⟨n + 1 + 1 + 1 + 1 + 1, 0, none⟩, 3, some ⟨n + 1 + 1 + 1 + 1 + 1 + 1 + 1, 0, none⟩, 1⟩
theorem small_lies {W : World} {n : Nat} {t1 t2 t3 t4 : TypeId}
    (b1 : Blk W (n + 1 + 1) t1 [.bool false, .int .i64 5, .int .i64 0, .int .i64 0])
    (b2 : Blk W (n + 1 + 1 + 1) t1 [.bool false, .int .i64 5, .int .i64 0, .int .i64 0, .bool true, .int .i64 5, .int .i64 1, .int .i64 1])
    (b3 : Blk W (n + 1 + 1 + 1 + 1) t1 [.bool true, .int .i64 5, .int .i64 0, .int .i64 0, .bool true, .int .i64 5, .int .i64 0, .int .i64 0])
    (b4 : Blk W (n + 1 + 1 + 1 + 1 + 1) t2 [.int .i64 1, .bool true, .slice (some ⟨n + 1 + 1, 0, none⟩) 1 1, .int .i64 2, .bool true, .slice (some ⟨n + 1 + 1 + 1, 0, none⟩) 2 2, .int .i64 3, .bool true, .slice (some ⟨n + 1 + 1 + 1 + 1, 0, none⟩) 2 2])
    (b5 : Blk W (n + 1 + 1 + 1 + 1 + 1 + 1) t3 [.int .i64 1, .int .i64 2])
    (b6 : Blk W (n + 1 + 1 + 1 + 1 + 1 + 1 + 1) t4 [.int .i64 5, .slice (some ⟨n + 1 + 1 + 1 + 1 + 1 + 1, 0, none⟩) 2 2]) :
    (smallH n).lies (fun _ => True) W := by
  have h3 : ∀ (l : List HTx), ∀ r ∈ l.map HTx.cells, r.length = 3 := fun l r hr => by
    obtain ⟨e, _, rfl⟩ := List.mem_map.1 hr
    rfl
  have h2 : ∀ (l : List HOrd), ∀ r ∈ l.map HOrd.cells, r.length = 2 := fun l r hr => by
    obtain ⟨e, _, rfl⟩ := List.mem_map.1 hr
    rfl
  refine ⟨(recs_blk (h3 _) b4).weak fun _ _ _ => trivial, (recs_blk (h2 _) b6).weak fun _ _ _ => trivial, ?_, ?_, by simp [smallH], by simp [smallH], by simp [smallH], by simp [smallH]⟩
  · intro t ht
    simp only [smallH, List.mem_cons, List.not_mem_nil, or_false] at ht
    rcases ht with rfl | rfl | rfl
    · refine ⟨Recs.weak (recs_blk hops_len b1) fun _ _ _ => trivial, by simp, by unfold fewOps; simp, by unfold i64; simp, ?_⟩
      intro o ho
      simp only [List.mem_cons, List.not_mem_nil, or_false] at ho
      subst ho
      unfold HOp.ok i64; decide
    · refine ⟨Recs.weak (recs_blk hops_len b2) fun _ _ _ => trivial, by simp, by unfold fewOps; simp, by unfold i64; simp, ?_⟩
      intro o ho
      simp only [List.mem_cons, List.not_mem_nil, or_false] at ho
      rcases ho with rfl | rfl <;> (unfold HOp.ok i64; decide)
    · refine ⟨Recs.weak (recs_blk hops_len b3) fun _ _ _ => trivial, by simp, by unfold fewOps; simp, by unfold i64; simp, ?_⟩
      intro o ho
      simp only [List.mem_cons, List.not_mem_nil, or_false] at ho
      rcases ho with rfl | rfl <;> (unfold HOp.ok i64; decide)
  · intro o ho
    simp only [smallH, List.mem_cons, List.not_mem_nil, or_false] at ho
    subst ho
    refine ⟨(ints_blk (xs := [1, 2]) b5).weak fun _ _ _ => trivial, by simp, by simp, by unfold i64; simp, ?_⟩
    intro n hn
    simp only [List.mem_cons, List.not_mem_nil, or_false] at hn
    rcases hn with rfl | rfl <;> (unfold i64; decide)
def nSmall (w : World) (e : Ending) (w' : World) : Prop := e = .returned (.agg #[.slice (some ⟨w.heap.size + 1 + 1 + 1 + 1 + 1, 0, none⟩) 3 3, .slice (some ⟨w.heap.size + 1 + 1 + 1 + 1 + 1 + 1 + 1, 0, none⟩) 1 1]) ∧ (smallH w.heap.size).lies (fun _ => True) w' ∧ Upd No w w'
set_option maxRecDepth 100000 in
theorem ssmall (w : World) : Calls Try.prog 90 #[] w (nSmall w) := by
  go_enter Try.func90, Try.ntmps90
  go_wp2
  refine bodyPost_ret (v := .agg #[.slice (some ⟨w.heap.size + 1 + 1 + 1 + 1 + 1, 0, none⟩) 3 3, .slice (some ⟨w.heap.size + 1 + 1 + 1 + 1 + 1 + 1 + 1, 0, none⟩) 1 1]) (by simp [results, Try.results90, go_sem]) rfl ⟨rfl, ?_, (((((((((Upd.refl No w).alloc _).alloc _).alloc _).alloc _).alloc _).alloc _).alloc _).alloc _)⟩
  exact small_lies ((((((Blk.new_at (by simp only [World.size_alloc])).alloc _).alloc _).alloc _).alloc _).alloc _) (((((Blk.new_at (by simp only [World.size_alloc])).alloc _).alloc _).alloc _).alloc _) ((((Blk.new_at (by simp only [World.size_alloc])).alloc _).alloc _).alloc _) (((Blk.new_at (by simp only [World.size_alloc])).alloc _).alloc _) ((Blk.new_at (by simp only [World.size_alloc])).alloc _) (Blk.new_at (by simp only [World.size_alloc]))
/-- the edges that are told of it -/
def s1 : Hvy := ⟨⟨1, 2, 1, 5⟩, 1⟩
def s2 : Hvy := ⟨⟨1, 2, 2, 5⟩, 1⟩
def s3 : Hvy := ⟨⟨3, 1, 3, 5⟩, 2⟩
section
variable (n : Nat)
theorem sa1 : edgesR (smallH n) = [s1, s2, s3] := by kernel_rfl
theorem sa2 : ofKey 5 (edgesR (smallH n)) = [s1, s2, s3] := by kernel_rfl
theorem sa3 : ofKey 4 (edgesR (smallH n)) = [] := by kernel_rfl
theorem sa4 : countR (smallH n) ⟨3, 1, 3, 5⟩ = 2 := by kernel_rfl
theorem sa5 : countR (smallH n) ⟨2, 1, 1, 5⟩ = 0 := by kernel_rfl
theorem sa6 (B : Option Addr) : edgesR ⟨(smallH n).txs, [], (smallH n).A, 3, B, 0⟩ = [] := by kernel_rfl
theorem sa7 (B : Option Addr) : countR ⟨(smallH n).txs, [], (smallH n).A, 3, B, 0⟩ ⟨1, 2, 2, 5⟩ = 0 := by kernel_rfl
end
end Go.Proofs.Ytaicemjckagcaaa
