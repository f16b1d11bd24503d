/- Digraphs: a new one; a nil one. -/
import Derived.Test.YtaicemjckagcaaaMba
namespace Go.Proofs.Ytaicemjckagcaaa
set_option linter.unusedVariables false
open Go.RowKit
theorem slt_rows : SlT Try.prog 134 133 1 24 := SlT.mk_ Try.underlying134 (z := .slice none 0 0) (by kernel_rfl) rfl (by omega)
def roomN (n : Int) : Nat := (min (max n 0) 4096).toNat
theorem roomN_le (n : Int) : roomN n ≤ 4096 := by unfold roomN; omega
/-- a new digraph lies there -/
def DNew (w : World) (N : Nat) (e : Ending) (w' : World) : Prop :=
  ∃ G g ob ib oh ih, e = .returned (.pointer (some ⟨g, 0, none⟩)) ∧ GIs w' G g (List.replicate N []) (List.replicate N []) 0 ob ib oh ih w'.heap.size ∧ Upd No w w' ∧ ∀ k, G k → w.heap.size ≤ k
theorem made_rows (N : Nat) : madeCells #[Value.slice none 0 0] (N * 1) = (List.replicate N (Value.slice none 0 0)).toArray := by
  apply Array.ext
  · simp [madeCells]
  · intro i h1 h2
    simp [madeCells, Nat.mod_one]
theorem gis_new (w : World) (N : Nat) (hN : N ≤ 4096) (a b : Nat) (hab : (a = w.heap.size ∧ b = w.heap.size + 1) ∨ (a = w.heap.size + 1 ∧ b = w.heap.size)) (w' : World) (u : Upd No w w') (hz : w'.heap.size = w.heap.size + 3)
    (h1 : Blk w' w.heap.size 133 (List.replicate N (.slice none 0 0))) (h2 : Blk w' (w.heap.size + 1) 133 (List.replicate N (.slice none 0 0)))
    (h3 : Blk w' (w.heap.size + 2) 136 [.slice (some ⟨a, 0, none⟩) N N, .slice (some ⟨b, 0, none⟩) N N, .int .i64 0]) : DNew w N (.returned (.pointer (some ⟨w.heap.size + 2, 0, none⟩))) w' := by
  have hd : RowsD w' w'.heap.size (List.replicate N (.slice none 0 0)) (List.replicate N []) := by
    refine ⟨by simp, fun i hi => ⟨none, 0, ?_, ?_⟩⟩
    · simp at hi; simp [hi]
    · simp only [List.getElem_replicate]; exact World.ownsRow_nil _ _ _ _
  have hno : ∀ v ∈ List.replicate N (Value.slice none 0 0) ++ List.replicate N (Value.slice none 0 0), ∀ k, ¬ Own v k := by
    intro v hv k hk
    simp only [List.mem_append, List.mem_replicate, or_self] at hv
    rw [hv.2] at hk
    simp [Own, Value.ownBlock] at hk
  refine ⟨fun k => w.heap.size ≤ k ∧ k < w'.heap.size, w.heap.size + 2, a, b, List.replicate N (.slice none 0 0), List.replicate N (.slice none 0 0), rfl, ?_, u, fun k hk => hk.1⟩
  have ha : Blk w' a 133 (List.replicate N (.slice none 0 0)) := by rcases hab with ⟨rfl, _⟩ | ⟨rfl, _⟩ <;> assumption
  have hb : Blk w' b 133 (List.replicate N (.slice none 0 0)) := by rcases hab with ⟨_, rfl⟩ | ⟨_, rfl⟩ <;> assumption
  constructor
  case blk => simpa using h3
  case ob_ => exact ha
  case ib_ => exact hb
  case len => rfl
  case ro => exact hd
  case ri => exact hd
  case dis => intro i j v u k hv hu hne hk; exact absurd hk (hno v (List.mem_of_getElem? hv) k)
  case low => omega
  case ne => omega
  case inG => exact ⟨by omega, by omega, by omega, fun v hv k hk => absurd hk (hno v hv k)⟩
  case old => exact fun k hk => hk.2
  case few => exact ⟨by simpa using hN, fun l hl => by simp at hl; simp [hl.2], fun l hl => by simp at hl; simp [hl.2]⟩
def rowsNil (N : Nat) : Array Value := (List.replicate N (Value.slice none 0 0)).toArray
theorem mk_rows (N : Nat) (hN : N ≤ 4096) (m : Int) (hm : m = (N : Int)) (W : World) : (Instr.makeSlice 134 (.int .i64 m) (.int .i64 m)).run Try.prog W = .ok (.slice (some ⟨W.heap.size, 0, none⟩) N N) (W.alloc (.cells (rowsNil N) 133)) := by
  subst hm
  unfold rowsNil
  rw [← made_rows]
  exact run_mk W slt_rows (z := .slice none 0 0) (by kernel_rfl) N (by omega) (by omega)
theorem new_end (w : World) (N a b : Nat) (w' : World) (e : ((w.alloc (.cells (rowsNil N) 133)).alloc (.cells (rowsNil N) 133)).alloc (.cells #[.slice (some ⟨a, 0, none⟩) N N, .slice (some ⟨b, 0, none⟩) N N, .int .i64 0] 136) = w') (hN : N ≤ 4096)
    (hab : (a = w.heap.size ∧ b = w.heap.size + 1) ∨ (a = w.heap.size + 1 ∧ b = w.heap.size)) : DNew w N (.returned (.pointer (some ⟨w.heap.size + 1 + 1, 0, none⟩))) w'.drew := by
  subst e
  have e2 : Blk ((w.alloc (.cells (rowsNil N) 133)).alloc (.cells (rowsNil N) 133)) (w.alloc (.cells (rowsNil N) 133)).heap.size 133 (List.replicate N (.slice none 0 0)) := Blk.new _ _ _
  have e3 := Blk.new ((w.alloc (.cells (rowsNil N) 133)).alloc (.cells (rowsNil N) 133)) 136 [.slice (some ⟨a, 0, none⟩) N N, .slice (some ⟨b, 0, none⟩) N N, .int .i64 0]
  rw [show (w.alloc (.cells (rowsNil N) 133)).heap.size = w.heap.size + 1 by simp] at e2
  rw [show ((w.alloc (.cells (rowsNil N) 133)).alloc (.cells (rowsNil N) 133)).heap.size = w.heap.size + 2 by simp] at e3
  refine gis_new w N hN a b hab _ ((((Upd.refl No w).alloc _).alloc _).alloc _).drew (by simp [World.drew]) ?_ ?_ ?_
  · exact ((Blk.new w 133 (List.replicate N (.slice none 0 0))).alloc _).alloc _
  · exact e2.alloc _
  · exact e3
set_option maxRecDepth 100000 in
theorem dnew (w : World) (n : Int) : Calls Try.prog 72 #[.int .i64 n] w (DNew w (roomN n)) := by
  obtain ⟨N, hNN⟩ : ∃ N, roomN n = N := ⟨_, rfl⟩
  have hNle : N ≤ 4096 := by rw [← hNN]; exact roomN_le n
  have HN := Lib.hid hNN
  have hmk2 := mk_rows N hNle (min (max n 0) 4096) (by rw [← hNN]; unfold roomN; omega)
  by_cases h1 : n < 0
  · have hmk := mk_rows N hNle 0 (by rw [← hNN]; unfold roomN; omega)
    clear hNN
    go_enter Try.func72, Try.ntmps72
    go_wp2
    refine wp_region_noPanic ?_
    refine wp_region_held_drew (S := (fun _ => True)) (by kernel_rfl) ?_ (fun hHeld => ?_)
    · (trivial)
    refine wpT 0 ⟨some 6, .move (.tmp 0), 3, "digraph.go:29", #[], none⟩ ?_ (.inl ⟨by rfl, ?_⟩) ?_
    rotate_left
    · (intro W hSw; (try dsimp only at hSw); go_simp; try (with_reducible rfl))
    try simp only [Act.put]
    try simp only [List.setIfInBounds_toArray]
    try simp only [List.set_cons_succ]
    try simp only [List.set_cons_zero]
    refine wpT 2 ⟨some 8, .move (.tmp 0), 3, "digraph.go:29", #[], none⟩ ?_ (.inl ⟨by rfl, ?_⟩) ?_
    rotate_left
    · (intro W hSw; (try dsimp only at hSw); go_simp; try (with_reducible rfl))
    try simp only [Act.put]
    try simp only [List.setIfInBounds_toArray]
    try simp only [List.set_cons_succ]
    try simp only [List.set_cons_zero]
    refine wpAnyH_ready (rs := [1, 3]) (by kernel_rfl) (by simp) ?_
    refine AllReadyH.cons (o := ⟨some 7, .makeSlice 134 (.tmp 6) (.tmp 6), 134, "digraph.go:29", #[⟨0, .data⟩, ⟨0, .data⟩], none⟩) rfl (fun K hK => ?_) ?_
    · go_simp
      refine hK.out _ _ ?_ (fun hHeld => ?_)
      · (trivial)
      clear hK K
      try simp only [Act.put]
      try simp only [List.setIfInBounds_toArray]
      try simp only [List.set_cons_succ]
      try simp only [List.set_cons_zero]
      refine wpAnyH_ready (rs := [3]) (by kernel_rfl) (by simp) ?_
      refine AllReadyH.cons (o := ⟨some 9, .makeSlice 134 (.tmp 8) (.tmp 8), 134, "digraph.go:29", #[⟨2, .data⟩, ⟨2, .data⟩], none⟩) rfl (fun K hK => ?_) AllReadyH.nil
      go_simp
      refine hK.out _ _ ?_ (fun hHeld => ?_)
      · (trivial)
      clear hK K
      try simp only [Act.put]
      try simp only [List.setIfInBounds_toArray]
      try simp only [List.set_cons_succ]
      try simp only [List.set_cons_zero]
      refine wpT 4 ⟨some 10, .build 136 #[(0, .tmp 7), (1, .tmp 9)], 136, "digraph.go:29", #[⟨1, .data⟩, ⟨3, .data⟩], none⟩ ?_ (.inl ⟨by rfl, ?_⟩) ?_
      rotate_left
      · (intro W hSw; (try dsimp only at hSw); go_simp; try (with_reducible rfl))
      try simp only [Act.put]
      try simp only [List.setIfInBounds_toArray]
      try simp only [List.set_cons_succ]
      try simp only [List.set_cons_zero]
      refine wpAnyH_ready (rs := [5]) (by kernel_rfl) (by simp) ?_
      refine AllReadyH.cons (o := ⟨some 11, .box 136 (.tmp 10), 37, "digraph.go:29", #[⟨4, .data⟩], none⟩) rfl (fun K hK => ?_) AllReadyH.nil
      go_simp
      refine hK.out _ _ ?_ (fun hHeld => ?_)
      · (trivial)
      clear hK K
      try simp only [Act.put]
      try simp only [List.setIfInBounds_toArray]
      try simp only [List.set_cons_succ]
      try simp only [List.set_cons_zero]
      refine wpT 6 ⟨some 2, .assign (.tmp 11), 37, "digraph.go:29", #[⟨5, .data⟩, ⟨0, .phase⟩, ⟨1, .phase⟩, ⟨2, .phase⟩, ⟨3, .phase⟩, ⟨4, .phase⟩, ⟨5, .phase⟩], none⟩ ?_ (.inl ⟨by rfl, ?_⟩) ?_
      rotate_left
      · (intro W hSw; (try dsimp only at hSw); go_simp; try (with_reducible rfl))
      try simp only [Act.put]
      try simp only [List.setIfInBounds_toArray]
      try simp only [List.set_cons_succ]
      try simp only [List.set_cons_zero]
      refine wpAnyH_done (by kernel_rfl) (NoPanic.normal ?_) _
      go_wp2
      go_ret
      rw [HN.out]
      refine new_end w N _ _ _ rfl hNle ?_
      simp
    refine AllReadyH.cons (o := ⟨some 9, .makeSlice 134 (.tmp 8) (.tmp 8), 134, "digraph.go:29", #[⟨2, .data⟩, ⟨2, .data⟩], none⟩) rfl (fun K hK => ?_) AllReadyH.nil
    go_simp
    refine hK.out _ _ ?_ (fun hHeld => ?_)
    · (trivial)
    clear hK K
    try simp only [Act.put]
    try simp only [List.setIfInBounds_toArray]
    try simp only [List.set_cons_succ]
    try simp only [List.set_cons_zero]
    refine wpAnyH_ready (rs := [1]) (by kernel_rfl) (by simp) ?_
    refine AllReadyH.cons (o := ⟨some 7, .makeSlice 134 (.tmp 6) (.tmp 6), 134, "digraph.go:29", #[⟨0, .data⟩, ⟨0, .data⟩], none⟩) rfl (fun K hK => ?_) AllReadyH.nil
    go_simp
    refine hK.out _ _ ?_ (fun hHeld => ?_)
    · (trivial)
    clear hK K
    try simp only [Act.put]
    try simp only [List.setIfInBounds_toArray]
    try simp only [List.set_cons_succ]
    try simp only [List.set_cons_zero]
    refine wpT 4 ⟨some 10, .build 136 #[(0, .tmp 7), (1, .tmp 9)], 136, "digraph.go:29", #[⟨1, .data⟩, ⟨3, .data⟩], none⟩ ?_ (.inl ⟨by rfl, ?_⟩) ?_
    rotate_left
    · (intro W hSw; (try dsimp only at hSw); go_simp; try (with_reducible rfl))
    try simp only [Act.put]
    try simp only [List.setIfInBounds_toArray]
    try simp only [List.set_cons_succ]
    try simp only [List.set_cons_zero]
    refine wpAnyH_ready (rs := [5]) (by kernel_rfl) (by simp) ?_
    refine AllReadyH.cons (o := ⟨some 11, .box 136 (.tmp 10), 37, "digraph.go:29", #[⟨4, .data⟩], none⟩) rfl (fun K hK => ?_) AllReadyH.nil
    go_simp
    refine hK.out _ _ ?_ (fun hHeld => ?_)
    · (trivial)
    clear hK K
    try simp only [Act.put]
    try simp only [List.setIfInBounds_toArray]
    try simp only [List.set_cons_succ]
    try simp only [List.set_cons_zero]
    refine wpT 6 ⟨some 2, .assign (.tmp 11), 37, "digraph.go:29", #[⟨5, .data⟩, ⟨0, .phase⟩, ⟨1, .phase⟩, ⟨2, .phase⟩, ⟨3, .phase⟩, ⟨4, .phase⟩, ⟨5, .phase⟩], none⟩ ?_ (.inl ⟨by rfl, ?_⟩) ?_
    rotate_left
    · (intro W hSw; (try dsimp only at hSw); go_simp; try (with_reducible rfl))
    try simp only [Act.put]
    try simp only [List.setIfInBounds_toArray]
    try simp only [List.set_cons_succ]
    try simp only [List.set_cons_zero]
    refine wpAnyH_done (by kernel_rfl) (NoPanic.normal ?_) _
    go_wp2
    go_ret
    rw [HN.out]
    refine new_end w N _ _ _ rfl hNle ?_
    simp
  · by_cases h2 : 4096 < n
    · have hmk := mk_rows N hNle 4096 (by rw [← hNN]; unfold roomN; omega)
      clear hNN
      go_enter Try.func72, Try.ntmps72
      go_wp2
      refine wp_region_noPanic ?_
      refine wp_region_held_drew (S := (fun _ => True)) (by kernel_rfl) ?_ (fun hHeld => ?_)
      · (trivial)
      refine wpT 0 ⟨some 6, .move (.tmp 0), 3, "digraph.go:29", #[], none⟩ ?_ (.inl ⟨by rfl, ?_⟩) ?_
      rotate_left
      · (intro W hSw; (try dsimp only at hSw); go_simp; try (with_reducible rfl))
      try simp only [Act.put]
      try simp only [List.setIfInBounds_toArray]
      try simp only [List.set_cons_succ]
      try simp only [List.set_cons_zero]
      refine wpT 2 ⟨some 8, .move (.tmp 0), 3, "digraph.go:29", #[], none⟩ ?_ (.inl ⟨by rfl, ?_⟩) ?_
      rotate_left
      · (intro W hSw; (try dsimp only at hSw); go_simp; try (with_reducible rfl))
      try simp only [Act.put]
      try simp only [List.setIfInBounds_toArray]
      try simp only [List.set_cons_succ]
      try simp only [List.set_cons_zero]
      refine wpAnyH_ready (rs := [1, 3]) (by kernel_rfl) (by simp) ?_
      refine AllReadyH.cons (o := ⟨some 7, .makeSlice 134 (.tmp 6) (.tmp 6), 134, "digraph.go:29", #[⟨0, .data⟩, ⟨0, .data⟩], none⟩) rfl (fun K hK => ?_) ?_
      · go_simp
        refine hK.out _ _ ?_ (fun hHeld => ?_)
        · (trivial)
        clear hK K
        try simp only [Act.put]
        try simp only [List.setIfInBounds_toArray]
        try simp only [List.set_cons_succ]
        try simp only [List.set_cons_zero]
        refine wpAnyH_ready (rs := [3]) (by kernel_rfl) (by simp) ?_
        refine AllReadyH.cons (o := ⟨some 9, .makeSlice 134 (.tmp 8) (.tmp 8), 134, "digraph.go:29", #[⟨2, .data⟩, ⟨2, .data⟩], none⟩) rfl (fun K hK => ?_) AllReadyH.nil
        go_simp
        refine hK.out _ _ ?_ (fun hHeld => ?_)
        · (trivial)
        clear hK K
        try simp only [Act.put]
        try simp only [List.setIfInBounds_toArray]
        try simp only [List.set_cons_succ]
        try simp only [List.set_cons_zero]
        refine wpT 4 ⟨some 10, .build 136 #[(0, .tmp 7), (1, .tmp 9)], 136, "digraph.go:29", #[⟨1, .data⟩, ⟨3, .data⟩], none⟩ ?_ (.inl ⟨by rfl, ?_⟩) ?_
        rotate_left
        · (intro W hSw; (try dsimp only at hSw); go_simp; try (with_reducible rfl))
        try simp only [Act.put]
        try simp only [List.setIfInBounds_toArray]
        try simp only [List.set_cons_succ]
        try simp only [List.set_cons_zero]
        refine wpAnyH_ready (rs := [5]) (by kernel_rfl) (by simp) ?_
        refine AllReadyH.cons (o := ⟨some 11, .box 136 (.tmp 10), 37, "digraph.go:29", #[⟨4, .data⟩], none⟩) rfl (fun K hK => ?_) AllReadyH.nil
        go_simp
        refine hK.out _ _ ?_ (fun hHeld => ?_)
        · (trivial)
        clear hK K
        try simp only [Act.put]
        try simp only [List.setIfInBounds_toArray]
        try simp only [List.set_cons_succ]
        try simp only [List.set_cons_zero]
        refine wpT 6 ⟨some 2, .assign (.tmp 11), 37, "digraph.go:29", #[⟨5, .data⟩, ⟨0, .phase⟩, ⟨1, .phase⟩, ⟨2, .phase⟩, ⟨3, .phase⟩, ⟨4, .phase⟩, ⟨5, .phase⟩], none⟩ ?_ (.inl ⟨by rfl, ?_⟩) ?_
        rotate_left
        · (intro W hSw; (try dsimp only at hSw); go_simp; try (with_reducible rfl))
        try simp only [Act.put]
        try simp only [List.setIfInBounds_toArray]
        try simp only [List.set_cons_succ]
        try simp only [List.set_cons_zero]
        refine wpAnyH_done (by kernel_rfl) (NoPanic.normal ?_) _
        go_wp2
        go_ret
        rw [HN.out]
        refine new_end w N _ _ _ rfl hNle ?_
        simp
      refine AllReadyH.cons (o := ⟨some 9, .makeSlice 134 (.tmp 8) (.tmp 8), 134, "digraph.go:29", #[⟨2, .data⟩, ⟨2, .data⟩], none⟩) rfl (fun K hK => ?_) AllReadyH.nil
      go_simp
      refine hK.out _ _ ?_ (fun hHeld => ?_)
      · (trivial)
      clear hK K
      try simp only [Act.put]
      try simp only [List.setIfInBounds_toArray]
      try simp only [List.set_cons_succ]
      try simp only [List.set_cons_zero]
      refine wpAnyH_ready (rs := [1]) (by kernel_rfl) (by simp) ?_
      refine AllReadyH.cons (o := ⟨some 7, .makeSlice 134 (.tmp 6) (.tmp 6), 134, "digraph.go:29", #[⟨0, .data⟩, ⟨0, .data⟩], none⟩) rfl (fun K hK => ?_) AllReadyH.nil
      go_simp
      refine hK.out _ _ ?_ (fun hHeld => ?_)
      · (trivial)
      clear hK K
      try simp only [Act.put]
      try simp only [List.setIfInBounds_toArray]
      try simp only [List.set_cons_succ]
      try simp only [List.set_cons_zero]
      refine wpT 4 ⟨some 10, .build 136 #[(0, .tmp 7), (1, .tmp 9)], 136, "digraph.go:29", #[⟨1, .data⟩, ⟨3, .data⟩], none⟩ ?_ (.inl ⟨by rfl, ?_⟩) ?_
      rotate_left
      · (intro W hSw; (try dsimp only at hSw); go_simp; try (with_reducible rfl))
      try simp only [Act.put]
      try simp only [List.setIfInBounds_toArray]
      try simp only [List.set_cons_succ]
      try simp only [List.set_cons_zero]
      refine wpAnyH_ready (rs := [5]) (by kernel_rfl) (by simp) ?_
      refine AllReadyH.cons (o := ⟨some 11, .box 136 (.tmp 10), 37, "digraph.go:29", #[⟨4, .data⟩], none⟩) rfl (fun K hK => ?_) AllReadyH.nil
      go_simp
      refine hK.out _ _ ?_ (fun hHeld => ?_)
      · (trivial)
      clear hK K
      try simp only [Act.put]
      try simp only [List.setIfInBounds_toArray]
      try simp only [List.set_cons_succ]
      try simp only [List.set_cons_zero]
      refine wpT 6 ⟨some 2, .assign (.tmp 11), 37, "digraph.go:29", #[⟨5, .data⟩, ⟨0, .phase⟩, ⟨1, .phase⟩, ⟨2, .phase⟩, ⟨3, .phase⟩, ⟨4, .phase⟩, ⟨5, .phase⟩], none⟩ ?_ (.inl ⟨by rfl, ?_⟩) ?_
      rotate_left
      · (intro W hSw; (try dsimp only at hSw); go_simp; try (with_reducible rfl))
      try simp only [Act.put]
      try simp only [List.setIfInBounds_toArray]
      try simp only [List.set_cons_succ]
      try simp only [List.set_cons_zero]
      refine wpAnyH_done (by kernel_rfl) (NoPanic.normal ?_) _
      go_wp2
      go_ret
      rw [HN.out]
      refine new_end w N _ _ _ rfl hNle ?_
      simp
    · have hmk := mk_rows N hNle n (by rw [← hNN]; unfold roomN; omega)
      clear hNN
      go_enter Try.func72, Try.ntmps72
      go_wp2
      refine wp_region_noPanic ?_
      refine wp_region_held_drew (S := (fun _ => True)) (by kernel_rfl) ?_ (fun hHeld => ?_)
      · (trivial)
      refine wpT 0 ⟨some 6, .move (.tmp 0), 3, "digraph.go:29", #[], none⟩ ?_ (.inl ⟨by rfl, ?_⟩) ?_
      rotate_left
      · (intro W hSw; (try dsimp only at hSw); go_simp; try (with_reducible rfl))
      try simp only [Act.put]
      try simp only [List.setIfInBounds_toArray]
      try simp only [List.set_cons_succ]
      try simp only [List.set_cons_zero]
      refine wpT 2 ⟨some 8, .move (.tmp 0), 3, "digraph.go:29", #[], none⟩ ?_ (.inl ⟨by rfl, ?_⟩) ?_
      rotate_left
      · (intro W hSw; (try dsimp only at hSw); go_simp; try (with_reducible rfl))
      try simp only [Act.put]
      try simp only [List.setIfInBounds_toArray]
      try simp only [List.set_cons_succ]
      try simp only [List.set_cons_zero]
      refine wpAnyH_ready (rs := [1, 3]) (by kernel_rfl) (by simp) ?_
      refine AllReadyH.cons (o := ⟨some 7, .makeSlice 134 (.tmp 6) (.tmp 6), 134, "digraph.go:29", #[⟨0, .data⟩, ⟨0, .data⟩], none⟩) rfl (fun K hK => ?_) ?_
      · go_simp
        refine hK.out _ _ ?_ (fun hHeld => ?_)
        · (trivial)
        clear hK K
        try simp only [Act.put]
        try simp only [List.setIfInBounds_toArray]
        try simp only [List.set_cons_succ]
        try simp only [List.set_cons_zero]
        refine wpAnyH_ready (rs := [3]) (by kernel_rfl) (by simp) ?_
        refine AllReadyH.cons (o := ⟨some 9, .makeSlice 134 (.tmp 8) (.tmp 8), 134, "digraph.go:29", #[⟨2, .data⟩, ⟨2, .data⟩], none⟩) rfl (fun K hK => ?_) AllReadyH.nil
        go_simp
        refine hK.out _ _ ?_ (fun hHeld => ?_)
        · (trivial)
        clear hK K
        try simp only [Act.put]
        try simp only [List.setIfInBounds_toArray]
        try simp only [List.set_cons_succ]
        try simp only [List.set_cons_zero]
        refine wpT 4 ⟨some 10, .build 136 #[(0, .tmp 7), (1, .tmp 9)], 136, "digraph.go:29", #[⟨1, .data⟩, ⟨3, .data⟩], none⟩ ?_ (.inl ⟨by rfl, ?_⟩) ?_
        rotate_left
        · (intro W hSw; (try dsimp only at hSw); go_simp; try (with_reducible rfl))
        try simp only [Act.put]
        try simp only [List.setIfInBounds_toArray]
        try simp only [List.set_cons_succ]
        try simp only [List.set_cons_zero]
        refine wpAnyH_ready (rs := [5]) (by kernel_rfl) (by simp) ?_
        refine AllReadyH.cons (o := ⟨some 11, .box 136 (.tmp 10), 37, "digraph.go:29", #[⟨4, .data⟩], none⟩) rfl (fun K hK => ?_) AllReadyH.nil
        go_simp
        refine hK.out _ _ ?_ (fun hHeld => ?_)
        · (trivial)
        clear hK K
        try simp only [Act.put]
        try simp only [List.setIfInBounds_toArray]
        try simp only [List.set_cons_succ]
        try simp only [List.set_cons_zero]
        refine wpT 6 ⟨some 2, .assign (.tmp 11), 37, "digraph.go:29", #[⟨5, .data⟩, ⟨0, .phase⟩, ⟨1, .phase⟩, ⟨2, .phase⟩, ⟨3, .phase⟩, ⟨4, .phase⟩, ⟨5, .phase⟩], none⟩ ?_ (.inl ⟨by rfl, ?_⟩) ?_
        rotate_left
        · (intro W hSw; (try dsimp only at hSw); go_simp; try (with_reducible rfl))
        try simp only [Act.put]
        try simp only [List.setIfInBounds_toArray]
        try simp only [List.set_cons_succ]
        try simp only [List.set_cons_zero]
        refine wpAnyH_done (by kernel_rfl) (NoPanic.normal ?_) _
        go_wp2
        go_ret
        rw [HN.out]
        refine new_end w N _ _ _ rfl hNle ?_
        simp
      refine AllReadyH.cons (o := ⟨some 9, .makeSlice 134 (.tmp 8) (.tmp 8), 134, "digraph.go:29", #[⟨2, .data⟩, ⟨2, .data⟩], none⟩) rfl (fun K hK => ?_) AllReadyH.nil
      go_simp
      refine hK.out _ _ ?_ (fun hHeld => ?_)
      · (trivial)
      clear hK K
      try simp only [Act.put]
      try simp only [List.setIfInBounds_toArray]
      try simp only [List.set_cons_succ]
      try simp only [List.set_cons_zero]
      refine wpAnyH_ready (rs := [1]) (by kernel_rfl) (by simp) ?_
      refine AllReadyH.cons (o := ⟨some 7, .makeSlice 134 (.tmp 6) (.tmp 6), 134, "digraph.go:29", #[⟨0, .data⟩, ⟨0, .data⟩], none⟩) rfl (fun K hK => ?_) AllReadyH.nil
      go_simp
      refine hK.out _ _ ?_ (fun hHeld => ?_)
      · (trivial)
      clear hK K
      try simp only [Act.put]
      try simp only [List.setIfInBounds_toArray]
      try simp only [List.set_cons_succ]
      try simp only [List.set_cons_zero]
      refine wpT 4 ⟨some 10, .build 136 #[(0, .tmp 7), (1, .tmp 9)], 136, "digraph.go:29", #[⟨1, .data⟩, ⟨3, .data⟩], none⟩ ?_ (.inl ⟨by rfl, ?_⟩) ?_
      rotate_left
      · (intro W hSw; (try dsimp only at hSw); go_simp; try (with_reducible rfl))
      try simp only [Act.put]
      try simp only [List.setIfInBounds_toArray]
      try simp only [List.set_cons_succ]
      try simp only [List.set_cons_zero]
      refine wpAnyH_ready (rs := [5]) (by kernel_rfl) (by simp) ?_
      refine AllReadyH.cons (o := ⟨some 11, .box 136 (.tmp 10), 37, "digraph.go:29", #[⟨4, .data⟩], none⟩) rfl (fun K hK => ?_) AllReadyH.nil
      go_simp
      refine hK.out _ _ ?_ (fun hHeld => ?_)
      · (trivial)
      clear hK K
      try simp only [Act.put]
      try simp only [List.setIfInBounds_toArray]
      try simp only [List.set_cons_succ]
      try simp only [List.set_cons_zero]
      refine wpT 6 ⟨some 2, .assign (.tmp 11), 37, "digraph.go:29", #[⟨5, .data⟩, ⟨0, .phase⟩, ⟨1, .phase⟩, ⟨2, .phase⟩, ⟨3, .phase⟩, ⟨4, .phase⟩, ⟨5, .phase⟩], none⟩ ?_ (.inl ⟨by rfl, ?_⟩) ?_
      rotate_left
      · (intro W hSw; (try dsimp only at hSw); go_simp; try (with_reducible rfl))
      try simp only [Act.put]
      try simp only [List.setIfInBounds_toArray]
      try simp only [List.set_cons_succ]
      try simp only [List.set_cons_zero]
      refine wpAnyH_done (by kernel_rfl) (NoPanic.normal ?_) _
      go_wp2
      go_ret
      rw [HN.out]
      refine new_end w N _ _ _ rfl hNle ?_
      simp
end Go.Proofs.Ytaicemjckagcaaa

/- Digraphs: masks. -/
namespace Go.Proofs.Ytaicemjckagcaaa
set_option linter.unusedVariables false
open Go.RowKit
/-- a mask has a kind's bit -/
def bitM (mask kind : Int) : Bool := decide ((mask / 2 ^ kind.toNat) % 2 = 1)
theorem and_lit (x : Int) (y : Nat) (hy : y ≤ 8) : bits .and .i64 x (y : Int) = (((x % 18446744073709551616).toNat &&& y : Nat) : Int) := by
  change IntKind.i64.wrap (((BitVec.ofInt 64 x &&& BitVec.ofInt 64 (y : Int)).toNat : Nat) : Int) = _
  have h1 : (BitVec.ofInt 64 x).toNat = (x % 18446744073709551616).toNat := by rw [BitVec.toNat_ofInt]; rfl
  have h2 : (BitVec.ofInt 64 (y : Int)).toNat = y := by rw [BitVec.toNat_ofInt]; omega
  rw [BitVec.toNat_and, h1, h2]
  have h3 : (x % 18446744073709551616).toNat &&& y ≤ y := Nat.and_le_right
  exact IntWalk.i64_in _ (by omega)
theorem and_one1 (x : Int) : (bits .and .i64 x 1 == 1) = decide (x % 2 = 1) := by
  have h := and_lit x 1 (by omega)
  rw [Nat.and_one_is_mod] at h
  have h' : bits .and .i64 x 1 = (((x % 18446744073709551616).toNat % 2 : Nat) : Int) := h
  rw [h', Bool.eq_iff_iff, beq_iff_eq, decide_eq_true_eq]
  omega
theorem dof (w : World) (mask kind : Int) (h1 : 1 ≤ kind) (h2 : kind ≤ 3) : Calls Try.prog 136 #[.int .i64 mask, .int .i64 kind] w fun e w' => e = .returned (.bool (bitM mask kind)) ∧ w = w' := by
  have hk : kind = 1 ∨ kind = 2 ∨ kind = 3 := by omega
  clear h1 h2
  rcases hk with rfl | rfl | rfl
  all_goals
    go_enter Try.func136, Try.ntmps136
    go_wp2
    go_ret
    exact ⟨congrArg (fun b => Ending.returned (.bool b)) (and_one1 _), rfl⟩
end Go.Proofs.Ytaicemjckagcaaa
