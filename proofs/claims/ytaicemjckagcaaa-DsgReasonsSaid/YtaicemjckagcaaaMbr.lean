/- Edges of a history: what a read is a reason for. -/
import Derived.Test.YtaicemjckagcaaaMbo
import Derived.Test.YtaicemjckagcaaaMbq
namespace Go.Proofs.Ytaicemjckagcaaa
set_option linter.unusedVariables false
open Go.RowKit
/-- the edges that a read is a reason for -/
def readE (LD : List Int) (LW : List (Int × Int)) (LN : List ((Int × Int) × Int)) (ti : Int) (o : HOp) : List Edge :=
  if o.tx = ti then [] else if o.tx ≠ 0 ∧ o.tx ∉ LD then [] else if o.tx ≠ 0 ∧ (cnt2 LW (o.tx, o.key) : Int) ≠ o.nth then []
  else (if o.tx ≠ 0 then [⟨o.tx, ti, 2, o.key⟩] else []) ++ if lastW LN (o.key, o.tx) ≠ 0 ∧ lastW LN (o.key, o.tx) ≠ ti then [⟨ti, lastW LN (o.key, o.tx), 3, o.key⟩] else []
theorem cnt2_nil {α : Type} [DecidableEq α] (x : α) : cnt2 ([] : List α) x = 0 := rfl
theorem cnt2_one {α : Type} [DecidableEq α] (a x : α) : cnt2 [a] x = if x = a then 1 else 0 := by
  have := cnt2_snoc ([] : List α) a x
  simpa [cnt2_nil] using this
theorem CntM.inc {m : List (Edge × Value)} {g : Edge → Nat} (h : CntM m g) (a : Edge) : CntM (mput m a (.int .i64 ((g a : Int) + 1))) (fun x => g x + cnt2 [a] x) := by
  refine (h.put a (g a + 1) (by omega)).congr fun x => ?_
  rw [cnt2_one]
  by_cases e : x = a
  · subst e; simp
  · simp [e]
/-- what a read leaves -/
def Read (w : World) (bc : Nat) (g : Edge → Nat) (l : List Edge) (e : Ending) (w' : World) : Prop :=
  e = .returned (.tuple #[]) ∧ ∃ mc, MapE w' bc encE mc ∧ CntM mc (fun x => g x + cnt2 l x) ∧ Upd (One bc) w w'
set_option maxRecDepth 100000 in
set_option maxHeartbeats 8000000 in
theorem dread (w : World) (fb bd bl bx bc : Nat) (txs : List HTx) (ords : List HOrd) (A : Option Addr) (c : Nat) (B : Option Addr) (d : Nat) (md : List (Int × Value)) (ml mx : List ((Int × Int) × Value)) (LD : List Int) (LW : List (Int × Int)) (LN : List ((Int × Int) × Int))
    (ti : Int) (tv : Bool) (tA : Option Addr) (tl tc : Nat) (yr : Bool) (yk yt yn : Int) (mc : List (Edge × Value)) (g : Edge → Nat)
    (h : FindW w fb bd bl bx txs ords A c B d md ml mx LD LW LN) (hm : MapE w bc encE mc) (hg : CntM mc g) (hb : ∀ e, g e ≤ 1000000000) (hd : bc ≠ fb ∧ bc ≠ bd ∧ bc ≠ bl ∧ bc ≠ bx) :
    Calls Try.prog 145 #[.pointer (some ⟨fb, 0, none⟩), .agg #[.int .i64 ti, .bool tv, .slice tA tl tc], .agg #[.bool yr, .int .i64 yk, .int .i64 yt, .int .i64 yn], .map (some bc)] w (Read w bc g (readE LD LW LN ti ⟨yr, yk, yt, yn⟩)) := by
  obtain ⟨wb, hwb⟩ : ∃ wb, (w.alloc (.cells #[.int .i64 ti, .bool tv, .slice tA tl tc] 64)).alloc (.cells #[.bool yr, .int .i64 yk, .int .i64 yt, .int .i64 yn] 66) = wb := ⟨_, rfl⟩
  have u0 : Upd No w wb := by rw [← hwb]; exact ((Upd.refl No w).alloc _).alloc _
  have bT : Blk wb w.heap.size 64 [.int .i64 ti, .bool tv, .slice tA tl tc] := by rw [← hwb]; exact (Blk.new w _ _).alloc _
  have bO : Blk wb (w.heap.size + 1) 66 [.bool yr, .int .i64 yk, .int .i64 yt, .int .i64 yn] := by
    rw [← hwb]
    have := Blk.new (w.alloc (.cells #[.int .i64 ti, .bool tv, .slice tA tl tc] 64)) 66 [.bool yr, .int .i64 yk, .int .i64 yt, .int .i64 yn]
    simpa using this
  have hbl := hm.lt
  have FB := Lib.hid (h.upd u0 id id id id)
  have MB := Lib.hid (hm.upd u0 id)
  have HG := Lib.hid hg
  have BND := Lib.hid hb
  have UB := Lib.hid (u0.mono (T := One bc) (fun _ _ e => e.elim))
  have t0 : ∀ W, Upd (One bc) wb W → W.cell? ⟨w.heap.size, 0, none⟩ = some (.int .i64 ti) := fun W u => by have := (bT.upd u (by unfold One; omega)).cell 0; simpa using this
  have o1 : ∀ W, Upd (One bc) wb W → W.cell? ⟨w.heap.size + 1, 1, none⟩ = some (.int .i64 yk) := fun W u => by have := (bO.upd u (by unfold One; omega)).cell 1; simpa using this
  have o2 : ∀ W, Upd (One bc) wb W → W.cell? ⟨w.heap.size + 1, 2, none⟩ = some (.int .i64 yt) := fun W u => by have := (bO.upd u (by unfold One; omega)).cell 2; simpa using this
  have o3 : ∀ W, Upd (One bc) wb W → W.cell? ⟨w.heap.size + 1, 3, none⟩ = some (.int .i64 yn) := fun W u => by have := (bO.upd u (by unfold One; omega)).cell 3; simpa using this
  have f2 : ∀ W, Upd (One bc) wb W → W.cell? ⟨fb, 2, none⟩ = some (.map (some bd)) := fun W u => by have := (FB.out.blk.upd u (by unfold One; omega)).cell 2; simpa using this
  have f3 : ∀ W, Upd (One bc) wb W → W.cell? ⟨fb, 3, none⟩ = some (.map (some bl)) := fun W u => by have := (FB.out.blk.upd u (by unfold One; omega)).cell 3; simpa using this
  have f4 : ∀ W, Upd (One bc) wb W → W.cell? ⟨fb, 4, none⟩ = some (.map (some bx)) := fun W u => by have := (FB.out.blk.upd u (by unfold One; omega)).cell 4; simpa using this
  have L1 : ∀ W, Upd (One bc) wb W → (Instr.lookup 93 (.map (some bd)) (.int .i64 yt) false).run Try.prog W = .ok (.int .i64 (if yt ∈ LD then 1 else 0)) W := fun W u => by
    have := run_look kbyint Try.underlying93 zeroCnt (FB.out.md_.upd u (by unfold One; omega)).is yt
    rwa [FB.out.dm yt] at this
  have L2 : ∀ W, Upd (One bc) wb W → (Instr.lookup 158 (.map (some bl)) (.agg #[.int .i64 yt, .int .i64 yk]) false).run Try.prog W = .ok (.int .i64 (cnt2 LW (yt, yk) : Int)) W := fun W u => by
    have := run_look kbypair Try.underlying158 zeroCnt (FB.out.ml_.upd u (by unfold One; omega)).is (yt, yk)
    rwa [FB.out.lm.val] at this
  have L3 : ∀ W, Upd (One bc) wb W → (Instr.lookup 158 (.map (some bx)) (.agg #[.int .i64 yk, .int .i64 yt]) false).run Try.prog W = .ok (.int .i64 (lastW LN (yk, yt))) W := fun W u => by
    have := run_look kbypair Try.underlying158 zeroCnt (FB.out.mx_.upd u (by unfold One; omega)).is (yk, yt)
    rwa [FB.out.nm (yk, yt)] at this
  have hr : Upd (One bc) wb wb := Upd.refl _ _
  have hrq := fun n => hr.drewN n
  have H1 := Lib.hid (hg.congr (f := fun x => g x + cnt2 [] x) (fun x => by rw [cnt2_nil]; rfl))
  clear h hm hg hb hbl hd u0 bT bO
  by_cases c1 : yt = ti
  · have HV := Lib.hid (show readE LD LW LN ti ⟨yr, yk, yt, yn⟩ = [] by unfold readE; rw [if_pos c1])
    have c2 : (yt == ti) = true := by simpa using c1
    have HC := Lib.hid c1
    clear c1
    go_enter Try.func145, Try.ntmps145
    go_wp2
    go_quiet (fail)
    go_wp2
    go_end0
    exact ⟨rfl, mc, MB.out, by rw [HV.out]; exact H1.out, UB.out.trans (hr.drewN _)⟩
  · have c2 : (yt == ti) = false := by simpa using c1
    by_cases c3 : yt = 0
    · have c4 : (yt != 0) = false := by simpa using c3
      have HR : Hid (readE LD LW LN ti ⟨yr, yk, yt, yn⟩ = [] ++ if lastW LN (yk, yt) ≠ 0 ∧ lastW LN (yk, yt) ≠ ti then [⟨ti, lastW LN (yk, yt), 3, yk⟩] else []) := Lib.hid (by
        unfold readE
        rw [if_neg c1, if_neg (fun h => h.1 c3), if_neg (fun h => h.1 c3), if_neg (fun h => h c3)])
      clear c1 c3
      go_enter Try.func145, Try.ntmps145
      go_wp2
      go_quiet (fail)
      have hqu := hrq nq
      have hmu : MapE (wb.drewN nq) bc encE mc := MB.out
      generalize wb.drewN nq = wu at *
      have HE := Lib.hid (show ∀ z, g z = g z + cnt2 ([] : List Edge) z from fun z => by rw [cnt2_nil]; rfl)
      obtain ⟨x, hx⟩ : ∃ x, lastW LN (yk, yt) = x := ⟨_, rfl⟩
      rw [hx] at L3 HR
      clear hx
      have hq := fun n => Upd.drewN hqu n
      by_cases hx0 : x = 0
      · have HV := Lib.hid (show readE LD LW LN ti ⟨yr, yk, yt, yn⟩ = [] by rw [HR.out, if_neg (fun h => h.1 hx0), List.append_nil])
        subst hx0
        go_wp2
        go_quiet (fail)
        go_wp2
        go_end0
        exact ⟨rfl, _, hmu, by rw [HV.out]; exact (HG.out).congr HE.out, UB.out.trans (Upd.drewN hqu _)⟩
      · have hx1 : (x != 0) = true := by simpa using hx0
        by_cases hxt : x = ti
        · have hx2 : (x != ti) = false := by simpa using hxt
          have HV := Lib.hid (show readE LD LW LN ti ⟨yr, yk, yt, yn⟩ = [] by rw [HR.out, if_neg (fun h => h.2 hxt), List.append_nil])
          clear hxt hx0
          go_wp2
          go_quiet (fail)
          go_wp2
          go_end0
          exact ⟨rfl, _, hmu, by rw [HV.out]; exact (HG.out).congr HE.out, UB.out.trans (Upd.drewN hqu _)⟩
        · have hx2 : (x != ti) = true := by simpa using hxt
          have HV := Lib.hid (show readE LD LW LN ti ⟨yr, yk, yt, yn⟩ = [] ++ [⟨ti, x, 3, yk⟩] by rw [HR.out, if_pos ⟨hx0, hxt⟩])
          clear hxt hx0
          go_wp2
          go_quiet (fail)
          have hqq := hq nq
          have hmq : MapE ((wu).drewN nq) bc encE mc := hmu
          generalize (wu).drewN nq = wq at *
          go_wp2
          have hmd : MapE wq.drew bc encE mc := hmq
          obtain ⟨N, hN⟩ : ∃ N, g ⟨ti, x, 3, yk⟩ = N := ⟨_, rfl⟩
          have hval : (mget mc (⟨ti, x, 3, yk⟩ : Edge)).getD (.int .i64 0) = .int .i64 (N : Int) := by rw [(HG.out).val, hN]
          have hNl : N ≤ 2000000000 := by have := (BND.out ⟨ti, x, 3, yk⟩); omega
          obtain ⟨st, w6, e2, hm6, hu6, hst⟩ := run_entry kbyedge Try.underlying148 zeroCnt hmd (⟨ti, x, 3, yk⟩ : Edge)
          have e1 := run_look kbyedge Try.underlying148 zeroCnt hmd.is (⟨ti, x, 3, yk⟩ : Edge)
          have e3 := run_look kbyedge Try.underlying148 zeroCnt hm6.is (⟨ti, x, 3, yk⟩ : Edge)
          rw [mget_same, Option.getD_some] at e3
          rw [hval] at e1 e2 e3
          obtain ⟨w7, e4, hm7, hu7⟩ := hst (.int .i64 ((N : Int) + 1))
          change (Instr.lookup 148 (.map (some bc)) (.agg #[.int .i64 ti, .int .i64 x, .int .i64 3, .int .i64 yk]) false).run Try.prog wq.drew = .ok (.int .i64 N) wq.drew at e1
          change (Instr.lookup 148 (.map (some bc)) (.agg #[.int .i64 ti, .int .i64 x, .int .i64 3, .int .i64 yk]) false).run Try.prog w6 = .ok (.int .i64 N) w6 at e3
          change (Instr.mapEntry 148 (.map (some bc)) (.agg #[.int .i64 ti, .int .i64 x, .int .i64 3, .int .i64 yk])).run Try.prog wq.drew = .ok (.tuple #[.int .i64 N, .int .i64 st]) w6 at e2
          change (Instr.entryStore 148 (.map (some bc)) (.int .i64 st) (.int .i64 ((N : Int) + 1))).run Try.prog w6 = .ok () w7 at e4
          have hxz : Upd (One bc) wb wq := hqq
          have hU6 : Upd (One bc) wb w6 := hxz.trans hu6.of_drew
          have hU7 : Upd (One bc) wb w7 := hxz.trans hu7.of_drew
          have HM7 := Lib.hid hm7
          have HG7 := Lib.hid ((HG.out).inc (⟨ti, x, 3, yk⟩ : Edge))
          rw [hN] at HG7
          clear hmd hN hval hst hm6 hm7 hu6 hu7
          have hwr : IntKind.i64.wrap ((N : Int) + 1) = (N : Int) + 1 := IntWalk.i64_in _ (by omega)
          go_region_held3 (fun W' => Upd (One bc) wb W') (first | exact hxz.drew | exact hU6 | exact hU7) (fail)
          all_goals
            clear e1 e2 e3 e4 hwr
            go_wp2
            go_end0
            exact ⟨rfl, _, HM7.out, by rw [HV.out]; exact HG7.out.congr (fun z => by rw [cnt2_append]; have := HE.out z; omega), UB.out.trans hU7⟩
    · have c4 : (yt != 0) = true := by simpa using c3
      by_cases c5 : yt ∈ LD
      · obtain ⟨N0, hN0⟩ : ∃ N0, cnt2 LW (yt, yk) = N0 := ⟨_, rfl⟩
        rw [hN0] at L2
        simp only [if_pos c5] at L1
        by_cases c6 : (N0 : Int) = yn
        · have c7 : ((N0 : Int) != yn) = false := by simpa using c6
          have HR : Hid (readE LD LW LN ti ⟨yr, yk, yt, yn⟩ = [⟨yt, ti, 2, yk⟩] ++ if lastW LN (yk, yt) ≠ 0 ∧ lastW LN (yk, yt) ≠ ti then [⟨ti, lastW LN (yk, yt), 3, yk⟩] else []) := Lib.hid (by
            unfold readE
            rw [if_neg c1, if_neg (fun h => h.2 c5), if_neg (fun h => h.2 (by rw [hN0]; exact c6)), if_pos c3])
          clear c1 c3 c5 c6 hN0
          go_enter Try.func145, Try.ntmps145
          go_wp2
          go_quiet (fail)
          have hqu := hrq nq
          have hmu : MapE (wb.drewN nq) bc encE mc := MB.out
          generalize wb.drewN nq = wu at *
          go_wp2
          have hmd : MapE wu.drew bc encE mc := hmu
          obtain ⟨N, hN⟩ : ∃ N, g ⟨yt, ti, 2, yk⟩ = N := ⟨_, rfl⟩
          have hval : (mget mc (⟨yt, ti, 2, yk⟩ : Edge)).getD (.int .i64 0) = .int .i64 (N : Int) := by rw [(HG.out).val, hN]
          have hNl : N ≤ 2000000000 := by have := (BND.out ⟨yt, ti, 2, yk⟩); omega
          obtain ⟨st, w6, e2, hm6, hu6, hst⟩ := run_entry kbyedge Try.underlying148 zeroCnt hmd (⟨yt, ti, 2, yk⟩ : Edge)
          have e1 := run_look kbyedge Try.underlying148 zeroCnt hmd.is (⟨yt, ti, 2, yk⟩ : Edge)
          have e3 := run_look kbyedge Try.underlying148 zeroCnt hm6.is (⟨yt, ti, 2, yk⟩ : Edge)
          rw [mget_same, Option.getD_some] at e3
          rw [hval] at e1 e2 e3
          obtain ⟨w7, e4, hm7, hu7⟩ := hst (.int .i64 ((N : Int) + 1))
          change (Instr.lookup 148 (.map (some bc)) (.agg #[.int .i64 yt, .int .i64 ti, .int .i64 2, .int .i64 yk]) false).run Try.prog wu.drew = .ok (.int .i64 N) wu.drew at e1
          change (Instr.lookup 148 (.map (some bc)) (.agg #[.int .i64 yt, .int .i64 ti, .int .i64 2, .int .i64 yk]) false).run Try.prog w6 = .ok (.int .i64 N) w6 at e3
          change (Instr.mapEntry 148 (.map (some bc)) (.agg #[.int .i64 yt, .int .i64 ti, .int .i64 2, .int .i64 yk])).run Try.prog wu.drew = .ok (.tuple #[.int .i64 N, .int .i64 st]) w6 at e2
          change (Instr.entryStore 148 (.map (some bc)) (.int .i64 st) (.int .i64 ((N : Int) + 1))).run Try.prog w6 = .ok () w7 at e4
          have hxz : Upd (One bc) wb wu := hqu
          have hU6 : Upd (One bc) wb w6 := hxz.trans hu6.of_drew
          have hU7 : Upd (One bc) wb w7 := hxz.trans hu7.of_drew
          have HM7 := Lib.hid hm7
          have HG7 := Lib.hid ((HG.out).inc (⟨yt, ti, 2, yk⟩ : Edge))
          rw [hN] at HG7
          clear hmd hN hval hst hm6 hm7 hu6 hu7
          have hwr : IntKind.i64.wrap ((N : Int) + 1) = (N : Int) + 1 := IntWalk.i64_in _ (by omega)
          go_region_held3 (fun W' => Upd (One bc) wb W') (first | exact hxz.drew | exact hU6 | exact hU7) (fail)
          all_goals
            clear e1 e2 e3 e4 hwr
            obtain ⟨M2, hM2⟩ : ∃ M2, mput mc (⟨yt, ti, 2, yk⟩ : Edge) (.int .i64 ((N : Int) + 1)) = M2 := ⟨_, rfl⟩
            obtain ⟨g1, hg1⟩ : ∃ g1 : Edge → Nat, (fun x => g x + cnt2 [(⟨yt, ti, 2, yk⟩ : Edge)] x) = g1 := ⟨_, rfl⟩
            rw [hM2, hg1] at HG7
            rw [hM2] at HM7
            have HE := Lib.hid (show ∀ z, g1 z = g z + cnt2 [(⟨yt, ti, 2, yk⟩ : Edge)] z from fun z => by rw [← hg1])
            have HB1 := Lib.hid (show ∀ z, g1 z ≤ 1000000001 from fun z => by have h1 := BND.out z; have h2 := cnt2_le [(⟨yt, ti, 2, yk⟩ : Edge)] z; simp at h2; rw [HE.out]; omega)
            have HMA := HM7
            have HGA := HG7
            have hUA := hU7
            clear hM2 hg1 HM7 HG7 hU6 hU7 hxz
            obtain ⟨x, hx⟩ : ∃ x, lastW LN (yk, yt) = x := ⟨_, rfl⟩
            rw [hx] at L3 HR
            clear hx
            have hq := fun n => Upd.drewN hUA n
            by_cases hx0 : x = 0
            · have HV := Lib.hid (show readE LD LW LN ti ⟨yr, yk, yt, yn⟩ = [⟨yt, ti, 2, yk⟩] by rw [HR.out, if_neg (fun h => h.1 hx0), List.append_nil])
              subst hx0
              go_wp2
              go_quiet (fail)
              go_wp2
              go_end0
              exact ⟨rfl, _, HMA.out, by rw [HV.out]; exact (HGA.out).congr HE.out, UB.out.trans (Upd.drewN hUA _)⟩
            · have hx1 : (x != 0) = true := by simpa using hx0
              by_cases hxt : x = ti
              · have hx2 : (x != ti) = false := by simpa using hxt
                have HV := Lib.hid (show readE LD LW LN ti ⟨yr, yk, yt, yn⟩ = [⟨yt, ti, 2, yk⟩] by rw [HR.out, if_neg (fun h => h.2 hxt), List.append_nil])
                clear hxt hx0
                go_wp2
                go_quiet (fail)
                go_wp2
                go_end0
                exact ⟨rfl, _, HMA.out, by rw [HV.out]; exact (HGA.out).congr HE.out, UB.out.trans (Upd.drewN hUA _)⟩
              · have hx2 : (x != ti) = true := by simpa using hxt
                have HV := Lib.hid (show readE LD LW LN ti ⟨yr, yk, yt, yn⟩ = [⟨yt, ti, 2, yk⟩] ++ [⟨ti, x, 3, yk⟩] by rw [HR.out, if_pos ⟨hx0, hxt⟩])
                clear hxt hx0
                go_wp2
                go_quiet (fail)
                have hqq := hq nq
                have hmq : MapE ((w7).drewN nq) bc encE M2 := HMA.out
                generalize (w7).drewN nq = wq at *
                go_wp2
                have hmd : MapE wq.drew bc encE M2 := hmq
                obtain ⟨N, hN⟩ : ∃ N, g1 ⟨ti, x, 3, yk⟩ = N := ⟨_, rfl⟩
                have hval : (mget M2 (⟨ti, x, 3, yk⟩ : Edge)).getD (.int .i64 0) = .int .i64 (N : Int) := by rw [(HGA.out).val, hN]
                have hNl : N ≤ 2000000000 := by have := (HB1.out ⟨ti, x, 3, yk⟩); omega
                obtain ⟨st, w6, e2, hm6, hu6, hst⟩ := run_entry kbyedge Try.underlying148 zeroCnt hmd (⟨ti, x, 3, yk⟩ : Edge)
                have e1 := run_look kbyedge Try.underlying148 zeroCnt hmd.is (⟨ti, x, 3, yk⟩ : Edge)
                have e3 := run_look kbyedge Try.underlying148 zeroCnt hm6.is (⟨ti, x, 3, yk⟩ : Edge)
                rw [mget_same, Option.getD_some] at e3
                rw [hval] at e1 e2 e3
                obtain ⟨w7, e4, hm7, hu7⟩ := hst (.int .i64 ((N : Int) + 1))
                change (Instr.lookup 148 (.map (some bc)) (.agg #[.int .i64 ti, .int .i64 x, .int .i64 3, .int .i64 yk]) false).run Try.prog wq.drew = .ok (.int .i64 N) wq.drew at e1
                change (Instr.lookup 148 (.map (some bc)) (.agg #[.int .i64 ti, .int .i64 x, .int .i64 3, .int .i64 yk]) false).run Try.prog w6 = .ok (.int .i64 N) w6 at e3
                change (Instr.mapEntry 148 (.map (some bc)) (.agg #[.int .i64 ti, .int .i64 x, .int .i64 3, .int .i64 yk])).run Try.prog wq.drew = .ok (.tuple #[.int .i64 N, .int .i64 st]) w6 at e2
                change (Instr.entryStore 148 (.map (some bc)) (.int .i64 st) (.int .i64 ((N : Int) + 1))).run Try.prog w6 = .ok () w7 at e4
                have hxz : Upd (One bc) wb wq := hqq
                have hU6 : Upd (One bc) wb w6 := hxz.trans hu6.of_drew
                have hU7 : Upd (One bc) wb w7 := hxz.trans hu7.of_drew
                have HM7 := Lib.hid hm7
                have HG7 := Lib.hid ((HGA.out).inc (⟨ti, x, 3, yk⟩ : Edge))
                rw [hN] at HG7
                clear hmd hN hval hst hm6 hm7 hu6 hu7
                have hwr : IntKind.i64.wrap ((N : Int) + 1) = (N : Int) + 1 := IntWalk.i64_in _ (by omega)
                go_region_held3 (fun W' => Upd (One bc) wb W') (first | exact hxz.drew | exact hU6 | exact hU7) (fail)
                all_goals
                  clear e1 e2 e3 e4 hwr
                  go_wp2
                  go_end0
                  exact ⟨rfl, _, HM7.out, by rw [HV.out]; exact HG7.out.congr (fun z => by rw [cnt2_append]; have := HE.out z; omega), UB.out.trans hU7⟩
        · have c7 : ((N0 : Int) != yn) = true := by simpa using c6
          have HV := Lib.hid (show readE LD LW LN ti ⟨yr, yk, yt, yn⟩ = [] by unfold readE; rw [if_neg c1, if_neg (fun h => h.2 c5), if_pos ⟨c3, by rw [hN0]; exact c6⟩])
          clear c1 c3 c5 c6 hN0
          go_enter Try.func145, Try.ntmps145
          go_wp2
          go_quiet (fail)
          go_wp2
          go_end0
          exact ⟨rfl, mc, MB.out, by rw [HV.out]; exact H1.out, UB.out.trans (hr.drewN _)⟩
      · have HV := Lib.hid (show readE LD LW LN ti ⟨yr, yk, yt, yn⟩ = [] by unfold readE; rw [if_neg c1, if_pos ⟨c3, c5⟩])
        simp only [if_neg c5] at L1
        clear c1 c3 c5
        go_enter Try.func145, Try.ntmps145
        go_wp2
        go_quiet (fail)
        go_wp2
        go_end0
        exact ⟨rfl, mc, MB.out, by rw [HV.out]; exact H1.out, UB.out.trans (hr.drewN _)⟩
end Go.Proofs.Ytaicemjckagcaaa

/- Edges of a history, as they are counted: in plain words. -/
namespace Go.Proofs.Ytaicemjckagcaaa
set_option linter.unusedVariables false
open Go.RowKit
/-- who stands one behind the other -/
def wwO (key : Int) : List Int → List Edge
  | [] => []
  | a :: l => (match l with | [] => [] | b :: _ => [⟨a, b, 1, key⟩]) ++ wwO key l
theorem wwO_take (key : Int) : ∀ (l : List Int) {k : Nat} {a b : Int} (h1 : k + 1 < l.length), l[k] = a → l[k + 1] = b → wwO key (l.take (k + 2)) = wwO key (l.take (k + 1)) ++ [⟨a, b, 1, key⟩]
  | x :: y :: l, 0, a, b, _, ha, hb => by
    simp at ha hb
    subst ha hb
    simp [wwO]
  | x :: y :: l, k + 1, a, b, h, ha, hb => by
    have ih := wwO_take key (y :: l) (k := k) (a := a) (b := b) (by simpa using h) (by simpa using ha) (by simpa using hb)
    have e1 : (x :: y :: l).take (k + 1 + 2) = x :: (y :: l).take (k + 2) := rfl
    have e2 : (x :: y :: l).take (k + 1 + 1) = x :: (y :: l).take (k + 1) := rfl
    rw [e1, e2]
    have e3 : ∀ n, wwO key (x :: (y :: l).take (n + 1)) = [⟨x, y, 1, key⟩] ++ wwO key ((y :: l).take (n + 1)) := fun n => rfl
    rw [e3 (k + 1), e3 k, ih, List.append_assoc]
def wwC (cnt : Int → Bool) (o : HOrd) : List Edge := if cnt o.key then wwO o.key o.txs else []
def wwL (cnt : Int → Bool) (ords : List HOrd) : List Edge := ords.flatMap (wwC cnt)
theorem wwL_succ {cnt : Int → Bool} {ords : List HOrd} {k : Nat} {x : HOrd} (hk : k < ords.length) (hx : ords[k] = x) : wwL cnt (ords.take (k + 1)) = wwL cnt (ords.take k) ++ wwC cnt x := by
  subst hx
  unfold wwL
  rw [List.take_succ_eq_append_getElem hk, List.flatMap_append]
  simp
/-- one is there, or not -/
def memF (L : List Edge) (e : Edge) : Nat := if e ∈ L then 1 else 0
theorem memF_put {m : List (Edge × Value)} {L : List Edge} (h : CntM m (memF L)) (a : Edge) : CntM (mput m a (.int .i64 1)) (memF (L ++ [a])) := by
  refine CntM.congr (show CntM (mput m a (.int .i64 ((1 : Nat) : Int))) _ from h.put a 1 (by omega)) fun x => ?_
  unfold memF
  by_cases e : x = a
  · subst e; simp
  · simp [e]
def rdO (cnt : Int → Bool) (LD : List Int) (LW : List (Int × Int)) (LN : List ((Int × Int) × Int)) (ti : Int) (l : List HOp) : List Edge := (l.filter fun o => o.read && cnt o.key).flatMap (readE LD LW LN ti)
theorem rdO_succ {cnt : Int → Bool} {LD : List Int} {LW : List (Int × Int)} {LN : List ((Int × Int) × Int)} {ti : Int} {l : List HOp} {k : Nat} {x : HOp} (hk : k < l.length) (hx : l[k] = x) :
    rdO cnt LD LW LN ti (l.take (k + 1)) = rdO cnt LD LW LN ti (l.take k) ++ if x.read && cnt x.key then readE LD LW LN ti x else [] := by
  subst hx
  unfold rdO
  rw [List.take_succ_eq_append_getElem hk, List.filter_append, List.flatMap_append]
  cases h : (l[k].read && cnt l[k].key) <;> simp [h]
def rdL (cnt : Int → Bool) (LD : List Int) (LW : List (Int × Int)) (LN : List ((Int × Int) × Int)) (txs : List HTx) : List Edge := (txs.filter (·.done)).flatMap fun t => rdO cnt LD LW LN t.id t.ops
theorem rdL_succ {cnt : Int → Bool} {LD : List Int} {LW : List (Int × Int)} {LN : List ((Int × Int) × Int)} {txs : List HTx} {k : Nat} {x : HTx} (hk : k < txs.length) (hx : txs[k] = x) :
    rdL cnt LD LW LN (txs.take (k + 1)) = rdL cnt LD LW LN (txs.take k) ++ if x.done then rdO cnt LD LW LN x.id x.ops else [] := by
  subst hx
  unfold rdL
  rw [List.take_succ_eq_append_getElem hk, List.filter_append, List.flatMap_append]
  cases h : txs[k].done <;> simp [h]
theorem readE_len (LD : List Int) (LW : List (Int × Int)) (LN : List ((Int × Int) × Int)) (ti : Int) (o : HOp) : (readE LD LW LN ti o).length ≤ 2 := by
  unfold readE
  split
  · simp
  · split
    · simp
    · split
      · simp
      · rw [List.length_append]
        split <;> split <;> simp
/-- how often there is a reason for one, as it is counted -/
def gCnt (cnt : Int → Bool) (txs : List HTx) (ords : List HOrd) (e : Edge) : Nat := memF (wwL cnt ords) e + cnt2 (rdL cnt (doneL txs) (writesL txs) (nextsL ords) txs) e
def gAll (cnt : Int → Bool) (h : Hist) (e : Edge) : Nat := if rightB h = true then gCnt cnt h.txs h.ords e else 0
theorem memF_le (L : List Edge) (e : Edge) : memF L e ≤ 1 := by unfold memF; split <;> omega
theorem right_few {h : Hist} (hr : rightB h = true) : h.txs.length ≤ 4096 := by
  apply Classical.byContradiction
  intro hn
  rw [right_many (by omega)] at hr
  cases hr
theorem right_ops {h : Hist} (hr : rightB h = true) {t : HTx} (ht : t ∈ h.txs) : t.ops.length ≤ 4095 := by
  have h1 := (right_parts hr ht).1
  unfold txErr at h1
  split at h1
  · cases h1
  · split at h1
    · cases h1
    · omega
end Go.Proofs.Ytaicemjckagcaaa

/- Edges of a history: dsg.counted is walked. -/
namespace Go.Proofs.Ytaicemjckagcaaa
set_option linter.unusedVariables false
open Go.RowKit
/-- what counting leaves -/
def Counted (w : World) (g : Edge → Nat) (e : Ending) (w' : World) : Prop :=
  ∃ bc mc, e = .returned (.map (some bc)) ∧ w.heap.size ≤ bc ∧ MapE w' bc encE mc ∧ CntM mc g ∧ Upd No w w'
theorem dEdges1 (w : World) (key : Int) : Calls Try.prog 96 #[.int .i64 key] w fun e w' => e = .returned (.bool true) ∧ Upd No w w' := by
  go_enter Try.func96, Try.ntmps96
  go_wp2
  go_ret
  exact ⟨rfl, Upd.refl _ _⟩
theorem dOf1 (w : World) (key k0 : Int) (p : Addr) (hp : w.cell? p = some (.int .i64 k0)) : Calls Try.prog 97 #[.int .i64 key, .pointer (some p)] w fun e w' => e = .returned (.bool (key == k0)) ∧ Upd No w w' := by
  go_enter Try.func97, Try.ntmps97
  go_wp2
  go_ret
  exact ⟨rfl, Upd.refl _ _⟩
theorem dCount1 (w : World) (key k0 : Int) (b : Nat) (hp : w.cell? ⟨b, 3, none⟩ = some (.int .i64 k0)) : Calls Try.prog 98 #[.int .i64 key, .pointer (some ⟨b, 0, none⟩)] w fun e w' => e = .returned (.bool (key == k0)) ∧ Upd No w w' := by
  go_enter Try.func98, Try.ntmps98
  go_wp2
  go_ret
  exact ⟨rfl, Upd.refl _ _⟩
end Go.Proofs.Ytaicemjckagcaaa

/- Edges of a history: dsg.counted, called by dsg.Edges$1. -/
namespace Go.Proofs.Ytaicemjckagcaaa
set_option linter.unusedVariables false
open Go.RowKit
set_option maxRecDepth 100000 in
set_option maxHeartbeats 8000000 in
theorem dcounted0 (F : Nat → Prop) (w : World) (txs : List HTx) (ords : List HOrd) (A : Option Addr) (c : Nat) (B : Option Addr) (d : Nat) (cnt : Int → Bool) (H : Hist.lies F w ⟨txs, ords, A, c, B, d⟩)
    (hc : Hid (∀ W key, Upd No w W → Calls Try.prog 96 #[.int .i64 key] W fun e w' => e = .returned (.bool (cnt key)) ∧ Upd No W w')) :
    Calls Try.prog 95 #[.agg #[.slice A txs.length c, .slice B ords.length d], .func (.func 96) #[] #[]] w (Counted w (gAll cnt ⟨txs, ords, A, c, B, d⟩)) := by
  have hmm := @run_makeMap Try.prog
  have HH := Lib.hid H
  have n3 : ords.length ≤ 4398046511103 := H.fewo
  obtain ⟨z, hz⟩ : ∃ z, w.heap.size = z := ⟨_, rfl⟩
  obtain ⟨w1, hw1⟩ : ∃ w1, w.alloc (.cells #[.slice A txs.length c, .slice B ords.length d] 58) = w1 := ⟨_, rfl⟩
  have s1 : w1.heap.size = z + 1 := by rw [← hw1, ← hz]; simp
  obtain ⟨wb, hwb⟩ : ∃ wb, w1.alloc (.map #[] 0) = wb := ⟨_, rfl⟩
  have u1 : Upd No w w1 := by rw [← hw1]; exact (Upd.refl No w).alloc _
  have u2 : Upd No w1 wb := by rw [← hwb]; exact (Upd.refl No w1).alloc _
  have hM : MapE wb (z + 1) encE [] := by rw [← hwb, ← s1]; exact MapE.new w1 _
  have bH : Blk wb z 58 [.slice A txs.length c, .slice B ords.length d] := by
    have : Blk w1 z 58 [.slice A txs.length c, .slice B ords.length d] := by rw [← hw1, ← hz]; exact Blk.new w _ _
    exact this.upd u2 id
  have HU := Lib.hid (u1.trans u2)
  have HM0 := Lib.hid hM
  have HZ := Lib.hid (show w.heap.size ≤ z ∧ z + 1 < wb.heap.size by rw [← hwb]; simp; omega)
  have hzb : z < wb.heap.size := bH.lt
  have g0 : ∀ W, Upd (One (z + 1)) wb W → W.cell? ⟨z, 0, none⟩ = some (.slice A txs.length c) := fun W u => by have := (bH.upd u (by unfold One; omega)).cell 0; simpa using this
  have g1 : ∀ W, Upd (One (z + 1)) wb W → W.cell? ⟨z, 1, none⟩ = some (.slice B ords.length d) := fun W u => by have := (bH.upd u (by unfold One; omega)).cell 1; simpa using this
  have hbz : Upd (One (z + 1)) wb wb := Upd.refl _ _
  have HR := Lib.hid (fun W (u : Upd No w W) => hright F W ⟨txs, ords, A, c, B, d⟩ (H.upd u (fun _ _ => id)))
  unfold Hist.val at HR
  simp only at HR
  clear u1 u2 hM bH H hzb
  cases hr : rightB ⟨txs, ords, A, c, B, d⟩
  · rw [hr] at HR
    have HG := Lib.hid (show ∀ e, (fun _ => 0) e = gAll cnt ⟨txs, ords, A, c, B, d⟩ e from fun e => by unfold gAll; rw [hr]; rfl)
    clear hr
    go_enter Try.func95, Try.ntmps95
    go_wp2_with fail
    refine (HR.out _ HU.out).mono ?_
    rintro e w2 ⟨rfl, hu2⟩
    go_wp2
    go_ret
    exact ⟨z + 1, [], rfl, by have := HZ.out; omega, HM0.out.upd hu2 id, CntM.new.congr HG.out, HU.out.trans hu2⟩
  · rw [hr] at HR
    have n1 := right_few hr
    have n2 : ∀ t ∈ txs, t.ops.length ≤ 4095 := fun t ht => right_ops hr ht
    simp only at n1
    have HG := Lib.hid (show ∀ e, memF (wwL cnt ords) e + cnt2 (rdL cnt (doneL txs) (writesL txs) (nextsL ords) txs) e = gAll cnt ⟨txs, ords, A, c, B, d⟩ e from fun e => by unfold gAll; rw [hr]; rfl)
    have HLK := Lib.hid (fun W (u : Upd No w W) => dlook F W txs ords A c B d (HH.out.upd u (fun _ _ => id)) n1 n2)
    clear hr
    go_enter Try.func95, Try.ntmps95
    go_wp2_with fail
    refine (HR.out _ HU.out).mono ?_
    rintro e w2 ⟨rfl, hu2⟩
    have hv2 := HU.out.trans hu2
    have hs2 := hu2.size
    have hbz2 : Upd (One (z + 1)) wb w2 := hu2.mono (fun _ _ e => e.elim)
    go_wp2_with fail
    refine (HLK.out w2 hv2).mono ?_
    rintro e w3 ⟨fb, bd, bl, bx, md, ml, mx, rfl, hfw, hge, hu3⟩
    have hv3 := hv2.trans hu3
    have hbz3 : Upd (One (z + 1)) wb w3 := hbz2.trans (hu3.mono (fun _ _ e => e.elim))
    have HFW := Lib.hid hfw
    have HD := Lib.hid (show z + 1 ≠ fb ∧ z + 1 ≠ bd ∧ z + 1 ≠ bl ∧ z + 1 ≠ bx by have := HZ.out; omega)
    obtain ⟨bc, hbc⟩ : ∃ bc, z + 1 = bc := ⟨_, rfl⟩
    have HM3 : Hid (MapE w3 bc encE []) := Lib.hid (by rw [← hbc]; exact (HM0.out.upd hu2 id).upd hu3 id)
    have HZ3 := Lib.hid (show w.heap.size ≤ bc by have := HZ.out; omega)
    have HV3 := Lib.hid hv3
    rw [hbc] at HD g0 g1 hbz3
    have g0 : ∀ W, Upd (One bc) w3 W → W.cell? ⟨z, 0, none⟩ = some (.slice A txs.length c) := fun W u => g0 W (hbz3.trans u)
    have g1 : ∀ W, Upd (One bc) w3 W → W.cell? ⟨z, 1, none⟩ = some (.slice B ords.length d) := fun W u => g1 W (hbz3.trans u)
    have hz3 : Upd (One bc) w3 w3 := Upd.refl _ _
    have HN3 := Lib.hid (show ∀ W, Upd (One bc) w3 W → Upd No w W from fun W u => HV3.out.then_ u (fun i e => Or.inr (by unfold One at e; have := HZ3.out; omega)))
    clear hfw hge hu3 hv3 hv2 hs2 hbz hbz2 hbz3 hu2 hmm hw1 hwb hz
    rw [hbc]
    go_wp2
    go_loopg [24] ords.length (fun gk i wr => ∃ (k : Nat) (mc : List (Edge × Value)), k + gk = ords.length ∧ i = .int .i64 k ∧ Hid (MapE wr bc encE mc) ∧ Hid (CntM mc (memF (wwL cnt (ords.take k)))) ∧ Upd (One bc) w3 wr)
    case atStart => exact ⟨0, [], by omega, rfl, HM3, Lib.hid (CntM.new.congr (fun e => by simp [memF, wwL])), hz3⟩
    case round =>
      obtain ⟨k, mc, hgk, rfl, hm, hg, hu⟩ := hrel
      have hun := HN3.out _ hu
      by_cases hlt : k < ords.length
      · obtain ⟨ad, hAd, q0, q1⟩ := (HH.out.upd hun (fun _ _ => id)).ord_at hlt
        simp only at hAd q0 q1
        have hx0 := HH.out.ord ords[k] (List.getElem_mem hlt)
        obtain ⟨⟨yk, yt, yA, yc⟩, hx⟩ : ∃ x, ords[k] = x := ⟨_, rfl⟩
        rw [hx] at q0 q1 hx0
        simp only at q0 q1
        subst hAd
        have HX0 := Lib.hid (show Ints F w yA yt from hx0.1)
        have hyl : yt.length ≤ 17592186044415 := hx0.2.2.1
        have b1 : (0 : Int) ≤ (k : Int) := Int.natCast_nonneg _
        have b2 : (k : Int) < (ords.length : Int) := by omega
        obtain ⟨wx, hwx⟩ : ∃ wx, wr.alloc (.cells #[.int .i64 yk, .slice yA yt.length yc] 76) = wx := ⟨_, rfl⟩
        have ux : Upd No wr wx := by rw [← hwx]; exact (Upd.refl No wr).alloc _
        have bo : Blk wx wr.heap.size 76 [.int .i64 yk, .slice yA yt.length yc] := by rw [← hwx]; exact Blk.new wr _ _
        have hml := hm.out.lt
        have MX := Lib.hid (hm.out.upd ux id)
        have HUX := Lib.hid (hu.trans (ux.mono (fun _ _ e => e.elim)))
        have t0 : ∀ W, Upd (One bc) wx W → W.cell? ⟨wr.heap.size, 0, none⟩ = some (.int .i64 yk) := fun W u => by have := (bo.upd u (by unfold One; omega)).cell 0; simpa using this
        have t1 : ∀ W, Upd (One bc) wx W → W.cell? ⟨wr.heap.size, 1, none⟩ = some (.slice yA yt.length yc) := fun W u => by have := (bo.upd u (by unfold One; omega)).cell 1; simpa using this
        have hxz : Upd (One bc) wx wx := Upd.refl _ _
        have HX := Lib.hid (wwL_succ (cnt := cnt) hlt hx)
        have HC := Lib.hid (fun W (u : Upd (One bc) wx W) => hc.out W yk (HN3.out W (HUX.out.trans u)))
        obtain ⟨cv, hcv⟩ : ∃ cv, cnt yk = cv := ⟨_, rfl⟩
        rw [hcv] at HC
        have HCV := Lib.hid hcv
        clear hx bo ux hun hx0 hml hcv
        obtain ⟨wp, hwp⟩ : ∃ wp, wp = wr := ⟨_, rfl⟩
        subst hwp
        generalize gk = GK at *
        go_wp2
        go_loopg [9] yt.length (fun gj i wr => ∃ (j : Nat) (m2 : List (Edge × Value)), gj = yt.length - j ∧ i = .int .i64 ((j : Int) + 1) ∧ j ≤ yt.length ∧ Hid (cv = false → j = 0) ∧ Hid (MapE wr bc encE m2) ∧ Hid (CntM m2 (memF (wwL cnt (ords.take k) ++ wwO yk (yt.take (j + 1))))) ∧ Upd (One bc) wx wr)
        case atStart => exact ⟨0, mc, by omega, rfl, by omega, Lib.hid (fun _ => rfl), MX, Lib.hid (by have := hg.out; cases yt <;> simpa [wwO] using this), hxz⟩
        case round =>
          obtain ⟨j, m2, hgj, rfl, hjl, hcj, hm2, hg2, hu2⟩ := hrel
          by_cases hltj : j + 1 < yt.length
          · have c1 : (0 : Int) ≤ (j : Int) := Int.natCast_nonneg _
            have c2 : (j : Int) + 1 < (yt.length : Int) := by omega
            have c3 : (j : Int) < (yt.length : Int) := by omega
            have hHC := HC.out _ hu2
            cases cv
            · obtain rfl : j = 0 := hcj.out rfl
              have HG2 : Hid (CntM m2 (memF (wwL cnt (ords.take (k + 1))))) := Lib.hid (by rw [HX.out]; unfold wwC; rw [HCV.out]; have := hg2.out; cases yt <;> simpa [wwO] using this)
              go_wp2_with fail
              refine Calls.mono hHC ?_
              rintro e w5 ⟨rfl, hu5⟩
              go_wp2
              go_roundg (GK - 1)
              case measure => omega
              case rel => exact ⟨k + 1, m2, by omega, by go_num, Lib.hid (hm2.out.upd (S := No) hu5 id), HG2, (HUX.out.trans hu2).trans (hu5.mono (fun _ _ e => e.elim))⟩
            · go_wp2_with fail
              refine Calls.mono hHC ?_
              rintro e w5 ⟨rfl, hu5⟩
              have hu5b : Upd (One bc) wr w5 := hu5.mono (fun _ _ e => e.elim)
              have HU5 := Lib.hid ((HUX.out.trans hu2).trans hu5b)
              have hj1 : j < yt.length := by omega
              obtain ⟨ad2, hAd2, _, _, p0⟩ := HX0.out.at_ hj1
              obtain ⟨ad3, hAd3, _, _, p1⟩ := HX0.out.at_ hltj
              obtain rfl : ad2 = ad3 := by rw [hAd2] at hAd3; exact Option.some.inj hAd3
              obtain ⟨va, hva⟩ : ∃ v, yt[j] = v := ⟨_, rfl⟩
              obtain ⟨vb, hvb⟩ : ∃ v, yt[j + 1] = v := ⟨_, rfl⟩
              rw [hva] at p0
              rw [hvb] at p1
              subst hAd2
              have p0 : ∀ W, Upd (One bc) w5 W → W.cell? (ad2.add j) = some (.int .i64 va) := fun W u => (HN3.out W (HU5.out.trans u)).keepNo p0
              have hadd : ad2.add (j + 1) = ⟨ad2.block, ad2.off + (j + 1), none⟩ := by unfold Addr.add; split <;> simp_all
              have p1 : ∀ W, Upd (One bc) w5 W → W.cell? ⟨ad2.block, ad2.off + (j + 1), none⟩ = some (.int .i64 vb) := fun W u => by rw [← hadd]; exact (HN3.out W (HU5.out.trans u)).keepNo p1
              have t0y : ∀ W, Upd (One bc) w5 W → W.cell? ⟨wp.heap.size, 0, none⟩ = some (.int .i64 yk) := fun W u => t0 W ((hu2.trans hu5b).trans u)
              have t1y : ∀ W, Upd (One bc) w5 W → W.cell? ⟨wp.heap.size, 1, none⟩ = some (.slice (some ad2) yt.length yc) := fun W u => t1 W ((hu2.trans hu5b).trans u)
              have hyz : Upd (One bc) w5 w5 := Upd.refl _ _
              have hmd : MapE w5.drew bc encE m2 := (hm2.out.upd (S := No) hu5 id : MapE w5 bc encE m2)
              obtain ⟨w6, hp6, hm6, hu6⟩ := run_putE kbyedge Try.underlying148 hmd (⟨va, vb, 1, yk⟩ : Edge) (.int .i64 1)
              change (Instr.mapUpdate 148 (.map (some bc)) (.agg #[.int .i64 va, .int .i64 vb, .int .i64 1, .int .i64 yk]) (.int .i64 1)).run Try.prog w5.drew = .ok () w6 at hp6
              have hU6 : Upd (One bc) w5 w6 := hu6.of_drew
              have HM6 := Lib.hid hm6
              have HG6 := Lib.hid (show CntM _ (memF (wwL cnt (ords.take k) ++ wwO yk (yt.take (j + 1 + 1)))) from by
                have := memF_put hg2.out (⟨va, vb, 1, yk⟩ : Edge)
                rw [List.append_assoc, ← wwO_take yk yt hltj hva hvb] at this
                exact this)
              have c4 : (0 : Int) ≤ (j : Int) + 1 := by omega
              have c5 : (j : Int) ≤ 17592186044415 := by omega
              have hw1 : IntKind.i64.wrap ((j : Int) + 1 - 1) = (j : Int) := by rw [Int.add_sub_cancel]; exact IntWalk.i64_in _ (by omega)
              have hw2 : IntKind.i64.wrap (j : Int) = (j : Int) := IntWalk.i64_in _ (by omega)
              clear hmd hm6 hu6 hva hvb hadd hu5b
              go_wp2
              go_region_held3 (fun W' => Upd (One bc) w5 W') (first | exact hyz.drew | exact hU6) (fail)
              clear hp6
              go_wp2
              go_roundg (gk - 1)
              case measure => omega
              case rel => exact ⟨j + 1, _, by omega, by go_num, by omega, Lib.hid (fun h => by cases h), HM6, HG6, (hu2.trans (hu5.mono (fun _ _ e => e.elim))).trans hU6⟩
          · have HG2 : Hid (CntM m2 (memF (wwL cnt (ords.take (k + 1))))) := Lib.hid (by
              rw [HX.out]; unfold wwC; rw [HCV.out]
              have h1 := hg2.out
              cases cv
              · obtain rfl : j = 0 := hcj.out rfl
                simp only [Bool.false_eq_true, if_false]
                cases yt with
                | nil => simpa [wwO] using h1
                | cons y l => cases l with
                  | nil => simpa [wwO] using h1
                  | cons y2 l => simp at hltj
              · rw [List.take_of_length_le (l := yt) (i := j + 1) (by omega)] at h1
                simpa using h1)
            have c2 : ¬ (j : Int) + 1 < (yt.length : Int) := by omega
            go_wp2
            go_roundg (GK - 1)
            case measure => omega
            case rel => exact ⟨k + 1, m2, by omega, by go_num, hm2, HG2, HUX.out.trans hu2⟩
      · obtain rfl : k = ords.length := by omega
        have HG0 : Hid (CntM mc (memF (wwL cnt ords))) := Lib.hid (by have := hg.out; rwa [List.take_length] at this)
        have HM1 := hm
        have hu0 := hu
        clear hm hg hun
        obtain ⟨wo, hwo⟩ : ∃ wo, wo = wr := ⟨_, rfl⟩
        subst hwo
        have g0o : ∀ W, Upd (One bc) wo W → W.cell? ⟨z, 0, none⟩ = some (.slice A txs.length c) := fun W u => g0 W (hu0.trans u)
        have hoz : Upd (One bc) wo wo := Upd.refl _ _
        obtain ⟨LD, hLD⟩ : ∃ LD, doneL txs = LD := ⟨_, rfl⟩
        obtain ⟨LW, hLW⟩ : ∃ LW, writesL txs = LW := ⟨_, rfl⟩
        obtain ⟨LN, hLN⟩ : ∃ LN, nextsL ords = LN := ⟨_, rfl⟩
        obtain ⟨WW, hWW⟩ : ∃ WW, wwL cnt ords = WW := ⟨_, rfl⟩
        rw [hLD, hLW, hLN] at HFW
        rw [hLD, hLW, hLN, hWW] at HG
        rw [hWW] at HG0
        clear hLD hLW hLN hWW g0 g1
        go_wp2
        go_loopg [60] txs.length (fun gk i wr => ∃ (k : Nat) (mc : List (Edge × Value)), k + gk = txs.length ∧ i = .int .i64 k ∧ Hid (MapE wr bc encE mc) ∧ Hid (CntM mc (fun e => memF WW e + cnt2 (rdL cnt LD LW LN (txs.take k)) e)) ∧ Hid ((rdL cnt LD LW LN (txs.take k)).length ≤ 8190 * k) ∧ Upd (One bc) wo wr)
        case atStart => exact ⟨0, mc, by omega, rfl, HM1, Lib.hid (HG0.out.congr (fun e => rfl)), Lib.hid (by simp [rdL]), hoz⟩
        case round =>
          clear HM1 HG0
          obtain ⟨k, mc, hgk, rfl, hm, hg, hlr, hu⟩ := hrel
          have hun := HN3.out _ (hu0.trans hu)
          by_cases hlt : k < txs.length
          · obtain ⟨ad, hAd, q0, q1, q2⟩ := (HH.out.upd hun (fun _ _ => id)).tx_at hlt
            simp only at hAd q0 q1 q2
            have hx2 := n2 _ (List.getElem_mem hlt)
            have hx0 := HH.out.tx txs[k] (List.getElem_mem hlt)
            obtain ⟨⟨xi, xd, xo, xA, xc⟩, hx⟩ : ∃ x, txs[k] = x := ⟨_, rfl⟩
            rw [hx] at q0 q1 q2 hx2 hx0
            simp only at q0 q1 q2 hx2
            subst hAd
            have HX0 := Lib.hid (show HOps F w xA xo from hx0.1)
            have b1 : (0 : Int) ≤ (k : Int) := Int.natCast_nonneg _
            have b2 : (k : Int) < (txs.length : Int) := by omega
            obtain ⟨wx, hwx⟩ : ∃ wx, wr.alloc (.cells #[.int .i64 xi, .bool xd, .slice xA xo.length xc] 64) = wx := ⟨_, rfl⟩
            have ux : Upd No wr wx := by rw [← hwx]; exact (Upd.refl No wr).alloc _
            have bo : Blk wx wr.heap.size 64 [.int .i64 xi, .bool xd, .slice xA xo.length xc] := by rw [← hwx]; exact Blk.new wr _ _
            have hml := hm.out.lt
            have MX := Lib.hid (hm.out.upd ux id)
            have HUX := Lib.hid (hu.trans (ux.mono (fun _ _ e => e.elim)))
            have t0 : ∀ W, Upd (One bc) wx W → W.cell? ⟨wr.heap.size, 0, none⟩ = some (.int .i64 xi) := fun W u => by have := (bo.upd u (by unfold One; omega)).cell 0; simpa using this
            have t1 : ∀ W, Upd (One bc) wx W → W.cell? ⟨wr.heap.size, 1, none⟩ = some (.bool xd) := fun W u => by have := (bo.upd u (by unfold One; omega)).cell 1; simpa using this
            have t2 : ∀ W, Upd (One bc) wx W → W.cell? ⟨wr.heap.size, 2, none⟩ = some (.slice xA xo.length xc) := fun W u => by have := (bo.upd u (by unfold One; omega)).cell 2; simpa using this
            have hxz : Upd (One bc) wx wx := Upd.refl _ _
            have HX := Lib.hid (rdL_succ (cnt := cnt) (LD := LD) (LW := LW) (LN := LN) hlt hx)
            simp only at HX
            clear hx bo ux hun hx0 hml
            obtain ⟨wp, hwp⟩ : ∃ wp, wp = wr := ⟨_, rfl⟩
            subst hwp
            generalize gk = GK at *
            go_wp2
            go_loopg [67] xo.length (fun gj i wr => ∃ (j : Nat) (m2 : List (Edge × Value)), j + gj = xo.length ∧ i = .int .i64 j ∧ Hid (MapE wr bc encE m2) ∧ Hid (CntM m2 (fun e => memF WW e + cnt2 (rdL cnt LD LW LN (txs.take k) ++ if xd then rdO cnt LD LW LN xi (xo.take j) else []) e)) ∧ Hid ((rdL cnt LD LW LN (txs.take k) ++ if xd then rdO cnt LD LW LN xi (xo.take j) else []).length ≤ 8190 * k + 2 * j) ∧ Upd (One bc) wx wr)
            case atStart => exact ⟨0, mc, by omega, rfl, MX, Lib.hid (by have := hg.out; cases xd <;> simpa [rdO] using this), Lib.hid (by have := hlr.out; cases xd <;> simpa [rdO] using this), hxz⟩
            case round =>
              obtain ⟨j, m2, hgj, rfl, hm2, hg2, hl2, hu2⟩ := hrel
              have hun2 := HN3.out _ (hu0.trans (HUX.out.trans hu2))
              by_cases hltj : j < xo.length
              · obtain ⟨ad2, hAd2, p0, p1, p2, p3⟩ := (HX0.out.upd hun2 (fun _ _ => id)).at_ hltj
                obtain ⟨⟨yr, yk, yt, yn⟩, hy⟩ : ∃ y, xo[j] = y := ⟨_, rfl⟩
                rw [hy] at p0 p1 p2 p3
                simp only at p0 p1 p2 p3
                subst hAd2
                have c1 : (0 : Int) ≤ (j : Int) := Int.natCast_nonneg _
                have c2 : (j : Int) < (xo.length : Int) := by omega
                obtain ⟨wy, hwy⟩ : ∃ wy, wr.alloc (.cells #[.bool yr, .int .i64 yk, .int .i64 yt, .int .i64 yn] 66) = wy := ⟨_, rfl⟩
                have uy : Upd No wr wy := by rw [← hwy]; exact (Upd.refl No wr).alloc _
                have bo : Blk wy wr.heap.size 66 [.bool yr, .int .i64 yk, .int .i64 yt, .int .i64 yn] := by rw [← hwy]; exact Blk.new wr _ _
                have hml := hm2.out.lt
                have MY := Lib.hid (hm2.out.upd uy id)
                have HUY := Lib.hid (hu2.trans (uy.mono (fun _ _ e => e.elim)))
                have o0 : ∀ W, Upd (One bc) wy W → W.cell? ⟨wr.heap.size, 0, none⟩ = some (.bool yr) := fun W u => by have := (bo.upd u (by unfold One; omega)).cell 0; simpa using this
                have o1 : ∀ W, Upd (One bc) wy W → W.cell? ⟨wr.heap.size, 1, none⟩ = some (.int .i64 yk) := fun W u => by have := (bo.upd u (by unfold One; omega)).cell 1; simpa using this
                have o2 : ∀ W, Upd (One bc) wy W → W.cell? ⟨wr.heap.size, 2, none⟩ = some (.int .i64 yt) := fun W u => by have := (bo.upd u (by unfold One; omega)).cell 2; simpa using this
                have o3 : ∀ W, Upd (One bc) wy W → W.cell? ⟨wr.heap.size, 3, none⟩ = some (.int .i64 yn) := fun W u => by have := (bo.upd u (by unfold One; omega)).cell 3; simpa using this
                have t0y : ∀ W, Upd (One bc) wy W → W.cell? ⟨wp.heap.size, 0, none⟩ = some (.int .i64 xi) := fun W u => t0 W (HUY.out.trans u)
                have t1y : ∀ W, Upd (One bc) wy W → W.cell? ⟨wp.heap.size, 1, none⟩ = some (.bool xd) := fun W u => t1 W (HUY.out.trans u)
                have t2y : ∀ W, Upd (One bc) wy W → W.cell? ⟨wp.heap.size, 2, none⟩ = some (.slice (some ad2) xo.length xc) := fun W u => t2 W (HUY.out.trans u)
                have hyz : Upd (One bc) wy wy := Upd.refl _ _
                have HRO := Lib.hid (rdO_succ (cnt := cnt) (LD := LD) (LW := LW) (LN := LN) (ti := xi) hltj hy)
                simp only at HRO
                clear hy bo uy hun2 hml
                cases xd
                · have HN := Lib.hid (show (rdL cnt LD LW LN (txs.take k) ++ if false then rdO cnt LD LW LN xi (xo.take (j + 1)) else []) = (rdL cnt LD LW LN (txs.take k) ++ if false then rdO cnt LD LW LN xi (xo.take j) else []) by simp)
                  go_wp2
                  go_roundg (gk - 1)
                  case measure => omega
                  case rel => exact ⟨j + 1, m2, by omega, by go_num, MY, Lib.hid (by rw [HN.out]; exact hg2.out), Lib.hid (by rw [HN.out]; have := hl2.out; omega), HUY.out⟩
                · cases yr
                  · have HN := Lib.hid (show (rdL cnt LD LW LN (txs.take k) ++ if true then rdO cnt LD LW LN xi (xo.take (j + 1)) else []) = (rdL cnt LD LW LN (txs.take k) ++ if true then rdO cnt LD LW LN xi (xo.take j) else []) by rw [HRO.out]; simp)
                    go_wp2
                    go_roundg (gk - 1)
                    case measure => omega
                    case rel => exact ⟨j + 1, m2, by omega, by go_num, MY, Lib.hid (by rw [HN.out]; exact hg2.out), Lib.hid (by rw [HN.out]; have := hl2.out; omega), HUY.out⟩
                  · obtain ⟨cv, hcv⟩ : ∃ cv, cnt yk = cv := ⟨_, rfl⟩
                    have hHC := hc.out wy yk (HN3.out wy (hu0.trans (HUX.out.trans HUY.out)))
                    rw [hcv] at hHC
                    have HCV := Lib.hid hcv
                    clear hcv
                    cases cv
                    · go_wp2_with fail
                      refine Calls.mono hHC ?_
                      rintro e w5 ⟨rfl, hu5⟩
                      have MY5 := Lib.hid (MY.out.upd (S := No) hu5 id)
                      have HUY5 := Lib.hid (HUY.out.trans (hu5.mono (fun _ _ e => e.elim)))
                      have HN := Lib.hid (show (rdL cnt LD LW LN (txs.take k) ++ if true then rdO cnt LD LW LN xi (xo.take (j + 1)) else []) = (rdL cnt LD LW LN (txs.take k) ++ if true then rdO cnt LD LW LN xi (xo.take j) else []) by rw [HRO.out, HCV.out]; simp)
                      go_wp2
                      go_roundg (gk - 1)
                      case measure => omega
                      case rel => exact ⟨j + 1, m2, by omega, by go_num, MY5, Lib.hid (by rw [HN.out]; exact hg2.out), Lib.hid (by rw [HN.out]; have := hl2.out; omega), HUY5.out⟩
                    · have HN := Lib.hid (show (rdL cnt LD LW LN (txs.take k) ++ if true then rdO cnt LD LW LN xi (xo.take (j + 1)) else []) = (rdL cnt LD LW LN (txs.take k) ++ if true then rdO cnt LD LW LN xi (xo.take j) else []) ++ readE LD LW LN xi ⟨true, yk, yt, yn⟩ by rw [HRO.out, HCV.out]; simp)
                      obtain ⟨RR, hRR⟩ : ∃ RR, (rdL cnt LD LW LN (txs.take k) ++ if true then rdO cnt LD LW LN xi (xo.take j) else []) = RR := ⟨_, rfl⟩
                      rw [hRR] at HN hg2 hl2
                      go_wp2_with fail
                      refine Calls.mono hHC ?_
                      rintro e w5 ⟨rfl, hu5⟩
                      have hu5b : Upd (One bc) wy w5 := hu5.mono (fun _ _ e => e.elim)
                      have HRD := Lib.hid (dread w5 fb bd bl bx bc txs ords _ c _ d md ml mx LD LW LN xi true (some ad2) xo.length xc true yk yt yn m2 (fun e => memF WW e + cnt2 RR e)
                        (HFW.out.upd ((hu0.trans (HUX.out.trans HUY.out)).trans hu5b) (by have := HD.out; unfold One; omega) (by have := HD.out; unfold One; omega) (by have := HD.out; unfold One; omega) (by have := HD.out; unfold One; omega))
                        (MY.out.upd (S := No) hu5 id) hg2.out (fun e => by have h1 := memF_le WW e; have h2 := cnt2_le RR e; have h3 := hl2.out; omega) HD.out)
                      go_wp2_with fail
                      refine Calls.mono HRD.out ?_
                      rintro e w6 ⟨rfl, m6, hm6, hg6, hu6⟩
                      have HM6 := Lib.hid hm6
                      have HG6 := Lib.hid (show CntM m6 (fun e => memF WW e + cnt2 (RR ++ readE LD LW LN xi ⟨true, yk, yt, yn⟩) e) from hg6.congr (fun e => by simp only [cnt2_append]; omega))
                      have HU6 := Lib.hid ((HUY.out.trans hu5b).trans hu6)
                      clear hm6 hg6 hu6 hu5b hRR
                      go_wp2
                      go_roundg (gk - 1)
                      case measure => omega
                      case rel => exact ⟨j + 1, m6, by omega, by go_num, HM6, Lib.hid (by rw [HN.out]; exact HG6.out), Lib.hid (by rw [HN.out, List.length_append]; have := hl2.out; have := readE_len LD LW LN xi ⟨true, yk, yt, yn⟩; omega), HU6.out⟩
              · obtain rfl : j = xo.length := by omega
                have HN := Lib.hid (show rdL cnt LD LW LN (txs.take (k + 1)) = (rdL cnt LD LW LN (txs.take k) ++ if xd then rdO cnt LD LW LN xi (xo.take xo.length) else []) by rw [HX.out, List.take_length])
                go_wp2
                go_roundg (GK - 1)
                case measure => omega
                case rel => exact ⟨k + 1, m2, by omega, by go_num, hm2, Lib.hid (by rw [HN.out]; exact hg2.out), Lib.hid (by rw [HN.out]; have := hl2.out; omega), HUX.out.trans hu2⟩
          · obtain rfl : k = txs.length := by omega
            have HGF : Hid (CntM mc (gAll cnt ⟨txs, ords, A, c, B, d⟩)) := Lib.hid (by have := hg.out; rw [List.take_length] at this; exact this.congr HG.out)
            go_wp2
            go_ret
            exact ⟨bc, mc, rfl, HZ3.out, hm.out, HGF.out, hun⟩
end Go.Proofs.Ytaicemjckagcaaa
