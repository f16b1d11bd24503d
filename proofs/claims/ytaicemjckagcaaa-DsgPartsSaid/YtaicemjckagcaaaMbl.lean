/- Edges of a history: what a read is a reason for. -/
import Derived.Test.YtaicemjckagcaaaMbi
import Derived.Test.YtaicemjckagcaaaMbk
namespace Go.Proofs.Ytaicemjckagcaaa
set_option linter.unusedVariables false
open Go.RowKit
/-- the edges that a read is a reason for -/
def readE (LD : List Int) (LW : List (Int × Int)) (LN : List ((Int × Int) × Int)) (ti : Int) (o : HOp) : List Edge :=
  if o.tx = ti then [] else if o.tx ≠ 0 ∧ o.tx ∉ LD then [] else if o.tx ≠ 0 ∧ (cnt2 LW (o.tx, o.key) : Int) ≠ o.nth then []
  else (if o.tx ≠ 0 then [⟨o.tx, ti, 2, o.key⟩] else []) ++ if lastW LN (o.key, o.tx) ≠ 0 ∧ lastW LN (o.key, o.tx) ≠ ti then [⟨ti, lastW LN (o.key, o.tx), 3, o.key⟩] else []
theorem cnt2_nil {α : Type} [DecidableEq α] (x : α) : cnt2 ([] : List α) x = 0 := rfl
theorem cnt2_one {α : Type} [DecidableEq α] (a x : α) : cnt2 [a] x = if x = a then 1 else 0 := by
  have := cnt2_snoc ([] : List α) a x
  simpa [cnt2_nil] using this
theorem CntM.inc {m : List (Edge × Value)} {g : Edge → Nat} (h : CntM m g) (a : Edge) : CntM (mput m a (.int .i64 ((g a : Int) + 1))) (fun x => g x + cnt2 [a] x) := by
  refine (h.put a (g a + 1) (by omega)).congr fun x => ?_
  rw [cnt2_one]
  by_cases e : x = a
  · subst e; simp
  · simp [e]
/-- what a read leaves -/
def Read (w : World) (bc : Nat) (g : Edge → Nat) (l : List Edge) (e : Ending) (w' : World) : Prop :=
  e = .returned (.tuple #[]) ∧ ∃ mc, MapE w' bc encE mc ∧ CntM mc (fun x => g x + cnt2 l x) ∧ Upd (One bc) w w'
set_option maxRecDepth 100000 in
set_option maxHeartbeats 8000000 in
theorem dread (w : World) (fb bd bl bx bc : Nat) (txs : List HTx) (ords : List HOrd) (A : Option Addr) (c : Nat) (B : Option Addr) (d : Nat) (md : List (Int × Value)) (ml mx : List ((Int × Int) × Value)) (LD : List Int) (LW : List (Int × Int)) (LN : List ((Int × Int) × Int))
    (ti : Int) (tv : Bool) (tA : Option Addr) (tl tc : Nat) (yr : Bool) (yk yt yn : Int) (mc : List (Edge × Value)) (g : Edge → Nat)
    (h : FindW w fb bd bl bx txs ords A c B d md ml mx LD LW LN) (hm : MapE w bc encE mc) (hg : CntM mc g) (hb : ∀ e, g e ≤ 1000000000) (hd : bc ≠ fb ∧ bc ≠ bd ∧ bc ≠ bl ∧ bc ≠ bx) :
    Calls Try.prog 145 #[.pointer (some ⟨fb, 0, none⟩), .agg #[.int .i64 ti, .bool tv, .slice tA tl tc], .agg #[.bool yr, .int .i64 yk, .int .i64 yt, .int .i64 yn], .map (some bc)] w (Read w bc g (readE LD LW LN ti ⟨yr, yk, yt, yn⟩)) := by
  obtain ⟨wb, hwb⟩ : ∃ wb, (w.alloc (.cells #[.int .i64 ti, .bool tv, .slice tA tl tc] 64)).alloc (.cells #[.bool yr, .int .i64 yk, .int .i64 yt, .int .i64 yn] 66) = wb := ⟨_, rfl⟩
  have u0 : Upd No w wb := by rw [← hwb]; exact ((Upd.refl No w).alloc _).alloc _
  have bT : Blk wb w.heap.size 64 [.int .i64 ti, .bool tv, .slice tA tl tc] := by rw [← hwb]; exact (Blk.new w _ _).alloc _
  have bO : Blk wb (w.heap.size + 1) 66 [.bool yr, .int .i64 yk, .int .i64 yt, .int .i64 yn] := by
    rw [← hwb]
    have := Blk.new (w.alloc (.cells #[.int .i64 ti, .bool tv, .slice tA tl tc] 64)) 66 [.bool yr, .int .i64 yk, .int .i64 yt, .int .i64 yn]
    simpa using this
  have hbl := hm.lt
  have FB := Lib.hid (h.upd u0 id id id id)
  have MB := Lib.hid (hm.upd u0 id)
  have HG := Lib.hid hg
  have BND := Lib.hid hb
  have UB := Lib.hid (u0.mono (T := One bc) (fun _ _ e => e.elim))
  have t0 : ∀ W, Upd (One bc) wb W → W.cell? ⟨w.heap.size, 0, none⟩ = some (.int .i64 ti) := fun W u => by have := (bT.upd u (by unfold One; omega)).cell 0; simpa using this
  have o1 : ∀ W, Upd (One bc) wb W → W.cell? ⟨w.heap.size + 1, 1, none⟩ = some (.int .i64 yk) := fun W u => by have := (bO.upd u (by unfold One; omega)).cell 1; simpa using this
  have o2 : ∀ W, Upd (One bc) wb W → W.cell? ⟨w.heap.size + 1, 2, none⟩ = some (.int .i64 yt) := fun W u => by have := (bO.upd u (by unfold One; omega)).cell 2; simpa using this
  have o3 : ∀ W, Upd (One bc) wb W → W.cell? ⟨w.heap.size + 1, 3, none⟩ = some (.int .i64 yn) := fun W u => by have := (bO.upd u (by unfold One; omega)).cell 3; simpa using this
  have f2 : ∀ W, Upd (One bc) wb W → W.cell? ⟨fb, 2, none⟩ = some (.map (some bd)) := fun W u => by have := (FB.out.blk.upd u (by unfold One; omega)).cell 2; simpa using this
  have f3 : ∀ W, Upd (One bc) wb W → W.cell? ⟨fb, 3, none⟩ = some (.map (some bl)) := fun W u => by have := (FB.out.blk.upd u (by unfold One; omega)).cell 3; simpa using this
  have f4 : ∀ W, Upd (One bc) wb W → W.cell? ⟨fb, 4, none⟩ = some (.map (some bx)) := fun W u => by have := (FB.out.blk.upd u (by unfold One; omega)).cell 4; simpa using this
  have L1 : ∀ W, Upd (One bc) wb W → (Instr.lookup 93 (.map (some bd)) (.int .i64 yt) false).run Try.prog W = .ok (.int .i64 (if yt ∈ LD then 1 else 0)) W := fun W u => by
    have := run_look kbyint Try.underlying93 zeroCnt (FB.out.md_.upd u (by unfold One; omega)).is yt
    rwa [FB.out.dm yt] at this
  have L2 : ∀ W, Upd (One bc) wb W → (Instr.lookup 158 (.map (some bl)) (.agg #[.int .i64 yt, .int .i64 yk]) false).run Try.prog W = .ok (.int .i64 (cnt2 LW (yt, yk) : Int)) W := fun W u => by
    have := run_look kbypair Try.underlying158 zeroCnt (FB.out.ml_.upd u (by unfold One; omega)).is (yt, yk)
    rwa [FB.out.lm.val] at this
  have L3 : ∀ W, Upd (One bc) wb W → (Instr.lookup 158 (.map (some bx)) (.agg #[.int .i64 yk, .int .i64 yt]) false).run Try.prog W = .ok (.int .i64 (lastW LN (yk, yt))) W := fun W u => by
    have := run_look kbypair Try.underlying158 zeroCnt (FB.out.mx_.upd u (by unfold One; omega)).is (yk, yt)
    rwa [FB.out.nm (yk, yt)] at this
  have hr : Upd (One bc) wb wb := Upd.refl _ _
  have hrq := fun n => hr.drewN n
  have H1 := Lib.hid (hg.congr (f := fun x => g x + cnt2 [] x) (fun x => by rw [cnt2_nil]; rfl))
  clear h hm hg hb hbl hd u0 bT bO
  by_cases c1 : yt = ti
  · have HV := Lib.hid (show readE LD LW LN ti ⟨yr, yk, yt, yn⟩ = [] by unfold readE; rw [if_pos c1])
    have c2 : (yt == ti) = true := by simpa using c1
    have HC := Lib.hid c1
    clear c1
    go_enter Try.func145, Try.ntmps145
    go_wp2
    go_quiet (fail)
    go_wp2
    go_end0
    exact ⟨rfl, mc, MB.out, by rw [HV.out]; exact H1.out, UB.out.trans (hr.drewN _)⟩
  · have c2 : (yt == ti) = false := by simpa using c1
    by_cases c3 : yt = 0
    · have c4 : (yt != 0) = false := by simpa using c3
      have HR : Hid (readE LD LW LN ti ⟨yr, yk, yt, yn⟩ = [] ++ if lastW LN (yk, yt) ≠ 0 ∧ lastW LN (yk, yt) ≠ ti then [⟨ti, lastW LN (yk, yt), 3, yk⟩] else []) := Lib.hid (by
        unfold readE
        rw [if_neg c1, if_neg (fun h => h.1 c3), if_neg (fun h => h.1 c3), if_neg (fun h => h c3)])
      clear c1 c3
      go_enter Try.func145, Try.ntmps145
      go_wp2
      go_quiet (fail)
      have hqu := hrq nq
      have hmu : MapE (wb.drewN nq) bc encE mc := MB.out
      generalize wb.drewN nq = wu at *
      have HE := Lib.hid (show ∀ z, g z = g z + cnt2 ([] : List Edge) z from fun z => by rw [cnt2_nil]; rfl)
      obtain ⟨x, hx⟩ : ∃ x, lastW LN (yk, yt) = x := ⟨_, rfl⟩
      rw [hx] at L3 HR
      clear hx
      have hq := fun n => Upd.drewN hqu n
      by_cases hx0 : x = 0
      · have HV := Lib.hid (show readE LD LW LN ti ⟨yr, yk, yt, yn⟩ = [] by rw [HR.out, if_neg (fun h => h.1 hx0), List.append_nil])
        subst hx0
        go_wp2
        go_quiet (fail)
        go_wp2
        go_end0
        exact ⟨rfl, _, hmu, by rw [HV.out]; exact (HG.out).congr HE.out, UB.out.trans (Upd.drewN hqu _)⟩
      · have hx1 : (x != 0) = true := by simpa using hx0
        by_cases hxt : x = ti
        · have hx2 : (x != ti) = false := by simpa using hxt
          have HV := Lib.hid (show readE LD LW LN ti ⟨yr, yk, yt, yn⟩ = [] by rw [HR.out, if_neg (fun h => h.2 hxt), List.append_nil])
          clear hxt hx0
          go_wp2
          go_quiet (fail)
          go_wp2
          go_end0
          exact ⟨rfl, _, hmu, by rw [HV.out]; exact (HG.out).congr HE.out, UB.out.trans (Upd.drewN hqu _)⟩
        · have hx2 : (x != ti) = true := by simpa using hxt
          have HV := Lib.hid (show readE LD LW LN ti ⟨yr, yk, yt, yn⟩ = [] ++ [⟨ti, x, 3, yk⟩] by rw [HR.out, if_pos ⟨hx0, hxt⟩])
          clear hxt hx0
          go_wp2
          go_quiet (fail)
          have hqq := hq nq
          have hmq : MapE ((wu).drewN nq) bc encE mc := hmu
          generalize (wu).drewN nq = wq at *
          go_wp2
          have hmd : MapE wq.drew bc encE mc := hmq
          obtain ⟨N, hN⟩ : ∃ N, g ⟨ti, x, 3, yk⟩ = N := ⟨_, rfl⟩
          have hval : (mget mc (⟨ti, x, 3, yk⟩ : Edge)).getD (.int .i64 0) = .int .i64 (N : Int) := by rw [(HG.out).val, hN]
          have hNl : N ≤ 2000000000 := by have := (BND.out ⟨ti, x, 3, yk⟩); omega
          obtain ⟨st, w6, e2, hm6, hu6, hst⟩ := run_entry kbyedge Try.underlying148 zeroCnt hmd (⟨ti, x, 3, yk⟩ : Edge)
          have e1 := run_look kbyedge Try.underlying148 zeroCnt hmd.is (⟨ti, x, 3, yk⟩ : Edge)
          have e3 := run_look kbyedge Try.underlying148 zeroCnt hm6.is (⟨ti, x, 3, yk⟩ : Edge)
          rw [mget_same, Option.getD_some] at e3
          rw [hval] at e1 e2 e3
          obtain ⟨w7, e4, hm7, hu7⟩ := hst (.int .i64 ((N : Int) + 1))
          change (Instr.lookup 148 (.map (some bc)) (.agg #[.int .i64 ti, .int .i64 x, .int .i64 3, .int .i64 yk]) false).run Try.prog wq.drew = .ok (.int .i64 N) wq.drew at e1
          change (Instr.lookup 148 (.map (some bc)) (.agg #[.int .i64 ti, .int .i64 x, .int .i64 3, .int .i64 yk]) false).run Try.prog w6 = .ok (.int .i64 N) w6 at e3
          change (Instr.mapEntry 148 (.map (some bc)) (.agg #[.int .i64 ti, .int .i64 x, .int .i64 3, .int .i64 yk])).run Try.prog wq.drew = .ok (.tuple #[.int .i64 N, .int .i64 st]) w6 at e2
          change (Instr.entryStore 148 (.map (some bc)) (.int .i64 st) (.int .i64 ((N : Int) + 1))).run Try.prog w6 = .ok () w7 at e4
          have hxz : Upd (One bc) wb wq := hqq
          have hU6 : Upd (One bc) wb w6 := hxz.trans hu6.of_drew
          have hU7 : Upd (One bc) wb w7 := hxz.trans hu7.of_drew
          have HM7 := Lib.hid hm7
          have HG7 := Lib.hid ((HG.out).inc (⟨ti, x, 3, yk⟩ : Edge))
          rw [hN] at HG7
          clear hmd hN hval hst hm6 hm7 hu6 hu7
          have hwr : IntKind.i64.wrap ((N : Int) + 1) = (N : Int) + 1 := IntWalk.i64_in _ (by omega)
          go_region_held3 (fun W' => Upd (One bc) wb W') (first | exact hxz.drew | exact hU6 | exact hU7) (fail)
          all_goals
            clear e1 e2 e3 e4 hwr
            go_wp2
            go_end0
            exact ⟨rfl, _, HM7.out, by rw [HV.out]; exact HG7.out.congr (fun z => by rw [cnt2_append]; have := HE.out z; omega), UB.out.trans hU7⟩
    · have c4 : (yt != 0) = true := by simpa using c3
      by_cases c5 : yt ∈ LD
      · obtain ⟨N0, hN0⟩ : ∃ N0, cnt2 LW (yt, yk) = N0 := ⟨_, rfl⟩
        rw [hN0] at L2
        simp only [if_pos c5] at L1
        by_cases c6 : (N0 : Int) = yn
        · have c7 : ((N0 : Int) != yn) = false := by simpa using c6
          have HR : Hid (readE LD LW LN ti ⟨yr, yk, yt, yn⟩ = [⟨yt, ti, 2, yk⟩] ++ if lastW LN (yk, yt) ≠ 0 ∧ lastW LN (yk, yt) ≠ ti then [⟨ti, lastW LN (yk, yt), 3, yk⟩] else []) := Lib.hid (by
            unfold readE
            rw [if_neg c1, if_neg (fun h => h.2 c5), if_neg (fun h => h.2 (by rw [hN0]; exact c6)), if_pos c3])
          clear c1 c3 c5 c6 hN0
          go_enter Try.func145, Try.ntmps145
          go_wp2
          go_quiet (fail)
          have hqu := hrq nq
          have hmu : MapE (wb.drewN nq) bc encE mc := MB.out
          generalize wb.drewN nq = wu at *
          go_wp2
          have hmd : MapE wu.drew bc encE mc := hmu
          obtain ⟨N, hN⟩ : ∃ N, g ⟨yt, ti, 2, yk⟩ = N := ⟨_, rfl⟩
          have hval : (mget mc (⟨yt, ti, 2, yk⟩ : Edge)).getD (.int .i64 0) = .int .i64 (N : Int) := by rw [(HG.out).val, hN]
          have hNl : N ≤ 2000000000 := by have := (BND.out ⟨yt, ti, 2, yk⟩); omega
          obtain ⟨st, w6, e2, hm6, hu6, hst⟩ := run_entry kbyedge Try.underlying148 zeroCnt hmd (⟨yt, ti, 2, yk⟩ : Edge)
          have e1 := run_look kbyedge Try.underlying148 zeroCnt hmd.is (⟨yt, ti, 2, yk⟩ : Edge)
          have e3 := run_look kbyedge Try.underlying148 zeroCnt hm6.is (⟨yt, ti, 2, yk⟩ : Edge)
          rw [mget_same, Option.getD_some] at e3
          rw [hval] at e1 e2 e3
          obtain ⟨w7, e4, hm7, hu7⟩ := hst (.int .i64 ((N : Int) + 1))
          change (Instr.lookup 148 (.map (some bc)) (.agg #[.int .i64 yt, .int .i64 ti, .int .i64 2, .int .i64 yk]) false).run Try.prog wu.drew = .ok (.int .i64 N) wu.drew at e1
          change (Instr.lookup 148 (.map (some bc)) (.agg #[.int .i64 yt, .int .i64 ti, .int .i64 2, .int .i64 yk]) false).run Try.prog w6 = .ok (.int .i64 N) w6 at e3
          change (Instr.mapEntry 148 (.map (some bc)) (.agg #[.int .i64 yt, .int .i64 ti, .int .i64 2, .int .i64 yk])).run Try.prog wu.drew = .ok (.tuple #[.int .i64 N, .int .i64 st]) w6 at e2
          change (Instr.entryStore 148 (.map (some bc)) (.int .i64 st) (.int .i64 ((N : Int) + 1))).run Try.prog w6 = .ok () w7 at e4
          have hxz : Upd (One bc) wb wu := hqu
          have hU6 : Upd (One bc) wb w6 := hxz.trans hu6.of_drew
          have hU7 : Upd (One bc) wb w7 := hxz.trans hu7.of_drew
          have HM7 := Lib.hid hm7
          have HG7 := Lib.hid ((HG.out).inc (⟨yt, ti, 2, yk⟩ : Edge))
          rw [hN] at HG7
          clear hmd hN hval hst hm6 hm7 hu6 hu7
          have hwr : IntKind.i64.wrap ((N : Int) + 1) = (N : Int) + 1 := IntWalk.i64_in _ (by omega)
          go_region_held3 (fun W' => Upd (One bc) wb W') (first | exact hxz.drew | exact hU6 | exact hU7) (fail)
          all_goals
            clear e1 e2 e3 e4 hwr
            obtain ⟨M2, hM2⟩ : ∃ M2, mput mc (⟨yt, ti, 2, yk⟩ : Edge) (.int .i64 ((N : Int) + 1)) = M2 := ⟨_, rfl⟩
            obtain ⟨g1, hg1⟩ : ∃ g1 : Edge → Nat, (fun x => g x + cnt2 [(⟨yt, ti, 2, yk⟩ : Edge)] x) = g1 := ⟨_, rfl⟩
            rw [hM2, hg1] at HG7
            rw [hM2] at HM7
            have HE := Lib.hid (show ∀ z, g1 z = g z + cnt2 [(⟨yt, ti, 2, yk⟩ : Edge)] z from fun z => by rw [← hg1])
            have HB1 := Lib.hid (show ∀ z, g1 z ≤ 1000000001 from fun z => by have h1 := BND.out z; have h2 := cnt2_le [(⟨yt, ti, 2, yk⟩ : Edge)] z; simp at h2; rw [HE.out]; omega)
            have HMA := HM7
            have HGA := HG7
            have hUA := hU7
            clear hM2 hg1 HM7 HG7 hU6 hU7 hxz
            obtain ⟨x, hx⟩ : ∃ x, lastW LN (yk, yt) = x := ⟨_, rfl⟩
            rw [hx] at L3 HR
            clear hx
            have hq := fun n => Upd.drewN hUA n
            by_cases hx0 : x = 0
            · have HV := Lib.hid (show readE LD LW LN ti ⟨yr, yk, yt, yn⟩ = [⟨yt, ti, 2, yk⟩] by rw [HR.out, if_neg (fun h => h.1 hx0), List.append_nil])
              subst hx0
              go_wp2
              go_quiet (fail)
              go_wp2
              go_end0
              exact ⟨rfl, _, HMA.out, by rw [HV.out]; exact (HGA.out).congr HE.out, UB.out.trans (Upd.drewN hUA _)⟩
            · have hx1 : (x != 0) = true := by simpa using hx0
              by_cases hxt : x = ti
              · have hx2 : (x != ti) = false := by simpa using hxt
                have HV := Lib.hid (show readE LD LW LN ti ⟨yr, yk, yt, yn⟩ = [⟨yt, ti, 2, yk⟩] by rw [HR.out, if_neg (fun h => h.2 hxt), List.append_nil])
                clear hxt hx0
                go_wp2
                go_quiet (fail)
                go_wp2
                go_end0
                exact ⟨rfl, _, HMA.out, by rw [HV.out]; exact (HGA.out).congr HE.out, UB.out.trans (Upd.drewN hUA _)⟩
              · have hx2 : (x != ti) = true := by simpa using hxt
                have HV := Lib.hid (show readE LD LW LN ti ⟨yr, yk, yt, yn⟩ = [⟨yt, ti, 2, yk⟩] ++ [⟨ti, x, 3, yk⟩] by rw [HR.out, if_pos ⟨hx0, hxt⟩])
                clear hxt hx0
                go_wp2
                go_quiet (fail)
                have hqq := hq nq
                have hmq : MapE ((w7).drewN nq) bc encE M2 := HMA.out
                generalize (w7).drewN nq = wq at *
                go_wp2
                have hmd : MapE wq.drew bc encE M2 := hmq
                obtain ⟨N, hN⟩ : ∃ N, g1 ⟨ti, x, 3, yk⟩ = N := ⟨_, rfl⟩
                have hval : (mget M2 (⟨ti, x, 3, yk⟩ : Edge)).getD (.int .i64 0) = .int .i64 (N : Int) := by rw [(HGA.out).val, hN]
                have hNl : N ≤ 2000000000 := by have := (HB1.out ⟨ti, x, 3, yk⟩); omega
                obtain ⟨st, w6, e2, hm6, hu6, hst⟩ := run_entry kbyedge Try.underlying148 zeroCnt hmd (⟨ti, x, 3, yk⟩ : Edge)
                have e1 := run_look kbyedge Try.underlying148 zeroCnt hmd.is (⟨ti, x, 3, yk⟩ : Edge)
                have e3 := run_look kbyedge Try.underlying148 zeroCnt hm6.is (⟨ti, x, 3, yk⟩ : Edge)
                rw [mget_same, Option.getD_some] at e3
                rw [hval] at e1 e2 e3
                obtain ⟨w7, e4, hm7, hu7⟩ := hst (.int .i64 ((N : Int) + 1))
                change (Instr.lookup 148 (.map (some bc)) (.agg #[.int .i64 ti, .int .i64 x, .int .i64 3, .int .i64 yk]) false).run Try.prog wq.drew = .ok (.int .i64 N) wq.drew at e1
                change (Instr.lookup 148 (.map (some bc)) (.agg #[.int .i64 ti, .int .i64 x, .int .i64 3, .int .i64 yk]) false).run Try.prog w6 = .ok (.int .i64 N) w6 at e3
                change (Instr.mapEntry 148 (.map (some bc)) (.agg #[.int .i64 ti, .int .i64 x, .int .i64 3, .int .i64 yk])).run Try.prog wq.drew = .ok (.tuple #[.int .i64 N, .int .i64 st]) w6 at e2
                change (Instr.entryStore 148 (.map (some bc)) (.int .i64 st) (.int .i64 ((N : Int) + 1))).run Try.prog w6 = .ok () w7 at e4
                have hxz : Upd (One bc) wb wq := hqq
                have hU6 : Upd (One bc) wb w6 := hxz.trans hu6.of_drew
                have hU7 : Upd (One bc) wb w7 := hxz.trans hu7.of_drew
                have HM7 := Lib.hid hm7
                have HG7 := Lib.hid ((HGA.out).inc (⟨ti, x, 3, yk⟩ : Edge))
                rw [hN] at HG7
                clear hmd hN hval hst hm6 hm7 hu6 hu7
                have hwr : IntKind.i64.wrap ((N : Int) + 1) = (N : Int) + 1 := IntWalk.i64_in _ (by omega)
                go_region_held3 (fun W' => Upd (One bc) wb W') (first | exact hxz.drew | exact hU6 | exact hU7) (fail)
                all_goals
                  clear e1 e2 e3 e4 hwr
                  go_wp2
                  go_end0
                  exact ⟨rfl, _, HM7.out, by rw [HV.out]; exact HG7.out.congr (fun z => by rw [cnt2_append]; have := HE.out z; omega), UB.out.trans hU7⟩
        · have c7 : ((N0 : Int) != yn) = true := by simpa using c6
          have HV := Lib.hid (show readE LD LW LN ti ⟨yr, yk, yt, yn⟩ = [] by unfold readE; rw [if_neg c1, if_neg (fun h => h.2 c5), if_pos ⟨c3, by rw [hN0]; exact c6⟩])
          clear c1 c3 c5 c6 hN0
          go_enter Try.func145, Try.ntmps145
          go_wp2
          go_quiet (fail)
          go_wp2
          go_end0
          exact ⟨rfl, mc, MB.out, by rw [HV.out]; exact H1.out, UB.out.trans (hr.drewN _)⟩
      · have HV := Lib.hid (show readE LD LW LN ti ⟨yr, yk, yt, yn⟩ = [] by unfold readE; rw [if_neg c1, if_pos ⟨c3, c5⟩])
        simp only [if_neg c5] at L1
        clear c1 c3 c5
        go_enter Try.func145, Try.ntmps145
        go_wp2
        go_quiet (fail)
        go_wp2
        go_end0
        exact ⟨rfl, mc, MB.out, by rw [HV.out]; exact H1.out, UB.out.trans (hr.drewN _)⟩
end Go.Proofs.Ytaicemjckagcaaa

/- Edges of a history, as they are counted: in plain words. -/
namespace Go.Proofs.Ytaicemjckagcaaa
set_option linter.unusedVariables false
open Go.RowKit
/-- who stands one behind the other -/
def wwO (key : Int) : List Int → List Edge
  | [] => []
  | a :: l => (match l with | [] => [] | b :: _ => [⟨a, b, 1, key⟩]) ++ wwO key l
theorem wwO_take (key : Int) : ∀ (l : List Int) {k : Nat} {a b : Int} (h1 : k + 1 < l.length), l[k] = a → l[k + 1] = b → wwO key (l.take (k + 2)) = wwO key (l.take (k + 1)) ++ [⟨a, b, 1, key⟩]
  | x :: y :: l, 0, a, b, _, ha, hb => by
    simp at ha hb
    subst ha hb
    simp [wwO]
  | x :: y :: l, k + 1, a, b, h, ha, hb => by
    have ih := wwO_take key (y :: l) (k := k) (a := a) (b := b) (by simpa using h) (by simpa using ha) (by simpa using hb)
    have e1 : (x :: y :: l).take (k + 1 + 2) = x :: (y :: l).take (k + 2) := rfl
    have e2 : (x :: y :: l).take (k + 1 + 1) = x :: (y :: l).take (k + 1) := rfl
    rw [e1, e2]
    have e3 : ∀ n, wwO key (x :: (y :: l).take (n + 1)) = [⟨x, y, 1, key⟩] ++ wwO key ((y :: l).take (n + 1)) := fun n => rfl
    rw [e3 (k + 1), e3 k, ih, List.append_assoc]
def wwC (cnt : Int → Bool) (o : HOrd) : List Edge := if cnt o.key then wwO o.key o.txs else []
def wwL (cnt : Int → Bool) (ords : List HOrd) : List Edge := ords.flatMap (wwC cnt)
theorem wwL_succ {cnt : Int → Bool} {ords : List HOrd} {k : Nat} {x : HOrd} (hk : k < ords.length) (hx : ords[k] = x) : wwL cnt (ords.take (k + 1)) = wwL cnt (ords.take k) ++ wwC cnt x := by
  subst hx
  unfold wwL
  rw [List.take_succ_eq_append_getElem hk, List.flatMap_append]
  simp
/-- one is there, or not -/
def memF (L : List Edge) (e : Edge) : Nat := if e ∈ L then 1 else 0
theorem memF_put {m : List (Edge × Value)} {L : List Edge} (h : CntM m (memF L)) (a : Edge) : CntM (mput m a (.int .i64 1)) (memF (L ++ [a])) := by
  refine CntM.congr (show CntM (mput m a (.int .i64 ((1 : Nat) : Int))) _ from h.put a 1 (by omega)) fun x => ?_
  unfold memF
  by_cases e : x = a
  · subst e; simp
  · simp [e]
def rdO (cnt : Int → Bool) (LD : List Int) (LW : List (Int × Int)) (LN : List ((Int × Int) × Int)) (ti : Int) (l : List HOp) : List Edge := (l.filter fun o => o.read && cnt o.key).flatMap (readE LD LW LN ti)
theorem rdO_succ {cnt : Int → Bool} {LD : List Int} {LW : List (Int × Int)} {LN : List ((Int × Int) × Int)} {ti : Int} {l : List HOp} {k : Nat} {x : HOp} (hk : k < l.length) (hx : l[k] = x) :
    rdO cnt LD LW LN ti (l.take (k + 1)) = rdO cnt LD LW LN ti (l.take k) ++ if x.read && cnt x.key then readE LD LW LN ti x else [] := by
  subst hx
  unfold rdO
  rw [List.take_succ_eq_append_getElem hk, List.filter_append, List.flatMap_append]
  cases h : (l[k].read && cnt l[k].key) <;> simp [h]
def rdL (cnt : Int → Bool) (LD : List Int) (LW : List (Int × Int)) (LN : List ((Int × Int) × Int)) (txs : List HTx) : List Edge := (txs.filter (·.done)).flatMap fun t => rdO cnt LD LW LN t.id t.ops
theorem rdL_succ {cnt : Int → Bool} {LD : List Int} {LW : List (Int × Int)} {LN : List ((Int × Int) × Int)} {txs : List HTx} {k : Nat} {x : HTx} (hk : k < txs.length) (hx : txs[k] = x) :
    rdL cnt LD LW LN (txs.take (k + 1)) = rdL cnt LD LW LN (txs.take k) ++ if x.done then rdO cnt LD LW LN x.id x.ops else [] := by
  subst hx
  unfold rdL
  rw [List.take_succ_eq_append_getElem hk, List.filter_append, List.flatMap_append]
  cases h : txs[k].done <;> simp [h]
theorem readE_len (LD : List Int) (LW : List (Int × Int)) (LN : List ((Int × Int) × Int)) (ti : Int) (o : HOp) : (readE LD LW LN ti o).length ≤ 2 := by
  unfold readE
  split
  · simp
  · split
    · simp
    · split
      · simp
      · rw [List.length_append]
        split <;> split <;> simp
/-- how often there is a reason for one, as it is counted -/
def gCnt (cnt : Int → Bool) (txs : List HTx) (ords : List HOrd) (e : Edge) : Nat := memF (wwL cnt ords) e + cnt2 (rdL cnt (doneL txs) (writesL txs) (nextsL ords) txs) e
def gAll (cnt : Int → Bool) (h : Hist) (e : Edge) : Nat := if rightB h = true then gCnt cnt h.txs h.ords e else 0
theorem memF_le (L : List Edge) (e : Edge) : memF L e ≤ 1 := by unfold memF; split <;> omega
theorem right_few {h : Hist} (hr : rightB h = true) : h.txs.length ≤ 4096 := by
  apply Classical.byContradiction
  intro hn
  rw [right_many (by omega)] at hr
  cases hr
theorem right_ops {h : Hist} (hr : rightB h = true) {t : HTx} (ht : t ∈ h.txs) : t.ops.length ≤ 4095 := by
  have h1 := (right_parts hr ht).1
  unfold txErr at h1
  split at h1
  · cases h1
  · split at h1
    · cases h1
    · omega
end Go.Proofs.Ytaicemjckagcaaa

/- Edges of a history: dsg.counted is walked. -/
namespace Go.Proofs.Ytaicemjckagcaaa
set_option linter.unusedVariables false
open Go.RowKit
/-- what counting leaves -/
def Counted (w : World) (g : Edge → Nat) (e : Ending) (w' : World) : Prop :=
  ∃ bc mc, e = .returned (.map (some bc)) ∧ w.heap.size ≤ bc ∧ MapE w' bc encE mc ∧ CntM mc g ∧ Upd No w w'
theorem dEdges1 (w : World) (key : Int) : Calls Try.prog 96 #[.int .i64 key] w fun e w' => e = .returned (.bool true) ∧ Upd No w w' := by
  go_enter Try.func96, Try.ntmps96
  go_wp2
  go_ret
  exact ⟨rfl, Upd.refl _ _⟩
theorem dOf1 (w : World) (key k0 : Int) (p : Addr) (hp : w.cell? p = some (.int .i64 k0)) : Calls Try.prog 97 #[.int .i64 key, .pointer (some p)] w fun e w' => e = .returned (.bool (key == k0)) ∧ Upd No w w' := by
  go_enter Try.func97, Try.ntmps97
  go_wp2
  go_ret
  exact ⟨rfl, Upd.refl _ _⟩
theorem dCount1 (w : World) (key k0 : Int) (b : Nat) (hp : w.cell? ⟨b, 3, none⟩ = some (.int .i64 k0)) : Calls Try.prog 98 #[.int .i64 key, .pointer (some ⟨b, 0, none⟩)] w fun e w' => e = .returned (.bool (key == k0)) ∧ Upd No w w' := by
  go_enter Try.func98, Try.ntmps98
  go_wp2
  go_ret
  exact ⟨rfl, Upd.refl _ _⟩
end Go.Proofs.Ytaicemjckagcaaa
