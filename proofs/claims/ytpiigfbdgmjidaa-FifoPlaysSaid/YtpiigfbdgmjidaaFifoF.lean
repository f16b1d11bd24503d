/- The law of queues and stacks, walked. -/
import Derived.Test.YtpiigfbdgmjidaaFifoE
namespace Go.Proofs.Ytpiigfbdgmjidaa
set_option linter.unusedVariables false
open Go.RowKit

/-- a slice of A reads as rows of so many cells -/
def Recs (F : Nat → Prop) (w : World) (A : Option Addr) (size : Nat) (rows : List (List Value)) : Prop :=
  rows ≠ [] → ∃ ad, A = some ad ∧ F ad.block ∧ ad.block < w.heap.size ∧ ∀ (i : Nat) row, rows[i]? = some row → ∀ (j : Nat) v, row[j]? = some v → w.cell? (ad.add (i * size + j)) = some v
namespace Recs
variable {F S : Nat → Prop} {w w' : World} {A : Option Addr} {size : Nat} {rows : List (List Value)}
theorem at_ (h : Recs F w A size rows) {k : Nat} (hk : k < rows.length) : ∃ ad, A = some ad ∧ F ad.block ∧ ad.block < w.heap.size ∧ ∀ (j : Nat) v, rows[k][j]? = some v → w.cell? (if j = 0 then ad.add (k * size) else ⟨(ad.add (k * size)).block, (ad.add (k * size)).off + j, none⟩) = some v := by
  obtain ⟨ad, e, hf, hl, hc⟩ := h (by intro e; subst e; simp at hk)
  refine ⟨ad, e, hf, hl, fun j v hj => ?_⟩
  have := hc k _ (List.getElem?_eq_getElem hk) j v hj
  rw [← Ints.add_add] at this
  split
  · rename_i h0; subst h0; simpa [Addr.add] using this
  · rename_i h0
    rw [← this]
    congr 1
    generalize ad.add (k * size) = X
    unfold Addr.add
    rw [if_neg h0]
theorem upd (h : Recs F w A size rows) (k : Upd S w w') (hn : ∀ i, F i → ¬ S i) : Recs F w' A size rows := fun hne => by
  obtain ⟨ad, e, hf, hl, hc⟩ := h hne
  exact ⟨ad, e, hf, Nat.lt_of_lt_of_le hl k.size, fun i row hi j v hj => (k.cell (by rw [Ints.block_add]; exact hl) (by rw [Ints.block_add]; exact hn _ hf)).trans (hc i row hi j v hj)⟩
theorem lt (h : Recs F w A size rows) : Recs (fun i => i < w.heap.size) w A size rows := fun hne => by
  obtain ⟨ad, e, _, hl, hc⟩ := h hne
  exact ⟨ad, e, hl, hl, hc⟩
end Recs
theorem Ints.weak {F G : Nat → Prop} {w : World} {A : Option Addr} {xs : List Int} (h : Ints F w A xs) (hg : ∀ i, i < w.heap.size → F i → G i) : Ints G w A xs := fun hne => by
  obtain ⟨ad, e, hf, hl, hc⟩ := h hne
  exact ⟨ad, e, hg _ hl hf, hl, hc⟩

theorem Ints.lt' {F : Nat → Prop} {w : World} {A : Option Addr} {xs : List Int} {G : Nat → Prop} (h : Ints F w A xs) (hg : ∀ i, F i → G i) : Ints (fun i => i < w.heap.size ∧ G i) w A xs := fun hne => by
  obtain ⟨ad, e, hf, hl, hc⟩ := h hne
  exact ⟨ad, e, ⟨hl, hg _ hf⟩, hl, hc⟩

theorem Que.dr {w : World} {F : Nat → Prop} {g : Nat} {room : Int} {xs : List Int} (h : Que w F g room xs) (n : Nat) : Que (w.drewN n) F g room xs := h
theorem Sta.dr {w : World} {F : Nat → Prop} {g : Nat} {room : Int} {xs : List Int} (h : Sta w F g room xs) (n : Nat) : Sta (w.drewN n) F g room xs := h

/-- a deed as it lies -/
structure FDeed where
  kind : Int
  stack : Bool
  x : Int
def FDeed.cells (d : FDeed) : List Value := [.int .i64 d.kind, .bool d.stack, .int .i64 d.x]

set_option maxRecDepth 100000 in
set_option maxHeartbeats 4000000 in
theorem plays_any (F : Nat → Prop) (w : World) (room : Int) (A : Option Addr) (n c : Nat) (ds : List FDeed) (hd : Recs F w A 3 (ds.map FDeed.cells)) (hn : n = ds.length) (hn2 : n ≤ 9223372036854775807)
    (lives : Hid (∀ W, Calls Try.prog 36 #[] W fun e w' => e = .returned (.bool true) ∧ Upd No W w')) :
    Calls Try.prog 8 #[.int .i64 room, .slice A n c] w fun e w' => e = .returned (.bool true) ∧ Upd No w w' := by
  have hd' := hd.lt
  subst hn
  go_enter Try.func8, Try.ntmps8
  go_wp2_with fail
  refine (qnew _ _).mono ?_
  rintro e w1 ⟨gq, rfl, hgq, hq1, hu1⟩
  go_wp2_with fail
  refine (snew _ _).mono ?_
  rintro e w2 ⟨gs, rfl, hgs, hs2, hu2⟩
  by_cases hlen : 120 < (ds.length : Int)
  · go_wp2_with fail
    refine (lives.out _).mono ?_
    rintro e w3 ⟨rfl, hu3⟩
    go_wp2
    go_ret
    exact ⟨rfl, (hu1.trans hu2).trans hu3⟩
  · go_wp2_with fail
    refine (refroom _ _).mono ?_
    rintro e w' ⟨rfl, rfl⟩
    have hN0 : 0 ≤ within room := by unfold within; omega
    have hN1 : within room ≤ 65536 := by unfold within; omega
    generalize within room = N at *
    have hq2 := hq1.upd hu2 (fun _ _ => id)
    have hu12 := hu1.trans hu2
    have hsz := hu1.size
    have hgq2 := hq1.lt gq rfl
    go_wp2
    go_loopg [8, 9, 47] ds.length (fun gk a b i wr => ∃ (k : Nat) (Fq Fs : Nat → Prop) (xq xs : List Int) (A1 A2 : Option Addr) (c1 c2 : Nat), k + gk = ds.length ∧ i = .int .i64 k ∧
      a = .slice A1 xq.length c1 ∧ b = .slice A2 xs.length c2 ∧ Que wr Fq gq N xq ∧ Sta wr Fs gs N xs ∧ Ints (fun i => ¬ Fq i ∧ ¬ Fs i) wr A1 xq ∧ Ints (fun i => ¬ Fq i ∧ ¬ Fs i) wr A2 xs ∧
      (∀ i, Fq i → ¬ Fs i ∧ w.heap.size ≤ i) ∧ (∀ i, Fs i → w.heap.size ≤ i) ∧ xq.length ≤ k ∧ xs.length ≤ k ∧ (xq.length : Int) ≤ N ∧ (xs.length : Int) ≤ N ∧ xq.length ≤ c1 ∧ xs.length ≤ c2 ∧ Upd No w wr)
    case atStart =>
      refine ⟨0, One gq, One gs, [], [], none, none, 0, 0, by omega, rfl, rfl, rfl, hq2, hs2, Ints.nil_, Ints.nil_, ?_, ?_, by simp, by simp, by simpa using hN0, by simpa using hN0, by simp, by simp, hu12⟩
      · intro i e
        have e : i = gq := e
        exact ⟨fun e' => by have : i = gs := e'; omega, by omega⟩
      · intro i e
        have e : i = gs := e
        omega
    case round =>
      obtain ⟨k, Fq, Fs, xq, xs, A1, A2, c1, c2, hgk, rfl, rfl, rfl, hq, hs, ha, hb, hF1, hF2, hl1, hl2, hm1, hm2, hc1, hc2, hu⟩ := hrel
      by_cases hlt : k < ds.length
      · obtain ⟨ad, rfl, _, hadl, hcell⟩ := (hd'.upd hu (fun _ _ => id)).at_ (k := k) (by simpa using hlt)
        obtain ⟨d, hdk⟩ : ∃ d, ds[k] = d := ⟨_, rfl⟩
        have e0 := hcell 0 (.int .i64 d.kind) (by simp [hdk, FDeed.cells])
        have e1 := hcell 1 (.bool d.stack) (by simp [hdk, FDeed.cells])
        have e2 := hcell 2 (.int .i64 d.x) (by simp [hdk, FDeed.cells])
        simp only [if_true, if_neg (show ¬ (1 = 0) by omega), if_neg (show ¬ (2 = 0) by omega)] at e0 e1 e2
        clear hcell hdk hd' hd
        by_cases hk3 : d.kind < 3
        · cases hst : d.stack
          ·
            rw [hst] at e1
            have hB := Blk.new wr 70 [.int .i64 d.kind, .bool false, .int .i64 d.x]
            have uA := (Upd.refl No wr).alloc (.cells [.int .i64 d.kind, .bool false, .int .i64 d.x].toArray 70)
            have hqlt := hq.lt
            have hslt := hs.lt
            have hqa := hq.upd uA (fun _ _ => id)
            have hsa := hs.upd uA (fun _ _ => id)
            have haa := ha.upd uA (fun _ _ => id)
            have hba := hb.upd uA (fun _ _ => id)
            have hua := hu.trans uA
            have huz := hu.size
            clear hq hs ha hb uA hst hu
            by_cases hfull : (xq.length : Int) < N
            · obtain ⟨xq', hxq'⟩ : ∃ l, l = xq ++ [d.x] := ⟨_, rfl⟩
              have Hxq := Lib.hid hxq'
              have hxl : xq'.length = xq.length + 1 := by rw [hxq']; simp
              have hxl' : xq'.length ≤ k + 1 := by omega
              have hxm : (xq'.length : Int) ≤ N := by omega
              clear hxq' hxl
              go_wp2_with fail
              refine (qpush _ Fq _ _ _ _ hqa hN0 hN1 hfull).mono ?_
              rintro e w3 ⟨rfl, Fq', hFq', hq3, hu3⟩
              rw [← Hxq.out] at hq3
              have hB3 := hB.upd hu3 (fun e => by have := hqlt _ e; omega)
              have d0 := hB3.cell 0
              have d1 := hB3.cell 1
              have d2 := hB3.cell 2
              simp only [List.getElem?_cons_zero, List.getElem?_cons_succ] at d0 d1 d2
              have hs3 := hsa.upd hu3 (fun i hi e => (hF1 i e).1 hi)
              have hz3 := hu3.size
              simp only [World.size_alloc] at hz3
              have hu03 : Upd No w w3 := hua.then_ hu3 (fun i e => .inr (hF1 i e).2)
              have hFT1 : ∀ i, Fq' i → ¬ Fs i ∧ w.heap.size ≤ i := fun i hi => by
                rcases hFq' i hi with h | h
                · exact hF1 i h
                · simp only [World.size_alloc] at h
                  exact ⟨fun e => by have := hslt i e; omega, by omega⟩
              have hFT2 := hF2
              have hG : ∀ i, i < wr.heap.size + 1 → ¬ Fq i ∧ ¬ Fs i → ¬ Fq' i ∧ ¬ Fs i := fun i hi h => ⟨fun e => by
                rcases hFq' i e with h' | h'
                · exact h.1 h'
                · simp only [World.size_alloc] at h'; omega, h.2⟩
              have ha0 := haa.upd hu3 (fun i hi e => hi.1 e)
              have hb3 : Ints (fun i => ¬ Fq' i ∧ ¬ Fs i) w3 A2 xs := ((hba.lt' (fun i h => h)).upd hu3 (fun i hi e => hi.2.1 e)).weak (fun i _ h => hG i (by simpa using h.1) h.2)
              go_wp2_with fail
              refine (refpush _ _ A1 c1 xq d.x false ha0 (by omega)).mono ?_
              rintro e w4 hr
              rw [show (if false = true then d.x :: xq else xq ++ [d.x]) = xq' from by rw [Hxq.out]; rfl] at hr
              obtain ⟨A', c', rfl, hcc, hx', hu4⟩ := hr
              have hqT := hq3.upd hu4 (fun _ _ => id)
              have hsT := hs3.upd hu4 (fun _ _ => id)
              have hbT := hb3.upd hu4 (fun _ _ => id)
              have haT : Ints (fun i => ¬ Fq' i ∧ ¬ Fs i) w4 A' xq' := hx'.weak (fun i _ h => ⟨fun e => by have := hq3.lt i e; omega, fun e => by have := hs3.lt i e; omega⟩)
              have huT := hu03.trans hu4
              have hB4 := hB3.upd hu4 id
              replace hB3 := hB4
              clear d0 d1 d2
              have d0 := hB3.cell 0
              have d1 := hB3.cell 1
              have d2 := hB3.cell 2
              simp only [List.getElem?_cons_zero, List.getElem?_cons_succ] at d0 d1 d2
              clear hB hB4 hu3 hu4 hqa hsa haa hba hua hq3 hs3 hb3 ha0 hx' hu03
              go_wp2_with fail
              refine (qlen _ Fq' _ _ _ hqT).mono ?_
              rintro e w' ⟨rfl, rfl⟩
              go_wp2_with fail
              refine (slen _ Fs _ _ _ hsT).mono ?_
              rintro e w' ⟨rfl, rfl⟩
              go_wp2_with fail
              refine (qroom _ Fq' _ _ _ hqT hN0 hN1).mono ?_
              rintro e w' ⟨rfl, q1, rfl⟩
              go_wp2_with fail
              refine (sroom _ Fs _ _ _ (hsT.dr _) hN0 hN1 (by omega)).mono ?_
              rintro e w' ⟨rfl, q2, rfl⟩
              go_wp2_with fail
              refine (qlist _ Fq' _ _ _ (hqT.dr _)).mono ?_
              rintro e W3 ⟨A3, c3, rfl, hx3, hu3⟩
              replace hu3 := hu3.of_drewN
              go_wp2_with fail
              refine (sameints _ _ _ A3 _ _ _ _ _ hx3 (haT.upd hu3 (fun _ _ => id)) (by omega) (by omega)).mono ?_
              rintro e W4 ⟨he, hu4⟩
              rw [beq_self_eq_true] at he
              subst he
              replace hu4 := hu3.trans hu4
              clear hx3 hu3
              go_wp2_with fail
              refine (slist _ Fs _ _ _ (hsT.upd hu4 (fun _ _ => id)) (by omega)).mono ?_
              rintro e W5 ⟨A5, c5, rfl, hx5, hu5⟩
              replace hu5 := hu4.trans hu5
              go_wp2_with fail
              refine (sameints _ _ _ A5 _ _ _ _ _ hx5 (hbT.upd hu5 (fun _ _ => id)) (by omega) (by omega)).mono ?_
              rintro e W6 ⟨he, hu6⟩
              rw [beq_self_eq_true] at he
              subst he
              replace hu6 := hu5.trans hu6
              clear hx5 hu5 hu4
              go_wp2
              go_roundg (gk - 1)
              case measure => omega
              case rel =>
                exact ⟨k + 1, Fq', Fs, _, _, _, _, _, _, by omega, by go_num, rfl, rfl, hqT.upd hu6 (fun _ _ => id), hsT.upd hu6 (fun _ _ => id), haT.upd hu6 (fun _ _ => id), hbT.upd hu6 (fun _ _ => id), hFT1, hFT2, by omega, by omega, by omega, by omega, by omega, by omega, huT.trans hu6⟩
            · go_wp2_with fail
              refine (qpush_full _ Fq _ _ _ _ hqa hN0 hN1 (by omega)).mono ?_
              rintro e w' ⟨rfl, q0, rfl⟩
              have hqT := hqa
              have hsT := hsa
              have haT := haa
              have hbT := hba
              have huT := hua
              have hFT1 := hF1
              have hFT2 := hF2
              clear hqa hsa haa hba hua hF1 hF2 hB
              go_wp2_with fail
              refine (qlen _ Fq _ _ _ (hqT.dr _)).mono ?_
              rintro e w' ⟨rfl, rfl⟩
              go_wp2_with fail
              refine (slen _ Fs _ _ _ (hsT.dr _)).mono ?_
              rintro e w' ⟨rfl, rfl⟩
              go_wp2_with fail
              refine (qroom _ Fq _ _ _ (hqT.dr _) hN0 hN1).mono ?_
              rintro e w' ⟨rfl, q1, rfl⟩
              go_wp2_with fail
              refine (sroom _ Fs _ _ _ (hsT.dr _) hN0 hN1 (by omega)).mono ?_
              rintro e w' ⟨rfl, q2, rfl⟩
              go_wp2_with fail
              refine (qlist _ Fq _ _ _ (hqT.dr _)).mono ?_
              rintro e W3 ⟨A3, c3, rfl, hx3, hu3⟩
              replace hu3 := hu3.of_drewN
              go_wp2_with fail
              refine (sameints _ _ _ A3 _ _ _ _ _ hx3 (haT.upd hu3 (fun _ _ => id)) (by omega) (by omega)).mono ?_
              rintro e W4 ⟨he, hu4⟩
              rw [beq_self_eq_true] at he
              subst he
              replace hu4 := hu3.trans hu4
              clear hx3 hu3
              go_wp2_with fail
              refine (slist _ Fs _ _ _ (hsT.upd hu4 (fun _ _ => id)) (by omega)).mono ?_
              rintro e W5 ⟨A5, c5, rfl, hx5, hu5⟩
              replace hu5 := hu4.trans hu5
              go_wp2_with fail
              refine (sameints _ _ _ A5 _ _ _ _ _ hx5 (hbT.upd hu5 (fun _ _ => id)) (by omega) (by omega)).mono ?_
              rintro e W6 ⟨he, hu6⟩
              rw [beq_self_eq_true] at he
              subst he
              replace hu6 := hu5.trans hu6
              clear hx5 hu5 hu4
              go_wp2
              go_roundg (gk - 1)
              case measure => omega
              case rel =>
                exact ⟨k + 1, Fq, Fs, _, _, _, _, _, _, by omega, by go_num, rfl, rfl, hqT.upd hu6 (fun _ _ => id), hsT.upd hu6 (fun _ _ => id), haT.upd hu6 (fun _ _ => id), hbT.upd hu6 (fun _ _ => id), hFT1, hFT2, by omega, by omega, by omega, by omega, by omega, by omega, huT.trans hu6⟩
          · rw [hst] at e1
            have hB := Blk.new wr 70 [.int .i64 d.kind, .bool true, .int .i64 d.x]
            have uA := (Upd.refl No wr).alloc (.cells [.int .i64 d.kind, .bool true, .int .i64 d.x].toArray 70)
            have hqlt := hq.lt
            have hslt := hs.lt
            have hqa := hq.upd uA (fun _ _ => id)
            have hsa := hs.upd uA (fun _ _ => id)
            have haa := ha.upd uA (fun _ _ => id)
            have hba := hb.upd uA (fun _ _ => id)
            have hua := hu.trans uA
            have huz := hu.size
            clear hq hs ha hb uA hst hu
            by_cases hfull : (xs.length : Int) < N
            · obtain ⟨xs', hxs'⟩ : ∃ l, l = d.x :: xs := ⟨_, rfl⟩
              have Hxs := Lib.hid hxs'
              have hxl : xs'.length = xs.length + 1 := by rw [hxs']; simp
              have hxl' : xs'.length ≤ k + 1 := by omega
              have hxm : (xs'.length : Int) ≤ N := by omega
              clear hxs' hxl
              go_wp2_with fail
              refine (spush _ Fs _ _ _ _ hsa hN0 hN1 hfull).mono ?_
              rintro e w3 ⟨rfl, Fs', hFs', hs3, hu3⟩
              rw [← Hxs.out] at hs3
              have hB3 := hB.upd hu3 (fun e => by have := hslt _ e; omega)
              have d0 := hB3.cell 0
              have d1 := hB3.cell 1
              have d2 := hB3.cell 2
              simp only [List.getElem?_cons_zero, List.getElem?_cons_succ] at d0 d1 d2
              have hq3 := hqa.upd hu3 (fun i hi e => (hF1 i hi).1 e)
              have hz3 := hu3.size
              simp only [World.size_alloc] at hz3
              have hu03 : Upd No w w3 := hua.then_ hu3 (fun i e => .inr (hF2 i e))
              have hFT1 : ∀ i, Fq i → ¬ Fs' i ∧ w.heap.size ≤ i := fun i hi => ⟨fun e => by
                rcases hFs' i e with h | h
                · exact (hF1 i hi).1 h
                · simp only [World.size_alloc] at h
                  have := hqlt i hi
                  omega, (hF1 i hi).2⟩
              have hFT2 : ∀ i, Fs' i → w.heap.size ≤ i := fun i hi => by
                rcases hFs' i hi with h | h
                · exact hF2 i h
                · simp only [World.size_alloc] at h
                  omega
              have hG : ∀ i, i < wr.heap.size + 1 → ¬ Fq i ∧ ¬ Fs i → ¬ Fq i ∧ ¬ Fs' i := fun i hi h => ⟨h.1, fun e => by
                rcases hFs' i e with h' | h'
                · exact h.2 h'
                · simp only [World.size_alloc] at h'; omega⟩
              have hb0 := hba.upd hu3 (fun i hi e => hi.2 e)
              have ha3 : Ints (fun i => ¬ Fq i ∧ ¬ Fs' i) w3 A1 xq := ((haa.lt' (fun i h => h)).upd hu3 (fun i hi e => hi.2.2 e)).weak (fun i _ h => hG i (by simpa using h.1) h.2)
              go_wp2_with fail
              refine (refpush _ _ A2 c2 xs d.x true hb0 (by omega)).mono ?_
              rintro e w4 hr
              rw [show (if true = true then d.x :: xs else xs ++ [d.x]) = xs' from by rw [Hxs.out]; rfl] at hr
              obtain ⟨A', c', rfl, hcc, hx', hu4⟩ := hr
              have hqT := hq3.upd hu4 (fun _ _ => id)
              have hsT := hs3.upd hu4 (fun _ _ => id)
              have haT := ha3.upd hu4 (fun _ _ => id)
              have hbT : Ints (fun i => ¬ Fq i ∧ ¬ Fs' i) w4 A' xs' := hx'.weak (fun i _ h => ⟨fun e => by have := hq3.lt i e; omega, fun e => by have := hs3.lt i e; omega⟩)
              have huT := hu03.trans hu4
              have hB4 := hB3.upd hu4 id
              replace hB3 := hB4
              clear d0 d1 d2
              have d0 := hB3.cell 0
              have d1 := hB3.cell 1
              have d2 := hB3.cell 2
              simp only [List.getElem?_cons_zero, List.getElem?_cons_succ] at d0 d1 d2
              clear hB hB4 hu3 hu4 hqa hsa haa hba hua hq3 hs3 ha3 hb0 hx' hu03
              go_wp2_with fail
              refine (qlen _ Fq _ _ _ hqT).mono ?_
              rintro e w' ⟨rfl, rfl⟩
              go_wp2_with fail
              refine (slen _ Fs' _ _ _ hsT).mono ?_
              rintro e w' ⟨rfl, rfl⟩
              go_wp2_with fail
              refine (qroom _ Fq _ _ _ hqT hN0 hN1).mono ?_
              rintro e w' ⟨rfl, q1, rfl⟩
              go_wp2_with fail
              refine (sroom _ Fs' _ _ _ (hsT.dr _) hN0 hN1 (by omega)).mono ?_
              rintro e w' ⟨rfl, q2, rfl⟩
              go_wp2_with fail
              refine (qlist _ Fq _ _ _ (hqT.dr _)).mono ?_
              rintro e W3 ⟨A3, c3, rfl, hx3, hu3⟩
              replace hu3 := hu3.of_drewN
              go_wp2_with fail
              refine (sameints _ _ _ A3 _ _ _ _ _ hx3 (haT.upd hu3 (fun _ _ => id)) (by omega) (by omega)).mono ?_
              rintro e W4 ⟨he, hu4⟩
              rw [beq_self_eq_true] at he
              subst he
              replace hu4 := hu3.trans hu4
              clear hx3 hu3
              go_wp2_with fail
              refine (slist _ Fs' _ _ _ (hsT.upd hu4 (fun _ _ => id)) (by omega)).mono ?_
              rintro e W5 ⟨A5, c5, rfl, hx5, hu5⟩
              replace hu5 := hu4.trans hu5
              go_wp2_with fail
              refine (sameints _ _ _ A5 _ _ _ _ _ hx5 (hbT.upd hu5 (fun _ _ => id)) (by omega) (by omega)).mono ?_
              rintro e W6 ⟨he, hu6⟩
              rw [beq_self_eq_true] at he
              subst he
              replace hu6 := hu5.trans hu6
              clear hx5 hu5 hu4
              go_wp2
              go_roundg (gk - 1)
              case measure => omega
              case rel =>
                exact ⟨k + 1, Fq, Fs', _, _, _, _, _, _, by omega, by go_num, rfl, rfl, hqT.upd hu6 (fun _ _ => id), hsT.upd hu6 (fun _ _ => id), haT.upd hu6 (fun _ _ => id), hbT.upd hu6 (fun _ _ => id), hFT1, hFT2, by omega, by omega, by omega, by omega, by omega, by omega, huT.trans hu6⟩
            · go_wp2_with fail
              refine (spush_full _ Fs _ _ _ _ hsa hN0 hN1 (by omega)).mono ?_
              rintro e w' ⟨rfl, q0, rfl⟩
              have hqT := hqa
              have hsT := hsa
              have haT := haa
              have hbT := hba
              have huT := hua
              have hFT1 := hF1
              have hFT2 := hF2
              clear hqa hsa haa hba hua hF1 hF2 hB
              go_wp2_with fail
              refine (qlen _ Fq _ _ _ (hqT.dr _)).mono ?_
              rintro e w' ⟨rfl, rfl⟩
              go_wp2_with fail
              refine (slen _ Fs _ _ _ (hsT.dr _)).mono ?_
              rintro e w' ⟨rfl, rfl⟩
              go_wp2_with fail
              refine (qroom _ Fq _ _ _ (hqT.dr _) hN0 hN1).mono ?_
              rintro e w' ⟨rfl, q1, rfl⟩
              go_wp2_with fail
              refine (sroom _ Fs _ _ _ (hsT.dr _) hN0 hN1 (by omega)).mono ?_
              rintro e w' ⟨rfl, q2, rfl⟩
              go_wp2_with fail
              refine (qlist _ Fq _ _ _ (hqT.dr _)).mono ?_
              rintro e W3 ⟨A3, c3, rfl, hx3, hu3⟩
              replace hu3 := hu3.of_drewN
              go_wp2_with fail
              refine (sameints _ _ _ A3 _ _ _ _ _ hx3 (haT.upd hu3 (fun _ _ => id)) (by omega) (by omega)).mono ?_
              rintro e W4 ⟨he, hu4⟩
              rw [beq_self_eq_true] at he
              subst he
              replace hu4 := hu3.trans hu4
              clear hx3 hu3
              go_wp2_with fail
              refine (slist _ Fs _ _ _ (hsT.upd hu4 (fun _ _ => id)) (by omega)).mono ?_
              rintro e W5 ⟨A5, c5, rfl, hx5, hu5⟩
              replace hu5 := hu4.trans hu5
              go_wp2_with fail
              refine (sameints _ _ _ A5 _ _ _ _ _ hx5 (hbT.upd hu5 (fun _ _ => id)) (by omega) (by omega)).mono ?_
              rintro e W6 ⟨he, hu6⟩
              rw [beq_self_eq_true] at he
              subst he
              replace hu6 := hu5.trans hu6
              clear hx5 hu5 hu4
              go_wp2
              go_roundg (gk - 1)
              case measure => omega
              case rel =>
                exact ⟨k + 1, Fq, Fs, _, _, _, _, _, _, by omega, by go_num, rfl, rfl, hqT.upd hu6 (fun _ _ => id), hsT.upd hu6 (fun _ _ => id), haT.upd hu6 (fun _ _ => id), hbT.upd hu6 (fun _ _ => id), hFT1, hFT2, by omega, by omega, by omega, by omega, by omega, by omega, huT.trans hu6⟩
        · cases hst : d.stack
          · rw [hst] at e1
            have hB := Blk.new wr 70 [.int .i64 d.kind, .bool false, .int .i64 d.x]
            have uA := (Upd.refl No wr).alloc (.cells [.int .i64 d.kind, .bool false, .int .i64 d.x].toArray 70)
            have hqlt := hq.lt
            have hslt := hs.lt
            have hqa := hq.upd uA (fun _ _ => id)
            have hsa := hs.upd uA (fun _ _ => id)
            have haa := ha.upd uA (fun _ _ => id)
            have hba := hb.upd uA (fun _ _ => id)
            have hua := hu.trans uA
            have huz := hu.size
            clear hq hs ha hb uA hst hu
            cases xq with
            | nil =>
              go_wp2_with fail
              refine (qfirst_none _ Fq _ _ hqa).mono ?_
              rintro e w' ⟨rfl, rfl⟩
              go_wp2_with fail
              refine (qpop_none _ Fq _ _ hqa).mono ?_
              rintro e w' ⟨rfl, rfl⟩
              have hqT := hqa
              have hsT := hsa
              have haT := haa
              have hbT := hba
              have huT := hua
              have hFT1 := hF1
              have hFT2 := hF2
              clear hqa hsa haa hba hua hF1 hF2 hB
              go_wp2_with fail
              refine (qlen _ Fq _ _ _ hqT).mono ?_
              rintro e w' ⟨rfl, rfl⟩
              go_wp2_with fail
              refine (slen _ Fs _ _ _ hsT).mono ?_
              rintro e w' ⟨rfl, rfl⟩
              go_wp2_with fail
              refine (qroom _ Fq _ _ _ hqT hN0 hN1).mono ?_
              rintro e w' ⟨rfl, q1, rfl⟩
              go_wp2_with fail
              refine (sroom _ Fs _ _ _ (hsT.dr _) hN0 hN1 (by omega)).mono ?_
              rintro e w' ⟨rfl, q2, rfl⟩
              go_wp2_with fail
              refine (qlist _ Fq _ _ _ (hqT.dr _)).mono ?_
              rintro e W3 ⟨A3, c3, rfl, hx3, hu3⟩
              replace hu3 := hu3.of_drewN
              go_wp2_with fail
              refine (sameints _ _ _ A3 _ _ _ _ _ hx3 (haT.upd hu3 (fun _ _ => id)) (by omega) (by omega)).mono ?_
              rintro e W4 ⟨he, hu4⟩
              rw [beq_self_eq_true] at he
              subst he
              replace hu4 := hu3.trans hu4
              clear hx3 hu3
              go_wp2_with fail
              refine (slist _ Fs _ _ _ (hsT.upd hu4 (fun _ _ => id)) (by omega)).mono ?_
              rintro e W5 ⟨A5, c5, rfl, hx5, hu5⟩
              replace hu5 := hu4.trans hu5
              go_wp2_with fail
              refine (sameints _ _ _ A5 _ _ _ _ _ hx5 (hbT.upd hu5 (fun _ _ => id)) (by omega) (by omega)).mono ?_
              rintro e W6 ⟨he, hu6⟩
              rw [beq_self_eq_true] at he
              subst he
              replace hu6 := hu5.trans hu6
              clear hx5 hu5 hu4
              go_wp2
              go_roundg (gk - 1)
              case measure => omega
              case rel =>
                exact ⟨k + 1, Fq, Fs, _, _, _, _, _, _, by omega, by go_num, rfl, rfl, hqT.upd hu6 (fun _ _ => id), hsT.upd hu6 (fun _ _ => id), haT.upd hu6 (fun _ _ => id), hbT.upd hu6 (fun _ _ => id), hFT1, hFT2, by omega, by omega, by omega, by omega, by omega, by omega, huT.trans hu6⟩
            | cons x rest =>
              obtain ⟨a1, ea1, _, _, hca⟩ := haa.at_ (k := 0) (by simp)
              cases ea1
              have hcut : ∀ W, (Instr.slice 23 (.slice (some a1) (rest.length + 1) c1) (some (.int .i64 1)) none none).run Try.prog W = .ok (.slice (cutA (some a1) c1 1 1) rest.length (c1 - 1)) W :=
                fun W => run_cut_l W STint (some a1) (rest.length + 1) c1 1 (by omega)
              go_wp2_with fail
              refine (qfirst _ Fq _ _ _ _ hqa).mono ?_
              rintro e w' ⟨rfl, q0, rfl⟩
              go_wp2_with fail
              refine (qpop _ Fq _ _ _ _ (hqa.dr _)).mono ?_
              rintro e w3 ⟨rfl, hq3, hu3⟩
              replace hu3 := hu3.of_drewN
              have hFq' : ∀ i, Fq i → Fq i ∨ (wr.alloc (.cells [.int .i64 d.kind, .bool false, .int .i64 d.x].toArray 70)).heap.size ≤ i := fun i h => .inl h
              have hB3 := hB.upd hu3 (fun e => by have := hqlt _ e; omega)
              have d0 := hB3.cell 0
              have d1 := hB3.cell 1
              have d2 := hB3.cell 2
              simp only [List.getElem?_cons_zero, List.getElem?_cons_succ] at d0 d1 d2
              have hs3 := hsa.upd hu3 (fun i hi e => (hF1 i e).1 hi)
              have hz3 := hu3.size
              simp only [World.size_alloc] at hz3
              have hu03 : Upd No w w3 := hua.then_ hu3 (fun i e => .inr (hF1 i e).2)
              have hFT1 : ∀ i, Fq i → ¬ Fs i ∧ w.heap.size ≤ i := fun i hi => by
                rcases hFq' i hi with h | h
                · exact hF1 i h
                · simp only [World.size_alloc] at h
                  exact ⟨fun e => by have := hslt i e; omega, by omega⟩
              have hFT2 := hF2
              have hG : ∀ i, i < wr.heap.size + 1 → ¬ Fq i ∧ ¬ Fs i → ¬ Fq i ∧ ¬ Fs i := fun i hi h => ⟨fun e => by
                rcases hFq' i e with h' | h'
                · exact h.1 h'
                · simp only [World.size_alloc] at h'; omega, h.2⟩
              have ha0 := haa.upd hu3 (fun i hi e => hi.1 e)
              have hb3 : Ints (fun i => ¬ Fq i ∧ ¬ Fs i) w3 A2 xs := ((hba.lt' (fun i h => h)).upd hu3 (fun i hi e => hi.2.1 e)).weak (fun i _ h => hG i (by simpa using h.1) h.2)
              have hl1' : rest.length + 1 ≤ k := hl1
              have hm1' : ((rest.length : Nat) : Int) + 1 ≤ N := by simpa using hm1
              have hc1' : rest.length + 1 ≤ c1 := hc1
              obtain ⟨a1', ea1, _, _, hca3⟩ := ha0.at_ (k := 0) (by simp)
              cases ea1
              simp only [List.getElem_cons_zero] at hca3
              have hca4 : w3.cell? a1 = some (.int .i64 x) := hca3
              have hqT := hq3
              have hsT := hs3
              have hbT := hb3
              have haT : Ints (fun i => ¬ Fq i ∧ ¬ Fs i) w3 (cutA (some a1) c1 1 1) rest := ha0.cut (i := 1) hc1
              have huT := hu03
              clear hB hu3 hqa hsa haa hba hua hq3 hs3 hb3 ha0 hu03 hca hl1 hm1 hc1 hca3
              go_wp2_with fail
              refine (qlen _ Fq _ _ _ hqT).mono ?_
              rintro e w' ⟨rfl, rfl⟩
              go_wp2_with fail
              refine (slen _ Fs _ _ _ hsT).mono ?_
              rintro e w' ⟨rfl, rfl⟩
              go_wp2_with fail
              refine (qroom _ Fq _ _ _ hqT hN0 hN1).mono ?_
              rintro e w' ⟨rfl, q1, rfl⟩
              go_wp2_with fail
              refine (sroom _ Fs _ _ _ (hsT.dr _) hN0 hN1 (by omega)).mono ?_
              rintro e w' ⟨rfl, q2, rfl⟩
              go_wp2_with fail
              refine (qlist _ Fq _ _ _ (hqT.dr _)).mono ?_
              rintro e W3 ⟨A3, c3, rfl, hx3, hu3⟩
              replace hu3 := hu3.of_drewN
              go_wp2_with fail
              refine (sameints _ _ _ A3 _ _ _ _ _ hx3 (haT.upd hu3 (fun _ _ => id)) (by omega) (by omega)).mono ?_
              rintro e W4 ⟨he, hu4⟩
              rw [beq_self_eq_true] at he
              subst he
              replace hu4 := hu3.trans hu4
              clear hx3 hu3
              go_wp2_with fail
              refine (slist _ Fs _ _ _ (hsT.upd hu4 (fun _ _ => id)) (by omega)).mono ?_
              rintro e W5 ⟨A5, c5, rfl, hx5, hu5⟩
              replace hu5 := hu4.trans hu5
              go_wp2_with fail
              refine (sameints _ _ _ A5 _ _ _ _ _ hx5 (hbT.upd hu5 (fun _ _ => id)) (by omega) (by omega)).mono ?_
              rintro e W6 ⟨he, hu6⟩
              rw [beq_self_eq_true] at he
              subst he
              replace hu6 := hu5.trans hu6
              clear hx5 hu5 hu4
              go_wp2
              go_roundg (gk - 1)
              case measure => omega
              case rel =>
                exact ⟨k + 1, Fq, Fs, _, _, _, _, _, _, by omega, by go_num, rfl, rfl, hqT.upd hu6 (fun _ _ => id), hsT.upd hu6 (fun _ _ => id), haT.upd hu6 (fun _ _ => id), hbT.upd hu6 (fun _ _ => id), hFT1, hFT2, by omega, by omega, by omega, by omega, by omega, by omega, huT.trans hu6⟩
          · rw [hst] at e1
            have hB := Blk.new wr 70 [.int .i64 d.kind, .bool true, .int .i64 d.x]
            have uA := (Upd.refl No wr).alloc (.cells [.int .i64 d.kind, .bool true, .int .i64 d.x].toArray 70)
            have hqlt := hq.lt
            have hslt := hs.lt
            have hqa := hq.upd uA (fun _ _ => id)
            have hsa := hs.upd uA (fun _ _ => id)
            have haa := ha.upd uA (fun _ _ => id)
            have hba := hb.upd uA (fun _ _ => id)
            have hua := hu.trans uA
            have huz := hu.size
            clear hq hs ha hb uA hst hu
            cases xs with
            | nil =>
              go_wp2_with fail
              refine (sfirst_none _ Fs _ _ hsa).mono ?_
              rintro e w' ⟨rfl, rfl⟩
              go_wp2_with fail
              refine (spop_none _ Fs _ _ hsa).mono ?_
              rintro e w' ⟨rfl, rfl⟩
              have hqT := hqa
              have hsT := hsa
              have haT := haa
              have hbT := hba
              have huT := hua
              have hFT1 := hF1
              have hFT2 := hF2
              clear hqa hsa haa hba hua hF1 hF2 hB
              go_wp2_with fail
              refine (qlen _ Fq _ _ _ hqT).mono ?_
              rintro e w' ⟨rfl, rfl⟩
              go_wp2_with fail
              refine (slen _ Fs _ _ _ hsT).mono ?_
              rintro e w' ⟨rfl, rfl⟩
              go_wp2_with fail
              refine (qroom _ Fq _ _ _ hqT hN0 hN1).mono ?_
              rintro e w' ⟨rfl, q1, rfl⟩
              go_wp2_with fail
              refine (sroom _ Fs _ _ _ (hsT.dr _) hN0 hN1 (by omega)).mono ?_
              rintro e w' ⟨rfl, q2, rfl⟩
              go_wp2_with fail
              refine (qlist _ Fq _ _ _ (hqT.dr _)).mono ?_
              rintro e W3 ⟨A3, c3, rfl, hx3, hu3⟩
              replace hu3 := hu3.of_drewN
              go_wp2_with fail
              refine (sameints _ _ _ A3 _ _ _ _ _ hx3 (haT.upd hu3 (fun _ _ => id)) (by omega) (by omega)).mono ?_
              rintro e W4 ⟨he, hu4⟩
              rw [beq_self_eq_true] at he
              subst he
              replace hu4 := hu3.trans hu4
              clear hx3 hu3
              go_wp2_with fail
              refine (slist _ Fs _ _ _ (hsT.upd hu4 (fun _ _ => id)) (by omega)).mono ?_
              rintro e W5 ⟨A5, c5, rfl, hx5, hu5⟩
              replace hu5 := hu4.trans hu5
              go_wp2_with fail
              refine (sameints _ _ _ A5 _ _ _ _ _ hx5 (hbT.upd hu5 (fun _ _ => id)) (by omega) (by omega)).mono ?_
              rintro e W6 ⟨he, hu6⟩
              rw [beq_self_eq_true] at he
              subst he
              replace hu6 := hu5.trans hu6
              clear hx5 hu5 hu4
              go_wp2
              go_roundg (gk - 1)
              case measure => omega
              case rel =>
                exact ⟨k + 1, Fq, Fs, _, _, _, _, _, _, by omega, by go_num, rfl, rfl, hqT.upd hu6 (fun _ _ => id), hsT.upd hu6 (fun _ _ => id), haT.upd hu6 (fun _ _ => id), hbT.upd hu6 (fun _ _ => id), hFT1, hFT2, by omega, by omega, by omega, by omega, by omega, by omega, huT.trans hu6⟩
            | cons x rest =>
              have hl2' : rest.length + 1 ≤ k := hl2
              have hm2' : ((rest.length : Nat) : Int) + 1 ≤ N := by simpa using hm2
              have hc2' : rest.length + 1 ≤ c2 := hc2
              obtain ⟨a1, ea1, _, _, hca⟩ := hba.at_ (k := 0) (by simp)
              cases ea1
              have hcut : ∀ W, (Instr.slice 23 (.slice (some a1) (rest.length + 1) c2) (some (.int .i64 1)) none none).run Try.prog W = .ok (.slice (cutA (some a1) c2 1 1) rest.length (c2 - 1)) W :=
                fun W => run_cut_l W STint (some a1) (rest.length + 1) c2 1 (by omega)
              go_wp2_with fail
              refine (sfirst _ Fs _ _ _ _ hsa (by omega)).mono ?_
              rintro e w' ⟨rfl, q0, rfl⟩
              go_wp2_with fail
              refine (spop _ Fs _ _ _ _ (hsa.dr _) (by omega)).mono ?_
              rintro e w3 ⟨rfl, hs3, hu3⟩
              replace hu3 := hu3.of_drewN
              have hFs' : ∀ i, Fs i → Fs i ∨ (wr.alloc (.cells [.int .i64 d.kind, .bool true, .int .i64 d.x].toArray 70)).heap.size ≤ i := fun i h => .inl h
              have hB3 := hB.upd hu3 (fun e => by have := hslt _ e; omega)
              have d0 := hB3.cell 0
              have d1 := hB3.cell 1
              have d2 := hB3.cell 2
              simp only [List.getElem?_cons_zero, List.getElem?_cons_succ] at d0 d1 d2
              have hq3 := hqa.upd hu3 (fun i hi e => (hF1 i hi).1 e)
              have hz3 := hu3.size
              simp only [World.size_alloc] at hz3
              have hu03 : Upd No w w3 := hua.then_ hu3 (fun i e => .inr (hF2 i e))
              have hFT1 : ∀ i, Fq i → ¬ Fs i ∧ w.heap.size ≤ i := fun i hi => ⟨fun e => by
                rcases hFs' i e with h | h
                · exact (hF1 i hi).1 h
                · simp only [World.size_alloc] at h
                  have := hqlt i hi
                  omega, (hF1 i hi).2⟩
              have hFT2 : ∀ i, Fs i → w.heap.size ≤ i := fun i hi => by
                rcases hFs' i hi with h | h
                · exact hF2 i h
                · simp only [World.size_alloc] at h
                  omega
              have hG : ∀ i, i < wr.heap.size + 1 → ¬ Fq i ∧ ¬ Fs i → ¬ Fq i ∧ ¬ Fs i := fun i hi h => ⟨h.1, fun e => by
                rcases hFs' i e with h' | h'
                · exact h.2 h'
                · simp only [World.size_alloc] at h'; omega⟩
              have hb0 := hba.upd hu3 (fun i hi e => hi.2 e)
              have ha3 : Ints (fun i => ¬ Fq i ∧ ¬ Fs i) w3 A1 xq := ((haa.lt' (fun i h => h)).upd hu3 (fun i hi e => hi.2.2 e)).weak (fun i _ h => hG i (by simpa using h.1) h.2)
              obtain ⟨a1', ea1, _, _, hca3⟩ := hb0.at_ (k := 0) (by simp)
              cases ea1
              simp only [List.getElem_cons_zero] at hca3
              have hca4 : w3.cell? a1 = some (.int .i64 x) := hca3
              have hqT := hq3
              have hsT := hs3
              have haT := ha3
              have hbT : Ints (fun i => ¬ Fq i ∧ ¬ Fs i) w3 (cutA (some a1) c2 1 1) rest := hb0.cut (i := 1) hc2
              have huT := hu03
              clear hB hu3 hqa hsa haa hba hua hq3 hs3 ha3 hb0 hu03 hca hl2 hm2 hc2 hca3
              go_wp2_with fail
              refine (qlen _ Fq _ _ _ hqT).mono ?_
              rintro e w' ⟨rfl, rfl⟩
              go_wp2_with fail
              refine (slen _ Fs _ _ _ hsT).mono ?_
              rintro e w' ⟨rfl, rfl⟩
              go_wp2_with fail
              refine (qroom _ Fq _ _ _ hqT hN0 hN1).mono ?_
              rintro e w' ⟨rfl, q1, rfl⟩
              go_wp2_with fail
              refine (sroom _ Fs _ _ _ (hsT.dr _) hN0 hN1 (by omega)).mono ?_
              rintro e w' ⟨rfl, q2, rfl⟩
              go_wp2_with fail
              refine (qlist _ Fq _ _ _ (hqT.dr _)).mono ?_
              rintro e W3 ⟨A3, c3, rfl, hx3, hu3⟩
              replace hu3 := hu3.of_drewN
              go_wp2_with fail
              refine (sameints _ _ _ A3 _ _ _ _ _ hx3 (haT.upd hu3 (fun _ _ => id)) (by omega) (by omega)).mono ?_
              rintro e W4 ⟨he, hu4⟩
              rw [beq_self_eq_true] at he
              subst he
              replace hu4 := hu3.trans hu4
              clear hx3 hu3
              go_wp2_with fail
              refine (slist _ Fs _ _ _ (hsT.upd hu4 (fun _ _ => id)) (by omega)).mono ?_
              rintro e W5 ⟨A5, c5, rfl, hx5, hu5⟩
              replace hu5 := hu4.trans hu5
              go_wp2_with fail
              refine (sameints _ _ _ A5 _ _ _ _ _ hx5 (hbT.upd hu5 (fun _ _ => id)) (by omega) (by omega)).mono ?_
              rintro e W6 ⟨he, hu6⟩
              rw [beq_self_eq_true] at he
              subst he
              replace hu6 := hu5.trans hu6
              clear hx5 hu5 hu4
              go_wp2
              go_roundg (gk - 1)
              case measure => omega
              case rel =>
                exact ⟨k + 1, Fq, Fs, _, _, _, _, _, _, by omega, by go_num, rfl, rfl, hqT.upd hu6 (fun _ _ => id), hsT.upd hu6 (fun _ _ => id), haT.upd hu6 (fun _ _ => id), hbT.upd hu6 (fun _ _ => id), hFT1, hFT2, by omega, by omega, by omega, by omega, by omega, by omega, huT.trans hu6⟩
      · obtain rfl : k = ds.length := by omega
        go_wp2_with fail
        refine (lives.out _).mono ?_
        rintro e w3 ⟨rfl, hu3⟩
        go_wp2
        go_ret
        exact ⟨rfl, hu.trans hu3⟩
end Go.Proofs.Ytpiigfbdgmjidaa
