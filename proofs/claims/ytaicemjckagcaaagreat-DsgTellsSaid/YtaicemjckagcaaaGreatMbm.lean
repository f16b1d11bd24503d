/- The document: edges of a mask; whether a witness is right. -/
import Derived.Test.YtaicemjckagcaaaGreatMbk
import Derived.Test.YtaicemjckagcaaaGreatMbl
namespace Go.Proofs.YtaicemjckagcaaaGreat
set_option linter.unusedVariables false
open Go.RowKit
set_option maxRecDepth 100000 in
theorem rCount16 (F : Nat → Prop) (w : World) (txs : List HTx) (ords : List HOrd) (A : Option Addr) (c : Nat) (B : Option Addr) (d : Nat) (e : Edge) (H : Hist.lies F w ⟨txs, ords, A, c, B, d⟩) :
    Calls Tryz.prog 15 #[.agg #[.slice A txs.length c, .slice B ords.length d], .agg e.cells.toArray] w fun r w' => r = .returned (.int .i64 ((countR ⟨txs, ords, A, c, B, d⟩ e : Nat) : Int)) ∧ Upd No w w' := by
  obtain ⟨ef, et, ek, ey⟩ := e
  unfold Edge.cells
  have u0 := ((Upd.refl No w).alloc (.cells #[.slice A txs.length c, .slice B ords.length d] 25)).alloc (.cells #[.int .i64 ef, .int .i64 et, .int .i64 ek, .int .i64 ey] 27)
  have bH := Lib.hid ((Blk.new w 25 [.slice A txs.length c, .slice B ords.length d]).alloc (.cells #[.int .i64 ef, .int .i64 et, .int .i64 ek, .int .i64 ey] 27))
  have b1 := Blk.new (w.alloc (.cells #[.slice A txs.length c, .slice B ords.length d] 25)) 27 [.int .i64 ef, .int .i64 et, .int .i64 ek, .int .i64 ey]
  simp only [World.size_alloc] at b1
  have bX := Lib.hid b1
  have U0 := Lib.hid u0
  clear b1 u0
  obtain ⟨b, hb⟩ : ∃ b, rightB ⟨txs, ords, A, c, B, d⟩ = b := ⟨_, rfl⟩
  have HR := Lib.hid (rRightV (H.upd U0.out (fun _ _ => id)) hb)
  cases b
  · have HV := Lib.hid (show countR ⟨txs, ords, A, c, B, d⟩ ⟨ef, et, ek, ey⟩ = 0 by unfold countR; rw [if_neg (by rw [hb]; decide)])
    clear hb
    go_enter Tryz.func15, Tryz.ntmps15
    go_wp2_with fail
    refine (HR.out).mono ?_
    rintro e w1 ⟨rfl, hu1⟩
    go_wp2
    go_ret
    exact ⟨by rw [HV.out]; rfl, U0.out.trans hu1⟩
  · have HV := Lib.hid (show countR ⟨txs, ords, A, c, B, d⟩ ⟨ef, et, ek, ey⟩ = cntR ⟨txs, ords, A, c, B, d⟩ ⟨ef, et, ek, ey⟩ by unfold countR; rw [if_pos hb])
    have HC := Lib.hid fun W (hW : Upd No w W) => rcount16 F W txs ords A c B d ⟨ef, et, ek, ey⟩ (H.upd hW (fun _ _ => id))
    clear hb
    go_enter Tryz.func15, Tryz.ntmps15
    go_wp2_with fail
    refine (HR.out).mono ?_
    rintro e w1 ⟨rfl, hu1⟩
    have bX1 := bX.out.upd hu1 id
    have bH1 := bH.out.upd hu1 id
    have y0 := bX1.cell 0
    have y1 := bX1.cell 1
    have y2 := bX1.cell 2
    have y3 := bX1.cell 3
    have r0 := bH1.cell 0
    have r1 := bH1.cell 1
    simp only [List.getElem?_cons_zero, List.getElem?_cons_succ] at y0 y1 y2 y3 r0 r1
    have U1 := Lib.hid (U0.out.trans hu1)
    clear bX1 bH1 hu1
    go_wp2_with fail
    refine (HC.out _ U1.out).mono ?_
    rintro e w2 ⟨rfl, hu2⟩
    go_wp2
    go_ret
    exact ⟨by rw [HV.out]; rfl, U1.out.trans hu2⟩
end Go.Proofs.YtaicemjckagcaaaGreat

/- Looking at a history: the exported functions, with their values named. -/
namespace Go.Proofs.YtaicemjckagcaaaGreat
set_option linter.unusedVariables false
open Go.RowKit
section
variable {F G : Nat → Prop} {w : World} {txs : List HTx} {ords : List HOrd} {A B : Option Addr} {c d n1 n2 : Nat}
end
theorem recs_blk {w : World} {g size : Nat} {t : TypeId} {rows : List (List Value)} (hr : ∀ r ∈ rows, r.length = size) (h : Blk w g t rows.flatten) : Recs (fun i => i = g) w (some ⟨g, 0, none⟩) size rows := fun _ => by
  refine ⟨_, rfl, rfl, h.lt, fun i row hi j v hj => ?_⟩
  have e1 : (⟨g, 0, none⟩ : Addr).add (i * size + j) = ⟨g, i * size + j, none⟩ := by unfold Addr.add; split <;> simp_all
  rw [e1, h.cell]
  exact flat_get hr hi hj
theorem ints_blk {w : World} {g : Nat} {t : TypeId} {xs : List Int} (h : Blk w g t (xs.map (Value.int .i64))) : Ints (fun i => i = g) w (some ⟨g, 0, none⟩) xs :=
  Ints.of_row h rfl fun j v hj => by rw [List.getElem?_toArray, List.getElem?_map, hj]; rfl
/-- the history of the chapter's example, at such places -/
def skewH (n : Nat) : Hist :=
  ⟨[⟨1, true, [⟨true, 1, 0, 0⟩, ⟨false, 2, 0, 0⟩], some ⟨n + 1, 0, none⟩, 2⟩, ⟨2, true, [⟨true, 2, 0, 0⟩, ⟨false, 1, 0, 0⟩], some ⟨n + 1 + 1, 0, none⟩, 2⟩],
   [⟨1, [2], some ⟨n + 1 + 1 + 1 + 1, 0, none⟩, 1⟩, ⟨2, [1], some ⟨n + 1 + 1 + 1 + 1 + 1, 0, none⟩, 1⟩], some ⟨n + 1 + 1 + 1, 0, none⟩, 2, some ⟨n + 1 + 1 + 1 + 1 + 1 + 1, 0, none⟩, 2⟩
def e1 : Edge := ⟨1, 2, 3, 1⟩
def e2 : Edge := ⟨2, 1, 3, 2⟩
section
variable (n : Nat)
theorem a1 : acceptB (skewH n) 5 [e1, e2] noBad = true := by kernel_rfl
theorem a2 : acceptB (skewH n) 5 [e1, e2, e1, e2] noBad = true := by kernel_rfl
theorem a3 : acceptB (skewH n) 4 [e1, e2] noBad = false := by kernel_rfl
theorem a4 : acceptB (skewH n) 5 [e1] noBad = false := by kernel_rfl
theorem a5 : acceptB (skewH n) 5 [e1, e2] ⟨2, 0, ⟨1, 5, 1⟩⟩ = false := by kernel_rfl
theorem a9 : (rightB (skewH n) && edgeB (skewH n) ⟨1, 2, 3, 2⟩) = false := by kernel_rfl
end
end Go.Proofs.YtaicemjckagcaaaGreat
