/- Closed walks: the numbers of some edges. -/
import Derived.Test.YtaicemjckagcaaaMbm
import Derived.Test.YtaicemjckagcaaaMbn
namespace Go.Proofs.Ytaicemjckagcaaa
set_option linter.unusedVariables false
open Go.RowKit
theorem run_storeVar_1 {P : Program} (w : World) (g i : Nat) (t ty : TypeId) (old : Array Value) (v : Value) (hg : w.heap[g]? = some (.cells old t (0, 0))) (hi : (P.info? ty).map (·.size) = some 1)
    (ho : i < old.size) (h1 : v.oneCell' = true) :
    (storeVar ty ⟨g, i, none⟩ v).run P w = .ok () (w.setCell ⟨g, i, none⟩ v) := by
  have hst : ∀ m, (store ⟨g, i, none⟩ v m).run P w = .ok () (w.setCell ⟨g, i, none⟩ v) := fun m => by
    rw [run_store P w _ v m h1]
    simp [World.cell?, World.frozen?, hg, ho]
  have hadd : (⟨g, i, none⟩ : Addr).add 0 = ⟨g, i, none⟩ := by unfold Addr.add; simp
  have hsc : (storeCells ⟨g, i, none⟩ [v] 0).run P w = .ok () (w.setCell ⟨g, i, none⟩ v) := by
    simp only [storeCells, Sem.run_bind, hadd, hst, Result.andThen_ok]
    rfl
  cases hq : P.info? ty with
  | none => simp [hq] at hi
  | some j =>
    have hs : j.size = 1 := by simpa [hq] using hi
    cases v <;> first | (simp [Value.oneCell'] at h1; done) | simp [storeVar, sizeOf, typeInfo, hq, hs, Value.cells, hsc]
/-- one cell of a block stored into -/
theorem wp_put1 {P : Program} {o : Oper} {a : Act} {W : World} {K : Act → World → Prop} {Q : Exit → Act → World → Prop} {ty : TypeId} {x y : Operand} (ho : o.op = .store ty x y)
    {g i : Nat} {t : TypeId} {old : List Value} {v : Value} (hx : a.eval x = .pointer (some ⟨g, i, none⟩)) (hy : a.eval y = v) (hb : Blk W g t old) (hi : (P.info? ty).map (·.size) = some 1) (hl : i < old.length) (h1 : v.oneCell' = true)
    (h : ∀ w', Blk w' g t (old.set i v) → Upd (One g) W w' → K (a.put o.dst undef) w') : o.wp P a W K Q := by
  unfold Oper.wp execOp
  simp only [ho, hx, hy, Instr.storeAt, Instr.sureAddr, Sem.run_bind, Sem.run_pure, Result.andThen_ok, run_storeVar_1 W g i t ty old.toArray v hb hi (by simpa using hl) h1]
  exact h _ (hb.set_ i v) ((Upd.refl (One g) W).setOne i v)
theorem step_put1 {P : Program} {ops : Array Oper} {o : Oper} {a : Act} {W : World} {K : Act → World → Prop} {Q : Exit → Act → World → Prop} {E : Prop} (hgd : o.guard = none) {ty : TypeId} {x y : Operand} (ho : o.op = .store ty x y)
    {g i : Nat} {t : TypeId} {old : List Value} {v : Value} (hx : a.eval x = .pointer (some ⟨g, i, none⟩)) (hy : a.eval y = v) (hb : Blk W g t old) (hi : (P.info? ty).map (·.size) = some 1) (hl : i < old.length) (h1 : v.oneCell' = true)
    (h : ∀ w', Blk w' g t (old.set i v) → Upd (One g) W w' → K (a.put o.dst undef) w') : if Region.wanted o (yielded ops a.tmps) = true then Oper.wp P o a W K Q else E := by
  rw [if_pos (by simp [Region.wanted, hgd])]
  exact wp_put1 ho hx hy hb hi hl h1 h
theorem own_any {A : Option Addr} {n m c d i : Nat} (h : Own (.slice A n c) i) : Own (.slice A m d) i := by
  cases A with
  | none => cases h
  | some a => exact h
end Go.Proofs.Ytaicemjckagcaaa
