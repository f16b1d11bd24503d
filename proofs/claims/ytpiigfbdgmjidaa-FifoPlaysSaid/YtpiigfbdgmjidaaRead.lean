/- From the form's reading of an argument to lists of cells: slices of structs, and what lies in them. -/
import Derived.Test.YtpiigfbdgmjidaaFifoF
import Derived.Test.YtpiigfbdgmjidaaFifoG
import Derived.Deep.Slices
import Derived.ChangeArms
import Derived.ChangeSame
namespace Go.Proofs.Ytpiigfbdgmjidaa
set_option linter.unusedVariables false
open Go.RowKit Go.ChangeShapes Go.WideShapes Go.Deep

section
variable {H : Type} (enc : TypeId × Value → H) (P : Program) (w : World) (base : Nat) (spare : Nat → Bool) (held : Bool)
/-- these cells read as a datum of type t -/
def Rd (t : TypeId) (cs : List Value) : Prop := ∃ n y, DataW.trod enc P w base spare held n t cs = some y
end
section
variable {H : Type} {enc : TypeId × Value → H} {P : Program} {w : World} {base : Nat} {spare : Nat → Bool} {held : Bool} {t e : TypeId} {cs : List Value}
theorem Rd.int_ {k : IntKind} (ht : P.underlying t = some (.int k)) (h : Rd enc P w base spare held t cs) : ∃ n, cs = [.int k n] ∧ (Lit.int k n).wf = true := by
  obtain ⟨n, y, h⟩ := h
  obtain ⟨a, rfl, _, hw⟩ := DataW.trod_int ht h
  exact ⟨a, rfl, hw⟩
theorem Rd.bool_ (ht : P.underlying t = some .bool) (h : Rd enc P w base spare held t cs) : ∃ b, cs = [.bool b] := by
  obtain ⟨n, y, h⟩ := h
  obtain ⟨a, rfl, _⟩ := DataW.trod_bool ht h
  exact ⟨a, rfl⟩
theorem Rd.struct_ {fs : Array Field} (ht : P.underlying t = some (.struct fs)) (h : Rd enc P w base spare held t cs) :
    cs.length = P.cellsOf t ∧ ∀ (i : Nat) (f : Field), fs[i]? = some f → Rd enc P w base spare held f.type ((cs.drop f.offset).take (P.cellsOf f.type)) := by
  obtain ⟨n, y, h⟩ := h
  obtain ⟨xs, m, _, _, hl, hxl, hf⟩ := DataW.trod_struct ht h
  refine ⟨hl, fun i f hi => ?_⟩
  have hil : i < xs.length := by rw [hxl]; exact (Array.getElem?_eq_some_iff.1 hi).1
  exact ⟨m, xs[i], (hf i f hi).trans (List.getElem?_eq_getElem hil)⟩
/-- a slice is nil, or its elements are rows of cells, each of which reads -/
theorem Rd.slice_ {C : Nat} (ht : P.underlying t = some (.slice e)) (hC : P.cellsOf e = C) (hC0 : 0 < C) (h : Rd enc P w base spare held t cs) :
    cs = [.slice none 0 0] ∨ ∃ (a : Addr) (len cap : Nat) (rows : List (List Value)), cs = [.slice (some a) len cap] ∧ len ≤ cap ∧ cap ≤ maxLen ∧ rows.length = len ∧
      Recs (fun _ => True) w (some a) C rows ∧ ∀ row ∈ rows, row.length = C ∧ Rd enc P w base spare held e row := by
  obtain ⟨n, y, h⟩ := h
  rcases open_slice ht h with ⟨hcs, _⟩ | ⟨a, len, cap, m, n', D, Pl, hcs, hb, hl, hm, hmm, hx, hi⟩
  · exact .inl hcs
  · right
    rw [hC] at hi
    have hlm : len ≤ m := by rw [hmm]; split <;> omega
    have hch : ∀ i : Fin len, ∃ row : List Value, w.cells? base (a.add (i.1 * C)) C = some row ∧ Rd enc P w base spare held e row := fun i => by
      obtain ⟨cs', h1, h2⟩ := hi i.1 (by have := i.2; omega)
      exact ⟨cs', h1, n', _, h2⟩
    have hf := fun i => Classical.choose_spec (hch i)
    generalize hg : (fun i => Classical.choose (hch i)) = f at *
    have hf : ∀ i : Fin len, w.cells? base (a.add (i.1 * C)) C = some (f i) ∧ Rd enc P w base spare held e (f i) := fun i => by rw [← hg]; exact hf i
    refine ⟨a, len, cap, List.ofFn f, hcs, hl, hm, by simp, fun hne => ?_, fun row hrow => ?_⟩
    · have hlen : 0 < len := by
        rcases Nat.eq_zero_or_pos len with h0 | h0
        · subst h0; simp at hne
        · exact h0
      obtain ⟨_, hl0, hc0⟩ := World.cells?_some (hf ⟨0, hlen⟩).1
      have hv : (f ⟨0, hlen⟩)[0]? = some ((f ⟨0, hlen⟩)[0]'(by omega)) := List.getElem?_eq_getElem (by omega)
      have hbl := block_lt_of_cell ((hc0 0 hC0).trans hv)
      simp only [Ints.block_add] at hbl
      refine ⟨a, rfl, trivial, hbl, fun i row hi' j v hj => ?_⟩
      obtain ⟨hil, hir⟩ := List.getElem?_eq_some_iff.1 hi'
      have hil' : i < len := by simpa using hil
      have hir' : f ⟨i, hil'⟩ = row := by rw [← hir]; simp
      obtain ⟨_, hl1, hc1⟩ := World.cells?_some (hf ⟨i, hil'⟩).1
      have hjl := (List.getElem?_eq_some_iff.1 hj).1
      rw [← Ints.add_add, hc1 j (by rw [← hl1, hir']; exact hjl), hir']
      exact hj
    · obtain ⟨i, rfl⟩ := (List.mem_ofFn).1 hrow
      exact ⟨(World.cells?_some (hf i).1).2.1, (hf i).2⟩
end

theorem three_of {l : List Value} (h : l.length = 3) : ∃ a b c, l = [a, b, c] :=
  match l, h with
  | [a, b, c], _ => ⟨a, b, c, rfl⟩
theorem CEdeed : Try.prog.cellsOf 70 = 3 := by kernel_rfl
theorem CEint : Try.prog.cellsOf 3 = 1 := by kernel_rfl
theorem CEbool : Try.prog.cellsOf 4 = 1 := by kernel_rfl
theorem rd_fdeed {H : Type} {enc : TypeId × Value → H} {w : World} {base : Nat} {spare : Nat → Bool} {held : Bool} {row : List Value}
    (h : Rd enc Try.prog w base spare held 70 row) : ∃ d : FDeed, row = d.cells := by
  obtain ⟨hl, hf⟩ := h.struct_ Try.underlying70
  rw [CEdeed] at hl
  obtain ⟨c0, c1, c2, rfl⟩ := three_of hl
  have h0 : Rd enc Try.prog w base spare held 3 (([c0, c1, c2].drop 0).take (Try.prog.cellsOf 3)) := hf 0 _ rfl
  have h1 : Rd enc Try.prog w base spare held 4 (([c0, c1, c2].drop 1).take (Try.prog.cellsOf 4)) := hf 1 _ rfl
  have h2 : Rd enc Try.prog w base spare held 3 (([c0, c1, c2].drop 2).take (Try.prog.cellsOf 3)) := hf 2 _ rfl
  rw [CEint] at h0 h2
  rw [CEbool] at h1
  obtain ⟨n0, e0, _⟩ := Rd.int_ Try.underlying3 h0
  obtain ⟨b1, e1⟩ := Rd.bool_ Try.underlying4 h1
  obtain ⟨n2, e2, _⟩ := Rd.int_ Try.underlying3 h2
  cases e0
  cases e1
  cases e2
  exact ⟨⟨n0, b1, n2⟩, rfl⟩
theorem rows_of {α : Type} {f : α → List Value} {rows : List (List Value)} (h : ∀ row ∈ rows, ∃ d, row = f d) : ∃ ds : List α, rows = ds.map f := by
  induction rows with
  | nil => exact ⟨[], rfl⟩
  | cons r rs ih =>
    obtain ⟨d, rfl⟩ := h _ (List.mem_cons_self ..)
    obtain ⟨ds, rfl⟩ := ih fun row hr => h row (List.mem_cons_of_mem _ hr)
    exact ⟨d :: ds, rfl⟩
end Go.Proofs.Ytpiigfbdgmjidaa
