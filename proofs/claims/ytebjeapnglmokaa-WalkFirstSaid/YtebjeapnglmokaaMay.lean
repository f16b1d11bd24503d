/- A walk's text: the document's. -/
import Derived.Deep.RegionHeld3
import Derived.Test.YtebjeapnglmokaaMaq
import Derived.Test.YtebjeapnglmokaaMau
namespace Go.Proofs.Ytebjeapnglmokaa
set_option linter.unusedVariables false
open Go.RowKit
/-- an edge's numbers are ints -/
def Edge.ok (e : Edge) : Prop := (-9223372036854775808 ≤ e.f ∧ e.f ≤ 9223372036854775807) ∧ (-9223372036854775808 ≤ e.t ∧ e.t ≤ 9223372036854775807) ∧ (-9223372036854775808 ≤ e.key ∧ e.key ≤ 9223372036854775807)
def stepL (e : Edge) : List UInt8 := [32] ++ wordL e.k ++ numL e.key ++ [32] ++ numL e.t
def textF (l : List Edge) : Nat → List UInt8
  | 0 => []
  | k + 1 => match l[k]? with
    | none => textF l k
    | some e => (if k = 0 then numL e.f else textF l k) ++ stepL e
def numS (n : Int) : ByteArray := ⟨(numL n).toArray⟩
def wordS (n : Int) : ByteArray := ⟨(wordL n).toArray⟩
theorem numS_size (n : Int) : (numS n).size ≤ 21 := by
  have := numL_len n
  simpa [numS, ByteArray.size] using this
theorem wordS_size (n : Int) : (wordS n).size ≤ 2 := by
  unfold wordS wordL
  split
  · decide
  · split
    · decide
    · split <;> decide
theorem pnumS (w : World) (n : Int) (h1 : -9223372036854775808 ≤ n) (h2 : n ≤ 9223372036854775807) :
    Calls Try.prog 26 #[.int .i64 n] w fun e w' => e = .returned (.string (numS n)) ∧ Upd No w w' := pnum w n h1 h2
theorem pwordS (w : World) (n : Int) :
    Calls Try.prog 27 #[.int .i64 n] w fun e w' => e = .returned (.string (wordS n)) ∧ Upd No w w' := pword w n
theorem textF_len (l : List Edge) (k : Nat) : (textF l k).length ≤ 100 * k := by
  have hw : ∀ n, (wordL n).length ≤ 2 := fun n => by
    have := wordS_size n
    simpa [wordS, ByteArray.size] using this
  induction k with
  | zero => simp [textF]
  | succ k ih =>
    unfold textF
    split
    · omega
    · rename_i e _
      have h1 := numL_len e.f
      have h2 := numL_len e.key
      have h3 := numL_len e.t
      have h4 := hw e.k
      unfold stepL
      split <;> simp <;> omega
end Go.Proofs.Ytebjeapnglmokaa
