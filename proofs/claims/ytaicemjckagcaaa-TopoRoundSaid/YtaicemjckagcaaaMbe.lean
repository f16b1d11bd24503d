/- What the program tells of histories, in plain words: needs, keys, writers, right; and of edges, reads and witnesses. -/
import Derived.Test.YtaicemjckagcaaaMao
import Derived.Test.YtaicemjckagcaaaMav
import Derived.Test.YtaicemjckagcaaaMbc
import Derived.Test.YtaicemjckagcaaaMbd
namespace Go.Proofs.Ytaicemjckagcaaa
set_option linter.unusedVariables false
open Go.RowKit
/-- a set of keys with some more -/
def addK (s : List Int) : List Int → List Int
  | [] => s
  | k :: l => addK (if k ∈ s then s else s ++ [k]) l
/-- a bad read -/
structure HBad where
  tx : Int
  place : Int
  of : Ver
deriving DecidableEq
def HBad.cells (b : HBad) : List Value := [.int .i64 b.tx, .int .i64 b.place, .int .i64 b.of.tx, .int .i64 b.of.key, .int .i64 b.of.nth]
/-! from any place -/
end Go.Proofs.Ytaicemjckagcaaa

/- Whether a version is there. -/
namespace Go.Proofs.Ytaicemjckagcaaa
set_option linter.unusedVariables false
open Go.RowKit
section
variable (F : Nat → Prop) (w : World) (txs : List HTx) (ords : List HOrd) (A : Option Addr) (c : Nat) (B : Option Addr) (d : Nat) (i : Int)
end
end Go.Proofs.Ytaicemjckagcaaa
