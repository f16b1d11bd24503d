/- Walks of edges: whether they are closed, and simple; by the program and by the document. -/
import Derived.Test.YtaicemjckagcaaaProg
import Derived.IntWalk
import Derived.Test.YtaicemjckagcaaaMan
namespace Go.Proofs.Ytaicemjckagcaaa
set_option linter.unusedVariables false
open Go.RowKit

end Go.Proofs.Ytaicemjckagcaaa

/- The document's own small walks over numbers: where one stands, how often, put among rising ones. -/
namespace Go.Proofs.Ytaicemjckagcaaa
set_option linter.unusedVariables false
open Go.RowKit
/-- where a number stands, from place k on -/
def idxS (x : Int) : List Int → Nat → Int
  | [], _ => -1
  | y :: l, k => if y = x then k else idxS x l (k + 1)
theorem idxS_cons (x y : Int) (l : List Int) (k : Nat) : idxS x (y :: l) k = if y = x then (k : Int) else idxS x l (k + 1) := rfl
def putL (n : Int) : List Int → List Int
  | [] => [n]
  | x :: l => if n ≤ x then n :: (x :: l).filter (fun y => !(y == n)) else x :: putL n l
end Go.Proofs.Ytaicemjckagcaaa
