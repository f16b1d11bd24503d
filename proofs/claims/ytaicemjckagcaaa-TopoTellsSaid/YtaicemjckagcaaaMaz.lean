/- Slices of ints: cloned, sorted, held against one another. -/
import Derived.Lib.SliceRun
import Derived.Shelf.Slices.In.SortNone
import Derived.Test.YtaicemjckagcaaaMab
import Derived.Test.YtaicemjckagcaaaMac
import Derived.Test.YtaicemjckagcaaaMai
namespace Go.Proofs.Ytaicemjckagcaaa
set_option linter.unusedVariables false
open Go.RowKit
theorem slt_int : SlT Try.prog 22 3 1 8 := SlT.mk_ Try.underlying22 (z := .int .i64 0) (by kernel_rfl) rfl (by omega)
theorem Ints.of_owned {w : World} {base : Nat} {A : Option Addr} {c : Nat} {l : List Int} (h : w.ownsRow base 3 1 (.slice A l.length c) l.length (l.map (Value.int .i64))) : Ints (fun i => base ≤ i) w A l := Ints.of_own h
end Go.Proofs.Ytaicemjckagcaaa
