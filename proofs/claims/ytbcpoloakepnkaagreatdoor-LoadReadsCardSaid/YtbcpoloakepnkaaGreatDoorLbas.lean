/- Operations cloned, transactions copied and found. -/
import Derived.Lib.SliceRun
import Derived.Test.YtbcpoloakepnkaaGreatDoorProg
import Derived.Lib.AppendZerosOnto
import Derived.Deep.RegionHeld3
import Derived.Test.YtbcpoloakepnkaaGreatDoorLbai
import Derived.Test.YtbcpoloakepnkaaGreatDoorLban
namespace Go.Proofs.YtbcpoloakepnkaaGreatDoor
set_option linter.unusedVariables false
set_option linter.unusedSimpArgs false
section
open Go.RowKit
theorem Zae:SlT Tryz.prog 29 82 4 32:=SlT.mk_ Tryz.underlying29 (z:= .agg #[.bool false,.int .i64 0,.int .i64 0,.int .i64 0]) (by kernel_rfl) rfl (by omega)
end
end Go.Proofs.YtbcpoloakepnkaaGreatDoor
