/- Functions of the translation as plain Lean functions, and that each call comes to what they say: for every argument. Written by a program of this session's own; Lean checks it. -/
import Derived.Test.YtlipgfahjmgekabDoorSx0
import Derived.Test.YtlipgfahjmgekabDoorSx1
import Derived.Test.YtlipgfahjmgekabDoorSx2
import Derived.Test.YtlipgfahjmgekabDoorSx3
import Derived.Test.YtlipgfahjmgekabDoorSx4
namespace Go.Proofs.YtlipgfahjmgekabDoor.S
open Go.RowKit Go.Proofs.YtlipgfahjmgekabDoorW.PrintWords Go.Proofs.YtlipgfahjmgekabDoorW.PrintLast Go.Proofs.YtlipgfahjmgekabDoorW.PrintMore
attribute [local go_sem] max2_int min2_int max_two min_two max_three min_three max_four min_four   -- for this text's walks alone
set_option linter.unusedVariables false
set_option linter.unusedSimpArgs false

end Go.Proofs.YtlipgfahjmgekabDoor.S
