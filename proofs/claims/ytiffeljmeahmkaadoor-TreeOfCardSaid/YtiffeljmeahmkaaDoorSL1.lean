/- Functions of the translation as plain Lean functions, and that each call comes to what they say: for every argument. Written by a program of this session's own; Lean checks it. -/
import Derived.Test.YtiffeljmeahmkaaDoorSx0
import Derived.Test.YtiffeljmeahmkaaDoorSx1
import Derived.Test.YtiffeljmeahmkaaDoorSx2
import Derived.Test.YtiffeljmeahmkaaDoorSx3
import Derived.Test.YtiffeljmeahmkaaDoorSx4
import Derived.Test.YtiffeljmeahmkaaDoorSx5
namespace Go.Proofs.YtiffeljmeahmkaaDoor.S
open Go.RowKit Go.Proofs.YtiffeljmeahmkaaDoorW.PrintWords Go.Proofs.YtiffeljmeahmkaaDoorW.PrintLast
set_option linter.unusedVariables false
set_option linter.unusedSimpArgs false

end Go.Proofs.YtiffeljmeahmkaaDoor.S
