/- Functions of the translation as plain Lean functions, and that each call comes to what they say: for every argument. Written by a program of this session's own; Lean checks it. -/
import Derived.Test.YtmogpfhhmekbiaaDoorSx0
import Derived.Test.YtmogpfhhmekbiaaDoorSx1
import Derived.Test.YtmogpfhhmekbiaaDoorSx2
import Derived.Test.YtmogpfhhmekbiaaDoorSx3
import Derived.Test.YtmogpfhhmekbiaaDoorSx4
import Derived.Test.YtmogpfhhmekbiaaDoorSx5
import Derived.Test.YtmogpfhhmekbiaaDoorSx6
import Derived.Test.YtmogpfhhmekbiaaDoorSx7
import Derived.Test.YtmogpfhhmekbiaaDoorSx8
import Derived.Test.YtmogpfhhmekbiaaDoorSx9
import Derived.Test.YtmogpfhhmekbiaaDoorSx10
import Derived.Test.YtmogpfhhmekbiaaDoorSx11
import Derived.Test.YtmogpfhhmekbiaaDoorSx12
import Derived.Test.YtmogpfhhmekbiaaDoorSx13
import Derived.Test.YtmogpfhhmekbiaaDoorSx14
import Derived.Test.YtmogpfhhmekbiaaDoorSx15
import Derived.Test.YtmogpfhhmekbiaaDoorSx16
import Derived.Test.YtmogpfhhmekbiaaDoorSx17
namespace Go.Proofs.YtmogpfhhmekbiaaDoor.S
open Go.RowKit Go.Proofs.YtmogpfhhmekbiaaDoorW.PrintWords Go.Proofs.YtmogpfhhmekbiaaDoorW.PrintLast
set_option linter.unusedVariables false
set_option linter.unusedSimpArgs false

end Go.Proofs.YtmogpfhhmekbiaaDoor.S
