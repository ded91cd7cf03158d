/- Functions of the translation as plain Lean functions, and that each call comes to what they say: for every argument. Written by a program of this session's own; Lean checks it. -/
import Derived.Test.YtlipgfahjmgekaaProg
import Derived.Below
import Derived.Deep.Draws
import Derived.Deep.AppendLies
import Derived.Maps.AppendAt
import Derived.OwnWalk
import Derived.Laws.BytesArg
import Derived.Laws.MakeOwn
import Derived.Laws.OwnMore
import Derived.Deep.OwnRows
import Derived.Tactics
import Derived.Lib.ConvBytes
import Derived.Laws.Slices
import Derived.WalkKit
import Derived.KernelRfl
import Derived.RowKit3
import Derived.Deep.LoopGhost
import Derived.Deep.QuietTactic
import Derived.BigQuiet
import Derived.WideLaws
import Derived.Deep.DeepCutAuto
import Derived.Deep.CutBlock
import Derived.Deep.RegionHeld3
import Derived.Laws.Rows
import Derived.Lib.AppendStr
import Derived.ArgAppend
import Derived.Laws.IdiomCopy
import Derived.OrdersHeld
import Derived.Laws.BitsLemmas
import Derived.RowKit
import Derived.Test.YtlipgfahjmgekaaWWords
import Derived.Test.YtlipgfahjmgekaaWLast
import Derived.Test.YtlipgfahjmgekaaWTab
import Derived.Test.YtlipgfahjmgekaaWFour
import Derived.Test.YtlipgfahjmgekaaWQPut
import Derived.Test.YtlipgfahjmgekaaWApart
import Derived.Test.YtlipgfahjmgekaaWArr
import Derived.Test.YtlipgfahjmgekaaWZeros
import Derived.Test.YtlipgfahjmgekaaWFoot
import Derived.Test.YtlipgfahjmgekaaWKept
import Derived.Test.YtlipgfahjmgekaaWShare
import Derived.Test.YtlipgfahjmgekaaWN
import Derived.Test.YtlipgfahjmgekaaWFootNe
import Derived.Test.YtlipgfahjmgekaaWAt
import Derived.Test.YtlipgfahjmgekaaWEqStruct
import Derived.Test.YtlipgfahjmgekaaWRepsOne
import Derived.Test.YtlipgfahjmgekaaWInv
import Derived.Test.YtlipgfahjmgekaaWInvWords
import Derived.Test.YtlipgfahjmgekaaWGuard
import Derived.Test.YtlipgfahjmgekaaWNEv
import Derived.Test.YtlipgfahjmgekaaWMore
namespace Go.Proofs.Ytlipgfahjmgekaa.S
open Go.RowKit Go.Proofs.YtlipgfahjmgekaaW.PrintWords Go.Proofs.YtlipgfahjmgekaaW.PrintLast Go.Proofs.YtlipgfahjmgekaaW.PrintMore
attribute [local go_sem] max2_int min2_int max_two min_two max_three min_three max_four min_four   -- for this text's walks alone
set_option linter.unusedVariables false
set_option linter.unusedSimpArgs false



def errW : Option Int → Value
  | none => .nilIface
  | some c => .iface 0 (.int .i64 c)
theorem errW_none : errW none = .nilIface := rfl
theorem errW_some (c : Int) : errW (some c) = .iface 0 (.int .i64 c) := rfl

theorem info3 : (Try.prog.info? 3).map (fun i => (i.zero, i.size, i.bytes)) = some (some (.int .i64 0), 1, 8) := by kernel_rfl
theorem info5 : (Try.prog.info? 5).map (fun i => (i.zero, i.size, i.bytes)) = some (some (.int .u8 0), 1, 1) := by kernel_rfl
-- the values' own types

end Go.Proofs.Ytlipgfahjmgekaa.S
