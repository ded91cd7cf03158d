/- A few words that the printed walks want. -/
import Derived.Test.YtiffeljmeahmkaaDoorWWords
import Derived.Test.YtiffeljmeahmkaaDoorWLast
namespace Go.Proofs.YtiffeljmeahmkaaDoorW.PrintMore
end Go.Proofs.YtiffeljmeahmkaaDoorW.PrintMore
namespace Go.Proofs.YtiffeljmeahmkaaDoorW.PrintWords
open Go.RowKit
section
variable {P : Program} {ops : Array Oper} {Q : Exit → Act → World → Prop} {rest : List Oper} {o : Oper} {a : Act} {W : World}
theorem gate_callee {f : FuncId} {as : Array Operand} {ts : Array TypeId} (_ho : o.op = .call { callee := .value (.func f), args := as, argTypes := ts }) (h : wpList P ops Q (o :: rest) a W) : wpList P ops Q (o :: rest) a W := h
end
end Go.Proofs.YtiffeljmeahmkaaDoorW.PrintWords
