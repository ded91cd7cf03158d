/- A few words that the printed walks want. -/
import Derived.Test.YtlfgdaiegefjiaaDoorWWords
import Derived.Test.YtlfgdaiegefjiaaDoorWLast
namespace Go.Proofs.YtlfgdaiegefjiaaDoorW.PrintMore
end Go.Proofs.YtlfgdaiegefjiaaDoorW.PrintMore
namespace Go.Proofs.YtlfgdaiegefjiaaDoorW.PrintWords
open Go.RowKit
section
variable {P : Program} {ops : Array Oper} {Q : Exit → Act → World → Prop} {rest : List Oper} {o : Oper} {a : Act} {W : World}
theorem gate_callee {f : FuncId} {as : Array Operand} {ts : Array TypeId} (_ho : o.op = .call { callee := .value (.func f), args := as, argTypes := ts }) (h : wpList P ops Q (o :: rest) a W) : wpList P ops Q (o :: rest) a W := h
theorem gate_builtin {b : Builtin} {xs : Array Operand} {ts : Array TypeId} (_ho : o.op = .call { callee := .builtin b, args := xs, argTypes := ts }) (h : wpList P ops Q (o :: rest) a W) : wpList P ops Q (o :: rest) a W := h
end
def shr (k : IntKind) (x y : Int) : Int := x / 2 ^ min y.toNat k.bits
theorem shr_small {k : IntKind} {x y j : Int} (h : shr k x y = j) (hy : y ≤ k.bits) : x / 2 ^ y.toNat = j := by
 subst h
 unfold shr
 rw [Nat.min_eq_left (by omega)]
end Go.Proofs.YtlfgdaiegefjiaaDoorW.PrintWords
