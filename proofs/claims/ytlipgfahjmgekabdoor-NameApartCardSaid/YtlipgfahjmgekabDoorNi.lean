/- strconv.Itoa of the numbers below a hundred, by the shelf's contract, laid at this program. -/
import Derived.Test.YtlipgfahjmgekabDoorSx0
import Derived.Test.YtlipgfahjmgekabDoorShp
namespace Go.Proofs.YtlipgfahjmgekabDoor.S
open Go.Shelf Go.Lib Go.RowKit Go.Proofs.YtlipgfahjmgekabDoorW.PrintWords Go.Proofs.YtlipgfahjmgekabDoorW.PrintLast Go.Proofs.YtlipgfahjmgekabDoorW.PrintMore
def strconv_Itoa_27.f (n : Int) : Option ByteArray := if 0 ≤ n ∧ n < 100 then some ⟨(Lib.decDigits n.toNat).toArray⟩ else none
theorem strconv_Itoa_27.calls (n : Int) (r : ByteArray) (w : World) (h : strconv_Itoa_27.f n = some r) :
    Calls Tryd.prog 27 #[.int .i64 n] w fun e w' => e = .returned (.string r) ∧ Drawn0 w w' := by
  unfold strconv_Itoa_27.f at h
  split at h
  case isFalse => cases h
  rename_i hn
  obtain rfl := Option.some.inj h
  obtain ⟨i, rfl⟩ : ∃ i : Nat, n = i := ⟨n.toNat, by omega⟩
  refine Calls.mono (Any.strconv_Itoa_small Tryd.laysItoa i (by omega) w) ?_
  rintro e w' ⟨rfl, rfl⟩
  exact ⟨rfl, Drawn0.refl _⟩
end Go.Proofs.YtlipgfahjmgekabDoor.S
