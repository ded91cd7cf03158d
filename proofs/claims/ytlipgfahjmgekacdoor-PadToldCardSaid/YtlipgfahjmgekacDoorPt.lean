/- strings.TrimRight of zero bytes, as the machine walks it: every text. -/
import Derived.Test.YtlipgfahjmgekacDoorSL1
namespace Go.Proofs.YtlipgfahjmgekacDoor.S
open Go.RowKit Go.Proofs.YtlipgfahjmgekacDoorW.PrintWords Go.Proofs.YtlipgfahjmgekacDoorW.PrintLast Go.Proofs.YtlipgfahjmgekacDoorW.PrintMore
set_option linter.unusedVariables false
set_option linter.unusedSimpArgs false
def strings_TrimRight.f (s c : ByteArray) : Option ByteArray := if c = ⟨#[0]⟩ then (if s.toList = ([] : List UInt8) then some s else strings_trimRightByte.f (s.size + 1) s 0) else none
set_option maxHeartbeats 8000000 in
set_option maxRecDepth 100000 in
theorem strings_TrimRight.calls (s c : ByteArray) (r : ByteArray) (w : World) (h : strings_TrimRight.f s c = some r) :
    Calls Tryd.prog 23 #[.string s, .string c] w fun e w' => e = .returned (.string r) ∧ Drawn0 w w' := by
  unfold strings_TrimRight.f at h
  split at h
  case isFalse => cases h
  rename_i hc
  subst hc
  split at h
  · rename_i hs
    obtain rfl := Option.some.inj h
    have b1 : (s.toList == ([] : List UInt8)) = true := beq_iff_eq.mpr hs
    clear hs
    go_enter Tryd.func23, Tryd.ntmps23
    go_wp2
    go_ret
    exact ⟨rfl, Drawn0.refl _⟩
  · rename_i hs
    have b1 : (s.toList == ([] : List UInt8)) = false := beq_eq_false_iff_ne.mpr hs
    have hC := fun w => (show Calls Tryd.prog 33 #[.string s, .int .u8 (((⟨#[0]⟩ : ByteArray)[0]'(by decide)).toNat : Int)] w _ from strings_trimRightByte.calls _ s 0 r w h)
    clear hs h
    go_enter Tryd.func23, Tryd.ntmps23
    go_wp2_with (go_at_call 33; (with_reducible refine (hC _).mono ?_); rintro e w1 ⟨rfl, ⟨nd, rfl⟩⟩)
    go_ret
    exact ⟨rfl, _, rfl⟩
end Go.Proofs.YtlipgfahjmgekacDoor.S
