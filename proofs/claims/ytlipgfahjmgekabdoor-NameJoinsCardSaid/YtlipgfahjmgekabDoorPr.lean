/- The law of two texts, one behind the other. -/
import Derived.Test.YtlipgfahjmgekabDoorPq
namespace Go.Proofs.YtlipgfahjmgekabDoor.S
open Go.RowKit Go.Proofs.YtlipgfahjmgekabDoorW.PrintWords Go.Proofs.YtlipgfahjmgekabDoorW.PrintLast Go.Proofs.YtlipgfahjmgekabDoorW.PrintMore
open Go.Lib (decodeL decodeN decodeL_N) 
open Pl
set_option linter.unusedVariables false
set_option linter.unusedSimpArgs false
theorem NameJoins : samphirelaw08_NameJoins.Pure := by
  intro a b hsa hsb
  obtain ⟨k, hk⟩ : ∃ k, k = a.size + b.size + 99 := ⟨_, rfl⟩
  refine ⟨k + 1, ?_⟩
  unfold samphirelaw08_NameJoins.f
  simp only [samphirelaw08_NameJoins.j0, if_true]
  have hw := awake_is k (by omega)
  have hwb := awake_b k (by omega)
  by_cases c1 : (a.size : Int) > 200
  · rw [if_pos c1, hwb]
  rw [if_neg c1]
  by_cases c2 : (b.size : Int) > 200
  · rw [if_pos c2, hwb]
  rw [if_neg c2, check_is a (by omega), check_is b (by omega)]
  simp only [Option.bind_some]
  by_cases c3 : isName (L a) = true
  case neg => rw [if_neg c3, if_neg (show ¬ (80 : Int) = 0 by decide), hwb]
  rw [if_pos c3, if_pos rfl]
  by_cases c4 : isName (L b) = true
  case neg => rw [if_neg c4, if_pos (show ((80 : Int) != 0) = true by decide), hwb]
  obtain ⟨a1, a2, a3, a4, a5, a6⟩ := isName_good c3
  obtain ⟨b1, b2, b3, b4, b5, b6⟩ := isName_good c4
  have hsz : (a ++ b).size = a.size + b.size := ByteArray.size_append
  have hr := runes_append (L a) (L b) a1
  obtain ⟨t, ht, hLt⟩ := cut_is (a ++ b) ((runes (L a)).length : Int) (by omega) (by omega)
  obtain rfl : t = a := L_ext (by
    rw [hLt, L_append, firstL, hr, Int.toNat_natCast, List.take_left']
    · exact runes_flat _
    · rfl)
  obtain ⟨u, hu, hLu⟩ := fold_is (t ++ b) (by omega)
  obtain ⟨v, hv, hLv⟩ := fold_is t (by omega)
  obtain ⟨x, hx, hLx⟩ := fold_is b (by omega)
  have hvs : v.size = t.size := by rw [← L_len, ← L_len, hLv, List.length_map]
  have hxs : x.size = b.size := by rw [← L_len, ← L_len, hLx, List.length_map]
  have e0 : (((0 : Int) != 0) = true) = False := by simp
  have h1 : (t ++ b).size < 9223372036854775807 := by omega
  have h2 : b.size < 9223372036854775807 := by omega
  have h3 : ((runes (L (t ++ b))).length : Int) = wrap64 (((runes (L t)).length : Int) + ((runes (L b)).length : Int)) := by
    rw [L_append, hr, List.length_append, w64 _ (by omega) (by omega)]
    omega
  have h4 : u.toList = (v ++ x).toList := by rw [toL, toL, hLu, L_append, L_append, hLv, hLx, List.map_append]
  rw [if_pos c4, if_neg (fun h => e0.mp h), if_pos (show t.size + b.size ≤ 9223372036854775807 by omega)]
  rw [count_is t (by omega), Option.bind_some, count_is (t ++ b) h1, Option.bind_some, count_is b h2, Option.bind_some, if_pos h3, ht, Option.bind_some, if_pos rfl, hu, Option.bind_some, hv, Option.bind_some, hx, Option.bind_some,
    if_pos (show v.size + x.size ≤ 9223372036854775807 by omega), if_pos h4, check_is (t ++ b) h1, Option.bind_some, Option.bind_some]
  rw [toL, L_append, isName_append _ _ c3 c4, hr, List.length_append]
  by_cases c5 : (runes (L t)).length + (runes (L b)).length ≤ 32
  · rw [if_pos (by omega), decide_eq_true c5, Bool.true_and]
    cases hq : (L t ++ L b != [46, 46])
    · rw [if_neg Bool.false_ne_true, if_pos (by rfl), hwb]
    · rw [if_pos rfl, if_pos (by rfl), hwb]
  · rw [if_neg (by omega), decide_eq_false c5, Bool.false_and, if_neg Bool.false_ne_true, if_pos (by rfl), hwb]
end Go.Proofs.YtlipgfahjmgekabDoor.S
