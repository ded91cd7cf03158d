/- A padded text tells of the text's length its size alone: the plain law. -/
import Derived.Test.YtlipgfahjmgekacDoorPr
import Derived.Test.YtlipgfahjmgekacDoorSx5
import Derived.KernelRfl
namespace Go.Proofs.YtlipgfahjmgekacDoor.S
open Go.RowKit Go.Proofs.YtlipgfahjmgekacDoorW.PrintWords Go.Proofs.YtlipgfahjmgekacDoorW.PrintLast Go.Proofs.YtlipgfahjmgekacDoorW.PrintMore
set_option linter.unusedVariables false
set_option linter.unusedSimpArgs false
/-! ### what a padded text tells -/
theorem told_loop (x5 x6 x9 : Int) (x7 : Int) (h : x7 ∈ upto 9) : samphirelaw14_PadTold.l0 30 x5 x6 x7 x9 (upto 9) 0 0 = samphirelaw14_PadTold.l0 21 x5 x6 x7 x9 (upto 9) 1 9 := by
  rw [upto_nine] at h
  simp only [List.mem_cons, List.not_mem_nil, or_false] at h
  rcases h with rfl | rfl | rfl | rfl | rfl | rfl | rfl | rfl | rfl
  all_goals kernel_rfl
theorem told_end (x5 x6 x7 x9 : Int) (h5 : 0 ≤ x5) (h6 : 0 ≤ x6) (h7 : x5 < x7) (h9 : x6 < x9) (hm : x5 ≤ x6 → x7 ≤ x9) : samphirelaw14_PadTold.l0 21 x5 x6 x7 x9 (upto 9) 1 9 = some true := by
  have e1 : Int.tdiv x5 x7 = 0 := Int.tdiv_eq_zero_of_lt h5 h7
  have e2 : Int.tdiv x6 x9 = 0 := Int.tdiv_eq_zero_of_lt h6 h9
  conv => lhs; unfold samphirelaw14_PadTold.l0
  rw [if_neg (by rw [upto_length]; decide), if_pos rfl, e1, e2]
  by_cases c : x5 > x6
  · rw [if_pos c]
    by_cases c2 : x7 = x9
    · rw [if_pos c2, if_neg (by omega), if_neg (by omega), if_pos rfl, awake_b]
    · rw [if_neg c2, awake_b]
  · rw [if_neg c, if_pos (hm (by omega))]
    by_cases c2 : x7 = x9
    · rw [if_pos c2, if_neg (by omega), if_neg (by omega), if_pos rfl, awake_b]
    · rw [if_neg c2, awake_b]
theorem PadTold : samphirelaw14_PadTold.Pure := by
  intro a b _ _
  refine ⟨30 + 1, ?_⟩
  unfold samphirelaw14_PadTold.f
  rw [mask14, mask14]
  have h1 : 0 ≤ a % 16384 ∧ a % 16384 < 16384 := by omega
  have h2 : 0 ≤ b % 16384 ∧ b % 16384 < 16384 := by omega
  generalize a % 16384 = m at *
  generalize b % 16384 = n at *
  have key : ∀ x y : Int, sz m = (x, 0) → sz n = (y, 0) → m < x → n < y → x ∈ upto 9 → (m ≤ n → x ≤ y) → ((pad_Size.f m).bind fun bt188 => ((pad_Size.f n).bind fun bt190 => ((pad_Sizes.f).bind fun t192 => (if bt188.2 = 0 then (if bt190.2 = 0 then (samphirelaw14_PadTold.j0 (30 + 1) m n bt188.1 bt190.1 t192 ((t192.length : Int) == 0)) else (samphirelaw14_PadTold.j0 (30 + 1) m n bt188.1 bt190.1 t192 true)) else (samphirelaw14_PadTold.j0 (30 + 1) m n bt188.1 bt190.1 t192 true))))) = some true := by
    intro x y e1 e2 e3 e4 e5 e6
    rw [show pad_Size.f m = some (sz m) from rfl, show pad_Size.f n = some (sz n) from rfl, show pad_Sizes.f = some (upto 9) from rfl, e1, e2, Option.bind_some, Option.bind_some, Option.bind_some]
    simp only [samphirelaw14_PadTold.j0]
    rw [if_pos trivial, if_pos trivial, upto_length, if_neg (by decide), told_loop _ _ _ _ e5]
    exact told_end m n x y h1.1 h2.1 e3 e4 e6
  have fits : ∀ m : Int, 0 ≤ m ∧ m < 16384 → ∃ x, sz m = (x, 0) ∧ m < x ∧ x ∈ upto 9 := by
    intro m hm
    rw [upto_nine]
    rcases sz_cases m with h | h | h | h | h | h | h | h | h | h
    · omega
    all_goals exact ⟨_, h.2.2, h.2.1, by simp⟩
  obtain ⟨x, x1, x2, x3⟩ := fits m h1
  obtain ⟨y, y1, y2, y3⟩ := fits n h2
  refine key x y x1 y1 x2 y2 x3 fun hmn => ?_
  have ca := sz_cases m
  have cb := sz_cases n
  rw [x1] at ca
  rw [y1] at cb
  simp only [Prod.mk.injEq] at ca cb
  omega
end Go.Proofs.YtlipgfahjmgekacDoor.S
