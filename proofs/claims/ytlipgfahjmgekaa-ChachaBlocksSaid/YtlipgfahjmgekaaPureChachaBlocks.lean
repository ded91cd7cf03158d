/- The law ChachaBlocks over plain numbers and lists: the program's block is the reference's. No condition. -/
import Derived.Test.YtlipgfahjmgekaaSx6
import Derived.Test.YtlipgfahjmgekaaPlain
namespace Go.Proofs.Ytlipgfahjmgekaa.Pure
open Go.RowKit Go.Proofs.Ytlipgfahjmgekaa.S Go.Proofs.YtlipgfahjmgekaaW.PrintWords Go.Proofs.YtlipgfahjmgekaaW.PrintLast

theorem ChachaBlocks : samphirelaw05_ChachaBlocks.Pure := by
  intro a0 a1 a2 _ _ _
  have hj : ∀ b, samphirelaw05_ChachaBlocks.j0 1 a0 a1 a2 b = some true := by
    intro b
    simp only [samphirelaw05_ChachaBlocks.j0]
    by_cases hb : b = true
    · rw [if_pos hb, awake_is]
      rfl
    · rw [if_neg hb]
      have h : ∃ r, chacha_Block.f a0 a1 a2 = some r := by
        unfold chacha_Block.f
        split <;> exact ⟨_, rfl⟩
      obtain ⟨r, hr⟩ := h
      unfold samphireref05_Block.f
      rw [hr]
      simp only [Option.bind_some]
      rw [if_pos trivial, if_pos trivial, awake_is]
      rfl
  refine ⟨1, ?_⟩
  unfold samphirelaw05_ChachaBlocks.f
  split <;> exact hj _

end Go.Proofs.Ytlipgfahjmgekaa.Pure
