/- The law ChachaStreams over plain numbers and lists: the program's stream is the reference's. No condition. -/
import Derived.Test.YtlipgfahjmgekaaSx9
import Derived.Test.YtlipgfahjmgekaaPlainD
namespace Go.Proofs.Ytlipgfahjmgekaa.Pure
open Go.RowKit Go.Proofs.Ytlipgfahjmgekaa.S Go.Proofs.YtlipgfahjmgekaaW.PrintWords Go.Proofs.YtlipgfahjmgekaaW.PrintLast

theorem ChachaStreams : samphirelaw05_ChachaStreams.Pure := by
  intro a0 a1 a2 _ _ h2
  have hj : ∀ b, (a0.size : Int) ≤ 128 ∨ b = true → samphirelaw05_ChachaStreams.j0 140001 a0 a1 a2 b = some true := by
    intro b hb0
    rw [samphirelaw05_ChachaStreams.j0]
    by_cases hb : b = true
    · rw [if_pos hb, awake_is]
      rfl
    · rw [if_neg hb]
      have hs : (a0.size : Int) ≤ 128 := by rcases hb0 with h | h; exact h; exact absurd h hb
      have hm : 0 ≤ mn 32 (a0.size : Int) ∧ mn 32 (a0.size : Int) ≤ (a0.size : Int) := by unfold mn; split <;> omega
      rw [if_pos hm.1, if_pos hm.2]
      rw [refstream _ _ _ _ h2 140000 (by omega)]
      have h : ∃ r, chacha_Stream.f (a0.extract 0 ((mn 32 (a0.size : Int)) : Int).toNat) (a0.extract ((mn 32 (a0.size : Int)) : Int).toNat a0.size) a1 a2 = some r := by
        unfold chacha_Stream.f
        split <;> exact ⟨_, rfl⟩
      obtain ⟨r, hr⟩ := h
      rw [hr]
      simp only [Option.bind_some]
      rw [if_pos trivial, if_pos trivial, awake_is]
      rfl
  refine ⟨140001, ?_⟩
  unfold samphirelaw05_ChachaStreams.f
  by_cases h : (a0.size : Int) > 128
  · rw [if_pos h]
    exact hj _ (Or.inr rfl)
  · rw [if_neg h]
    split <;> exact hj _ (Or.inl (by omega))

end Go.Proofs.Ytlipgfahjmgekaa.Pure
