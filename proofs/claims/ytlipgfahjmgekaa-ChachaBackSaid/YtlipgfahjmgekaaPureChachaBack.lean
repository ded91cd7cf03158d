/- The law ChachaBack over plain numbers and lists: a stream twice is the text itself. No condition. -/
import Derived.Test.YtlipgfahjmgekaaSx5
import Derived.Test.YtlipgfahjmgekaaPlain
namespace Go.Proofs.Ytlipgfahjmgekaa.Pure
open Go.RowKit Go.Proofs.Ytlipgfahjmgekaa.S Go.Proofs.YtlipgfahjmgekaaW.PrintWords Go.Proofs.YtlipgfahjmgekaaW.PrintLast

theorem ChachaBack : samphirelaw05_ChachaBack.Pure := by
  intro a0 a1 a2 _ _ _
  have hj : ∀ b, (b = true → samphirelaw05_ChachaBack.j0 1 a0 a1 a2 b = some true) := by
    rintro b rfl
    simp only [samphirelaw05_ChachaBack.j0]
    rw [if_pos trivial, awake_is]
    rfl
  refine ⟨1, ?_⟩
  unfold samphirelaw05_ChachaBack.f
  by_cases h : (a0.size : Int) = 44
  · rw [if_pos h]
    by_cases h2 : (a2.size : Int) > 512
    · exact hj _ (by simpa using h2)
    · rw [decide_eq_false h2]
      have e1 : (a0.extract 0 32).size = 32 := by simp; omega
      have e2 : (a0.extract 32 a0.size).size = 12 := by simp; omega
      have hm : maY (a0.extract 0 32) (a0.extract 32 a0.size) (Go.bits .and .i64 a1 65535) := ⟨e1, e2, by rw [mask16]; omega, by rw [mask16]; omega⟩
      have ht : ∀ s : ByteArray, (s.size : Int) ≤ 512 → ¬ tooMuch (Go.bits .and .i64 a1 65535) s := by
        intro s hs ht
        unfold tooMuch at ht
        rw [mask16] at ht
        omega
      simp only [samphirelaw05_ChachaBack.j0]
      rw [if_neg (by decide), if_pos (by decide), if_pos (by omega), stream_ok _ _ _ _ hm (ht _ (by omega))]
      simp only [Option.bind_some]
      rw [stream_ok _ _ _ _ hm (ht _ (by rw [streamS_size]; omega))]
      simp only [Option.bind_some]
      rw [if_pos trivial, if_pos trivial, if_pos (by rw [streamS_size]), streamS_twice, if_pos rfl, awake_is]
      rfl
  · rw [if_neg h]
    exact hj _ rfl

end Go.Proofs.Ytlipgfahjmgekaa.Pure
