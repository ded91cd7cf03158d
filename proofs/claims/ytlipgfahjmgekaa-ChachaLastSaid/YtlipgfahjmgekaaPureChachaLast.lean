/- The law ChachaLast over plain numbers and lists: the last blocks may be used, and none behind them. No condition. -/
import Derived.Test.YtlipgfahjmgekaaSx7
import Derived.Test.YtlipgfahjmgekaaPlainD
namespace Go.Proofs.Ytlipgfahjmgekaa.Pure
open Go.RowKit Go.Proofs.Ytlipgfahjmgekaa.S Go.Proofs.YtlipgfahjmgekaaW.PrintWords Go.Proofs.YtlipgfahjmgekaaW.PrintLast

theorem mask3 (x : Int) : Go.bits .and .i64 x 7 = x % 8 := by
  rw [and64_def, IntKind.wrap_i64]
  have e : (BitVec.ofInt 64 x &&& BitVec.ofInt 64 7).toNat = (x % 8).toNat := by
    rw [BitVec.toNat_and, BitVec.toNat_ofInt, show (BitVec.ofInt 64 7).toNat = 2 ^ 3 - 1 from by decide, Nat.and_two_pow_sub_one_eq_mod]
    omega
  rw [e]
  omega
theorem ChachaLast : samphirelaw05_ChachaLast.Pure := by
  intro a0 a1 a2 _ _ _
  refine ⟨140000, ?_⟩
  unfold samphirelaw05_ChachaLast.f
  by_cases h : (a0.size : Int) = 44
  · rw [if_pos h]
    rw [mask8, mask3]
    obtain ⟨n, hn⟩ : ∃ n : Nat, a1 % 256 = (n : Int) := ⟨(a1 % 256).toNat, by omega⟩
    obtain ⟨q, hq⟩ : ∃ q : Nat, a2 % 8 = (q : Int) := ⟨(a2 % 8).toNat, by omega⟩
    have hn2 : n < 256 := by omega
    have hq2 : q < 8 := by omega
    rw [hn, hq, Int.toNat_natCast, w64 (4294967295 - (q : Int)) (by omega) (by omega), w64 ((q : Int) + 1) (by omega) (by omega), w64 (64 * ((q : Int) + 1)) (by omega) (by omega)]
    rw [if_pos (by decide), if_pos (by omega), if_pos (by omega), if_pos (by omega)]
    have e1 : (a0.extract 0 32).size = 32 := by simp; omega
    have e2 : (a0.extract 32 a0.size).size = 12 := by simp; omega
    have hz : (strOfNums (List.replicate n 0)).size = n := by rw [strOfNums_size, List.length_replicate]
    have hm : maY (a0.extract 0 32) (a0.extract 32 a0.size) (4294967295 - (q : Int)) := ⟨e1, e2, by omega, by omega⟩
    rw [refstream _ _ _ _ (by omega) 140000 (by omega)]
    by_cases hl : (n : Int) > 64 * ((q : Int) + 1)
    · have hc : chacha_Stream.f (a0.extract 0 32) (a0.extract 32 a0.size) (4294967295 - (q : Int)) (strOfNums (List.replicate n 0)) = some (⟨#[]⟩, 1) := by
        unfold chacha_Stream.f
        rw [if_neg]
        rintro ⟨_, ht⟩
        exact ht (Or.inr (by rw [hz]; omega))
      rw [hc]
      simp only [Option.bind_some]
      rw [if_pos hl, if_pos (by decide +kernel), if_pos trivial, awake_is]
      rfl
    · rw [stream_ok _ _ _ _ hm (by intro ht; unfold tooMuch at ht; rw [hz] at ht; omega)]
      simp only [Option.bind_some]
      rw [if_neg hl, if_pos trivial, if_pos trivial, if_pos trivial]
      have hw : samphireref01_Word.f (-1) = some 4294967295 := by decide +kernel
      rw [hw]
      simp only [Option.bind_some]
      rw [if_pos trivial, awake_is]
      rfl
  · rw [if_neg h, awake_is]
    rfl

end Go.Proofs.Ytlipgfahjmgekaa.Pure
