/- Plain numbers: the stream in two parts, and the stream of noughts. -/
import Derived.Test.YtlipgfahjmgekaaPlainD
namespace Go.Proofs.Ytlipgfahjmgekaa.S
open Go.RowKit Go.Proofs.YtlipgfahjmgekaaW.PrintWords Go.Proofs.YtlipgfahjmgekaaW.PrintLast
theorem kb_shift (key nonce : ByteArray) (c : Int) (k i : Nat) : kb key nonce (c + (k : Int)) i = kb key nonce c (64 * k + i) := by
  unfold kb
  rw [show (64 * k + i) / 64 = k + i / 64 by omega, show (64 * k + i) % 64 = i % 64 by omega]
  congr 2
  omega
theorem streamS_parts (key nonce : ByteArray) (c : Int) (s : ByteArray) (k : Nat) (hk : 64 * k ≤ s.size) :
    streamS key nonce c s = streamS key nonce c (s.extract 0 (64 * k)) ++ streamS key nonce (c + (k : Int)) (s.extract (64 * k) s.size) := by
  have e1 : (s.extract 0 (64 * k)).size = 64 * k := by simp; omega
  have e2 : (s.extract (64 * k) s.size).size = s.size - 64 * k := by simp
  refine str_ext _ _ ?_ fun i hi => ?_
  · rw [ByteArray.size_append, streamS_size, streamS_size, streamS_size, e1, e2]; omega
  · rw [streamS_size] at hi
    rw [streamS_bt _ _ _ _ _ hi, bt_app _ _ _ (by rw [streamS_size, streamS_size, e1, e2]; omega), streamS_size, e1]
    by_cases h : i < 64 * k
    · rw [if_pos h, streamS_bt _ _ _ _ _ (by rw [e1]; exact h)]
      unfold turned1
      rw [bt_extract _ _ _ _ (by omega) (by omega), Nat.zero_add]
    · rw [if_neg h, streamS_bt _ _ _ _ _ (by rw [e2]; omega)]
      unfold turned1
      rw [bt_extract _ _ _ _ (by omega) (by omega), kb_shift, show 64 * k + (i - 64 * k) = i by omega]
theorem xor8_zero (b : Int) (h0 : 0 ≤ b) (h1 : b ≤ 255) : Go.bits .xor .u8 0 b = b := by
  rw [xor8]
  rw [show BitVec.ofInt 8 0 = 0#8 from rfl, BitVec.zero_xor, BitVec.toNat_ofInt]
  omega
theorem zeros_bt (n i : Nat) (hi : i < n) : bt (strOfNums (List.replicate n 0)) (i : Int) = 0 := by
  rw [bt_str _ _ (by simpa using hi) (by simp [List.getD_eq_getElem?_getD, hi]) (by simp [List.getD_eq_getElem?_getD, hi])]
  simp [List.getD_eq_getElem?_getD, hi]
theorem stream_zeros (key nonce : ByteArray) (c : Int) : streamS key nonce c (strOfNums (List.replicate 64 0)) = strOfNums (blockL key nonce c) := by
  have hz : (strOfNums (List.replicate 64 0)).size = 64 := by rw [strOfNums_size, List.length_replicate]
  refine str_ext _ _ ?_ fun i hi => ?_
  · rw [streamS_size, hz, strOfNums_size, blockL_length]
  · rw [streamS_size, hz] at hi
    rw [streamS_bt _ _ _ _ _ (by rw [hz]; exact hi), block_bt _ _ _ _ hi]
    have hr := blockL_range key nonce c i hi
    unfold turned1 kb
    rw [zeros_bt _ _ hi, show i / 64 = 0 by omega, show i % 64 = i by omega, xor8_zero]
    · simp
    · simpa using hr.1
    · simpa using hr.2
end Go.Proofs.Ytlipgfahjmgekaa.S
