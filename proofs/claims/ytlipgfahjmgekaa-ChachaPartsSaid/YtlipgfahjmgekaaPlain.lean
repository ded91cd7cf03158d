/- Plain numbers: the bytes of the stream, and that turning twice is nothing. No condition. -/
import Derived.Test.YtlipgfahjmgekaaSx4
import Derived.Test.YtlipgfahjmgekaaHs
namespace Go.Proofs.Ytlipgfahjmgekaa.S
open Go.RowKit Go.Proofs.YtlipgfahjmgekaaW.PrintWords Go.Proofs.YtlipgfahjmgekaaW.PrintLast
theorem awake_is : samphirelaw05_awake.f = some true := by decide +kernel
theorem xor8_def (a b : Int) : Go.bits .xor .u8 a b = IntKind.u8.wrap ((BitVec.ofInt 8 a ^^^ BitVec.ofInt 8 b).toNat : Int) := rfl
theorem xor8 (a b : Int) : Go.bits .xor .u8 a b = ((BitVec.ofInt 8 a ^^^ BitVec.ofInt 8 b).toNat : Int) := by
  rw [xor8_def, IntKind.wrap_u8]
  have := (BitVec.ofInt 8 a ^^^ BitVec.ofInt 8 b).isLt
  omega
theorem xor8_range (a b : Int) : 0 ≤ Go.bits .xor .u8 a b ∧ Go.bits .xor .u8 a b ≤ 255 := by
  rw [xor8]
  have := (BitVec.ofInt 8 a ^^^ BitVec.ofInt 8 b).isLt
  omega
theorem xor8_twice (a b : Int) (h0 : 0 ≤ a) (h1 : a ≤ 255) : Go.bits .xor .u8 (Go.bits .xor .u8 a b) b = a := by
  rw [xor8, xor8]
  have e : BitVec.ofInt 8 ((BitVec.ofInt 8 a ^^^ BitVec.ofInt 8 b).toNat : Int) = BitVec.ofInt 8 a ^^^ BitVec.ofInt 8 b := by rw [BitVec.ofInt_natCast, BitVec.ofNat_toNat, BitVec.setWidth_eq]
  rw [e, BitVec.xor_assoc, BitVec.xor_self, BitVec.xor_zero, BitVec.toNat_ofInt]
  omega
theorem bt_str (L : List Int) (i : Nat) (hi : i < L.length) (h0 : 0 ≤ L.getD i 0) (h1 : L.getD i 0 ≤ 255) : bt (strOfNums L) (i : Int) = L.getD i 0 := by
  rw [bt_nat _ _ (by rw [strOfNums_size]; exact hi)]
  have e : (strOfNums L)[i]'(by rw [strOfNums_size]; exact hi) = UInt8.ofNat (L.getD i 0).toNat := by
    show (strOfNums L).data[i]'_ = _
    simp [strOfNums, hi]
  rw [e]
  obtain ⟨x, hx⟩ : ∃ x, x = L.getD i 0 := ⟨_, rfl⟩
  rw [← hx] at h0 h1 ⊢
  rw [UInt8.toNat_ofNat']
  omega
theorem str_ext (s t : ByteArray) (h : s.size = t.size) (hb : ∀ i : Nat, i < s.size → bt s (i : Int) = bt t (i : Int)) : s = t := by
  obtain ⟨a⟩ := s
  obtain ⟨b⟩ := t
  congr 1
  have h' : a.size = b.size := h
  apply Array.ext h'
  intro i h1 h2
  have := hb i h1
  rw [bt_nat _ _ h1, bt_nat _ _ h2] at this
  have h3 : (a[i].toNat : Int) = (b[i].toNat : Int) := this
  exact UInt8.toNat_inj.1 (by omega)
theorem streamL_all (key nonce : ByteArray) (ctr : Int) (s : ByteArray) (i : Nat) (hi : i < s.size) : (streamL key nonce ctr s s.size).getD i 0 = turned1 key nonce ctr s i := by
  simp [streamL, hi]
def streamS (key nonce : ByteArray) (ctr : Int) (s : ByteArray) : ByteArray := strOfNums (streamL key nonce ctr s s.size)
theorem streamS_size (key nonce : ByteArray) (ctr : Int) (s : ByteArray) : (streamS key nonce ctr s).size = s.size := by rw [streamS, strOfNums_size, streamL_length]
theorem streamS_bt (key nonce : ByteArray) (ctr : Int) (s : ByteArray) (i : Nat) (hi : i < s.size) : bt (streamS key nonce ctr s) (i : Int) = turned1 key nonce ctr s i := by
  have hr := xor8_range (bt s i) (kb key nonce ctr i)
  rw [streamS, bt_str _ _ (by rw [streamL_length]; exact hi) (by rw [streamL_all _ _ _ _ _ hi]; exact hr.1) (by rw [streamL_all _ _ _ _ _ hi]; exact hr.2), streamL_all _ _ _ _ _ hi]
theorem streamS_twice (key nonce : ByteArray) (ctr : Int) (s : ByteArray) : streamS key nonce ctr (streamS key nonce ctr s) = s := by
  refine str_ext _ _ (by rw [streamS_size, streamS_size]) fun i hi => ?_
  rw [streamS_size, streamS_size] at hi
  rw [streamS_bt _ _ _ _ _ (by rw [streamS_size]; exact hi)]
  unfold turned1
  rw [streamS_bt _ _ _ _ _ hi]
  unfold turned1
  have hr := bt_range s i
  exact xor8_twice _ _ hr.1 hr.2
theorem mask16 (x : Int) : Go.bits .and .i64 x 65535 = x % 65536 := by
  rw [and64_def, IntKind.wrap_i64]
  have e : (BitVec.ofInt 64 x &&& BitVec.ofInt 64 65535).toNat = (x % 65536).toNat := by
    rw [BitVec.toNat_and, BitVec.toNat_ofInt, show (BitVec.ofInt 64 65535).toNat = 2 ^ 16 - 1 from by decide, Nat.and_two_pow_sub_one_eq_mod]
    omega
  rw [e]
  omega
theorem stream_ok (key nonce : ByteArray) (ctr : Int) (s : ByteArray) (hm : maY key nonce ctr) (ht : ¬ tooMuch ctr s) : chacha_Stream.f key nonce ctr s = some (streamS key nonce ctr s, 0) := by
  unfold chacha_Stream.f
  rw [if_pos ⟨hm, ht⟩]
  rfl
end Go.Proofs.Ytlipgfahjmgekaa.S
