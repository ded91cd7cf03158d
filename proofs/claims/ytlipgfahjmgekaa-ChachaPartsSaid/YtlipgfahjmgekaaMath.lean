/- Plain numbers: words of 32 bits as the machine has them. -/
import Derived.Laws.BitsLemmas
namespace Go.Proofs.Ytlipgfahjmgekaa.S
def U (v : BitVec 32) : Int := (v.toNat : Int)
theorem U_bd (v : BitVec 32) : 0 ≤ U v ∧ U v ≤ 4294967295 := by
  have := v.isLt
  unfold U
  omega
theorem U_ofInt (x : Int) : U (BitVec.ofInt 32 x) = x % 4294967296 := by
  unfold U
  rw [BitVec.toNat_ofInt]
  omega
theorem U_inj {a b : BitVec 32} (h : U a = U b) : a = b := by
  apply BitVec.eq_of_toNat_eq
  unfold U at h
  omega
theorem and64_def (a b : Int) : bits .and .i64 a b = IntKind.i64.wrap ((BitVec.ofInt 64 a &&& BitVec.ofInt 64 b).toNat : Int) := rfl
theorem or64_def (a b : Int) : bits .or .i64 a b = IntKind.i64.wrap ((BitVec.ofInt 64 a ||| BitVec.ofInt 64 b).toNat : Int) := rfl
theorem xor64_def (a b : Int) : bits .xor .i64 a b = IntKind.i64.wrap ((BitVec.ofInt 64 a ^^^ BitVec.ofInt 64 b).toNat : Int) := rfl
theorem xor32_def (a b : Int) : bits .xor .u32 a b = IntKind.u32.wrap ((BitVec.ofInt 32 a ^^^ BitVec.ofInt 32 b).toNat : Int) := rfl
theorem and64 (a b : Nat) (ha : a < 2 ^ 63) (hb : b < 2 ^ 63) : bits .and .i64 (a : Int) (b : Int) = ((a &&& b : Nat) : Int) := by
  rw [and64_def, IntKind.wrap_i64, BitVec.ofInt_natCast, BitVec.ofInt_natCast, BitVec.toNat_and, BitVec.toNat_ofNat, BitVec.toNat_ofNat, Nat.mod_eq_of_lt (by omega), Nat.mod_eq_of_lt (by omega)]
  have := Nat.and_lt_two_pow a hb
  omega
theorem or64 (a b : Nat) (ha : a < 2 ^ 63) (hb : b < 2 ^ 63) : bits .or .i64 (a : Int) (b : Int) = ((a ||| b : Nat) : Int) := by
  rw [or64_def, IntKind.wrap_i64, BitVec.ofInt_natCast, BitVec.ofInt_natCast, BitVec.toNat_or, BitVec.toNat_ofNat, BitVec.toNat_ofNat, Nat.mod_eq_of_lt (by omega), Nat.mod_eq_of_lt (by omega)]
  have := Nat.or_lt_two_pow ha hb
  omega
theorem xor64 (a b : Nat) (ha : a < 2 ^ 63) (hb : b < 2 ^ 63) : bits .xor .i64 (a : Int) (b : Int) = ((a ^^^ b : Nat) : Int) := by
  rw [xor64_def, IntKind.wrap_i64, BitVec.ofInt_natCast, BitVec.ofInt_natCast, BitVec.toNat_xor, BitVec.toNat_ofNat, BitVec.toNat_ofNat, Nat.mod_eq_of_lt (by omega), Nat.mod_eq_of_lt (by omega)]
  have := Nat.xor_lt_two_pow ha hb
  omega
theorem U_xor (a b : BitVec 32) : bits .xor .i64 (U a) (U b) = U (a ^^^ b) := by
  unfold U
  rw [xor64 _ _ (by have := a.isLt; omega) (by have := b.isLt; omega), BitVec.toNat_xor]
theorem U_xor32 (a b : BitVec 32) : bits .xor .u32 (U a) (U b) = U (a ^^^ b) := by
  unfold U
  rw [xor32_def, IntKind.wrap_u32, BitVec.ofInt_natCast, BitVec.ofInt_natCast, BitVec.ofNat_toNat, BitVec.ofNat_toNat, BitVec.setWidth_eq, BitVec.setWidth_eq]
  have := (a ^^^ b).isLt
  omega
theorem or32_def (a b : Int) : bits .or .u32 a b = IntKind.u32.wrap ((BitVec.ofInt 32 a ||| BitVec.ofInt 32 b).toNat : Int) := rfl
theorem U_or32 (a b : BitVec 32) : bits .or .u32 (U a) (U b) = U (a ||| b) := by
  unfold U
  rw [or32_def, IntKind.wrap_u32, BitVec.ofInt_natCast, BitVec.ofInt_natCast, BitVec.ofNat_toNat, BitVec.ofNat_toNat, BitVec.setWidth_eq, BitVec.setWidth_eq]
  have := (a ||| b).isLt
  omega
theorem U_shl (x : BitVec 32) (k : Nat) : (U x * 2 ^ k) % 4294967296 = U (x <<< k) := by
  unfold U
  rw [BitVec.toNat_shiftLeft, Nat.shiftLeft_eq]
  obtain ⟨m, hm⟩ : ∃ m, x.toNat * 2 ^ k = m := ⟨_, rfl⟩
  have e : (x.toNat : Int) * 2 ^ k = m := by rw [← hm, Int.natCast_mul, Int.natCast_pow]; rfl
  rw [e, hm]
  omega
theorem U_shr (x : BitVec 32) (k : Nat) : U x / 2 ^ k = U (x >>> k) := by
  unfold U
  rw [BitVec.toNat_ushiftRight, Nat.shiftRight_eq_div_pow, Int.natCast_ediv, Int.natCast_pow]
  rfl
/-- The low word of any number. -/
theorem mask32 (x : Int) : bits .and .i64 x 4294967295 = x % 4294967296 := by
  rw [and64_def, IntKind.wrap_i64]
  have e : (BitVec.ofInt 64 x &&& BitVec.ofInt 64 4294967295).toNat = (x % 4294967296).toNat := by
    rw [BitVec.toNat_and, BitVec.toNat_ofInt, show (BitVec.ofInt 64 4294967295).toNat = 2 ^ 32 - 1 from by decide, Nat.and_two_pow_sub_one_eq_mod]
    omega
  rw [e]
  omega
def rotl (x : BitVec 32) (n : Nat) : BitVec 32 := x <<< n ||| x >>> (32 - n)
theorem U_rot64 (x : BitVec 32) (n : Nat) (h0 : 0 < n) (h : n < 32) : bits .and .i64 (bits .or .i64 (U x * 2 ^ n) (U x / 2 ^ (32 - n))) 4294967295 = U (rotl x n) := by
  rw [mask32]
  have hx := x.isLt
  have e1 : U x * 2 ^ n = ((x.toNat * 2 ^ n : Nat) : Int) := by unfold U; push_cast; rfl
  have e2 : U x / 2 ^ (32 - n) = ((x.toNat / 2 ^ (32 - n) : Nat) : Int) := by unfold U; push_cast; rfl
  have b1 : x.toNat * 2 ^ n < 2 ^ 63 := by
    have : 2 ^ n ≤ 2 ^ 31 := Nat.pow_le_pow_right (by decide) (by omega)
    calc x.toNat * 2 ^ n ≤ x.toNat * 2 ^ 31 := Nat.mul_le_mul_left _ this
      _ < 2 ^ 63 := by omega
  have b2 : x.toNat / 2 ^ (32 - n) < 2 ^ 63 := Nat.lt_of_le_of_lt (Nat.div_le_self _ _) (by omega)
  rw [e1, e2, or64 _ _ b1 b2]
  unfold U rotl
  rw [BitVec.toNat_or, BitVec.toNat_shiftLeft, BitVec.toNat_ushiftRight, Nat.shiftLeft_eq, Nat.shiftRight_eq_div_pow]
  have := Nat.or_mod_two_pow (a := x.toNat * 2 ^ n) (b := x.toNat / 2 ^ (32 - n)) (n := 32)
  have b3 : x.toNat / 2 ^ (32 - n) % 2 ^ 32 = x.toNat / 2 ^ (32 - n) := Nat.mod_eq_of_lt (Nat.lt_of_le_of_lt (Nat.div_le_self _ _) hx)
  rw [b3] at this
  rw [← this]
  omega
end Go.Proofs.Ytlipgfahjmgekaa.S
