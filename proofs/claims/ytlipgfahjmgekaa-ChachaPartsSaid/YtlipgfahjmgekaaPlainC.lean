/- Plain numbers: the reference's sixteen words and sixty-four bytes are the program's. No condition. -/
import Derived.Test.YtlipgfahjmgekaaPlainB
import Derived.KernelRfl
namespace Go.Proofs.Ytlipgfahjmgekaa.S
open Go.RowKit Go.Proofs.YtlipgfahjmgekaaW.PrintWords Go.Proofs.YtlipgfahjmgekaaW.PrintLast
theorem bt_app (a b : ByteArray) (i : Nat) (h : i < a.size + b.size) : bt (a ++ b) (i : Int) = if i < a.size then bt a (i : Int) else bt b ((i - a.size : Nat) : Int) := by
  have hs : (a ++ b).size = a.size + b.size := ByteArray.size_append
  rw [bt_nat _ _ (by omega)]
  by_cases hi : i < a.size
  · rw [if_pos hi, bt_nat _ _ hi, ByteArray.getElem_append_left hi]
  · rw [if_neg hi, bt_nat _ _ (by omega), ByteArray.getElem_append_right (by omega)]
theorem byte_left (a b : ByteArray) (i : Nat) (h : i < a.size) : byte_ (a ++ b) i = byte_ a i := by
  unfold byte_
  rw [bt_app _ _ _ (by omega), if_pos h]
theorem byte_right (a b : ByteArray) (i j : Nat) (h : i = a.size + j) (hj : j < b.size) : byte_ (a ++ b) i = byte_ b j := by
  unfold byte_
  rw [bt_app _ _ _ (by omega), if_neg (by omega), show i - a.size = j by omega]
theorem w4_left (a b : ByteArray) (i : Nat) (h : i + 3 < a.size) : w4 (a ++ b) i = w4 a i := by
  unfold w4
  rw [byte_left _ _ _ h, byte_left _ _ (i + 2) (by omega), byte_left _ _ (i + 1) (by omega), byte_left _ _ i (by omega)]
theorem w4_right (a b : ByteArray) (i j : Nat) (h : i = a.size + j) (hj : j + 3 < b.size) : w4 (a ++ b) i = w4 b j := by
  unfold w4
  rw [byte_right a b (i + 3) (j + 3) (by omega) hj, byte_right a b (i + 2) (j + 2) (by omega) (by omega), byte_right a b (i + 1) (j + 1) (by omega) (by omega), byte_right a b i j h (by omega)]
def ctrS (ctr : Int) : ByteArray := strOfNums (lowL [ctr])
theorem ctrS_size (ctr : Int) : (ctrS ctr).size = 4 := by rw [ctrS, strOfNums_size, lowL_length]; rfl
theorem ctr_byte (ctr : Int) (c : Nat) (hc : c < 4) : byte_ (ctrS ctr) c = BitVec.ofNat 32 ((byteL (ctr % 4294967296)).getD c 0).toNat := by
  have e : lowL [ctr] = byteL (ctr % 4294967296) := by simp [lowL]
  have hg := bigB_get [ctr] 0 c (by simp) hc
  rw [Nat.mul_zero, Nat.zero_add, Nat.zero_add] at hg
  unfold byte_ ctrS
  rw [bt_str _ _ (by rw [lowL_length]; simp; omega) hg.2.1 hg.2.2, e]
theorem w4_ctr (ctr : Int) : w4 (ctrS ctr) 0 = BitVec.ofInt 32 ctr := by
  obtain ⟨x, hx⟩ : ∃ x : Nat, ctr % 4294967296 = (x : Int) := ⟨(ctr % 4294967296).toNat, by omega⟩
  have hx1 : x < 4294967296 := by omega
  have b0 := ctr_byte ctr 0 (by omega)
  have b1 := ctr_byte ctr 1 (by omega)
  have b2 := ctr_byte ctr 2 (by omega)
  have b3 := ctr_byte ctr 3 (by omega)
  rw [hx] at b0 b1 b2 b3
  have n0 : byte_ (ctrS ctr) 0 = BitVec.ofNat 32 (x % 256) := by rw [b0]; congr 1
  have n1 : byte_ (ctrS ctr) 1 = BitVec.ofNat 32 (x / 256 % 256) := by rw [b1]; congr 1
  have n2 : byte_ (ctrS ctr) 2 = BitVec.ofNat 32 (x / 65536 % 256) := by rw [b2]; congr 1
  have n3 : byte_ (ctrS ctr) 3 = BitVec.ofNat 32 (x / 16777216) := by rw [b3]; congr 1
  have hr : BitVec.ofInt 32 ctr = BitVec.ofNat 32 x := by
    apply BitVec.eq_of_toNat_eq
    rw [BitVec.toNat_ofInt, BitVec.toNat_ofNat]
    omega
  unfold w4
  rw [n0, n1, n2, n3, hr]
  apply BitVec.eq_of_toNat_eq
  simp only [BitVec.toNat_or, BitVec.toNat_shiftLeft, BitVec.toNat_ofNat, Nat.shiftLeft_eq]
  have m0 : x % 256 % 2 ^ 32 = x % 256 := by omega
  have m1 : x / 256 % 256 % 2 ^ 32 * 2 ^ 8 % 2 ^ 32 = (x / 256 % 256) * 2 ^ 8 := by simp only [Nat.reducePow]; omega
  have m2 : x / 65536 % 256 % 2 ^ 32 * 2 ^ 16 % 2 ^ 32 = (x / 65536 % 256) * 2 ^ 16 := by rw [Nat.mod_eq_of_lt (a := x / 65536 % 256) (by omega)]; exact Nat.mod_eq_of_lt (Nat.lt_of_le_of_lt (Nat.mul_le_mul_right _ (show x / 65536 % 256 ≤ 255 by omega)) (by decide))
  have m3 : x / 16777216 % 2 ^ 32 * 2 ^ 24 % 2 ^ 32 = (x / 16777216) * 2 ^ 24 := by rw [Nat.mod_eq_of_lt (a := x / 16777216) (by omega)]; exact Nat.mod_eq_of_lt (Nat.lt_of_le_of_lt (Nat.mul_le_mul_right _ (show x / 16777216 ≤ 255 by omega)) (by decide))
  rw [m0, m1, m2, m3]
  have o1 := Nat.two_pow_add_eq_or_of_lt (i := 24) (b := x / 65536 % 256 * 2 ^ 16) (by omega) (x / 16777216)
  have o2 := Nat.two_pow_add_eq_or_of_lt (i := 16) (b := x / 256 % 256 * 2 ^ 8) (by omega) (x / 16777216 * 256 + x / 65536 % 256)
  have o3 := Nat.two_pow_add_eq_or_of_lt (i := 8) (b := x % 256) (by omega) (x / 16777216 * 65536 + x / 65536 % 256 * 256 + x / 256 % 256)
  obtain ⟨p, hp⟩ : ∃ p, x / 16777216 = p := ⟨_, rfl⟩
  obtain ⟨q, hq⟩ : ∃ q, x / 65536 % 256 = q := ⟨_, rfl⟩
  obtain ⟨r, hr2⟩ : ∃ r, x / 256 % 256 = r := ⟨_, rfl⟩
  obtain ⟨t, ht⟩ : ∃ t, x % 256 = t := ⟨_, rfl⟩
  have hx2 : x = 16777216 * p + 65536 * q + 256 * r + t := by omega
  have lq : q < 256 := by omega
  have lr : r < 256 := by omega
  have lt : t < 256 := by omega
  rw [hp, hq, hr2, ht]
  rw [hp, hq] at o1 o2 o3
  rw [hr2] at o2 o3
  rw [ht] at o3
  simp only [Nat.reducePow] at o1 o2 o3 ⊢
  rw [Nat.mul_comm p 16777216, ← o1, show 16777216 * p + q * 65536 = 65536 * (p * 256 + q) by omega, ← o2, show 65536 * (p * 256 + q) + r * 256 = 256 * (p * 65536 + q * 256 + r) by omega, ← o3]
  omega
def allS (key nonce : ByteArray) (ctr : Int) : ByteArray := ((headS ++ key) ++ ctrS ctr) ++ nonce
theorem allS_size (key nonce : ByteArray) (ctr : Int) (h1 : key.size = 32) (h2 : nonce.size = 12) : (allS key nonce ctr).size = 64 := by
  unfold allS
  rw [ByteArray.size_append, ByteArray.size_append, ByteArray.size_append, ctrS_size, h1, h2]
  rfl
theorem first_is (hf kf nf : Nat → W32) (c : W32) : firstW hf kf nf c = [hf 0, hf 1, hf 2, hf 3, kf 0, kf 1, kf 2, kf 3, kf 4, kf 5, kf 6, kf 7, c, nf 0, nf 1, nf 2] := rfl
theorem words_are (key nonce : ByteArray) (ctr : Int) (h1 : key.size = 32) (h2 : nonce.size = 12) : (List.range 16).map (fun i => U (w4 (allS key nonce ctr) (4 * i))) = (words0 key nonce ctr).map U := by
  have hh : headS.size = 16 := rfl
  have hk : (headS ++ key).size = 48 := by rw [ByteArray.size_append, hh, h1]
  have hc : ((headS ++ key) ++ ctrS ctr).size = 52 := by rw [ByteArray.size_append, hk, ctrS_size]
  have a : ∀ i, i < 4 → w4 (allS key nonce ctr) (4 * i) = w4 headS (4 * i) := fun i hi => by
    unfold allS
    rw [w4_left _ _ _ (by omega), w4_left _ _ _ (by omega), w4_left _ _ _ (by omega)]
  have b : ∀ i, i < 8 → w4 (allS key nonce ctr) (4 * (4 + i)) = w4 key (4 * i) := fun i hi => by
    unfold allS
    rw [w4_left _ _ _ (by omega), w4_left _ _ _ (by omega), w4_right headS key _ (4 * i) (by omega) (by omega)]
  have c : w4 (allS key nonce ctr) (4 * 12) = BitVec.ofInt 32 ctr := by
    unfold allS
    rw [w4_left _ _ _ (by omega), w4_right _ _ _ 0 (by omega) (by rw [ctrS_size]; omega), w4_ctr]
  have d : ∀ i, i < 3 → w4 (allS key nonce ctr) (4 * (13 + i)) = w4 nonce (4 * i) := fun i hi => by
    unfold allS
    rw [w4_right _ nonce _ (4 * i) (by omega) (by omega)]
  unfold words0
  rw [first_is]
  simp only [List.range, List.range.loop, List.map_cons, List.map_nil]
  rw [a 0 (by omega), a 1 (by omega), a 2 (by omega), a 3 (by omega), c]
  have b0 := b 0 (by omega)
  have b1 := b 1 (by omega)
  have b2 := b 2 (by omega)
  have b3 := b 3 (by omega)
  have b4 := b 4 (by omega)
  have b5 := b 5 (by omega)
  have b6 := b 6 (by omega)
  have b7 := b 7 (by omega)
  have d0 := d 0 (by omega)
  have d1 := d 1 (by omega)
  have d2 := d 2 (by omega)
  simp only [Nat.add_zero, Nat.reduceAdd] at b0 b1 b2 b3 b4 b5 b6 b7 d0 d1 d2
  rw [b0, b1, b2, b3, b4, b5, b6, b7, d0, d1, d2]
def sumL (V V0 : List W32) (m : Nat) : List Int := (List.range m).map fun i => U (at_ V0 i) + U (at_ V i)
theorem outL_flat (V V0 : List W32) : (List.range 16).flatMap (fun i => [U (at_ V i + at_ V0 i) % 256, U (at_ V i + at_ V0 i) / 256 % 256, U (at_ V i + at_ V0 i) / 65536 % 256, U (at_ V i + at_ V0 i) / 16777216]) = outL V V0 16 := by kernel_rfl
theorem outs_are (V V0 : List W32) : lowL (sumL V V0 16) = outL V V0 16 := by
  have e : ∀ i, (U (at_ V0 i) + U (at_ V i)) % 4294967296 = U (at_ V i + at_ V0 i) := fun i => by rw [U_add, BitVec.add_comm]
  have f : ∀ x : W32, byteL (U x) = [U x % 256, U x / 256 % 256, U x / 65536 % 256, U x / 16777216] := fun x => by
    rfl
  have g : lowL (sumL V V0 16) = (List.range 16).flatMap fun i => [U (at_ V i + at_ V0 i) % 256, U (at_ V i + at_ V0 i) / 256 % 256, U (at_ V i + at_ V0 i) / 65536 % 256, U (at_ V i + at_ V0 i) / 16777216] := by
    unfold lowL sumL
    rw [List.flatMap_map]
    congr 1
    funext i
    rw [e, f]
  rw [g, outL_flat]
end Go.Proofs.Ytlipgfahjmgekaa.S
