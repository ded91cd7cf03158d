/- The reference's reading of one rune is the decoder's: every text. -/
import Derived.Test.YtlipgfahjmgekabDoorSx3
import Derived.Test.YtlipgfahjmgekabDoorPl
import Derived.Laws.BitsLemmas
namespace Go.Proofs.YtlipgfahjmgekabDoor.S
open Go.RowKit Go.Proofs.YtlipgfahjmgekabDoorW.PrintWords Go.Proofs.YtlipgfahjmgekabDoorW.PrintLast Go.Proofs.YtlipgfahjmgekabDoorW.PrintMore
open Go.Lib (decodeL decodeN decodeL_N) 
open Pl
set_option linter.unusedVariables false
set_option linter.unusedSimpArgs false
abbrev L (s : ByteArray) : List UInt8 := s.data.toList
def at8 (s : ByteArray) (i : Nat) : Nat := ((L s).getD i 0).toNat
theorem at8_lt (s : ByteArray) (i : Nat) : at8 s i < 256 := UInt8.toNat_lt _
theorem L_len (s : ByteArray) : (L s).length = s.size := rfl
theorem toL (s : ByteArray) : s.toList = L s := Lib.toList_data s
theorem bt_at8 (s : ByteArray) (i : Nat) : bt s (i : Int) = (at8 s i : Int) := by
  unfold bt at8
  by_cases h : i < s.size
  · simp only [Int.toNat_natCast]
    rw [dif_pos h]
    congr 2
    simp only [List.getD]
    rw [List.getElem?_eq_getElem (by simpa using h)]
    rfl
  · simp only [Int.toNat_natCast]
    rw [dif_neg h]
    simp only [List.getD]
    rw [List.getElem?_eq_none (by simpa using h)]
    rfl
theorem w64 (x : Int) (h : -9223372036854775808 ≤ x) (h2 : x < 9223372036854775808) : wrap64 x = x := by unfold wrap64; omega
theorem wraps_i64 (n : Int) (h₀ : 0 ≤ n) (h₁ : n < 2 ^ 63) : IntKind.i64.wrap n = n := by rw [IntKind.wrap_i64]; omega
theorem and31 (x : Int) (h : 0 ≤ x) (h2 : x < 256) : bits .and .i64 x 31 = x % 32 := bits_mask .i64 63 (by decide) wraps_i64 5 (by decide) x h (by omega)
theorem and15 (x : Int) (h : 0 ≤ x) (h2 : x < 256) : bits .and .i64 x 15 = x % 16 := bits_mask .i64 63 (by decide) wraps_i64 4 (by decide) x h (by omega)
theorem and7' (x : Int) (h : 0 ≤ x) (h2 : x < 256) : bits .and .i64 x 7 = x % 8 := bits_mask .i64 63 (by decide) wraps_i64 3 (by decide) x h (by omega)
theorem u8a63 (x : Int) (h : 0 ≤ x) (h2 : x < 256) : bits .and .u8 x 63 = x % 64 := bits_mask .u8 8 (by decide) wraps_u8 6 (by decide) x h (by omega)
theorem or6 (x y : Int) (h : 0 ≤ x) (h2 : x < 2 ^ 40) (h3 : 0 ≤ y) (h4 : y < 64) : bits .or .i64 (x * 64) y = x * 64 + y :=
  bits_join .i64 63 (by decide) wraps_i64 6 _ y (by omega) (by omega) (by omega) h3 (by omega) (by omega)
/-- The reader's loop: a byte that is none that goes on. -/
theorem one_stop (k : Nat) (x : ByteArray) (m i : Nat) (least v : Int) (hi : i ≤ m) (h : x.size ≤ i ∨ at8 x i < 128 ∨ 191 < at8 x i) :
    samphireref08_one.l0 (k + 1) x m least v i = some (-1, 1) := by
  simp only [samphireref08_one.l0]
  rw [if_pos (by omega)]
  by_cases h1 : x.size ≤ i
  · rw [if_pos (by omega)]
  · rw [if_neg (by omega), if_pos (by omega), if_pos (by omega), bt_at8]
    by_cases h2 : at8 x i < 128
    · rw [if_pos (by omega)]
    · rw [if_neg (by omega), if_pos (by omega)]
theorem one_more (k : Nat) (x : ByteArray) (m i : Nat) (least : Int) (v j : Nat) (hj : j = i + 1) (hi : i ≤ m) (hm : m < 10) (h1 : i < x.size) (h2 : 128 ≤ at8 x i) (h3 : at8 x i ≤ 191) (hv : v < 2 ^ 30) :
    samphireref08_one.l0 (k + 1) x m least v i = samphireref08_one.l0 k x m least ((v * 64 + at8 x i % 64 : Nat) : Int) (j : Int) := by
  subst hj
  simp only [samphireref08_one.l0]
  rw [if_pos (by omega), if_neg (by omega), if_pos (by omega), if_pos (by omega), bt_at8, if_neg (by omega), if_neg (by omega), u8a63 _ (by omega) (by omega), w64 _ (by omega) (by omega), w64 (((at8 x i : Nat) : Int) % 64) (by omega) (by omega),
    or6 _ _ (by omega) (by omega) (by omega) (by omega), w64 ((i : Int) + 1) (by omega) (by omega)]
  congr 1
/-- What a reading comes to. -/
def res (d : Nat × Nat) : Int × Int := (if d = (65533, 1) then -1 else (d.1 : Int), (d.2 : Int))
theorem one_end (k : Nat) (x : ByteArray) (m i : Nat) (least v : Nat) (hi : m < i) (hm : 1 ≤ m) (hm2 : m < 10) :
    samphireref08_one.l0 (k + 1) x m least v i = some (res (if v < least ∨ 1114111 < v ∨ (55296 ≤ v ∧ v ≤ 57343) then (65533, 1) else (v, m + 1))) := by
  simp only [samphireref08_one.l0]
  rw [if_neg (by omega)]
  by_cases h1 : v < least
  · rw [if_pos (by omega), if_pos (.inl h1)]; rfl
  rw [if_neg (by omega)]
  by_cases h2 : 1114111 < v
  · rw [if_pos (by omega), if_pos (.inr (.inl h2))]; rfl
  rw [if_neg (by omega)]
  have e : wrap64 ((m : Int) + 1) = ((m + 1 : Nat) : Int) := by rw [w64 _ (by omega) (by omega)]; rfl
  by_cases h3 : 55296 ≤ v
  · rw [if_pos (by omega)]
    by_cases h4 : v ≤ 57343
    · rw [if_pos (by omega), if_pos (.inr (.inr ⟨h3, h4⟩))]; rfl
    · rw [if_neg (by omega), if_neg (by omega), e]
      unfold res
      rw [if_neg (by rw [Prod.ext_iff]; simp; omega)]
  · rw [if_neg (by omega), if_neg (by omega), e]
    unfold res
    rw [if_neg (by rw [Prod.ext_iff]; simp; omega)]
set_option maxRecDepth 100000 in
set_option maxHeartbeats 16000000 in
theorem one_N (x : ByteArray) (hx : x.size ≠ 0) (k : Nat) (hk : 9 ≤ k) :
    samphireref08_one.f k x = some (res (decodeN x.size (at8 x 0) (at8 x 1) (at8 x 2) (at8 x 3))) := by
  obtain ⟨k, rfl⟩ : ∃ j, k = j + 9 := ⟨k - 9, by omega⟩
  have h0 := at8_lt x 0
  have h1 := at8_lt x 1
  have h2 := at8_lt x 2
  have h3 := at8_lt x 3
  unfold samphireref08_one.f
  rw [if_pos (by omega), show bt x 0 = (at8 x 0 : Int) from bt_at8 x 0, w64 _ (by omega) (by omega)]
  generalize ha0 : at8 x 0 = a0 at *
  by_cases c0 : a0 < 128
  · rw [if_pos (by omega), Lib.decodeN_ascii _ _ _ _ _ c0]
    unfold res
    rw [if_neg (by rw [Prod.ext_iff]; simp; omega)]
    rfl
  rw [if_neg (by omega)]
  by_cases c1 : a0 < 194
  · rw [if_neg (by omega)]
    simp only [samphireref08_one.j0]
    rw [if_neg (by simp), if_neg (by omega)]
    simp only [samphireref08_one.j1]
    rw [if_neg (by simp), if_neg (by omega), Lib.decodeN_bad _ _ _ _ _ (.inl ⟨by omega, by omega⟩)]
    rfl
  rw [if_pos (by omega)]
  by_cases c2 : a0 ≤ 223
  · rw [decide_eq_true (show (a0 : Int) ≤ 223 by omega)]
    simp only [samphireref08_one.j0]
    rw [if_pos trivial, and31 _ (by omega) (by omega)]
    simp only [samphireref08_one.j2]
    by_cases e1 : x.size ≤ 1 ∨ at8 x 1 < 128 ∨ 191 < at8 x 1
    · rw [show (1 : Int) = ((1 : Nat) : Int) from rfl, one_stop _ x 1 1 _ _ (Nat.le_refl _) e1]
      unfold decodeN
      repeat' split
      all_goals first | rfl | (exfalso; omega)
    · rw [show (1 : Int) = ((1 : Nat) : Int) from rfl, show ((a0 : Int) % 32) = ((a0 % 32 : Nat) : Int) from rfl, one_more _ x 1 1 _ (a0 % 32) 2 rfl (Nat.le_refl _) (by omega) (by omega) (by omega) (by omega) (by omega),
        show (128 : Int) = ((128 : Nat) : Int) from rfl, one_end _ x 1 2 128 _ (by omega) (by omega) (by omega)]
      congr 2
      unfold decodeN
      repeat' split
      all_goals first | rfl | (exfalso; omega)
  rw [decide_eq_false (show ¬ (a0 : Int) ≤ 223 by omega)]
  simp only [samphireref08_one.j0]
  rw [if_neg (by simp), if_pos (by omega)]
  simp only [samphireref08_one.j1]
  by_cases c3 : a0 ≤ 239
  · rw [decide_eq_true (show (a0 : Int) ≤ 239 by omega), if_pos rfl, and15 _ (by omega) (by omega)]
    simp only [samphireref08_one.j2]
    by_cases e1 : x.size ≤ 1 ∨ at8 x 1 < 128 ∨ 191 < at8 x 1
    · rw [show (1 : Int) = ((1 : Nat) : Int) from rfl, show (2 : Int) = ((2 : Nat) : Int) from rfl, one_stop _ x 2 1 _ _ (by omega) e1]
      unfold decodeN
      repeat' split
      all_goals first | rfl | (exfalso; omega)
    rw [show (1 : Int) = ((1 : Nat) : Int) from rfl, show (2 : Int) = ((2 : Nat) : Int) from rfl, show ((a0 : Int) % 16) = ((a0 % 16 : Nat) : Int) from rfl, one_more _ x 2 1 _ (a0 % 16) 2 rfl (by omega) (by omega) (by omega) (by omega) (by omega) (by omega)]
    by_cases e2 : x.size ≤ 2 ∨ at8 x 2 < 128 ∨ 191 < at8 x 2
    · rw [one_stop _ x 2 2 _ _ (by omega) e2]
      unfold decodeN
      repeat' split
      all_goals first | rfl | (exfalso; omega)
    rw [one_more _ x 2 2 _ _ 3 rfl (by omega) (by omega) (by omega) (by omega) (by omega) (by omega), show (2048 : Int) = ((2048 : Nat) : Int) from rfl, one_end _ x 2 _ 2048 _ (by omega) (by omega) (by omega)]
    congr 2
    unfold decodeN
    repeat' split
    all_goals first | rfl | (exfalso; omega) | (apply Prod.ext <;> simp only <;> omega)
  rw [decide_eq_false (show ¬ (a0 : Int) ≤ 239 by omega), if_neg (by simp), if_pos (by omega)]
  by_cases c4 : a0 ≤ 244
  · rw [if_pos (by omega), and7' _ (by omega) (by omega)]
    simp only [samphireref08_one.j2]
    by_cases e1 : x.size ≤ 1 ∨ at8 x 1 < 128 ∨ 191 < at8 x 1
    · rw [show (1 : Int) = ((1 : Nat) : Int) from rfl, show (3 : Int) = ((3 : Nat) : Int) from rfl, one_stop _ x 3 1 _ _ (by omega) e1]
      unfold decodeN
      repeat' split
      all_goals first | rfl | (exfalso; omega)
    rw [show (1 : Int) = ((1 : Nat) : Int) from rfl, show (3 : Int) = ((3 : Nat) : Int) from rfl, show ((a0 : Int) % 8) = ((a0 % 8 : Nat) : Int) from rfl, one_more _ x 3 1 _ (a0 % 8) 2 rfl (by omega) (by omega) (by omega) (by omega) (by omega) (by omega)]
    by_cases e2 : x.size ≤ 2 ∨ at8 x 2 < 128 ∨ 191 < at8 x 2
    · rw [one_stop _ x 3 2 _ _ (by omega) e2]
      unfold decodeN
      repeat' split
      all_goals first | rfl | (exfalso; omega)
    rw [one_more _ x 3 2 _ _ 3 rfl (by omega) (by omega) (by omega) (by omega) (by omega) (by omega)]
    by_cases e3 : x.size ≤ 3 ∨ at8 x 3 < 128 ∨ 191 < at8 x 3
    · rw [one_stop _ x 3 3 _ _ (by omega) e3]
      unfold decodeN
      repeat' split
      all_goals first | rfl | (exfalso; omega)
    rw [one_more _ x 3 3 _ _ 4 rfl (by omega) (by omega) (by omega) (by omega) (by omega) (by omega), show (65536 : Int) = ((65536 : Nat) : Int) from rfl, one_end _ x 3 _ 65536 _ (by omega) (by omega) (by omega)]
    congr 2
    unfold decodeN
    repeat' split
    all_goals first | rfl | (exfalso; omega) | (apply Prod.ext <;> simp only <;> omega)
  · rw [if_neg (by omega), Lib.decodeN_bad _ _ _ _ _ (.inr ⟨by omega, by omega⟩)]
    rfl
/-- The reference reads a rune as the decoder does. -/
theorem one_is (x : ByteArray) (hx : x.size ≠ 0) (k : Nat) (hk : 9 ≤ k) : samphireref08_one.f k x = some (res (decodeL (L x))) := by
  rw [one_N x hx k hk, decodeL_N, L_len]
  rfl
end Go.Proofs.YtlipgfahjmgekabDoor.S
