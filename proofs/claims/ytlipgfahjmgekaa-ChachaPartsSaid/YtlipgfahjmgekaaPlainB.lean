/- Plain numbers: what the reference's words and bytes are. No condition. -/
import Derived.Test.YtlipgfahjmgekaaSx2
import Derived.Test.YtlipgfahjmgekaaPlain
namespace Go.Proofs.Ytlipgfahjmgekaa.S
open Go.RowKit Go.Proofs.YtlipgfahjmgekaaW.PrintWords Go.Proofs.YtlipgfahjmgekaaW.PrintLast
theorem w64 (x : Int) (h0 : 0 ≤ x) (h1 : x < 9223372036854775808) : wrap64 x = x := by unfold wrap64; omega
theorem mask8 (x : Int) : Go.bits .and .i64 x 255 = x % 256 := by
  rw [and64_def, IntKind.wrap_i64]
  have e : (BitVec.ofInt 64 x &&& BitVec.ofInt 64 255).toNat = (x % 256).toNat := by
    rw [BitVec.toNat_and, BitVec.toNat_ofInt, show (BitVec.ofInt 64 255).toNat = 2 ^ 8 - 1 from by decide, Nat.and_two_pow_sub_one_eq_mod]
    omega
  rw [e]
  omega
theorem U_or (a b : BitVec 32) : Go.bits .or .i64 (U a) (U b) = U (a ||| b) := by
  unfold U
  rw [or64 _ _ (by have := a.isLt; omega) (by have := b.isLt; omega), BitVec.toNat_or]
/-- Four by four the other way round. -/
def turnL (s : ByteArray) (m : Nat) : List Int := (List.range m).flatMap fun j => [bt s ((4 * j + 3 : Nat) : Int), bt s ((4 * j + 2 : Nat) : Int), bt s ((4 * j + 1 : Nat) : Int), bt s ((4 * j : Nat) : Int)]
theorem turnL_length (s : ByteArray) : ∀ m, (turnL s m).length = 4 * m
  | 0 => rfl
  | m + 1 => by
    have := turnL_length s m
    simp [turnL, List.range_succ] at this ⊢
    omega
theorem turnL_succ (s : ByteArray) (m : Nat) : turnL s (m + 1) = turnL s m ++ [bt s ((4 * m + 3 : Nat) : Int), bt s ((4 * m + 2 : Nat) : Int), bt s ((4 * m + 1 : Nat) : Int), bt s ((4 * m : Nat) : Int)] := by
  simp [turnL, List.range_succ]
theorem turned_l0 (s : ByteArray) (m : Nat) (hm : s.size = 4 * m) (hs : s.size < 140737488355328) (d : Nat) : ∀ (j k : Nat), m - j = d → j ≤ m → d < k →
    samphireref01_turned.l0 k s (turnL s j) ((4 * j : Nat) : Int) = some (strOfNums (turnL s m)) := by
  induction d with
  | zero =>
    intro j k hd hj hk
    obtain ⟨k, rfl⟩ : ∃ q, k = q + 1 := ⟨k - 1, by omega⟩
    obtain rfl : j = m := by omega
    simp only [samphireref01_turned.l0]
    rw [w64 _ (by omega) (by omega), if_neg (by omega)]
  | succ d ih =>
    intro j k hd hj hk
    obtain ⟨k, rfl⟩ : ∃ q, k = q + 1 := ⟨k - 1, by omega⟩
    have hl := turnL_length s j
    simp only [samphireref01_turned.l0]
    rw [w64 (_ + 3) (by omega) (by omega), w64 (_ + 2) (by omega) (by omega), w64 (_ + 1) (by omega) (by omega), w64 (_ + 4) (by omega) (by omega)]
    rw [if_pos (by omega), if_pos (by omega), if_pos (by omega)]
    simp only [Option.bind_some]
    rw [if_pos (by omega), if_pos (by omega), if_pos (by simp; omega)]
    rw [if_pos (by omega), if_pos (by omega), if_pos (by simp; omega)]
    rw [if_pos (by omega), if_pos (by omega), if_pos (by simp; omega)]
    have h := ih (j + 1) k (by omega) (by omega) (by omega)
    rw [turnL_succ] at h
    rw [← h]
    congr 1
    simp
theorem turned_is (s : ByteArray) (m k : Nat) (hm : s.size = 4 * m) (hs : s.size < 140737488355328) (hk : m < k) : samphireref01_turned.f k s = some (strOfNums (turnL s m)) :=
  turned_l0 s m hm hs m 0 k (by omega) (by omega) hk
theorem getD_left (xs ys : List Int) (i : Nat) (h : i < xs.length) : (xs ++ ys).getD i 0 = xs.getD i 0 := by
  rw [List.getD_eq_getElem?_getD, List.getD_eq_getElem?_getD, List.getElem?_append_left h]
theorem getD_right (xs ys : List Int) (i : Nat) (h : xs.length ≤ i) : (xs ++ ys).getD i 0 = ys.getD (i - xs.length) 0 := by
  rw [List.getD_eq_getElem?_getD, List.getD_eq_getElem?_getD, List.getElem?_append_right h]
theorem turnL_get (s : ByteArray) (m j c : Nat) (hj : j < m) (hc : c < 4) : (turnL s m).getD (4 * j + c) 0 = bt s ((4 * j + (3 - c) : Nat) : Int) := by
  induction m with
  | zero => omega
  | succ m ih =>
    rw [turnL_succ]
    have hl := turnL_length s m
    by_cases h : j < m
    · rw [getD_left _ _ _ (by omega)]
      exact ih h
    · obtain rfl : j = m := by omega
      rw [getD_right _ _ _ (by omega), hl, show 4 * j + c - 4 * j = c by omega]
      rcases (show c = 0 ∨ c = 1 ∨ c = 2 ∨ c = 3 by omega) with rfl | rfl | rfl | rfl <;> rfl
theorem turnS_bt (s : ByteArray) (m j c : Nat) (hj : j < m) (hc : c < 4) : bt (strOfNums (turnL s m)) ((4 * j + c : Nat) : Int) = bt s ((4 * j + (3 - c) : Nat) : Int) := by
  have hr := bt_range s ((4 * j + (3 - c) : Nat) : Int)
  rw [← turnL_get s m j c hj hc] at hr ⊢
  exact bt_str _ _ (by rw [turnL_length]; omega) hr.1 hr.2
theorem byte_shift (s : ByteArray) (i k : Nat) (hk : k ≤ 24) : wrap64 (wrap64 (bt s (i : Int)) * 2 ^ k) = U (byte_ s i <<< k) := by
  have hr := bt_range s i
  have h2 : (2 : Nat) ^ k ≤ 2 ^ 24 := Nat.pow_le_pow_right (by decide) hk
  obtain ⟨p, hp⟩ : ∃ p : Nat, p = 2 ^ k := ⟨_, rfl⟩
  have hpi : (2 : Int) ^ k = (p : Int) := by rw [hp]; exact (Int.natCast_pow 2 k).symm
  obtain ⟨b, hb⟩ : ∃ b : Nat, bt s (i : Int) = b := ⟨(bt s (i : Int)).toNat, by omega⟩
  have hle : b * p ≤ 255 * 2 ^ 24 := Nat.mul_le_mul (by omega) (by omega)
  rw [w64 (bt s (i : Int)) (by omega) (by omega), hpi, hb, ← Int.natCast_mul, w64 _ (by omega) (by omega)]
  unfold U
  rw [BitVec.toNat_shiftLeft, Nat.shiftLeft_eq, ← hp]
  have : (byte_ s i).toNat = b := by unfold byte_; rw [hb, BitVec.toNat_ofNat]; omega
  rw [this]
  omega
theorem byte_none (s : ByteArray) (i : Nat) : wrap64 (bt s (i : Int)) = U (byte_ s i) := by
  have := byte_shift s i 0 (by omega)
  rw [Int.pow_zero, Int.mul_one, BitVec.shiftLeft_zero] at this
  rw [← this]
  have hr := bt_range s i
  rw [w64 (bt s (i : Int)) (by omega) (by omega), w64 _ (by omega) (by omega)]
def bigL (t : ByteArray) (j : Nat) : List Int := (List.range j).map fun i => U (((byte_ t (4 * i) <<< 24 ||| byte_ t (4 * i + 1) <<< 16) ||| byte_ t (4 * i + 2) <<< 8) ||| byte_ t (4 * i + 3))
theorem bigL_length (t : ByteArray) (j : Nat) : (bigL t j).length = j := by simp [bigL]
theorem bigL_succ (t : ByteArray) (i : Nat) : bigL t (i + 1) = bigL t i ++ [U (((byte_ t (4 * i) <<< 24 ||| byte_ t (4 * i + 1) <<< 16) ||| byte_ t (4 * i + 2) <<< 8) ||| byte_ t (4 * i + 3))] := by simp [bigL, List.range_succ]
theorem big_l0 (t : ByteArray) (m : Nat) (hm : t.size = 4 * m) (hs : t.size < 17592186044416) (d : Nat) : ∀ (j k : Nat), m - j = d → j ≤ m → d < k →
    samphireref01_Big.l0 k t (bigL t j) ((4 * j : Nat) : Int) = some (bigL t m, 0) := by
  induction d with
  | zero =>
    intro j k hd hj hk
    obtain ⟨k, rfl⟩ : ∃ q, k = q + 1 := ⟨k - 1, by omega⟩
    obtain rfl : j = m := by omega
    simp only [samphireref01_Big.l0]
    rw [if_neg (by omega)]
  | succ d ih =>
    intro j k hd hj hk
    obtain ⟨k, rfl⟩ : ∃ q, k = q + 1 := ⟨k - 1, by omega⟩
    have hl := bigL_length t j
    simp only [samphireref01_Big.l0]
    rw [w64 (_ + 3) (by omega) (by omega), w64 (_ + 2) (by omega) (by omega), w64 (_ + 1) (by omega) (by omega), w64 (_ + 4) (by omega) (by omega)]
    rw [if_pos (by omega), if_pos (by omega), if_pos (by omega), if_pos (by omega), if_pos (by omega), if_pos (by omega), if_pos (by omega), if_pos (by omega), if_pos (by omega)]
    have h := ih (j + 1) k (by omega) (by omega) (by omega)
    rw [bigL_succ] at h
    rw [← h]
    have e0 := byte_shift t (4 * j) 24 (by omega)
    have e1 := byte_shift t (4 * j + 1) 16 (by omega)
    have e2 := byte_shift t (4 * j + 2) 8 (by omega)
    have e3 := byte_none t (4 * j + 3)
    simp only [show (2 : Int) ^ 24 = 16777216 from rfl, show (2 : Int) ^ 16 = 65536 from rfl, show (2 : Int) ^ 8 = 256 from rfl] at e0 e1 e2
    rw [show ((4 * j : Nat) : Int) + 1 = ((4 * j + 1 : Nat) : Int) by omega, show ((4 * j : Nat) : Int) + 2 = ((4 * j + 2 : Nat) : Int) by omega, show ((4 * j : Nat) : Int) + 3 = ((4 * j + 3 : Nat) : Int) by omega, show ((4 * j : Nat) : Int) + 4 = ((4 * (j + 1) : Nat) : Int) by omega]
    rw [e0, e1, e2, e3, U_or, U_or, U_or]
theorem big_is (t : ByteArray) (m k : Nat) (hm : t.size = 4 * m) (hs : t.size < 17592186044416) (hk : m < k) : samphireref01_Big.f k t = some (bigL t m, 0) := by
  unfold samphireref01_Big.f
  rw [if_pos (by omega)]
  exact big_l0 t m hm hs m 0 k (by omega) (by omega) hk
theorem bigL_turn (s : ByteArray) (m : Nat) : bigL (strOfNums (turnL s m)) m = (List.range m).map (fun i => U (w4 s (4 * i))) := by
  unfold bigL
  apply List.map_congr_left
  intro i hi
  rw [List.mem_range] at hi
  refine congrArg U ?_
  unfold w4
  have b : ∀ c, c < 4 → byte_ (strOfNums (turnL s m)) (4 * i + c) = byte_ s (4 * i + (3 - c)) := fun c hc => by unfold byte_; rw [turnS_bt s m i c hi hc]
  have b0 : byte_ (strOfNums (turnL s m)) (4 * i) = byte_ s (4 * i + 3) := b 0 (by omega)
  have b1 : byte_ (strOfNums (turnL s m)) (4 * i + 1) = byte_ s (4 * i + 2) := b 1 (by omega)
  have b2 : byte_ (strOfNums (turnL s m)) (4 * i + 2) = byte_ s (4 * i + 1) := b 2 (by omega)
  have b3 : byte_ (strOfNums (turnL s m)) (4 * i + 3) = byte_ s (4 * i) := b 3 (by omega)
  rw [b0, b1, b2, b3]
theorem small_words (s : ByteArray) (m k : Nat) (hm : s.size = 4 * m) (hs : s.size < 17592186044416) (hk : m < k) : samphireref01_Small.f k s = some ((List.range m).map (fun i => U (w4 s (4 * i))), 0) := by
  have hz : (strOfNums (turnL s m)).size = 4 * m := by rw [strOfNums_size, turnL_length]
  have h1 := turned_is s m k hm (by omega) hk
  have h2 := big_is (strOfNums (turnL s m)) m k hz (by omega) hk
  rw [bigL_turn] at h2
  unfold samphireref01_Small.f
  rw [if_pos (by omega), h1, Option.bind_some, h2, Option.bind_some]
/-- The bytes of numbers, the lowest first. -/
def lowL (l : List Int) : List Int := l.flatMap fun x => byteL (x % 4294967296)
def bigB (l : List Int) : List Int := l.flatMap fun x => [x % 4294967296 / 16777216 % 256, x % 4294967296 / 65536 % 256, x % 4294967296 / 256 % 256, x % 4294967296 % 256]
theorem bigB_length (l : List Int) : (bigB l).length = 4 * l.length := by
  induction l with
  | nil => rfl
  | cons x l ih => simp [bigB] at ih ⊢; omega
theorem lowL_length (l : List Int) : (lowL l).length = 4 * l.length := by
  induction l with
  | nil => rfl
  | cons x l ih => simp [lowL, byteL] at ih ⊢; omega
theorem bigB_take (l : List Int) (j : Nat) (h : j < l.length) : bigB (l.take (j + 1)) = bigB (l.take j) ++ [l[j] % 4294967296 / 16777216 % 256, l[j] % 4294967296 / 65536 % 256, l[j] % 4294967296 / 256 % 256, l[j] % 4294967296 % 256] := by
  rw [List.take_succ_eq_append_getElem h]
  unfold bigB
  rw [List.flatMap_append]
  rfl
theorem putbig_l0 (l : List Int) (hs : l.length < 17592186044416) (d : Nat) : ∀ (j k : Nat), l.length - j = d → j ≤ l.length → d < k →
    samphireref01_PutBig.l0 k l (bigB (l.take j)) (j : Int) = some (strOfNums (bigB l)) := by
  induction d with
  | zero =>
    intro j k hd hj hk
    obtain ⟨k, rfl⟩ : ∃ q, k = q + 1 := ⟨k - 1, by omega⟩
    obtain rfl : j = l.length := by omega
    simp only [samphireref01_PutBig.l0]
    rw [if_neg (by omega), List.take_length]
  | succ d ih =>
    intro j k hd hj hk
    obtain ⟨k, rfl⟩ : ∃ q, k = q + 1 := ⟨k - 1, by omega⟩
    have hl := bigB_length (l.take j)
    have hj' : j < l.length := by omega
    rw [List.length_take, Nat.min_eq_left (by omega)] at hl
    have hr : rd l (j : Int) = l[j] := by simp [rd, hj']
    simp only [samphireref01_PutBig.l0, samphireref01_Word.f]
    rw [if_pos (by omega), if_pos (by omega), hr, mask32]
    simp only [Option.bind_some]
    rw [if_pos (by omega), if_pos (by simp; omega), if_pos (by simp; omega), if_pos (by simp; omega), w64 _ (by omega) (by omega)]
    have h := ih (j + 1) k (by omega) (by omega) (by omega)
    rw [bigB_take l j hj'] at h
    rw [← h]
    simp only [mask8]
    congr 1
    simp
theorem putbig_is (l : List Int) (k : Nat) (hs : l.length < 17592186044416) (hk : l.length < k) : samphireref01_PutBig.f k l = some (strOfNums (bigB l)) := by
  have := putbig_l0 l hs l.length 0 k (by omega) (by omega) hk
  rw [List.take_zero, show bigB [] = [] from rfl, show ((0 : Nat) : Int) = 0 from rfl] at this
  exact this
theorem bigB_get (l : List Int) (j c : Nat) (hj : j < l.length) (hc : c < 4) : (bigB l).getD (4 * j + (3 - c)) 0 = (lowL l).getD (4 * j + c) 0 ∧ 0 ≤ (lowL l).getD (4 * j + c) 0 ∧ (lowL l).getD (4 * j + c) 0 ≤ 255 := by
  induction l generalizing j with
  | nil => simp at hj
  | cons x l ih =>
    have e1 : bigB (x :: l) = [x % 4294967296 / 16777216 % 256, x % 4294967296 / 65536 % 256, x % 4294967296 / 256 % 256, x % 4294967296 % 256] ++ bigB l := by simp [bigB]
    have e2 : lowL (x :: l) = byteL (x % 4294967296) ++ lowL l := by simp [lowL]
    rw [e1, e2]
    by_cases h : j = 0
    · subst h
      rw [getD_left _ _ _ (by simp; omega), getD_left _ _ _ (by simp [byteL]; omega)]
      rcases (show c = 0 ∨ c = 1 ∨ c = 2 ∨ c = 3 by omega) with rfl | rfl | rfl | rfl <;> (simp [byteL]; omega)
    · obtain ⟨q, rfl⟩ : ∃ q, j = q + 1 := ⟨j - 1, by omega⟩
      rw [getD_right _ _ _ (by simp; omega), getD_right _ _ _ (by simp [byteL]; omega)]
      have := ih q (by simp at hj; omega)
      have f1 : 4 * (q + 1) + (3 - c) - [x % 4294967296 / 16777216 % 256, x % 4294967296 / 65536 % 256, x % 4294967296 / 256 % 256, x % 4294967296 % 256].length = 4 * q + (3 - c) := by simp; omega
      have f2 : 4 * (q + 1) + c - (byteL (x % 4294967296)).length = 4 * q + c := by simp [byteL]; omega
      rw [f1, f2]
      exact this
theorem putsmall_is (l : List Int) (k : Nat) (hs : l.length < 17592186044416) (hk : l.length < k) : samphireref01_PutSmall.f k l = some (strOfNums (lowL l)) := by
  unfold samphireref01_PutSmall.f
  rw [putbig_is l k hs hk]
  simp only [Option.bind_some]
  rw [turned_is _ l.length k (by rw [strOfNums_size, bigB_length]) (by rw [strOfNums_size, bigB_length]; omega) hk]
  simp only [Option.bind_some, Option.some.injEq]
  congr 1
  apply List.ext_getElem
  · rw [turnL_length, lowL_length]
  · intro i h1 h2
    rw [turnL_length] at h1
    have hi : i = 4 * (i / 4) + i % 4 := by omega
    have hg := bigB_get l (i / 4) (i % 4) (by omega) (by omega)
    rw [← hi] at hg
    have ht := turnL_get (strOfNums (bigB l)) l.length (i / 4) (i % 4) (by omega) (by omega)
    rw [← hi, bt_str _ _ (by rw [bigB_length]; omega) (by rw [hg.1]; exact hg.2.1) (by rw [hg.1]; exact hg.2.2), hg.1] at ht
    rw [List.getD_eq_getElem?_getD, List.getElem?_eq_getElem (by rw [turnL_length]; exact h1)] at ht
    rw [List.getD_eq_getElem?_getD, List.getElem?_eq_getElem h2] at ht
    exact ht
end Go.Proofs.Ytlipgfahjmgekaa.S
