/- Runes of lists of bytes: plain laws, no program in sight; names: the program's word and the reference's. -/
import Derived.Test.YtlfgdaiegefjiaaDoorSA
import Derived.Test.YtlfgdaiegefjiaaDoorSC
import Derived.Test.YtlfgdaiegefjiaaDoorSx14
import Derived.Test.YtlfgdaiegefjiaaDoorSx4
import Derived.Test.YtlfgdaiegefjiaaDoorSx8
import Derived.Lib.ValidLaws
import Derived.Lib.RuneCount
import Derived.Laws.BitsLemmas
import Derived.Test.YtlfgdaiegefjiaaDoorNc
import Derived.Test.YtlfgdaiegefjiaaDoorOA
namespace Go.Proofs.YtlfgdaiegefjiaaDoor.Pl
open Go Go.Lib
set_option linter.unusedVariables false
set_option linter.unusedSimpArgs false
set_option maxRecDepth 100000 in
set_option maxHeartbeats 4000000 in
theorem decodeN_le (n b0 b1 b2 b3 : Nat) (hn : 1 ≤ n) : (decodeN n b0 b1 b2 b3).2 ≤ n := by
 unfold decodeN
 repeat' split
 all_goals (simp only; omega)
set_option maxRecDepth 100000 in
set_option maxHeartbeats 8000000 in
theorem decodeN_app (n n' b0 b1 b2 b3 c1 c2 c3 : Nat) (hn : 1 ≤ n) (h : n ≤ n') (e1 : 1 < n → c1 = b1) (e2 : 2 < n → c2 = b2) (e3 : 3 < n → c3 = b3)
 (hb : decodeN n b0 b1 b2 b3 ≠ (65533, 1)) : decodeN n' b0 c1 c2 c3 = decodeN n b0 b1 b2 b3 := by
 by_cases h0 : b0 < 128
 · rw [decodeN_ascii _ _ _ _ _ h0, decodeN_ascii _ _ _ _ _ h0]
 by_cases h1 : 1 < n
 · obtain rfl := e1 h1
   by_cases h2 : 2 < n
   · obtain rfl := e2 h2
     by_cases h3 : 3 < n
     · obtain rfl := e3 h3
       unfold decodeN
       simp only [h1, h2, h3, show 1 < n' by omega, show 2 < n' by omega, show 3 < n' by omega]
     · revert hb
       unfold decodeN
       simp only [h1, h2, h3, show 1 < n' by omega, show 2 < n' by omega, false_and, and_false, true_and, if_false]
       repeat' split
       all_goals first | (intro hb; exact absurd rfl hb) | (intro _; rfl) | (exfalso; omega)
   · revert hb
     unfold decodeN
     simp only [h1, h2, show 1 < n' by omega, false_and, and_false, true_and, if_false]
     repeat' split
     all_goals first | (intro hb; exact absurd rfl hb) | (intro _; rfl) | (exfalso; omega)
 · revert hb
   unfold decodeN
   simp only [h1, h0, false_and, and_false, if_false]
   intro hb
   exact absurd rfl hb
/-- A step of the decoder that is none of UTF-8. -/
def bad (l : List UInt8) : Prop := decodeL l = (65533, 1)
instance (l : List UInt8) : Decidable (bad l) := inferInstanceAs (Decidable (_ = _))
abbrev wd (l : List UInt8) : Nat := (decodeL l).2
abbrev rn (l : List UInt8) : Nat := (decodeL l).1
theorem wd_pos (l : List UInt8) : 1 ≤ wd l := decodeL_width l
theorem wd_le (l : List UInt8) (h : l ≠ []) : wd l ≤ l.length := by
 unfold wd
 rw [decodeL_N]
 exact decodeN_le _ _ _ _ _ (List.length_pos_iff.2 h)
set_option maxRecDepth 100000 in
set_option maxHeartbeats 8000000 in
theorem decodeN_take (n n' b0 b1 b2 b3 c1 c2 c3 : Nat) (hn : 1 ≤ n') (h : n' ≤ n) (e1 : 1 < n' → c1 = b1) (e2 : 2 < n' → c2 = b2) (e3 : 3 < n' → c3 = b3)
 (hw : (decodeN n b0 b1 b2 b3).2 ≤ n') : decodeN n' b0 c1 c2 c3 = decodeN n b0 b1 b2 b3 := by
 by_cases hb : decodeN n' b0 c1 c2 c3 = (65533, 1)
 · revert hw hb
   by_cases h0 : b0 < 128
   · rw [decodeN_ascii _ _ _ _ _ h0, decodeN_ascii _ _ _ _ _ h0]
     intros; rfl
   by_cases h1 : 1 < n'
   · obtain rfl := e1 h1
     by_cases h2 : 2 < n'
     · obtain rfl := e2 h2
       by_cases h3 : 3 < n'
       · obtain rfl := e3 h3
         unfold decodeN
         simp only [h1, h2, h3, show 1 < n by omega, show 2 < n by omega, show 3 < n by omega]
         intros; trivial
       · unfold decodeN
         simp only [h1, h2, h3, show 1 < n by omega, show 2 < n by omega, false_and, and_false, true_and, if_false]
         repeat' split
         all_goals first | (intros; rfl) | (intro hw hb; exact absurd hw (by simp only; omega)) | (exfalso; omega)
     · unfold decodeN
       simp only [h1, h2, show 1 < n by omega, false_and, and_false, true_and, if_false]
       repeat' split
       all_goals first | (intros; rfl) | (intro hw hb; exact absurd hw (by simp only; omega)) | (exfalso; omega)
   · unfold decodeN
     simp only [h1, h0, false_and, and_false, if_false]
     repeat' split
     all_goals first | (intros; rfl) | (intro hw hb; exact absurd hw (by simp only; omega)) | (exfalso; omega)
 · exact (decodeN_app n' n b0 c1 c2 c3 b1 b2 b3 hn h (fun h => (e1 h).symm) (fun h => (e2 h).symm) (fun h => (e3 h).symm) hb).symm
/-- A step reads no further than the bytes that it takes. -/
theorem decode_take (l : List UInt8) (k : Nat) (h : l ≠ []) (hk : wd l ≤ k) : decodeL (l.take k) = decodeL l := by
 by_cases hkl : l.length ≤ k
 · rw [List.take_of_length_le hkl]
 have hl := List.length_pos_iff.2 h
 have hp := wd_pos l
 have hk0 : 1 ≤ k := by omega
 clear hp
 unfold wd at hk
 rw [decodeL_N l] at hk
 rw [decodeL_N (l.take k), decodeL_N l, getD_takeU l k 0 (by omega)]
 exact decodeN_take _ _ _ _ _ _ _ _ _ (by rw [List.length_take]; omega) (by rw [List.length_take]; omega) (fun h => by rw [List.length_take] at h; rw [getD_takeU l k 1 (by omega)]) (fun h => by rw [List.length_take] at h; rw [getD_takeU l k 2 (by omega)]) (fun h => by rw [List.length_take] at h; rw [getD_takeU l k 3 (by omega)]) (by rw [List.length_take, Nat.min_eq_left (by omega)]; exact hk)
/-- The runes of a text, each as its bytes. -/
def runs : Nat → List UInt8 → List (List UInt8)
 | 0, _ => []
 | n + 1, l => if l = [] then [] else l.take (wd l) :: runs n (l.drop (wd l))
def runes (l : List UInt8) : List (List UInt8) := runs l.length l
theorem runs_nil : ∀ n, runs n [] = []
 | 0 => rfl
 | _ + 1 => by simp [runs]
theorem runs_fuel : ∀ (n m : Nat) (l : List UInt8), l.length ≤ n → l.length ≤ m → runs n l = runs m l
 | 0, m, l, hn, _ => by
  obtain rfl : l = [] := List.eq_nil_of_length_eq_zero (by omega)
  rw [runs_nil, runs_nil]
 | n + 1, 0, l, _, hm => by
  obtain rfl : l = [] := List.eq_nil_of_length_eq_zero (by omega)
  rw [runs_nil, runs_nil]
 | n + 1, m + 1, l, hn, hm => by
  unfold runs
  by_cases hne : l = []
  · simp [hne]
  · have hw := wd_pos l
    rw [if_neg hne, if_neg hne, runs_fuel n m (l.drop (wd l)) (by rw [List.length_drop]; omega) (by rw [List.length_drop]; omega)]
theorem runes_nil : runes [] = [] := rfl
theorem runes_step (l : List UInt8) (h : l ≠ []) : runes l = l.take (wd l) :: runes (l.drop (wd l)) := by
 have hl := List.length_pos_iff.2 h
 have hw := wd_pos l
 obtain ⟨n, hn⟩ : ∃ n, l.length = n + 1 := ⟨l.length - 1, by omega⟩
 unfold runes
 rw [hn]
 show (if l = [] then [] else _) = _
 rw [if_neg h, runs_fuel n (l.drop (wd l)).length _ (by rw [List.length_drop]; omega) (Nat.le_refl _)]
/-- Induction by runes. -/
theorem rune_ind {p : List UInt8 → Prop} (h0 : p []) (h1 : ∀ l, l ≠ [] → p (l.drop (wd l)) → p l) : ∀ l, p l := by
 intro l
 induction hn : l.length using Nat.strongRecOn generalizing l with
 | _ n ih =>
  by_cases hl : l = []
  · rw [hl]; exact h0
  · have := List.length_pos_iff.2 hl
    have := wd_pos l
    exact h1 l hl (ih _ (by rw [List.length_drop]; omega) _ rfl)
/-- Each rune's bytes are read as that rune. -/
theorem head_decode (l : List UInt8) (h : l ≠ []) : decodeL (l.take (wd l)) = decodeL l := decode_take l _ h (Nat.le_refl _)
/-- A text of UTF-8 alone. -/
def good (l : List UInt8) : Prop := ∀ c ∈ runes l, ¬ bad c
instance (l : List UInt8) : Decidable (good l) := inferInstanceAs (Decidable (∀ c ∈ runes l, ¬ bad c))
theorem good_step (l : List UInt8) (h : l ≠ []) : good l ↔ ¬ bad l ∧ good (l.drop (wd l)) := by
 unfold good
 rw [runes_step l h]
 simp only [List.mem_cons, forall_eq_or_imp]
 unfold bad
 rw [head_decode l h]
theorem valid_good (l : List UInt8) : validD l = true ↔ good l := by
 induction l using rune_ind with
 | h0 => simp [validD_nil, good, runes_nil]
 | h1 l hl ih =>
  rw [validD_step l hl, good_step l hl]
  unfold bad
  rw [Prod.ext_iff]
  by_cases hc : (decodeL l).1 = 65533 ∧ (decodeL l).2 = 1
  · simp [hc]
  · rw [if_neg hc, ih]
    simp [hc]
end Go.Proofs.YtlfgdaiegefjiaaDoor.Pl
/- The reference's reading of one rune is the decoder's: every text. -/
namespace Go.Proofs.YtlfgdaiegefjiaaDoor.P
open Go.RowKit Go.Proofs.YtlfgdaiegefjiaaDoorW.PrintWords Go.Proofs.YtlfgdaiegefjiaaDoorW.PrintLast Go.Proofs.YtlfgdaiegefjiaaDoorW.PrintMore
open Go.Lib (decodeL decodeN decodeL_N)
open Go.Proofs.YtlfgdaiegefjiaaDoor.Pl Go.Proofs.YtlfgdaiegefjiaaDoor.S
set_option linter.unusedVariables false
set_option linter.unusedSimpArgs false
abbrev L (s : ByteArray) : List UInt8 := s.data.toList
def at8 (s : ByteArray) (i : Nat) : Nat := ((L s).getD i 0).toNat
theorem at8_lt (s : ByteArray) (i : Nat) : at8 s i < 256 := UInt8.toNat_lt _
theorem L_len (s : ByteArray) : (L s).length = s.size := rfl
theorem toL (s : ByteArray) : s.toList = L s := Lib.toList_data s
theorem bt_at8 (s : ByteArray) (i : Nat) : bt s (i : Int) = (at8 s i : Int) := by
 unfold bt at8
 by_cases h : i < s.size
 · simp only [Int.toNat_natCast]
   rw [dif_pos h]
   congr 2
   simp only [List.getD]
   rw [List.getElem?_eq_getElem (by simpa using h)]
   rfl
 · simp only [Int.toNat_natCast]
   rw [dif_neg h]
   simp only [List.getD]
   rw [List.getElem?_eq_none (by simpa using h)]
   rfl
theorem w64 (x : Int) (h : -9223372036854775808 ≤ x) (h2 : x < 9223372036854775808) : wrap64 x = x := by unfold wrap64; omega
theorem wraps_i64 (n : Int) (h₀ : 0 ≤ n) (h₁ : n < 2 ^ 63) : IntKind.i64.wrap n = n := by rw [IntKind.wrap_i64]; omega
theorem and31 (x : Int) (h : 0 ≤ x) (h2 : x < 256) : bits .and .i64 x 31 = x % 32 := bits_mask .i64 63 (by decide) wraps_i64 5 (by decide) x h (by omega)
theorem and15 (x : Int) (h : 0 ≤ x) (h2 : x < 256) : bits .and .i64 x 15 = x % 16 := bits_mask .i64 63 (by decide) wraps_i64 4 (by decide) x h (by omega)
theorem and7' (x : Int) (h : 0 ≤ x) (h2 : x < 256) : bits .and .i64 x 7 = x % 8 := bits_mask .i64 63 (by decide) wraps_i64 3 (by decide) x h (by omega)
theorem u8a63 (x : Int) (h : 0 ≤ x) (h2 : x < 256) : bits .and .u8 x 63 = x % 64 := bits_mask .u8 8 (by decide) wraps_u8 6 (by decide) x h (by omega)
theorem or6 (x y : Int) (h : 0 ≤ x) (h2 : x < 2 ^ 40) (h3 : 0 ≤ y) (h4 : y < 64) : bits .or .i64 (x * 64) y = x * 64 + y :=
 bits_join .i64 63 (by decide) wraps_i64 6 _ y (by omega) (by omega) (by omega) h3 (by omega) (by omega)
/-- The reader's loop: a byte that is none that goes on. -/
theorem one_stop (k : Nat) (x : ByteArray) (m i : Nat) (least v : Int) (hi : i ≤ m) (h : x.size ≤ i ∨ at8 x i < 128 ∨ 191 < at8 x i) :
 samphireref08_one.l0 (k + 1) x m least v i = some (-1, 1) := by
 simp only [samphireref08_one.l0]
 rw [if_pos (by omega)]
 by_cases h1 : x.size ≤ i
 · rw [if_pos (by omega)]
 · rw [if_neg (by omega), if_pos (by omega), if_pos (by omega), bt_at8]
   by_cases h2 : at8 x i < 128
   · rw [if_pos (by omega)]
   · rw [if_neg (by omega), if_pos (by omega)]
theorem one_more (k : Nat) (x : ByteArray) (m i : Nat) (least : Int) (v j : Nat) (hj : j = i + 1) (hi : i ≤ m) (hm : m < 10) (h1 : i < x.size) (h2 : 128 ≤ at8 x i) (h3 : at8 x i ≤ 191) (hv : v < 2 ^ 30) :
 samphireref08_one.l0 (k + 1) x m least v i = samphireref08_one.l0 k x m least ((v * 64 + at8 x i % 64 : Nat) : Int) (j : Int) := by
 subst hj
 simp only [samphireref08_one.l0]
 rw [if_pos (by omega), if_neg (by omega), if_pos (by omega), if_pos (by omega), bt_at8, if_neg (by omega), if_neg (by omega), u8a63 _ (by omega) (by omega), w64 _ (by omega) (by omega), w64 (((at8 x i : Nat) : Int) % 64) (by omega) (by omega),
  or6 _ _ (by omega) (by omega) (by omega) (by omega), w64 ((i : Int) + 1) (by omega) (by omega)]
 congr 1
/-- What a reading comes to. -/
def res (d : Nat × Nat) : Int × Int := (if d = (65533, 1) then -1 else (d.1 : Int), (d.2 : Int))
theorem one_end (k : Nat) (x : ByteArray) (m i : Nat) (least v : Nat) (hi : m < i) (hm : 1 ≤ m) (hm2 : m < 10) :
 samphireref08_one.l0 (k + 1) x m least v i = some (res (if v < least ∨ 1114111 < v ∨ (55296 ≤ v ∧ v ≤ 57343) then (65533, 1) else (v, m + 1))) := by
 simp only [samphireref08_one.l0]
 rw [if_neg (by omega)]
 by_cases h1 : v < least
 · rw [if_pos (by omega), if_pos (.inl h1)]; rfl
 rw [if_neg (by omega)]
 by_cases h2 : 1114111 < v
 · rw [if_pos (by omega), if_pos (.inr (.inl h2))]; rfl
 rw [if_neg (by omega)]
 have e : wrap64 ((m : Int) + 1) = ((m + 1 : Nat) : Int) := by rw [w64 _ (by omega) (by omega)]; rfl
 by_cases h3 : 55296 ≤ v
 · rw [if_pos (by omega)]
   by_cases h4 : v ≤ 57343
   · rw [if_pos (by omega), if_pos (.inr (.inr ⟨h3, h4⟩))]; rfl
   · rw [if_neg (by omega), if_neg (by omega), e]
     unfold res
     rw [if_neg (by rw [Prod.ext_iff]; simp; omega)]
 · rw [if_neg (by omega), if_neg (by omega), e]
   unfold res
   rw [if_neg (by rw [Prod.ext_iff]; simp; omega)]
set_option maxRecDepth 100000 in
set_option maxHeartbeats 16000000 in
theorem one_N (x : ByteArray) (hx : x.size ≠ 0) (k : Nat) (hk : 9 ≤ k) :
 samphireref08_one.f k x = some (res (decodeN x.size (at8 x 0) (at8 x 1) (at8 x 2) (at8 x 3))) := by
 obtain ⟨k, rfl⟩ : ∃ j, k = j + 9 := ⟨k - 9, by omega⟩
 have h0 := at8_lt x 0
 have h1 := at8_lt x 1
 have h2 := at8_lt x 2
 have h3 := at8_lt x 3
 unfold samphireref08_one.f
 rw [if_pos (by omega), show bt x 0 = (at8 x 0 : Int) from bt_at8 x 0, w64 _ (by omega) (by omega)]
 generalize ha0 : at8 x 0 = a0 at *
 by_cases c0 : a0 < 128
 · rw [if_pos (by omega), Lib.decodeN_ascii _ _ _ _ _ c0]
   unfold res
   rw [if_neg (by rw [Prod.ext_iff]; simp; omega)]
   rfl
 rw [if_neg (by omega)]
 by_cases c1 : a0 < 194
 · rw [if_neg (by omega)]
   simp only [samphireref08_one.j0]
   rw [if_neg (by simp), if_neg (by omega)]
   simp only [samphireref08_one.j1]
   rw [if_neg (by simp), if_neg (by omega), Lib.decodeN_bad _ _ _ _ _ (.inl ⟨by omega, by omega⟩)]
   rfl
 rw [if_pos (by omega)]
 by_cases c2 : a0 ≤ 223
 · rw [decide_eq_true (show (a0 : Int) ≤ 223 by omega)]
   simp only [samphireref08_one.j0]
   rw [if_pos trivial, and31 _ (by omega) (by omega)]
   simp only [samphireref08_one.j2]
   by_cases e1 : x.size ≤ 1 ∨ at8 x 1 < 128 ∨ 191 < at8 x 1
   · rw [show (1 : Int) = ((1 : Nat) : Int) from rfl, one_stop _ x 1 1 _ _ (Nat.le_refl _) e1]
     unfold decodeN
     repeat' split
     all_goals first | rfl | (exfalso; omega)
   · rw [show (1 : Int) = ((1 : Nat) : Int) from rfl, show ((a0 : Int) % 32) = ((a0 % 32 : Nat) : Int) from rfl, one_more _ x 1 1 _ (a0 % 32) 2 rfl (Nat.le_refl _) (by omega) (by omega) (by omega) (by omega) (by omega),
      show (128 : Int) = ((128 : Nat) : Int) from rfl, one_end _ x 1 2 128 _ (by omega) (by omega) (by omega)]
     congr 2
     unfold decodeN
     repeat' split
     all_goals first | rfl | (exfalso; omega)
 rw [decide_eq_false (show ¬ (a0 : Int) ≤ 223 by omega)]
 simp only [samphireref08_one.j0]
 rw [if_neg (by simp), if_pos (by omega)]
 simp only [samphireref08_one.j1]
 by_cases c3 : a0 ≤ 239
 · rw [decide_eq_true (show (a0 : Int) ≤ 239 by omega), if_pos rfl, and15 _ (by omega) (by omega)]
   simp only [samphireref08_one.j2]
   by_cases e1 : x.size ≤ 1 ∨ at8 x 1 < 128 ∨ 191 < at8 x 1
   · rw [show (1 : Int) = ((1 : Nat) : Int) from rfl, show (2 : Int) = ((2 : Nat) : Int) from rfl, one_stop _ x 2 1 _ _ (by omega) e1]
     unfold decodeN
     repeat' split
     all_goals first | rfl | (exfalso; omega)
   rw [show (1 : Int) = ((1 : Nat) : Int) from rfl, show (2 : Int) = ((2 : Nat) : Int) from rfl, show ((a0 : Int) % 16) = ((a0 % 16 : Nat) : Int) from rfl, one_more _ x 2 1 _ (a0 % 16) 2 rfl (by omega) (by omega) (by omega) (by omega) (by omega) (by omega)]
   by_cases e2 : x.size ≤ 2 ∨ at8 x 2 < 128 ∨ 191 < at8 x 2
   · rw [one_stop _ x 2 2 _ _ (by omega) e2]
     unfold decodeN
     repeat' split
     all_goals first | rfl | (exfalso; omega)
   rw [one_more _ x 2 2 _ _ 3 rfl (by omega) (by omega) (by omega) (by omega) (by omega) (by omega), show (2048 : Int) = ((2048 : Nat) : Int) from rfl, one_end _ x 2 _ 2048 _ (by omega) (by omega) (by omega)]
   congr 2
   unfold decodeN
   repeat' split
   all_goals first | rfl | (exfalso; omega) | (apply Prod.ext <;> simp only <;> omega)
 rw [decide_eq_false (show ¬ (a0 : Int) ≤ 239 by omega), if_neg (by simp), if_pos (by omega)]
 by_cases c4 : a0 ≤ 244
 · rw [if_pos (by omega), and7' _ (by omega) (by omega)]
   simp only [samphireref08_one.j2]
   by_cases e1 : x.size ≤ 1 ∨ at8 x 1 < 128 ∨ 191 < at8 x 1
   · rw [show (1 : Int) = ((1 : Nat) : Int) from rfl, show (3 : Int) = ((3 : Nat) : Int) from rfl, one_stop _ x 3 1 _ _ (by omega) e1]
     unfold decodeN
     repeat' split
     all_goals first | rfl | (exfalso; omega)
   rw [show (1 : Int) = ((1 : Nat) : Int) from rfl, show (3 : Int) = ((3 : Nat) : Int) from rfl, show ((a0 : Int) % 8) = ((a0 % 8 : Nat) : Int) from rfl, one_more _ x 3 1 _ (a0 % 8) 2 rfl (by omega) (by omega) (by omega) (by omega) (by omega) (by omega)]
   by_cases e2 : x.size ≤ 2 ∨ at8 x 2 < 128 ∨ 191 < at8 x 2
   · rw [one_stop _ x 3 2 _ _ (by omega) e2]
     unfold decodeN
     repeat' split
     all_goals first | rfl | (exfalso; omega)
   rw [one_more _ x 3 2 _ _ 3 rfl (by omega) (by omega) (by omega) (by omega) (by omega) (by omega)]
   by_cases e3 : x.size ≤ 3 ∨ at8 x 3 < 128 ∨ 191 < at8 x 3
   · rw [one_stop _ x 3 3 _ _ (by omega) e3]
     unfold decodeN
     repeat' split
     all_goals first | rfl | (exfalso; omega)
   rw [one_more _ x 3 3 _ _ 4 rfl (by omega) (by omega) (by omega) (by omega) (by omega) (by omega), show (65536 : Int) = ((65536 : Nat) : Int) from rfl, one_end _ x 3 _ 65536 _ (by omega) (by omega) (by omega)]
   congr 2
   unfold decodeN
   repeat' split
   all_goals first | rfl | (exfalso; omega) | (apply Prod.ext <;> simp only <;> omega)
 · rw [if_neg (by omega), Lib.decodeN_bad _ _ _ _ _ (.inr ⟨by omega, by omega⟩)]
   rfl
/-- The reference reads a rune as the decoder does. -/
theorem one_is (x : ByteArray) (hx : x.size ≠ 0) (k : Nat) (hk : 9 ≤ k) : samphireref08_one.f k x = some (res (decodeL (L x))) := by
 rw [one_N x hx k hk, decodeL_N, L_len]
 rfl
end Go.Proofs.YtlfgdaiegefjiaaDoor.P
/- Count, Cut, Fold, Check: the program's and the reference's, told over the list of a text's runes. -/
namespace Go.Proofs.YtlfgdaiegefjiaaDoor.P
open Go.RowKit Go.Proofs.YtlfgdaiegefjiaaDoorW.PrintWords Go.Proofs.YtlfgdaiegefjiaaDoorW.PrintLast Go.Proofs.YtlfgdaiegefjiaaDoorW.PrintMore
open Go.Lib (decodeL decodeN decodeL_N)
open Go.Proofs.YtlfgdaiegefjiaaDoor.Pl Go.Proofs.YtlfgdaiegefjiaaDoor.S
set_option linter.unusedVariables false
set_option linter.unusedSimpArgs false
theorem L_ext {a b : ByteArray} (h : L a = L b) : a = b := by
 cases a with | mk a => cases b with | mk b => congr 1; exact Array.toList_inj.1 h
theorem L_append (a b : ByteArray) : L (a ++ b) = L a ++ L b := by simp [L]
theorem L_take (s : ByteArray) (n : Nat) : L (s.extract 0 n) = (L s).take n := by show (s.extract 0 n).data.toList = _; rw [Lib.extract_data]; simp
theorem L_drop (s : ByteArray) (a : Nat) : L (s.extract a s.size) = (L s).drop a := Lib.extract_to_end s a
theorem L_nil (s : ByteArray) : L s = [] ↔ s.size = 0 := by rw [← L_len, List.length_eq_zero_iff]
theorem dec_drop (s : ByteArray) (p : Nat) : Utf8.decode s p = decodeL ((L s).drop p) := (Lib.decodeL_drop s p).symm
/-! ### the program's -/
theorem count_from (s : ByteArray) : ∀ (b pos : Nat), s.size ≤ pos + b → Lib.runeCountFrom s b pos = (runes ((L s).drop pos)).length
 | 0, pos, h => by
  rw [List.drop_of_length_le (by rw [L_len]; omega)]
  rfl
 | b + 1, pos, h => by
  simp only [Lib.runeCountFrom]
  by_cases hp : pos < s.size
  · have hne : (L s).drop pos ≠ [] := by
     intro e
     have := congrArg List.length e
     rw [List.length_drop, L_len, List.length_nil] at this
     omega
    have hw := wd_pos ((L s).drop pos)
    rw [if_pos hp, dec_drop, count_from s b _ (by unfold wd at hw; omega), runes_step _ hne, List.drop_drop, List.length_cons]
    unfold wd
    omega
  · rw [if_neg hp, List.drop_of_length_le (by rw [L_len]; omega)]
    rfl
def oddR (c : List UInt8) : Bool := oddB (rn c : Int)
theorem odd_from (s : ByteArray) : ∀ (b pos : Nat), s.size ≤ pos + b → anyOdd s b pos = (runes ((L s).drop pos)).any oddR
 | 0, pos, h => by
  rw [List.drop_of_length_le (by rw [L_len]; omega)]
  rfl
 | b + 1, pos, h => by
  simp only [anyOdd]
  by_cases hp : pos < s.size
  · have hne : (L s).drop pos ≠ [] := by
     intro e
     have := congrArg List.length e
     rw [List.length_drop, L_len, List.length_nil] at this
     omega
    have hw := wd_pos ((L s).drop pos)
    rw [if_pos hp, dec_drop, odd_from s b _ (by unfold wd at hw; omega), runes_step _ hne, List.drop_drop, List.any_cons]
    congr 1
    unfold oddR rn
    rw [head_decode _ hne]
  · rw [if_neg hp, List.drop_of_length_le (by rw [L_len]; omega)]
    rfl
def isName (l : List UInt8) : Bool :=
 decide (good l) && !(runes l).any oddR && decide (1 ≤ (runes l).length) && decide ((runes l).length ≤ 32) && l != [46] && l != [46, 46] && l.head? != some 32 && l.getLast? != some 32
theorem prefix_is (s : ByteArray) (h : s.size < 9223372036854775807) : strings_HasPrefix.f s ⟨#[32]⟩ = some ((L s).head? == some 32) := by
 unfold strings_HasPrefix.f stringslite_HasPrefix.f
 have e1 : (⟨#[32]⟩ : ByteArray).size = 1 := rfl
 rw [e1]
 by_cases h1 : (s.size : Int) ≥ ((1 : Nat) : Int)
 · rw [if_pos h1, if_pos (by omega), if_pos (by omega)]
   simp only [Option.bind_some]
   rw [toL, toL, show ((((1 : Nat) : Int)).toNat) = 1 from rfl, L_take]
   rw [← L_len] at h1
   generalize L s = l at h1 ⊢
   cases l with
   | nil => simp at h1
   | cons a r =>
    simp only [List.take_succ_cons, List.take_zero, List.head?_cons]
    show some ([a] == [(32 : UInt8)]) = some (some a == some 32)
    simp
 · rw [if_neg h1]
   have : L s = [] := (L_nil s).2 (by omega)
   rw [this]
   rfl
theorem suffix_is (s : ByteArray) (h : s.size < 9223372036854775807) : strings_HasSuffix.f s ⟨#[32]⟩ = some ((L s).getLast? == some 32) := by
 unfold strings_HasSuffix.f stringslite_HasSuffix.f
 have e1 : (⟨#[32]⟩ : ByteArray).size = 1 := rfl
 rw [e1]
 by_cases h1 : (s.size : Int) ≥ ((1 : Nat) : Int)
 · have e2 : wrap64 ((s.size : Int) - ((1 : Nat) : Int)) = ((s.size - 1 : Nat) : Int) := by rw [w64 _ (by omega) (by omega)]; omega
   rw [if_pos h1, e2, if_pos (by omega), if_pos (by omega)]
   simp only [Option.bind_some]
   rw [toL, toL, Int.toNat_natCast, L_drop, ← L_len]
   rw [← L_len] at h1
   generalize L s = l at h1 ⊢
   rcases List.eq_nil_or_concat l with rfl | ⟨r, a, rfl⟩
   · simp at h1
   · simp
     show ([a] == [(32 : UInt8)]) = (a == 32)
     simp
 · rw [if_neg h1]
   have : L s = [] := (L_nil s).2 (by omega)
   rw [this]
   rfl
theorem check_is (s : ByteArray) (h : s.size < 9223372036854775807) : name_Check.f s = some (if isName (L s) = true then 0 else 80) := by
 unfold name_Check.f isName
 rw [if_pos h, odd_from s s.size 0 (by omega), Lib.runeCount, count_from s s.size 0 (by omega), List.drop_zero, toL, prefix_is s h, suffix_is s h]
 by_cases c1 : (runes (L s)).any oddR = true
 · rw [if_pos c1, c1]; simp
 rw [if_neg c1]
 replace c1 := Bool.eq_false_iff.mpr c1
 by_cases c2 : (runes (L s)).length < 1
 · rw [if_pos c2, decide_eq_false (show ¬ 1 ≤ (runes (L s)).length by omega)]; simp
 rw [if_neg c2, decide_eq_true (show 1 ≤ (runes (L s)).length by omega)]
 by_cases c3 : 32 < (runes (L s)).length
 · rw [if_pos c3, decide_eq_false (show ¬ (runes (L s)).length ≤ 32 by omega)]; simp
 rw [if_neg c3, decide_eq_true (show (runes (L s)).length ≤ 32 by omega)]
 by_cases c4 : Lib.validD (L s) = false
 · rw [if_pos c4, decide_eq_false (fun hg => by rw [(valid_good _).2 hg] at c4; cases c4)]; simp
 rw [if_neg c4, decide_eq_true ((valid_good _).1 (by simpa using c4)), c1]
 by_cases c5 : L s = [46]
 · rw [if_pos c5]; simp [c5]
 rw [if_neg c5]
 by_cases c6 : L s = [46, 46]
 · rw [if_pos c6]; simp [c6]
 rw [if_neg c6, bne_iff_ne.mpr c5, bne_iff_ne.mpr c6]
 simp only [Option.bind_some]
 by_cases d1 : ((L s).head? == some 32) = true
 · have e1 : ((L s).head? != some 32) = false := by rw [bne, d1]; rfl
   rw [if_pos d1, e1]; simp only [Bool.and_false, Bool.false_and]; rw [if_neg (by simp)]
 have e1 : ((L s).head? != some 32) = true := by rw [bne, Bool.eq_false_iff.mpr d1]; rfl
 rw [if_neg d1, e1]
 by_cases d2 : ((L s).getLast? == some 32) = true
 · have e2 : ((L s).getLast? != some 32) = false := by rw [bne, d2]; rfl
   rw [if_pos d2, e2]; simp only [Bool.and_false, Bool.false_and]; rw [if_neg (by simp)]
 have e2 : ((L s).getLast? != some 32) = true := by rw [bne, Bool.eq_false_iff.mpr d2]; rfl
 rw [if_neg d2, e2]
 rfl
/-! ### the reference's -/
theorem res2 (d : Nat × Nat) : (res d).2 = (d.2 : Int) := rfl
theorem ne_of_size {x : ByteArray} (h : L x ≠ []) : x.size ≠ 0 := fun e => h ((L_nil x).2 e)
def fine (l : List UInt8) : Bool := decide (good l) && !(runes l).any oddR
theorem fine_step (l : List UInt8) (h : l ≠ []) : fine l = (decide (¬ bad l) && !oddR l && fine (l.drop (wd l))) := by
 unfold fine
 have e0 : decide (good l) = (decide (¬ bad l) && decide (good (l.drop (wd l)))) := by rw [Bool.eq_iff_iff]; simp [good_step l h]
 rw [runes_step l h, List.any_cons, e0]
 have e : oddR (l.take (wd l)) = oddR l := by unfold oddR rn; rw [head_decode l h]
 rw [e]
 by_cases h1 : bad l <;> by_cases h2 : good (l.drop (wd l)) <;> cases oddR l <;> simp [h1, h2]
theorem rcheck_loop (n : Nat) : ∀ (x : ByteArray) (k c : Nat), x.size ≤ n → n + 10 ≤ k → c ≤ 32 →
 samphireref08_Check.l0 k c x = some (if fine (L x) = true ∧ c + (runes (L x)).length ≤ 32 then 0 else 80) := by
 induction n with
 | zero =>
  intro x k c hx hk hc
  obtain ⟨k, rfl⟩ : ∃ j, k = j + 1 := ⟨k - 1, by omega⟩
  have e : L x = [] := (L_nil x).2 (by omega)
  simp only [samphireref08_Check.l0]
  rw [toL, e, if_pos rfl, if_pos ⟨by decide, by rw [runes_nil]; simpa using hc⟩]
 | succ n ih =>
  intro x k c hx hk hc
  obtain ⟨k, rfl⟩ : ∃ j, k = j + 1 := ⟨k - 1, by omega⟩
  simp only [samphireref08_Check.l0]
  rw [toL]
  by_cases e : L x = []
  · rw [if_pos e, e, if_pos ⟨by decide, by rw [runes_nil]; simpa using hc⟩]
  have hw := wd_pos (L x)
  have hwl := wd_le _ e
  rw [L_len] at hwl
  have hsz : (x.extract (wd (L x)) x.size).size ≤ n := by
   rw [← L_len, L_drop, List.length_drop, L_len]
   omega
  rw [if_neg e, one_is x (ne_of_size e) k (by omega)]
  simp only [Option.bind_some]
  rw [res2, fine_step _ e, runes_step _ e, List.length_cons]
  by_cases hb : bad (L x)
  · have : (res (decodeL (L x))).1 = -1 := by unfold res; exact if_pos hb
    rw [this, if_pos (by omega), if_neg (by simp [hb])]
  have hr : (res (decodeL (L x))).1 = (rn (L x) : Int) := by unfold res; exact if_neg hb
  rw [hr, decide_eq_true hb]
  have hod : oddR (L x) = oddB (rn (L x) : Int) := rfl
  rw [hod]
  generalize hrn : (rn (L x) : Int) = r
  have hgo : (if (c : Int) ≥ 32 then some 80 else if 0 ≤ ((decodeL (L x)).2 : Int) then if ((decodeL (L x)).2 : Int) ≤ (x.size : Int) then samphireref08_Check.l0 k (wrap64 ((c : Int) + 1)) (x.extract (((decodeL (L x)).2 : Int)).toNat x.size) else none else none) =
   some (if fine ((L x).drop (wd (L x))) = true ∧ c + ((runes ((L x).drop (wd (L x)))).length + 1) ≤ 32 then 0 else 80) := by
   by_cases c1 : (c : Int) ≥ 32
   · rw [if_pos c1, if_neg (by omega)]
   · rw [if_neg c1, if_pos (by omega), if_pos (by unfold wd at hwl; omega), w64 _ (by omega) (by omega), Int.toNat_natCast, show ((c : Int) + 1) = ((c + 1 : Nat) : Int) from rfl, ih _ k (c + 1) hsz (by omega) (by omega), L_drop]
     unfold wd
     rw [show c + ((runes (List.drop (decodeL (L x)).snd (L x))).length + 1) = c + 1 + (runes (List.drop (decodeL (L x)).snd (L x))).length by omega]
  rw [hgo]
  unfold oddB
  by_cases h1 : r < 32
  · rw [if_pos h1, decide_eq_true h1]; simp
  rw [if_neg h1, decide_eq_false h1]
  by_cases h2 : r = 47
  · rw [if_pos h2, decide_eq_true h2]; simp
  rw [if_neg h2, decide_eq_false h2]
  by_cases h3 : r ≥ 127
  · rw [if_pos h3, decide_eq_true (show 127 ≤ r from h3)]
    by_cases h4 : r ≤ 159
    · rw [if_pos h4, decide_eq_true h4]; simp
    · rw [if_neg h4, decide_eq_false h4]; simp
  · rw [if_neg h3, decide_eq_false (show ¬ 127 ≤ r from h3)]; simp
theorem rcheck_is (x : ByteArray) (k : Nat) (h : x.size < 4611686018427387904) (hk : x.size + 12 ≤ k) : samphireref08_Check.f k x = some (if isName (L x) = true then 0 else 80) := by
 obtain ⟨k, rfl⟩ : ∃ j, k = j + 1 := ⟨k - 1, by omega⟩
 unfold samphireref08_Check.f isName
 rw [toL]
 simp only [samphireref08_Check.j0]
 by_cases c1 : L x = [46]
 · rw [if_pos c1, if_pos trivial, if_neg (by simp [c1])]
 rw [if_neg c1]
 by_cases c2 : L x = [46, 46]
 · rw [if_pos c2, if_pos trivial, if_neg (by simp [c2])]
 rw [if_neg c2]
 by_cases c3 : L x = []
 · rw [if_pos c3, if_pos trivial, if_neg (by simp [c3, runes_nil])]
 have hz := ne_of_size c3
 rw [if_neg c3, if_pos (by omega), show bt x 0 = (at8 x 0 : Int) from bt_at8 x 0]
 have hh : (L x).head? = some ((L x).getD 0 0) := by
  generalize L x = l at c3
  cases l with
  | nil => exact absurd rfl c3
  | cons a r => rfl
 by_cases c4 : ((at8 x 0 : Nat) : Int) = 32
 · have e : (L x).head? = some 32 := by
    rw [hh]
    congr 1
    apply UInt8.toNat_inj.1
    show at8 x 0 = 32
    omega
   rw [if_pos c4, if_pos trivial, if_neg (by simp [e])]
 have hh2 : (L x).head? ≠ some 32 := by
  intro e
  rw [hh] at e
  have := congrArg UInt8.toNat (Option.some.inj e)
  exact c4 (by show ((((L x).getD 0 0).toNat : Nat) : Int) = 32; rw [this]; rfl)
 have e2 : wrap64 ((x.size : Int) - 1) = ((x.size - 1 : Nat) : Int) := by rw [w64 _ (by omega) (by omega)]; omega
 rw [if_neg c4, e2, if_pos (by omega), if_pos (by omega), bt_at8]
 have hg : (L x).getLast? = some ((L x).getD (x.size - 1) 0) := by
  rw [← L_len]
  generalize L x = l at c3
  rw [List.getLast?_eq_getElem?]
  simp only [List.getD]
  rw [List.getElem?_eq_getElem (by have := List.length_pos_iff.2 c3; omega)]
  rfl
 have hg2 : ((((at8 x (x.size - 1) : Nat) : Int) == 32) = ((L x).getLast? == some 32)) := by
  rw [hg]
  by_cases e : (L x).getD (x.size - 1) 0 = 32
  · rw [e, show at8 x (x.size - 1) = 32 from congrArg UInt8.toNat e]; rfl
  · have e3 : ¬ (((at8 x (x.size - 1) : Nat) : Int) = 32) := fun e4 => e (UInt8.toNat_inj.1 (show at8 x (x.size - 1) = 32 by omega))
    rw [beq_eq_false_iff_ne.mpr e3, beq_eq_false_iff_ne.mpr (fun e4 => e (Option.some.inj e4))]
 rw [hg2]
 cases hlast : ((L x).getLast? == some 32) with
 | true => rw [if_pos rfl, if_neg (by simp only [bne, hlast, Bool.not_true, Bool.and_false]; simp)]
 | false =>
  rw [if_neg (by simp), show (0 : Int) = ((0 : Nat) : Int) from rfl, rcheck_loop x.size x k 0 (Nat.le_refl _) (by omega) (by omega)]
  have hp : 1 ≤ (runes (L x)).length := by rw [runes_step _ c3]; simp
  congr 2
  simp only [fine, bne, hlast, beq_eq_false_iff_ne.mpr hh2, beq_eq_false_iff_ne.mpr c1, beq_eq_false_iff_ne.mpr c2, decide_eq_true hp, Nat.zero_add]
  simp
end Go.Proofs.YtlfgdaiegefjiaaDoor.P
/- Which operations may be: the reference's word. -/
namespace Go.Proofs.YtlfgdaiegefjiaaDoor.P
open Go.RowKit Go.Proofs.YtlfgdaiegefjiaaDoor.Pl Go.Proofs.YtlfgdaiegefjiaaDoor.S
set_option linter.unusedVariables false
set_option linter.unusedSimpArgs false
theorem may10_is (a b : Int) : samphireref10_May.f a b = some (fineB a b) := by
 unfold samphireref10_May.f fineB
 by_cases h1 : a ≥ 1 <;> by_cases h2 : a ≤ 1099511627775 <;> by_cases h3 : b ≥ 1 <;> simp [h1, h2, h3]
theorem parent_is (a b : Int) : samphireref11_parent.f a b = some (outB a b || fineB a b) := by
 unfold samphireref11_parent.f outB
 rw [may10_is]
 by_cases h1 : a = 0 <;> by_cases h2 : b = 0 <;> cases hf : fineB a b <;> simp [h1, h2]
theorem emp_if {α : Type} (s : ByteArray) (x y : α) : (if s.toList = ([] : List UInt8) then x else y) = if emp s = true then x else y := by
 unfold emp
 by_cases h : s.toList = [] <;> simp [h]
theorem may11_is (n : Nat) (k t1 w1 t2 w2 t3 w3 : Int) (nm v : ByteArray) (hs : nm.size < 4611686018427387904) (hk : nm.size + 12 ≤ n) :
 samphireref11_May.f (n + 1) k t1 w1 t2 w2 t3 w3 nm v = some (goodB (isName (L nm)) k t1 w1 t2 w2 t3 w3 nm v) := by
 have hn := rcheck_is nm n hs hk
 unfold samphireref11_May.f
 simp only [may10_is, Option.bind_some, samphireref11_May.j0, parent_is, hn, emp_if]
 unfold goodB
 simp only [show ∀ s : ByteArray, (s.toList == ([] : List UInt8)) = emp s from fun _ => rfl]
 generalize fineB t1 w1 = f1
 generalize fineB t2 w2 = f2
 generalize (outB t3 w3 || fineB t3 w3) = o3
 generalize isName (L nm) = nb
 generalize emp nm = en
 generalize emp v = ev
 generalize decide ((v.size : Int) ≤ 64) = lv
 generalize (t3 == 0 && (w3 == 0)) = p3
 generalize (t2 == t1 && (w2 == w1)) = same
 by_cases h1 : k = 1
 · subst h1
   cases f1 <;> cases f2 <;> cases same <;> cases nb <;> cases o3 <;> cases ev <;> rfl
 by_cases h3 : k = 3
 · subst h3
   cases f1 <;> cases f2 <;> cases nb <;> cases p3 <;> cases ev <;> rfl
 by_cases h4 : k = 4
 · subst h4
   cases f1 <;> cases f2 <;> cases lv <;> cases p3 <;> cases en <;> rfl
 by_cases h2 : k = 2
 · subst h2
   cases f1 <;> cases f2 <;> cases o3 <;> cases en <;> cases ev <;> rfl
 by_cases h5 : k = 5
 · subst h5
   cases f1 <;> cases f2 <;> cases p3 <;> cases en <;> cases ev <;> rfl
 simp only [if_neg h1, if_neg h2, if_neg h3, if_neg h4, if_neg h5]
 cases f1 <;> cases f2 <;> simp
/-- Whether an operation may be; what both checks answer. -/
def goodO (o : S.Opn) : Bool := goodB (isName (L o.f4)) o.f0 o.f1.f0 o.f1.f1 o.f2.f0 o.f2.f1 o.f3.f0 o.f3.f1 o.f4 o.f5
def chkO (o : S.Opn) : Int := if goodO o = true then 0 else 1
theorem may_good (o : S.Opn) (h : o.f4.size ≤ 1024) : samphireref11_May.f 1300 o.f0 o.f1.f0 o.f1.f1 o.f2.f0 o.f2.f1 o.f3.f0 o.f3.f1 o.f4 o.f5 = some (goodO o) := may11_is 1299 _ _ _ _ _ _ _ _ _ (by omega) (by omega)
theorem checkT_is (o : S.Opn) (h : o.f4.size ≤ 1024) : tree_Check.f 40 o.f0 o.f1.f0 o.f1.f1 o.f2.f0 o.f2.f1 o.f3.f0 o.f3.f1 o.f4 o.f5 = some (chkO o) :=
 check11_is 37 (isName (L o.f4)) _ _ _ _ _ _ _ _ _ (check_is o.f4 (by omega))
theorem good_par {nb : Bool} {o : S.Opn} (h : goodB nb o.f0 o.f1.f0 o.f1.f1 o.f2.f0 o.f2.f1 o.f3.f0 o.f3.f1 o.f4 o.f5 = true) : o.f3.f0 = 0 → outerB o.f3 = true := by
 intro hz
 unfold goodB at h
 simp only [Bool.and_eq_true] at h
 obtain ⟨_, h3⟩ := h
 have hf : fineB o.f3.f0 o.f3.f1 = false := by
  unfold fineB
  exact decide_eq_false (by omega)
 have ho : outB o.f3.f0 o.f3.f1 = outerB o.f3 := by
  unfold outB outerB
  rw [hz]
  simp
 have hq : (o.f3.f0 == 0 && o.f3.f1 == 0) = true → outerB o.f3 = true := by
  intro hq
  rw [← ho]
  unfold outB
  rw [hq]
  rfl
 rw [hf, Bool.or_false, ho] at h3
 split at h3
 · simp only [Bool.and_eq_true] at h3; exact h3.1.2
 · split at h3
   · simp only [Bool.and_eq_true] at h3; exact h3.1.1
   · split at h3
     · simp only [Bool.and_eq_true] at h3; exact hq (by simp [h3.1.1.1, h3.1.1.2])
     · split at h3
       · simp only [Bool.and_eq_true] at h3; exact hq (by simp [h3.1.1.1, h3.1.1.2])
       · split at h3
         · simp only [Bool.and_eq_true] at h3; exact hq (by simp [h3.1.1.1, h3.1.1.2])
         · cases h3
theorem chk_fine {o : S.Opn} (h : chkO o = 0) : Fine o ∧ (o.f3.f0 = 0 → outerB o.f3 = true) := by
 have hg : goodO o = true := by
  unfold chkO at h
  cases hh : goodO o with
  | true => rfl
  | false => rw [hh] at h; cases h
 exact ⟨good_fine hg, good_par hg⟩
end Go.Proofs.YtlfgdaiegefjiaaDoor.P
