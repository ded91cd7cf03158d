/- Count, Cut, Fold, Check: the program's and the reference's, told over the list of a text's runes. -/
import Derived.Test.YtlipgfahjmgekabDoorPm
import Derived.Test.YtlipgfahjmgekabDoorNa
import Derived.Test.YtlipgfahjmgekabDoorNc
import Derived.Test.YtlipgfahjmgekabDoorNf
namespace Go.Proofs.YtlipgfahjmgekabDoor.S
open Go.RowKit Go.Proofs.YtlipgfahjmgekabDoorW.PrintWords Go.Proofs.YtlipgfahjmgekabDoorW.PrintLast Go.Proofs.YtlipgfahjmgekabDoorW.PrintMore
open Go.Lib (decodeL decodeN decodeL_N) 
open Pl
set_option linter.unusedVariables false
set_option linter.unusedSimpArgs false
theorem L_ext {a b : ByteArray} (h : L a = L b) : a = b := by
  cases a with | mk a => cases b with | mk b => congr 1; exact Array.toList_inj.1 h
theorem L_append (a b : ByteArray) : L (a ++ b) = L a ++ L b := by simp [L]
theorem L_take (s : ByteArray) (n : Nat) : L (s.extract 0 n) = (L s).take n := by show (s.extract 0 n).data.toList = _; rw [Lib.extract_data]; simp
theorem L_drop (s : ByteArray) (a : Nat) : L (s.extract a s.size) = (L s).drop a := Lib.extract_to_end s a
theorem L_nil (s : ByteArray) : L s = [] ↔ s.size = 0 := by rw [← L_len, List.length_eq_zero_iff]
theorem dec_drop (s : ByteArray) (p : Nat) : Utf8.decode s p = decodeL ((L s).drop p) := (Lib.decodeL_drop s p).symm
/-! ### the program's -/
theorem count_from (s : ByteArray) : ∀ (b pos : Nat), s.size ≤ pos + b → Lib.runeCountFrom s b pos = (runes ((L s).drop pos)).length
  | 0, pos, h => by
    rw [List.drop_of_length_le (by rw [L_len]; omega)]
    rfl
  | b + 1, pos, h => by
    simp only [Lib.runeCountFrom]
    by_cases hp : pos < s.size
    · have hne : (L s).drop pos ≠ [] := by
        intro e
        have := congrArg List.length e
        rw [List.length_drop, L_len, List.length_nil] at this
        omega
      have hw := wd_pos ((L s).drop pos)
      rw [if_pos hp, dec_drop, count_from s b _ (by unfold wd at hw; omega), runes_step _ hne, List.drop_drop, List.length_cons]
      unfold wd
      omega
    · rw [if_neg hp, List.drop_of_length_le (by rw [L_len]; omega)]
      rfl
theorem count_is (s : ByteArray) (h : s.size < 9223372036854775807) : name_Count.f s = some ((runes (L s)).length : Int) := by
  unfold name_Count.f Lib.runeCount
  rw [if_pos h, count_from s s.size 0 (by omega)]
  rfl
/-- Is a rune none of a name's? -/
def oddR (c : List UInt8) : Bool := oddB (rn c : Int)
theorem odd_from (s : ByteArray) : ∀ (b pos : Nat), s.size ≤ pos + b → anyOdd s b pos = (runes ((L s).drop pos)).any oddR
  | 0, pos, h => by
    rw [List.drop_of_length_le (by rw [L_len]; omega)]
    rfl
  | b + 1, pos, h => by
    simp only [anyOdd]
    by_cases hp : pos < s.size
    · have hne : (L s).drop pos ≠ [] := by
        intro e
        have := congrArg List.length e
        rw [List.length_drop, L_len, List.length_nil] at this
        omega
      have hw := wd_pos ((L s).drop pos)
      rw [if_pos hp, dec_drop, odd_from s b _ (by unfold wd at hw; omega), runes_step _ hne, List.drop_drop, List.any_cons]
      congr 1
      unfold oddR rn
      rw [head_decode _ hne]
    · rw [if_neg hp, List.drop_of_length_le (by rw [L_len]; omega)]
      rfl
theorem flat_len (l : List UInt8) (h : l ≠ []) : (l.take (wd l)).length = wd l := by
  rw [List.length_take]
  have := wd_le l h
  omega
/-- The first runes of a text. -/
def firstL (l : List UInt8) (n : Nat) : List UInt8 := ((runes l).take n).flatten
theorem first_take (l : List UInt8) (n : Nat) : l.take (firstL l n).length = firstL l n := by
  have h := runes_flat l
  rw [← List.take_append_drop n (runes l), List.flatten_append] at h
  unfold firstL
  generalize ((runes l).take n).flatten = x at h ⊢
  rw [← h]
  simp
theorem first_le (l : List UInt8) (n : Nat) : (firstL l n).length ≤ l.length := by
  have h := congrArg List.length (first_take l n)
  rw [List.length_take] at h
  omega
theorem cut_from (s : ByteArray) : ∀ (b pos : Nat) (n : Int), s.size ≤ pos + b → pos ≤ s.size → cutFrom s b pos n = pos + (firstL ((L s).drop pos) n.toNat).length
  | 0, pos, n, h, h2 => by
    rw [List.drop_of_length_le (by rw [L_len]; omega)]
    simp [cutFrom, firstL, runes_nil]
    omega
  | b + 1, pos, n, h, h2 => by
    simp only [cutFrom]
    by_cases hp : pos < s.size
    · have hne : (L s).drop pos ≠ [] := by
        intro e
        have := congrArg List.length e
        rw [List.length_drop, L_len, List.length_nil] at this
        omega
      have hw := wd_pos ((L s).drop pos)
      have hwl := wd_le _ hne
      rw [List.length_drop, L_len] at hwl
      rw [if_pos hp]
      by_cases hn : n < 1
      · rw [if_pos hn, show n.toNat = 0 by omega]
        simp [firstL]
      · rw [if_neg hn, dec_drop, cut_from s b _ (n - 1) (by unfold wd at hw; omega) (by unfold wd at hwl; omega)]
        obtain ⟨m, hm⟩ : ∃ m, n.toNat = m + 1 := ⟨n.toNat - 1, by omega⟩
        rw [show (n - 1).toNat = m by omega, hm]
        unfold firstL
        rw [runes_step _ hne, List.take_succ_cons, List.flatten_cons, List.length_append, flat_len _ hne, List.drop_drop]
        unfold wd
        omega
    · rw [if_neg hp, List.drop_of_length_le (by rw [L_len]; omega)]
      simp [firstL, runes_nil]
      omega
theorem cut_is (s : ByteArray) (n : Int) (h : s.size < 9223372036854775807) (hn : n < 9223372036854775808) : ∃ t, name_Cut.f s n = some t ∧ L t = firstL (L s) n.toNat := by
  refine ⟨s.extract 0 (cutFrom s s.size 0 n), ?_, ?_⟩
  · unfold name_Cut.f
    rw [if_pos ⟨h, hn⟩]
  · rw [L_take, cut_from s s.size 0 n (by omega) (by omega), List.drop_zero, Nat.zero_add, first_take]
/-- A byte, folded. -/
def fo (c : UInt8) : UInt8 := if 65 ≤ c ∧ c ≤ 90 then c + 32 else c
theorem fo_nat : ∀ c : UInt8, ((fo c).toNat : Int) = fd (c.toNat : Int) := by
  intro c
  have h : ∀ n : Fin 256, ((fo (UInt8.ofNat n.val)).toNat : Int) = fd (n.val : Int) := by decide +kernel
  have h2 := h ⟨c.toNat, c.toNat_lt⟩
  simpa using h2
theorem fold_all (s : ByteArray) : L (strOfNums (foldL s s.size)) = (L s).map fo := by
  rw [L, strOfNums_data]
  apply List.ext_getElem
  · simp [foldL]
  · intro i h1 h2
    have hi : i < s.size := by simpa [foldL] using h1
    simp only [foldL, List.getElem_map, List.getElem_range, if_pos hi]
    rw [bt_at8]
    have e : at8 s i = ((L s)[i]'(by rw [L_len]; exact hi)).toNat := by
      unfold at8
      simp only [List.getD]
      rw [List.getElem?_eq_getElem (by rw [L_len]; exact hi)]
      rfl
    rw [e, ← fo_nat, Int.toNat_natCast, UInt8.ofNat_toNat]
theorem fold_is (s : ByteArray) (h : s.size < 140737488355328) : ∃ t, name_Fold.f s = some t ∧ L t = (L s).map fo := by
  refine ⟨_, ?_, fold_all s⟩
  unfold name_Fold.f
  rw [if_pos h]
/-- Is a text a name? -/
def isName (l : List UInt8) : Bool :=
  decide (good l) && !(runes l).any oddR && decide (1 ≤ (runes l).length) && decide ((runes l).length ≤ 32) && l != [46] && l != [46, 46] && l.head? != some 32 && l.getLast? != some 32
theorem prefix_is (s : ByteArray) (h : s.size < 9223372036854775807) : strings_HasPrefix.f s ⟨#[32]⟩ = some ((L s).head? == some 32) := by
  unfold strings_HasPrefix.f stringslite_HasPrefix.f
  have e1 : (⟨#[32]⟩ : ByteArray).size = 1 := rfl
  rw [e1]
  by_cases h1 : (s.size : Int) ≥ ((1 : Nat) : Int)
  · rw [if_pos h1, if_pos (by omega), if_pos (by omega)]
    simp only [Option.bind_some]
    rw [toL, toL, show ((((1 : Nat) : Int)).toNat) = 1 from rfl, L_take]
    rw [← L_len] at h1
    generalize L s = l at h1 ⊢
    cases l with
    | nil => simp at h1
    | cons a r =>
      simp only [List.take_succ_cons, List.take_zero, List.head?_cons]
      show some ([a] == [(32 : UInt8)]) = some (some a == some 32)
      simp
  · rw [if_neg h1]
    have : L s = [] := (L_nil s).2 (by omega)
    rw [this]
    rfl
theorem suffix_is (s : ByteArray) (h : s.size < 9223372036854775807) : strings_HasSuffix.f s ⟨#[32]⟩ = some ((L s).getLast? == some 32) := by
  unfold strings_HasSuffix.f stringslite_HasSuffix.f
  have e1 : (⟨#[32]⟩ : ByteArray).size = 1 := rfl
  rw [e1]
  by_cases h1 : (s.size : Int) ≥ ((1 : Nat) : Int)
  · have e2 : wrap64 ((s.size : Int) - ((1 : Nat) : Int)) = ((s.size - 1 : Nat) : Int) := by rw [w64 _ (by omega) (by omega)]; omega
    rw [if_pos h1, e2, if_pos (by omega), if_pos (by omega)]
    simp only [Option.bind_some]
    rw [toL, toL, Int.toNat_natCast, L_drop, ← L_len]
    rw [← L_len] at h1
    generalize L s = l at h1 ⊢
    rcases List.eq_nil_or_concat l with rfl | ⟨r, a, rfl⟩
    · simp at h1
    · simp
      show ([a] == [(32 : UInt8)]) = (a == 32)
      simp
  · rw [if_neg h1]
    have : L s = [] := (L_nil s).2 (by omega)
    rw [this]
    rfl
theorem check_is (s : ByteArray) (h : s.size < 9223372036854775807) : name_Check.f s = some (if isName (L s) = true then 0 else 80) := by
  unfold name_Check.f isName
  rw [if_pos h, odd_from s s.size 0 (by omega), Lib.runeCount, count_from s s.size 0 (by omega), List.drop_zero, toL, prefix_is s h, suffix_is s h]
  by_cases c1 : (runes (L s)).any oddR = true
  · rw [if_pos c1, c1]; simp
  rw [if_neg c1]
  replace c1 := Bool.eq_false_iff.mpr c1
  by_cases c2 : (runes (L s)).length < 1
  · rw [if_pos c2, decide_eq_false (show ¬ 1 ≤ (runes (L s)).length by omega)]; simp
  rw [if_neg c2, decide_eq_true (show 1 ≤ (runes (L s)).length by omega)]
  by_cases c3 : 32 < (runes (L s)).length
  · rw [if_pos c3, decide_eq_false (show ¬ (runes (L s)).length ≤ 32 by omega)]; simp
  rw [if_neg c3, decide_eq_true (show (runes (L s)).length ≤ 32 by omega)]
  by_cases c4 : Lib.validD (L s) = false
  · rw [if_pos c4, decide_eq_false (fun hg => by rw [(valid_good _).2 hg] at c4; cases c4)]; simp
  rw [if_neg c4, decide_eq_true ((valid_good _).1 (by simpa using c4)), c1]
  by_cases c5 : L s = [46]
  · rw [if_pos c5]; simp [c5]
  rw [if_neg c5]
  by_cases c6 : L s = [46, 46]
  · rw [if_pos c6]; simp [c6]
  rw [if_neg c6, bne_iff_ne.mpr c5, bne_iff_ne.mpr c6]
  simp only [Option.bind_some]
  by_cases d1 : ((L s).head? == some 32) = true
  · have e1 : ((L s).head? != some 32) = false := by rw [bne, d1]; rfl
    rw [if_pos d1, e1]; simp only [Bool.and_false, Bool.false_and]; rw [if_neg (by simp)]
  have e1 : ((L s).head? != some 32) = true := by rw [bne, Bool.eq_false_iff.mpr d1]; rfl
  rw [if_neg d1, e1]
  by_cases d2 : ((L s).getLast? == some 32) = true
  · have e2 : ((L s).getLast? != some 32) = false := by rw [bne, d2]; rfl
    rw [if_pos d2, e2]; simp only [Bool.and_false, Bool.false_and]; rw [if_neg (by simp)]
  have e2 : ((L s).getLast? != some 32) = true := by rw [bne, Bool.eq_false_iff.mpr d2]; rfl
  rw [if_neg d2, e2]
  rfl
/-! ### the reference's -/
theorem res2 (d : Nat × Nat) : (res d).2 = (d.2 : Int) := rfl
theorem ne_of_size {x : ByteArray} (h : L x ≠ []) : x.size ≠ 0 := fun e => h ((L_nil x).2 e)
theorem rcount (n : Nat) : ∀ (x : ByteArray) (k acc : Nat), x.size ≤ n → n + 10 ≤ k → acc + n < 4611686018427387904 → samphireref08_Count.l0 k x acc = some ((acc + (runes (L x)).length : Nat) : Int) := by
  induction n with
  | zero =>
    intro x k acc hx hk _
    obtain ⟨k, rfl⟩ : ∃ j, k = j + 1 := ⟨k - 1, by omega⟩
    have e : L x = [] := (L_nil x).2 (by omega)
    simp only [samphireref08_Count.l0]
    rw [toL, e, if_pos rfl]
    simp [runes_nil]
  | succ n ih =>
    intro x k acc hx hk ha
    obtain ⟨k, rfl⟩ : ∃ j, k = j + 1 := ⟨k - 1, by omega⟩
    simp only [samphireref08_Count.l0]
    rw [toL]
    by_cases e : L x = []
    · rw [if_pos e, e]
      simp [runes_nil]
    · have hw := wd_pos (L x)
      have hwl := wd_le _ e
      rw [L_len] at hwl
      rw [if_neg e, one_is x (ne_of_size e) k (by omega)]
      simp only [Option.bind_some]
      rw [res2, if_pos (by omega), if_pos (by unfold wd at hwl; omega), Int.toNat_natCast, w64 _ (by omega) (by omega)]
      have hsz : (x.extract (decodeL (L x)).2 x.size).size ≤ n := by
        rw [← L_len, L_drop, List.length_drop, L_len]
        unfold wd at hw hwl
        omega
      rw [show ((acc : Int) + 1) = ((acc + 1 : Nat) : Int) from rfl, ih _ k (acc + 1) hsz (by omega) (by omega), L_drop, runes_step _ e, List.length_cons]
      congr 2
      unfold wd
      omega
theorem rcount_is (x : ByteArray) (k : Nat) (h : x.size < 4611686018427387904) (hk : x.size + 10 ≤ k) : samphireref08_Count.f k x = some ((runes (L x)).length : Int) := by
  unfold samphireref08_Count.f
  rw [show (0 : Int) = ((0 : Nat) : Int) from rfl, rcount x.size x k 0 (Nat.le_refl _) hk (by omega), Nat.zero_add]
theorem first_zero (l : List UInt8) : firstL l 0 = [] := rfl
theorem first_nil (n : Nat) : firstL [] n = [] := by simp [firstL, runes_nil]
theorem first_step (l : List UInt8) (h : l ≠ []) (n : Nat) : firstL l (n + 1) = l.take (wd l) ++ firstL (l.drop (wd l)) n := by
  unfold firstL
  rw [runes_step l h, List.take_succ_cons, List.flatten_cons]
theorem rcut (x : ByteArray) (n : Int) (hn : n < 9223372036854775808) (hx : x.size < 4611686018427387904) : ∀ (d k p i : Nat), x.size - p ≤ d → p ≤ x.size → d + 10 ≤ k → i ≤ p →
    samphireref08_Cut.l0 k x n p i = some (x.extract 0 (p + (firstL ((L x).drop p) (n - i).toNat).length)) := by
  intro d
  induction d with
  | zero =>
    intro k p i hd hp hk hi
    obtain ⟨k, rfl⟩ : ∃ j, k = j + 1 := ⟨k - 1, by omega⟩
    have hpe : p = x.size := by omega
    simp only [samphireref08_Cut.l0]
    rw [List.drop_of_length_le (by rw [L_len]; omega), first_nil, if_neg (show ¬ ((p : Nat) : Int) < (x.size : Int) by omega), if_pos (show (0 : Int) ≤ ((p : Nat) : Int) by omega), if_pos (show ((p : Nat) : Int) ≤ (x.size : Int) by omega)]
    simp
  | succ d ih =>
    intro k p i hd hp hk hi
    obtain ⟨k, rfl⟩ : ∃ j, k = j + 1 := ⟨k - 1, by omega⟩
    simp only [samphireref08_Cut.l0]
    by_cases c1 : (i : Int) < n
    · rw [if_pos c1]
      by_cases c2 : p < x.size
      · have hne : (L x).drop p ≠ [] := by
          intro e
          have := congrArg List.length e
          rw [List.length_drop, L_len, List.length_nil] at this
          omega
        have hw := wd_pos ((L x).drop p)
        have hwl := wd_le _ hne
        rw [List.length_drop, L_len] at hwl
        have hne2 : (x.extract p x.size).size ≠ 0 := by
          rw [← L_len, L_drop, List.length_drop, L_len]
          omega
        rw [if_pos (by omega), if_pos (by omega), if_pos (by omega), Int.toNat_natCast, one_is _ hne2 k (by omega)]
        simp only [Option.bind_some]
        rw [res2, L_drop, w64 _ (by unfold wd at hwl; omega) (by unfold wd at hwl; omega), w64 _ (by omega) (by omega)]
        rw [show ((p : Int) + ((decodeL ((L x).drop p)).2 : Int)) = ((p + wd ((L x).drop p) : Nat) : Int) from rfl, show ((i : Int) + 1) = ((i + 1 : Nat) : Int) from rfl,
          ih k _ _ (by omega) (by omega) (by omega) (by omega)]
        obtain ⟨m, hm⟩ : ∃ m, (n - (i : Int)).toNat = m + 1 := ⟨(n - (i : Int)).toNat - 1, by omega⟩
        rw [show (n - ((i + 1 : Nat) : Int)).toNat = m by omega, hm, first_step _ hne, List.length_append, flat_len _ hne, List.drop_drop]
        congr 2
        omega
      · rw [List.drop_of_length_le (by rw [L_len]; omega), first_nil, if_neg (by omega), if_pos (by omega), if_pos (by omega)]
        simp
    · rw [if_neg c1, if_pos (by omega), if_pos (by omega), show (n - (i : Int)).toNat = 0 by omega, first_zero]
      simp
theorem rcut_is (x : ByteArray) (n : Int) (k : Nat) (h : x.size < 4611686018427387904) (hn : n < 9223372036854775808) (hk : x.size + 10 ≤ k) : ∃ t, samphireref08_Cut.f k x n = some t ∧ L t = firstL (L x) n.toNat := by
  refine ⟨_, by unfold samphireref08_Cut.f; exact rcut x n hn h x.size k 0 0 (by omega) (by omega) hk (Nat.le_refl _), ?_⟩
  rw [L_take, List.drop_zero, Nat.zero_add, show (n - ((0 : Nat) : Int)) = n by omega, first_take]
theorem rfold (s : ByteArray) (hs : s.size < 140737488355328) : ∀ (d k i : Nat), s.size - i ≤ d → i ≤ s.size → d + 1 ≤ k →
    samphireref08_Fold.l0 k s ((foldL s s.size).take i) i = some (strOfNums (foldL s s.size)) := by
  intro d
  induction d with
  | zero =>
    intro k i hd hi hk
    obtain ⟨k, rfl⟩ : ∃ j, k = j + 1 := ⟨k - 1, by omega⟩
    simp only [samphireref08_Fold.l0]
    rw [if_neg (by omega), List.take_of_length_le (by rw [foldL_length]; omega)]
  | succ d ih =>
    intro k i hd hi hk
    obtain ⟨k, rfl⟩ : ∃ j, k = j + 1 := ⟨k - 1, by omega⟩
    simp only [samphireref08_Fold.l0]
    by_cases c1 : i < s.size
    · have hr := bt_range s (i : Int)
      have hlen : ((foldL s s.size).take i).length < 140737488355328 := by rw [List.length_take, foldL_length]; omega
      have hnext : ∀ v, v = fd (bt s (i : Int)) → samphireref08_Fold.l0 k s ((foldL s s.size).take i ++ [v]) (wrap64 ((i : Int) + 1)) = some (strOfNums (foldL s s.size)) := by
        rintro v rfl
        rw [w64 _ (by omega) (by omega), show ((i : Int) + 1) = ((i + 1 : Nat) : Int) from rfl, ← ih k (i + 1) (by omega) (by omega) (by omega)]
        congr 1
        rw [List.take_succ_eq_append_getElem (by rw [foldL_length]; exact c1)]
        congr 2
        simp [foldL, c1]
      rw [if_pos (by omega), if_pos (by omega)]
      by_cases c2 : bt s (i : Int) ≥ 65
      · rw [if_pos c2]
        by_cases c3 : bt s (i : Int) ≤ 90
        · rw [if_pos c3, if_pos hlen]
          exact hnext _ (by unfold fd; rw [if_pos ⟨c2, c3⟩]; omega)
        · rw [if_neg c3, if_pos hlen]
          exact hnext _ (by unfold fd; rw [if_neg (by omega)])
      · rw [if_neg c2, if_pos hlen]
        exact hnext _ (by unfold fd; rw [if_neg (by omega)])
    · rw [if_neg (by omega), List.take_of_length_le (by rw [foldL_length]; omega)]
theorem rfold_is (s : ByteArray) (k : Nat) (h : s.size < 140737488355328) (hk : s.size + 1 ≤ k) : ∃ t, samphireref08_Fold.f k s = some t ∧ L t = (L s).map fo := by
  refine ⟨_, ?_, fold_all s⟩
  unfold samphireref08_Fold.f
  exact rfold s h s.size k 0 (by omega) (by omega) hk
/-- Are all runes of a name's? -/
def fine (l : List UInt8) : Bool := decide (good l) && !(runes l).any oddR
theorem fine_step (l : List UInt8) (h : l ≠ []) : fine l = (decide (¬ bad l) && !oddR l && fine (l.drop (wd l))) := by
  unfold fine
  have e0 : decide (good l) = (decide (¬ bad l) && decide (good (l.drop (wd l)))) := by rw [Bool.eq_iff_iff]; simp [good_step l h]
  rw [runes_step l h, List.any_cons, e0]
  have e : oddR (l.take (wd l)) = oddR l := by unfold oddR rn; rw [head_decode l h]
  rw [e]
  by_cases h1 : bad l <;> by_cases h2 : good (l.drop (wd l)) <;> cases oddR l <;> simp [h1, h2]
theorem rcheck_loop (n : Nat) : ∀ (x : ByteArray) (k c : Nat), x.size ≤ n → n + 10 ≤ k → c ≤ 32 →
    samphireref08_Check.l0 k c x = some (if fine (L x) = true ∧ c + (runes (L x)).length ≤ 32 then 0 else 80) := by
  induction n with
  | zero =>
    intro x k c hx hk hc
    obtain ⟨k, rfl⟩ : ∃ j, k = j + 1 := ⟨k - 1, by omega⟩
    have e : L x = [] := (L_nil x).2 (by omega)
    simp only [samphireref08_Check.l0]
    rw [toL, e, if_pos rfl, if_pos ⟨by decide, by rw [runes_nil]; simpa using hc⟩]
  | succ n ih =>
    intro x k c hx hk hc
    obtain ⟨k, rfl⟩ : ∃ j, k = j + 1 := ⟨k - 1, by omega⟩
    simp only [samphireref08_Check.l0]
    rw [toL]
    by_cases e : L x = []
    · rw [if_pos e, e, if_pos ⟨by decide, by rw [runes_nil]; simpa using hc⟩]
    have hw := wd_pos (L x)
    have hwl := wd_le _ e
    rw [L_len] at hwl
    have hsz : (x.extract (wd (L x)) x.size).size ≤ n := by
      rw [← L_len, L_drop, List.length_drop, L_len]
      omega
    rw [if_neg e, one_is x (ne_of_size e) k (by omega)]
    simp only [Option.bind_some]
    rw [res2, fine_step _ e, runes_step _ e, List.length_cons]
    by_cases hb : bad (L x)
    · have : (res (decodeL (L x))).1 = -1 := by unfold res; exact if_pos hb
      rw [this, if_pos (by omega), if_neg (by simp [hb])]
    have hr : (res (decodeL (L x))).1 = (rn (L x) : Int) := by unfold res; exact if_neg hb
    rw [hr, decide_eq_true hb]
    have hod : oddR (L x) = oddB (rn (L x) : Int) := rfl
    rw [hod]
    generalize hrn : (rn (L x) : Int) = r
    have hgo : (if (c : Int) ≥ 32 then some 80 else if 0 ≤ ((decodeL (L x)).2 : Int) then if ((decodeL (L x)).2 : Int) ≤ (x.size : Int) then samphireref08_Check.l0 k (wrap64 ((c : Int) + 1)) (x.extract (((decodeL (L x)).2 : Int)).toNat x.size) else none else none) =
        some (if fine ((L x).drop (wd (L x))) = true ∧ c + ((runes ((L x).drop (wd (L x)))).length + 1) ≤ 32 then 0 else 80) := by
      by_cases c1 : (c : Int) ≥ 32
      · rw [if_pos c1, if_neg (by omega)]
      · rw [if_neg c1, if_pos (by omega), if_pos (by unfold wd at hwl; omega), w64 _ (by omega) (by omega), Int.toNat_natCast, show ((c : Int) + 1) = ((c + 1 : Nat) : Int) from rfl, ih _ k (c + 1) hsz (by omega) (by omega), L_drop]
        unfold wd
        rw [show c + ((runes (List.drop (decodeL (L x)).snd (L x))).length + 1) = c + 1 + (runes (List.drop (decodeL (L x)).snd (L x))).length by omega]
    rw [hgo]
    unfold oddB
    by_cases h1 : r < 32
    · rw [if_pos h1, decide_eq_true h1]; simp
    rw [if_neg h1, decide_eq_false h1]
    by_cases h2 : r = 47
    · rw [if_pos h2, decide_eq_true h2]; simp
    rw [if_neg h2, decide_eq_false h2]
    by_cases h3 : r ≥ 127
    · rw [if_pos h3, decide_eq_true (show 127 ≤ r from h3)]
      by_cases h4 : r ≤ 159
      · rw [if_pos h4, decide_eq_true h4]; simp
      · rw [if_neg h4, decide_eq_false h4]; simp
    · rw [if_neg h3, decide_eq_false (show ¬ 127 ≤ r from h3)]; simp
theorem rcheck_is (x : ByteArray) (k : Nat) (h : x.size < 4611686018427387904) (hk : x.size + 12 ≤ k) : samphireref08_Check.f k x = some (if isName (L x) = true then 0 else 80) := by
  obtain ⟨k, rfl⟩ : ∃ j, k = j + 1 := ⟨k - 1, by omega⟩
  unfold samphireref08_Check.f isName
  rw [toL]
  simp only [samphireref08_Check.j0]
  by_cases c1 : L x = [46]
  · rw [if_pos c1, if_pos trivial, if_neg (by simp [c1])]
  rw [if_neg c1]
  by_cases c2 : L x = [46, 46]
  · rw [if_pos c2, if_pos trivial, if_neg (by simp [c2])]
  rw [if_neg c2]
  by_cases c3 : L x = []
  · rw [if_pos c3, if_pos trivial, if_neg (by simp [c3, runes_nil])]
  have hz := ne_of_size c3
  rw [if_neg c3, if_pos (by omega), show bt x 0 = (at8 x 0 : Int) from bt_at8 x 0]
  have hh : (L x).head? = some ((L x).getD 0 0) := by
    generalize L x = l at c3
    cases l with
    | nil => exact absurd rfl c3
    | cons a r => rfl
  by_cases c4 : ((at8 x 0 : Nat) : Int) = 32
  · have e : (L x).head? = some 32 := by
      rw [hh]
      congr 1
      apply UInt8.toNat_inj.1
      show at8 x 0 = 32
      omega
    rw [if_pos c4, if_pos trivial, if_neg (by simp [e])]
  have hh2 : (L x).head? ≠ some 32 := by
    intro e
    rw [hh] at e
    have := congrArg UInt8.toNat (Option.some.inj e)
    exact c4 (by show ((((L x).getD 0 0).toNat : Nat) : Int) = 32; rw [this]; rfl)
  have e2 : wrap64 ((x.size : Int) - 1) = ((x.size - 1 : Nat) : Int) := by rw [w64 _ (by omega) (by omega)]; omega
  rw [if_neg c4, e2, if_pos (by omega), if_pos (by omega), bt_at8]
  have hg : (L x).getLast? = some ((L x).getD (x.size - 1) 0) := by
    rw [← L_len]
    generalize L x = l at c3
    rw [List.getLast?_eq_getElem?]
    simp only [List.getD]
    rw [List.getElem?_eq_getElem (by have := List.length_pos_iff.2 c3; omega)]
    rfl
  have hg2 : ((((at8 x (x.size - 1) : Nat) : Int) == 32) = ((L x).getLast? == some 32)) := by
    rw [hg]
    by_cases e : (L x).getD (x.size - 1) 0 = 32
    · rw [e, show at8 x (x.size - 1) = 32 from congrArg UInt8.toNat e]; rfl
    · have e3 : ¬ (((at8 x (x.size - 1) : Nat) : Int) = 32) := fun e4 => e (UInt8.toNat_inj.1 (show at8 x (x.size - 1) = 32 by omega))
      rw [beq_eq_false_iff_ne.mpr e3, beq_eq_false_iff_ne.mpr (fun e4 => e (Option.some.inj e4))]
  rw [hg2]
  cases hlast : ((L x).getLast? == some 32) with
  | true => rw [if_pos rfl, if_neg (by simp only [bne, hlast, Bool.not_true, Bool.and_false]; simp)]
  | false =>
    rw [if_neg (by simp), show (0 : Int) = ((0 : Nat) : Int) from rfl, rcheck_loop x.size x k 0 (Nat.le_refl _) (by omega) (by omega)]
    have hp : 1 ≤ (runes (L x)).length := by rw [runes_step _ c3]; simp
    congr 2
    simp only [fine, bne, hlast, beq_eq_false_iff_ne.mpr hh2, beq_eq_false_iff_ne.mpr c1, beq_eq_false_iff_ne.mpr c2, decide_eq_true hp, Nat.zero_add]
    simp
end Go.Proofs.YtlipgfahjmgekabDoor.S
