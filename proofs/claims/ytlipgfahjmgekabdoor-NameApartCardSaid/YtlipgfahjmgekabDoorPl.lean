/- Runes of lists of bytes: plain laws, no program in sight. -/
import Derived.Lib.ValidLaws
import Derived.Lib.RuneCount
namespace Go.Proofs.YtlipgfahjmgekabDoor.Pl
open Go Go.Lib
set_option linter.unusedVariables false
set_option linter.unusedSimpArgs false
set_option maxRecDepth 100000 in
set_option maxHeartbeats 4000000 in
theorem decodeN_le (n b0 b1 b2 b3 : Nat) (hn : 1 ≤ n) : (decodeN n b0 b1 b2 b3).2 ≤ n := by
  unfold decodeN
  repeat' split
  all_goals (simp only; omega)
set_option maxRecDepth 100000 in
set_option maxHeartbeats 8000000 in
theorem decodeN_app (n n' b0 b1 b2 b3 c1 c2 c3 : Nat) (hn : 1 ≤ n) (h : n ≤ n') (e1 : 1 < n → c1 = b1) (e2 : 2 < n → c2 = b2) (e3 : 3 < n → c3 = b3)
    (hb : decodeN n b0 b1 b2 b3 ≠ (65533, 1)) : decodeN n' b0 c1 c2 c3 = decodeN n b0 b1 b2 b3 := by
  by_cases h0 : b0 < 128
  · rw [decodeN_ascii _ _ _ _ _ h0, decodeN_ascii _ _ _ _ _ h0]
  by_cases h1 : 1 < n
  · obtain rfl := e1 h1
    by_cases h2 : 2 < n
    · obtain rfl := e2 h2
      by_cases h3 : 3 < n
      · obtain rfl := e3 h3
        unfold decodeN
        simp only [h1, h2, h3, show 1 < n' by omega, show 2 < n' by omega, show 3 < n' by omega]
      · revert hb
        unfold decodeN
        simp only [h1, h2, h3, show 1 < n' by omega, show 2 < n' by omega, false_and, and_false, true_and, if_false]
        repeat' split
        all_goals first | (intro hb; exact absurd rfl hb) | (intro _; rfl) | (exfalso; omega)
    · revert hb
      unfold decodeN
      simp only [h1, h2, show 1 < n' by omega, false_and, and_false, true_and, if_false]
      repeat' split
      all_goals first | (intro hb; exact absurd rfl hb) | (intro _; rfl) | (exfalso; omega)
  · revert hb
    unfold decodeN
    simp only [h1, h0, false_and, and_false, if_false]
    intro hb
    exact absurd rfl hb
/-- A step of the decoder that is none of UTF-8. -/
def bad (l : List UInt8) : Prop := decodeL l = (65533, 1)
instance (l : List UInt8) : Decidable (bad l) := inferInstanceAs (Decidable (_ = _))
abbrev wd (l : List UInt8) : Nat := (decodeL l).2
abbrev rn (l : List UInt8) : Nat := (decodeL l).1
theorem wd_pos (l : List UInt8) : 1 ≤ wd l := decodeL_width l
theorem wd_le (l : List UInt8) (h : l ≠ []) : wd l ≤ l.length := by
  unfold wd
  rw [decodeL_N]
  exact decodeN_le _ _ _ _ _ (List.length_pos_iff.2 h)
theorem getD_app (l m : List UInt8) (i : Nat) (h : i < l.length) : (l ++ m).getD i 0 = l.getD i 0 := by
  simp [List.getD, List.getElem?_append_left h]
/-- What is read of UTF-8 is read so whatever stands behind. -/
theorem decode_app (l m : List UInt8) (h : l ≠ []) (hb : ¬ bad l) : decodeL (l ++ m) = decodeL l := by
  have hl := List.length_pos_iff.2 h
  unfold bad at hb
  rw [decodeL_N] at hb
  rw [decodeL_N, decodeL_N l, getD_app l m 0 hl]
  exact decodeN_app _ _ _ _ _ _ _ _ _ hl (by simp) (fun h => by rw [getD_app l m 1 h]) (fun h => by rw [getD_app l m 2 h]) (fun h => by rw [getD_app l m 3 h]) hb
set_option maxRecDepth 100000 in
set_option maxHeartbeats 8000000 in
theorem decodeN_take (n n' b0 b1 b2 b3 c1 c2 c3 : Nat) (hn : 1 ≤ n') (h : n' ≤ n) (e1 : 1 < n' → c1 = b1) (e2 : 2 < n' → c2 = b2) (e3 : 3 < n' → c3 = b3)
    (hw : (decodeN n b0 b1 b2 b3).2 ≤ n') : decodeN n' b0 c1 c2 c3 = decodeN n b0 b1 b2 b3 := by
  by_cases hb : decodeN n' b0 c1 c2 c3 = (65533, 1)
  · revert hw hb
    by_cases h0 : b0 < 128
    · rw [decodeN_ascii _ _ _ _ _ h0, decodeN_ascii _ _ _ _ _ h0]
      intros; rfl
    by_cases h1 : 1 < n'
    · obtain rfl := e1 h1
      by_cases h2 : 2 < n'
      · obtain rfl := e2 h2
        by_cases h3 : 3 < n'
        · obtain rfl := e3 h3
          unfold decodeN
          simp only [h1, h2, h3, show 1 < n by omega, show 2 < n by omega, show 3 < n by omega]
          intros; trivial
        · unfold decodeN
          simp only [h1, h2, h3, show 1 < n by omega, show 2 < n by omega, false_and, and_false, true_and, if_false]
          repeat' split
          all_goals first | (intros; rfl) | (intro hw hb; exact absurd hw (by simp only; omega)) | (exfalso; omega)
      · unfold decodeN
        simp only [h1, h2, show 1 < n by omega, false_and, and_false, true_and, if_false]
        repeat' split
        all_goals first | (intros; rfl) | (intro hw hb; exact absurd hw (by simp only; omega)) | (exfalso; omega)
    · unfold decodeN
      simp only [h1, h0, false_and, and_false, if_false]
      repeat' split
      all_goals first | (intros; rfl) | (intro hw hb; exact absurd hw (by simp only; omega)) | (exfalso; omega)
  · exact (decodeN_app n' n b0 c1 c2 c3 b1 b2 b3 hn h (fun h => (e1 h).symm) (fun h => (e2 h).symm) (fun h => (e3 h).symm) hb).symm
/-- A step reads no further than the bytes that it takes. -/
theorem decode_take (l : List UInt8) (k : Nat) (h : l ≠ []) (hk : wd l ≤ k) : decodeL (l.take k) = decodeL l := by
  by_cases hkl : l.length ≤ k
  · rw [List.take_of_length_le hkl]
  have hl := List.length_pos_iff.2 h
  have hp := wd_pos l
  have hk0 : 1 ≤ k := by omega
  clear hp
  unfold wd at hk
  rw [decodeL_N l] at hk
  rw [decodeL_N (l.take k), decodeL_N l, getD_takeU l k 0 (by omega)]
  exact decodeN_take _ _ _ _ _ _ _ _ _ (by rw [List.length_take]; omega) (by rw [List.length_take]; omega) (fun h => by rw [List.length_take] at h; rw [getD_takeU l k 1 (by omega)]) (fun h => by rw [List.length_take] at h; rw [getD_takeU l k 2 (by omega)]) (fun h => by rw [List.length_take] at h; rw [getD_takeU l k 3 (by omega)]) (by rw [List.length_take, Nat.min_eq_left (by omega)]; exact hk)
/-- The runes of a text, each as its bytes. -/
def runs : Nat → List UInt8 → List (List UInt8)
  | 0, _ => []
  | n + 1, l => if l = [] then [] else l.take (wd l) :: runs n (l.drop (wd l))
def runes (l : List UInt8) : List (List UInt8) := runs l.length l
theorem runs_nil : ∀ n, runs n [] = []
  | 0 => rfl
  | _ + 1 => by simp [runs]
theorem runs_fuel : ∀ (n m : Nat) (l : List UInt8), l.length ≤ n → l.length ≤ m → runs n l = runs m l
  | 0, m, l, hn, _ => by
    obtain rfl : l = [] := List.eq_nil_of_length_eq_zero (by omega)
    rw [runs_nil, runs_nil]
  | n + 1, 0, l, _, hm => by
    obtain rfl : l = [] := List.eq_nil_of_length_eq_zero (by omega)
    rw [runs_nil, runs_nil]
  | n + 1, m + 1, l, hn, hm => by
    unfold runs
    by_cases hne : l = []
    · simp [hne]
    · have hw := wd_pos l
      rw [if_neg hne, if_neg hne, runs_fuel n m (l.drop (wd l)) (by rw [List.length_drop]; omega) (by rw [List.length_drop]; omega)]
theorem runes_nil : runes [] = [] := rfl
theorem runes_step (l : List UInt8) (h : l ≠ []) : runes l = l.take (wd l) :: runes (l.drop (wd l)) := by
  have hl := List.length_pos_iff.2 h
  have hw := wd_pos l
  obtain ⟨n, hn⟩ : ∃ n, l.length = n + 1 := ⟨l.length - 1, by omega⟩
  unfold runes
  rw [hn]
  show (if l = [] then [] else _) = _
  rw [if_neg h, runs_fuel n (l.drop (wd l)).length _ (by rw [List.length_drop]; omega) (Nat.le_refl _)]
/-- Induction by runes. -/
theorem rune_ind {p : List UInt8 → Prop} (h0 : p []) (h1 : ∀ l, l ≠ [] → p (l.drop (wd l)) → p l) : ∀ l, p l := by
  intro l
  induction hn : l.length using Nat.strongRecOn generalizing l with
  | _ n ih =>
    by_cases hl : l = []
    · rw [hl]; exact h0
    · have := List.length_pos_iff.2 hl
      have := wd_pos l
      exact h1 l hl (ih _ (by rw [List.length_drop]; omega) _ rfl)
theorem runes_flat (l : List UInt8) : (runes l).flatten = l := by
  induction l using rune_ind with
  | h0 => rfl
  | h1 l hl ih => rw [runes_step l hl, List.flatten_cons, ih, List.take_append_drop]
/-- Each rune's bytes are read as that rune. -/
theorem head_decode (l : List UInt8) (h : l ≠ []) : decodeL (l.take (wd l)) = decodeL l := decode_take l _ h (Nat.le_refl _)
/-- A text of UTF-8 alone. -/
def good (l : List UInt8) : Prop := ∀ c ∈ runes l, ¬ bad c
instance (l : List UInt8) : Decidable (good l) := inferInstanceAs (Decidable (∀ c ∈ runes l, ¬ bad c))
theorem good_step (l : List UInt8) (h : l ≠ []) : good l ↔ ¬ bad l ∧ good (l.drop (wd l)) := by
  unfold good
  rw [runes_step l h]
  simp only [List.mem_cons, forall_eq_or_imp]
  unfold bad
  rw [head_decode l h]
theorem valid_good (l : List UInt8) : validD l = true ↔ good l := by
  induction l using rune_ind with
  | h0 => simp [validD_nil, good, runes_nil]
  | h1 l hl ih =>
    rw [validD_step l hl, good_step l hl]
    unfold bad
    rw [Prod.ext_iff]
    by_cases hc : (decodeL l).1 = 65533 ∧ (decodeL l).2 = 1
    · simp [hc]
    · rw [if_neg hc, ih]
      simp [hc]
/-- The runes of two texts are those of both, if the first is one of UTF-8. -/
theorem runes_append (a b : List UInt8) (h : good a) : runes (a ++ b) = runes a ++ runes b := by
  induction a using rune_ind with
  | h0 => rfl
  | h1 a ha ih =>
    obtain ⟨h1, h2⟩ := (good_step a ha).1 h
    have hd := decode_app a b ha h1
    have hw : wd (a ++ b) = wd a := by unfold wd; rw [hd]
    have hwl := wd_le a ha
    rw [runes_step (a ++ b) (by simp [ha]), runes_step a ha, hw, List.take_append_of_le_length hwl, List.drop_append_of_le_length hwl, ih h2]
    rfl
/-- The first runes, taken apart, are those runes. -/
theorem runes_take (l : List UInt8) : ∀ n, runes ((runes l).take n).flatten = (runes l).take n := by
  induction l using rune_ind with
  | h0 => intro n; simp [runes_nil]
  | h1 l hl ih =>
    intro n
    cases n with
    | zero => simp [runes_nil]
    | succ n =>
      have hwl := wd_le l hl
      have hwp := wd_pos l
      have hll := List.length_pos_iff.2 hl
      rw [runes_step l hl, List.take_succ_cons, List.flatten_cons]
      obtain ⟨k, hk⟩ : ∃ k, ((runes (l.drop (wd l))).take n).flatten = (l.drop (wd l)).take k := by
        have h := runes_flat (l.drop (wd l))
        rw [← List.take_append_drop n (runes (l.drop (wd l))), List.flatten_append] at h
        generalize ((runes (l.drop (wd l))).take n).flatten = x at h ⊢
        generalize ((runes (l.drop (wd l))).drop n).flatten = z at h
        rw [← h]
        exact ⟨x.length, by simp⟩
      have e : l.take (wd l) ++ (l.drop (wd l)).take k = l.take (wd l + k) := by
        rw [List.take_add]
      have hne : l.take (wd l + k) ≠ [] := by
        intro h
        have := congrArg List.length h
        rw [List.length_take, List.length_nil] at this
        omega
      have hd := decode_take l (wd l + k) hl (by omega)
      have hw : wd (l.take (wd l + k)) = wd l := by unfold wd; rw [hd]
      rw [hk, e, runes_step _ hne, hw, List.take_take, List.drop_take, show min (wd l) (wd l + k) = wd l by omega, show wd l + k - wd l = k by omega, ← hk, ih n]
end Go.Proofs.YtlipgfahjmgekabDoor.Pl
