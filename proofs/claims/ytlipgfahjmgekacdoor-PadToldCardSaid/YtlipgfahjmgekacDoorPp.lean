/- pad's sizes, padding and its undoing over lists of bytes: plain laws. -/
import Derived.Test.YtlipgfahjmgekacDoorPb
import Derived.Lib.Strings
namespace Go.Proofs.YtlipgfahjmgekacDoor.S
open Go.RowKit Go.Proofs.YtlipgfahjmgekacDoorW.PrintWords Go.Proofs.YtlipgfahjmgekacDoorW.PrintLast Go.Proofs.YtlipgfahjmgekacDoorW.PrintMore
set_option linter.unusedVariables false
set_option linter.unusedSimpArgs false
theorem upto_nine : upto 9 = [64, 128, 256, 512, 1024, 2048, 4096, 8192, 16384] := by decide
theorem sz_cases (a : Int) : ((a < 0 ∨ 16384 ≤ a) ∧ sz a = (0, 2)) ∨ (0 ≤ a ∧ a < 64 ∧ sz a = (64, 0)) ∨ (64 ≤ a ∧ a < 128 ∧ sz a = (128, 0)) ∨ (128 ≤ a ∧ a < 256 ∧ sz a = (256, 0)) ∨ (256 ≤ a ∧ a < 512 ∧ sz a = (512, 0)) ∨
    (512 ≤ a ∧ a < 1024 ∧ sz a = (1024, 0)) ∨ (1024 ≤ a ∧ a < 2048 ∧ sz a = (2048, 0)) ∨ (2048 ≤ a ∧ a < 4096 ∧ sz a = (4096, 0)) ∨ (4096 ≤ a ∧ a < 8192 ∧ sz a = (8192, 0)) ∨ (8192 ≤ a ∧ a < 16384 ∧ sz a = (16384, 0)) := by
  have hno : ∀ l : List Int, NoHit a l → szL a l = (0, 2) := fun l h => szL_none h
  have hsome : ∀ (q : List Int) (x : Int) (r : List Int), upto 9 = q ++ [x] ++ r → 0 ≤ a → a < x → (∀ y ∈ q, y ≤ a) → sz a = (x, 0) := by
    intro q x r e h0 h1 h2
    unfold sz
    rw [e]
    exact szL_some (fun y hy => by have := h2 y hy; unfold hit; rw [decide_eq_false (show ¬ a < y by omega), Bool.and_false]) (by unfold hit; rw [decide_eq_true h0, decide_eq_true h1]; rfl)
  by_cases h0 : a < 0
  · refine .inl ⟨.inl h0, hno _ fun y hy => ?_⟩
    unfold hit
    rw [decide_eq_false (show ¬ 0 ≤ a by omega), Bool.false_and]
  by_cases h9 : 16384 ≤ a
  · refine .inl ⟨.inr h9, hno _ fun y hy => ?_⟩
    rw [upto_nine] at hy
    unfold hit
    rw [decide_eq_false (show ¬ a < y by simp at hy; omega), Bool.and_false]
  by_cases h1 : a < 64
  · exact .inr (.inl ⟨by omega, h1, hsome [] 64 [128, 256, 512, 1024, 2048, 4096, 8192, 16384] upto_nine (by omega) h1 (fun y hy => by simp at hy)⟩)
  by_cases h2 : a < 128
  · exact .inr (.inr (.inl ⟨by omega, h2, hsome [64] 128 [256, 512, 1024, 2048, 4096, 8192, 16384] upto_nine (by omega) h2 (fun y hy => by simp at hy; omega)⟩))
  by_cases h3 : a < 256
  · exact .inr (.inr (.inr (.inl ⟨by omega, h3, hsome [64, 128] 256 [512, 1024, 2048, 4096, 8192, 16384] upto_nine (by omega) h3 (fun y hy => by simp at hy; omega)⟩)))
  by_cases h4 : a < 512
  · exact .inr (.inr (.inr (.inr (.inl ⟨by omega, h4, hsome [64, 128, 256] 512 [1024, 2048, 4096, 8192, 16384] upto_nine (by omega) h4 (fun y hy => by simp at hy; omega)⟩))))
  by_cases h5 : a < 1024
  · exact .inr (.inr (.inr (.inr (.inr (.inl ⟨by omega, h5, hsome [64, 128, 256, 512] 1024 [2048, 4096, 8192, 16384] upto_nine (by omega) h5 (fun y hy => by simp at hy; omega)⟩)))))
  by_cases h6 : a < 2048
  · exact .inr (.inr (.inr (.inr (.inr (.inr (.inl ⟨by omega, h6, hsome [64, 128, 256, 512, 1024] 2048 [4096, 8192, 16384] upto_nine (by omega) h6 (fun y hy => by simp at hy; omega)⟩))))))
  by_cases h7 : a < 4096
  · exact .inr (.inr (.inr (.inr (.inr (.inr (.inr (.inl ⟨by omega, h7, hsome [64, 128, 256, 512, 1024, 2048] 4096 [8192, 16384] upto_nine (by omega) h7 (fun y hy => by simp at hy; omega)⟩)))))))
  by_cases h8 : a < 8192
  · exact .inr (.inr (.inr (.inr (.inr (.inr (.inr (.inr (.inl ⟨by omega, h8, hsome [64, 128, 256, 512, 1024, 2048, 4096] 8192 [16384] upto_nine (by omega) h8 (fun y hy => by simp at hy; omega)⟩))))))))
  · exact .inr (.inr (.inr (.inr (.inr (.inr (.inr (.inr (.inr ⟨by omega, by omega, hsome [64, 128, 256, 512, 1024, 2048, 4096, 8192] 16384 [] upto_nine (by omega) (by omega) (fun y hy => by simp at hy; omega)⟩))))))))
/-- What is known of a size. -/
theorem sz_fits (n : Nat) (h : n < 16384) : ∃ S : Nat, sz n = ((S : Int), 0) ∧ n < S ∧ 64 ≤ S ∧ S ≤ 16384 := by
  rcases sz_cases n with h | h | h | h | h | h | h | h | h | h
  · omega
  · exact ⟨64, h.2.2, by omega, by omega, by omega⟩
  · exact ⟨128, h.2.2, by omega, by omega, by omega⟩
  · exact ⟨256, h.2.2, by omega, by omega, by omega⟩
  · exact ⟨512, h.2.2, by omega, by omega, by omega⟩
  · exact ⟨1024, h.2.2, by omega, by omega, by omega⟩
  · exact ⟨2048, h.2.2, by omega, by omega, by omega⟩
  · exact ⟨4096, h.2.2, by omega, by omega, by omega⟩
  · exact ⟨8192, h.2.2, by omega, by omega, by omega⟩
  · exact ⟨16384, h.2.2, by omega, by omega, by omega⟩
theorem sz_full (n : Int) (h : 16384 ≤ n) : sz n = (0, 2) := by
  rcases sz_cases n with h | h | h | h | h | h | h | h | h | h
  · exact h.2
  all_goals omega
abbrev L (s : ByteArray) : List UInt8 := s.data.toList
theorem L_len (s : ByteArray) : (L s).length = s.size := rfl
theorem toL (s : ByteArray) : s.toList = L s := Lib.toList_data s
theorem L_ext {a b : ByteArray} (h : L a = L b) : a = b := by
  cases a with | mk a => cases b with | mk b => congr 1; exact Array.toList_inj.1 h
theorem L_append (a b : ByteArray) : L (a ++ b) = L a ++ L b := by simp [L]
theorem L_take (s : ByteArray) (n : Nat) : L (s.extract 0 n) = (L s).take n := by show (s.extract 0 n).data.toList = _; rw [Lib.extract_data]; simp
theorem bt_getD (s : ByteArray) (i : Nat) : bt s (i : Int) = (((L s).getD i 0).toNat : Int) := by
  unfold bt
  by_cases h : i < s.size
  · simp only [Int.toNat_natCast]
    rw [dif_pos h]
    congr 2
    simp only [List.getD]
    rw [List.getElem?_eq_getElem (by simpa using h)]
    rfl
  · simp only [Int.toNat_natCast]
    rw [dif_neg h]
    simp only [List.getD]
    rw [List.getElem?_eq_none (by simpa using h)]
    rfl
theorem w64 (x : Int) (h : -9223372036854775808 ≤ x) (h2 : x < 9223372036854775808) : wrap64 x = x := by unfold wrap64; omega
/-- How far the first n bytes go without the zeros at their end. -/
def tl (l : List UInt8) : Nat → Nat
  | 0 => 0
  | n + 1 => if l.getD n 0 = 0 then tl l n else n + 1
theorem tl_le (l : List UInt8) : ∀ n, tl l n ≤ n
  | 0 => Nat.le_refl _
  | n + 1 => by
    unfold tl
    split
    · have := tl_le l n; omega
    · omega
theorem tl_zeros (l : List UInt8) : ∀ n i, tl l n ≤ i → i < n → l.getD i 0 = 0
  | 0, i, _, h => by omega
  | n + 1, i, h1, h2 => by
    unfold tl at h1
    split at h1
    · rename_i hz
      by_cases e : i = n
      · rw [e]; exact hz
      · exact tl_zeros l n i h1 (by omega)
    · omega
/-- The text that was padded as these bytes. -/
def unp (l : List UInt8) : Option (List UInt8) :=
  if 0 < tl l l.length ∧ l.getD (tl l l.length - 1) 0 = 128 ∧ sz ((tl l l.length - 1 : Nat) : Int) = ((l.length : Int), 0) then some (l.take (tl l l.length - 1)) else none
/-- A text, padded. -/
def padL (l : List UInt8) : List UInt8 := l ++ 128 :: List.replicate ((sz (l.length : Int)).1.toNat - l.length - 1) 0
theorem padL_length (l : List UInt8) (h : l.length < 16384) : ((padL l).length : Int) = (sz (l.length : Int)).1 := by
  obtain ⟨S, h1, h2, h3, h4⟩ := sz_fits l.length h
  unfold padL
  rw [h1]
  simp
  omega
theorem tl_stop (l : List UInt8) (m : Nat) (h0 : l.getD m 0 ≠ 0) : ∀ d, (∀ i, m < i → i < m + 1 + d → l.getD i 0 = 0) → tl l (m + 1 + d) = m + 1
  | 0, _ => by
    show (if l.getD m 0 = 0 then _ else _) = _
    rw [if_neg h0]
  | d + 1, h => by
    show (if l.getD (m + 1 + d) 0 = 0 then _ else _) = _
    rw [if_pos (h (m + 1 + d) (by omega) (by omega))]
    exact tl_stop l m h0 d (fun i h1 h2 => h i h1 (by omega))
theorem unp_padL (l : List UInt8) (h : l.length < 16384) : unp (padL l) = some l := by
  obtain ⟨S, h1, h2, h3, h4⟩ := sz_fits l.length h
  have hlen := padL_length l h
  rw [h1] at hlen
  have hln : (padL l).length = S := by simp only at hlen; omega
  have hat : (padL l).getD l.length 0 = 128 := by simp [padL]
  have hz : ∀ i, l.length < i → (padL l).getD i 0 = 0 := by
    intro i hi
    obtain ⟨d, rfl⟩ : ∃ d, i = l.length + (d + 1) := ⟨i - l.length - 1, by omega⟩
    unfold padL
    simp only [List.getD, List.getElem?_append_right (Nat.le_add_right _ _), Nat.add_sub_cancel_left, List.getElem?_cons_succ, List.getElem?_replicate]
    split <;> rfl
  have ht : tl (padL l) (padL l).length = l.length + 1 := by
    rw [hln, show S = l.length + 1 + (S - l.length - 1) by omega]
    exact tl_stop _ _ (by rw [hat]; decide) _ (fun i h1 _ => hz i h1)
  unfold unp
  rw [ht, Nat.add_sub_cancel, if_pos ⟨by omega, hat, by rw [h1, hln]⟩]
  congr 1
  simp [padL]
theorem padL_unp (l c : List UInt8) (h : unp l = some c) : padL c = l ∧ c.length < 16384 := by
  unfold unp at h
  split at h
  case isFalse => cases h
  rename_i hh
  obtain ⟨h1, h2, h3⟩ := hh
  obtain rfl := Option.some.inj h
  have hle := tl_le l l.length
  have hz := tl_zeros l l.length
  generalize hm : tl l l.length = m at *
  have hcl : (l.take (m - 1)).length = m - 1 := by rw [List.length_take]; omega
  have hlt : m - 1 < 16384 := by
    apply Classical.byContradiction
    intro hn
    rw [sz_full _ (by omega)] at h3
    exact absurd (congrArg Prod.snd h3) (by simp)
  refine ⟨?_, by omega⟩
  unfold padL
  rw [hcl, h3]
  apply List.ext_getElem?
  intro i
  by_cases c1 : i < m - 1
  · rw [List.getElem?_append_left (by omega), List.getElem?_take_of_lt c1]
  · obtain ⟨d, rfl⟩ : ∃ d, i = m - 1 + d := ⟨i - (m - 1), by omega⟩
    rw [List.getElem?_append_right (by omega), hcl, Nat.add_sub_cancel_left]
    have hg : ∀ j, j < l.length → l[j]? = some (l.getD j 0) := fun j hj => by simp [List.getD, List.getElem?_eq_getElem hj]
    cases d with
    | zero => rw [List.getElem?_cons_zero, Nat.add_zero, hg _ (by omega), h2]
    | succ d =>
      rw [List.getElem?_cons_succ, List.getElem?_replicate]
      simp only [Int.toNat_natCast]
      by_cases c2 : d < l.length - (m - 1) - 1
      · rw [if_pos c2, hg _ (by omega), hz _ (by omega) (by omega)]
      · rw [if_neg c2, List.getElem?_eq_none (by omega)]
theorem padL_inj (a b : List UInt8) (ha : a.length < 16384) (hb : b.length < 16384) (h : padL a = padL b) : a = b := by
  have h1 := unp_padL a ha
  rw [h, unp_padL b hb] at h1
  exact (Option.some.inj h1).symm
end Go.Proofs.YtlipgfahjmgekacDoor.S
