/- The Pad laws over the plain functions: whatever comes, the law's function tells true. -/
import Derived.Test.YtlipgfahjmgekacDoorPp
import Derived.Test.YtlipgfahjmgekacDoorSx3
namespace Go.Proofs.YtlipgfahjmgekacDoor.S
open Go.RowKit Go.Proofs.YtlipgfahjmgekacDoorW.PrintWords Go.Proofs.YtlipgfahjmgekacDoorW.PrintLast Go.Proofs.YtlipgfahjmgekacDoorW.PrintMore
set_option linter.unusedVariables false
set_option linter.unusedSimpArgs false
theorem awake_is : samphirelaw14_awake.f = some true := by decide +kernel
theorem awake_b : (samphirelaw14_awake.f.bind fun t => some t) = some true := by rw [awake_is]; rfl
/-! ### the reference's sizes -/
theorem rsize_loop (a : Int) (j : Nat) (hj : j ≤ 8) (h1 : ∀ i, i < j → 64 * 2 ^ i ≤ a) (h2 : a < 64 * 2 ^ j) : ∀ (d k i : Nat), i + d = j → d < k → samphireref14_Size.l0 k a (64 * 2 ^ i) = some (64 * 2 ^ j, 0) := by
  intro d
  induction d with
  | zero =>
    intro k i hi hk
    obtain ⟨k, rfl⟩ : ∃ x, k = x + 1 := ⟨k - 1, by omega⟩
    obtain rfl : i = j := by omega
    simp only [samphireref14_Size.l0]
    rw [if_neg (by omega)]
  | succ d ih =>
    intro k i hi hk
    obtain ⟨k, rfl⟩ : ∃ x, k = x + 1 := ⟨k - 1, by omega⟩
    have hp := pow_le i (by omega)
    simp only [samphireref14_Size.l0]
    rw [if_pos (h1 i (by omega)), w64 _ (by omega) (by omega), show (2 : Int) * (64 * 2 ^ i) = 64 * 2 ^ (i + 1) by rw [Int.pow_succ]; omega]
    exact ih k (i + 1) (by omega) (by omega)
theorem rsize_at (a : Int) (j : Nat) (hj : j ≤ 8) (h0 : 0 ≤ a) (h3 : a < 16384) (h1 : ∀ i, i < j → 64 * 2 ^ i ≤ a) (h2 : a < 64 * 2 ^ j) (k : Nat) (hk : 20 ≤ k) : samphireref14_Size.f k a = some (64 * 2 ^ j, 0) := by
  obtain ⟨k, rfl⟩ : ∃ x, k = x + 1 := ⟨k - 1, by omega⟩
  unfold samphireref14_Size.f
  rw [if_neg (by omega), decide_eq_false (show ¬ a ≥ 16384 by omega)]
  simp only [samphireref14_Size.j0]
  rw [if_neg Bool.false_ne_true]
  exact rsize_loop a j hj h1 h2 j k 0 (by omega) (by omega)
theorem below9 {a : Int} {j : Nat} (hj : j ≤ 8) (h : 0 < j → 64 * 2 ^ (j - 1) ≤ a) : ∀ i, i < j → (64 : Int) * 2 ^ i ≤ a := by
  intro i hi
  have h2 := h (by omega)
  have : ∀ (j : Fin 9) (i : Fin 9), i.val < j.val → (2 : Int) ^ i.val ≤ 2 ^ (j.val - 1) := by decide
  have h3 := this ⟨j, by omega⟩ ⟨i, by omega⟩ hi
  simp only at h3
  omega
theorem rsize_is (a : Int) (k : Nat) (hk : 20 ≤ k) : samphireref14_Size.f k a = some (sz a) := by
  have go : ∀ j, j ≤ 8 → 0 ≤ a → a < 16384 → (0 < j → 64 * 2 ^ (j - 1) ≤ a) → a < 64 * 2 ^ j → sz a = (64 * 2 ^ j, 0) → samphireref14_Size.f k a = some (sz a) := by
    intro j hj h0 h3 h1 h2 e
    rw [e]
    exact rsize_at a j hj h0 h3 (below9 hj h1) h2 k hk
  rcases sz_cases a with h | h | h | h | h | h | h | h | h | h
  · rw [h.2]
    obtain ⟨k, rfl⟩ : ∃ x, k = x + 1 := ⟨k - 1, by omega⟩
    unfold samphireref14_Size.f
    by_cases c : a < 0
    · rw [if_pos c]; simp only [samphireref14_Size.j0]; rw [if_pos trivial]
    · rw [if_neg c, decide_eq_true (show a ≥ 16384 by omega)]; simp only [samphireref14_Size.j0]; rw [if_pos trivial]
  · exact go 0 (by omega) h.1 (by omega) (by omega) (by omega) h.2.2
  · exact go 1 (by omega) (by omega) (by omega) (by simp; omega) (by omega) h.2.2
  · exact go 2 (by omega) (by omega) (by omega) (by simp; omega) (by omega) h.2.2
  · exact go 3 (by omega) (by omega) (by omega) (by simp; omega) (by omega) h.2.2
  · exact go 4 (by omega) (by omega) (by omega) (by simp; omega) (by omega) h.2.2
  · exact go 5 (by omega) (by omega) (by omega) (by simp; omega) (by omega) h.2.2
  · exact go 6 (by omega) (by omega) (by omega) (by simp; omega) (by omega) h.2.2
  · exact go 7 (by omega) (by omega) (by omega) (by simp; omega) (by omega) h.2.2
  · exact go 8 (by omega) (by omega) (by omega) (by simp; omega) (by omega) h.2.2
theorem rsizes_is (k : Nat) (hk : 20 ≤ k) : samphireref14_Sizes.f k = some (upto 9) := at_rounds (g := fun k => samphireref14_Sizes.f k) samphireref14_Sizes.mono hk (by decide +kernel)
theorem same_is (k : Nat) (hk : 20 ≤ k) : samphireref01_SameInts.f k (upto 9) (upto 9) = some true := at_rounds (g := fun k => samphireref01_SameInts.f k (upto 9) (upto 9)) (samphireref01_SameInts.mono _ _) hk (by decide +kernel)
theorem wf_bounds {n : Int} (hn : (Lit.int .i64 n).wf = true) : -9223372036854775808 ≤ n ∧ n ≤ 9223372036854775807 := by
  simp [Lit.wf, IntKind.min, IntKind.max, IntKind.signed, IntKind.bits] at hn
  omega
theorem PadSizes : samphirelaw14_PadSizes.Pure := by
  intro a ha
  have hb := wf_bounds ha
  refine ⟨20, ?_⟩
  unfold samphirelaw14_PadSizes.f
  rw [show pad_Size.f a = some (sz a) from rfl, Option.bind_some, rsize_is a 20 (by omega), Option.bind_some, if_pos rfl, if_pos rfl, show pad_Sizes.f = some (upto 9) from rfl, Option.bind_some, rsizes_is 20 (by omega), Option.bind_some, same_is 20 (by omega), Option.bind_some, if_pos rfl]
  have fin : ∀ x : Int, sz a = (x, 0) → a < x → (x = 64 ∨ x ≤ 2 * a) → 0 ≤ a → a < 16384 → (if (sz a).2 = 0 then (if (sz a).1 > a then (if (sz a).1 = 64 then (samphirelaw14_awake.f.bind fun t => some t) else (if (sz a).1 ≤ wrap64 (2 * a) then (samphirelaw14_awake.f.bind fun t => some t) else some false)) else some false) else (samphirelaw14_awake.f.bind fun t => some t)) = some true := by
    intro x e h1 h2 h3 h4
    rw [e]
    simp only
    rw [if_pos trivial, if_pos h1]
    by_cases c : x = 64
    · rw [if_pos c, awake_b]
    · rw [if_neg c, w64 _ (by omega) (by omega), if_pos (by omega), awake_b]
  rcases sz_cases a with h | h | h | h | h | h | h | h | h | h
  · rw [h.2]; simp only; rw [if_neg (by decide), awake_b]
  all_goals exact fin _ h.2.2 (by omega) (by omega) (by omega) (by omega)
/-! ### padding -/
theorem nil_L : L (⟨#[]⟩ : ByteArray) = [] := rfl
theorem pad_is (s : ByteArray) (h : s.size < 16384) : ∃ t, pad_Pad.f s = some (t, 0) ∧ L t = padL (L s) := by
  obtain ⟨S, h1, h2, h3, h4⟩ := sz_fits s.size h
  have hr : strings_Repeat.f ⟨#[0]⟩ (wrap64 (wrap64 ((S : Int) - (s.size : Int)) - 1)) = some ⟨(List.replicate (S - s.size - 1) (0 : UInt8)).toArray⟩ := by
    unfold strings_Repeat.f
    rw [w64 ((S : Int) - (s.size : Int)) (by omega) (by omega), w64 _ (by omega) (by omega), if_pos ⟨by omega, by omega, by decide⟩]
    congr 2
    have hrep := Lib.repeatL_replicate 0 1 (((S : Int) - (s.size : Int) - 1)).toNat
    rw [show (⟨#[0]⟩ : ByteArray).data.toList = List.replicate 1 0 from rfl, hrep]
    congr 2
    omega
  have hsz : (⟨(List.replicate (S - s.size - 1) (0 : UInt8)).toArray⟩ : ByteArray).size = S - s.size - 1 := List.length_replicate
  have hsz2 : (s ++ (⟨#[128]⟩ : ByteArray)).size = s.size + 1 := by rw [ByteArray.size_append]; rfl
  refine ⟨(s ++ ⟨#[128]⟩) ++ ⟨(List.replicate (S - s.size - 1) (0 : UInt8)).toArray⟩, ?_, ?_⟩
  · unfold pad_Pad.f
    rw [show pad_Size.f (s.size : Int) = some (sz (s.size : Int)) from rfl, h1, Option.bind_some]
    simp only
    rw [if_pos trivial, if_pos (by omega), hr, Option.bind_some, if_pos (by omega)]
  · rw [L_append, L_append]
    unfold padL
    rw [L_len, h1]
    show L s ++ [128] ++ List.replicate (S - s.size - 1) 0 = _
    simp
theorem pad_big (s : ByteArray) (h : 16384 ≤ s.size) : pad_Pad.f s = some (⟨#[]⟩, 2) := by
  unfold pad_Pad.f
  rw [show pad_Size.f (s.size : Int) = some (sz (s.size : Int)) from rfl, sz_full _ (by omega), Option.bind_some]
  simp only
  rw [if_neg (by decide)]
theorem rpad_is (s : ByteArray) (h : s.size < 16384) (k : Nat) (hk : 20 ≤ k) : ∃ t, samphireref14_Pad.f k s = some (t, 0) ∧ L t = padL (L s) := by
  obtain ⟨S, h1, h2, h3, h4⟩ := sz_fits s.size h
  have hw : wrap64 (wrap64 ((S : Int) - 1) - (s.size : Int)) = ((S - s.size - 1 : Nat) : Int) := by
    rw [w64 ((S : Int) - 1) (by omega) (by omega), w64 _ (by omega) (by omega)]
    omega
  have hL : L (strOfNums (List.replicate (S - s.size - 1) 0)) = List.replicate (S - s.size - 1) 0 := by
    rw [L, strOfNums_data, List.map_replicate]
    rfl
  have hsz : (strOfNums (List.replicate (S - s.size - 1) 0)).size = S - s.size - 1 := by rw [strOfNums_size, List.length_replicate]
  have hsz2 : (s ++ (⟨#[128]⟩ : ByteArray)).size = s.size + 1 := by rw [ByteArray.size_append]; rfl
  refine ⟨(s ++ ⟨#[128]⟩) ++ strOfNums (List.replicate (S - s.size - 1) 0), ?_, ?_⟩
  · unfold samphireref14_Pad.f
    rw [rsize_is _ k hk, h1, Option.bind_some]
    simp only
    rw [if_pos trivial, if_pos (by omega), hw, if_pos (by omega), Int.toNat_natCast, if_pos (by omega), Option.bind_some, if_pos (by omega)]
  · rw [L_append, L_append, hL]
    unfold padL
    rw [L_len, h1]
    show L s ++ [128] ++ List.replicate (S - s.size - 1) 0 = _
    simp
theorem rpad_big (s : ByteArray) (h : 16384 ≤ s.size) (k : Nat) (hk : 20 ≤ k) : samphireref14_Pad.f k s = some (⟨#[]⟩, 2) := by
  unfold samphireref14_Pad.f
  rw [rsize_is _ k hk, sz_full _ (by omega), Option.bind_some]
  simp only
  rw [if_neg (by decide)]
/-! ### and back -/
theorem trim_loop (l : List UInt8) : ∀ (n k : Nat) (x : ByteArray), n ≤ l.length → n < 9223372036854775807 → L x = l.take n → n < k → ∃ y, strings_trimRightByte.l0 k x 0 = some y ∧ L y = l.take (tl l n)
  | 0, k, x, hn, hb, hx, hk => by
    obtain ⟨k, rfl⟩ : ∃ j, k = j + 1 := ⟨k - 1, by omega⟩
    have hs : x.size = 0 := by rw [← L_len, hx]; simp
    refine ⟨x, ?_, hx⟩
    simp only [strings_trimRightByte.l0]
    rw [if_neg (by omega)]
  | n + 1, k, x, hn, hb, hx, hk => by
    obtain ⟨k, rfl⟩ : ∃ j, k = j + 1 := ⟨k - 1, by omega⟩
    have hs : x.size = n + 1 := by rw [← L_len, hx, List.length_take]; omega
    have hw : wrap64 ((x.size : Int) - 1) = (n : Int) := by rw [hs, w64 _ (by omega) (by omega)]; omega
    have hg : (L x).getD n 0 = l.getD n 0 := by rw [hx]; simp [List.getD, List.getElem?_take]
    simp only [strings_trimRightByte.l0]
    rw [if_pos (by omega), hw, if_pos (by omega), if_pos (by omega), bt_getD, hg]
    unfold tl
    by_cases c : l.getD n 0 = 0
    · rw [if_pos c, if_pos (by rw [c]; rfl), if_pos (by omega), Int.toNat_natCast]
      exact trim_loop l n k _ (by omega) (by omega) (by rw [L_take, hx, List.take_take, Nat.min_eq_left (by omega)]) (by omega)
    · rw [if_neg c, if_neg (fun e => c (UInt8.toNat_inj.1 (show (l.getD n 0).toNat = 0 by omega)))]
      exact ⟨x, rfl, hx⟩
theorem trim_is (s : ByteArray) (h : s.size < 9223372036854775807) : ∃ y, strings_TrimRight.f s ⟨#[0]⟩ = some y ∧ L y = (L s).take (tl (L s) (L s).length) := by
  unfold strings_TrimRight.f
  rw [if_pos rfl, toL]
  by_cases c : L s = []
  · rw [if_pos c]
    exact ⟨s, rfl, by rw [c]; rfl⟩
  · rw [if_neg c]
    unfold strings_trimRightByte.f
    exact trim_loop (L s) (L s).length (s.size + 1) s (Nat.le_refl _) (by rw [L_len]; exact h) (by rw [List.take_length]) (by rw [L_len]; omega)
/-- What padding's undoing answers. -/
def back (o : Option (List UInt8)) : ByteArray × Int := match o with | some c => (⟨c.toArray⟩, 0) | none => (⟨#[]⟩, 140)
theorem L_mk (l : List UInt8) : L ⟨l.toArray⟩ = l := rfl
theorem unpad_is (s : ByteArray) (h : s.size ≤ 1048576) : pad_Unpad.f s = some (back (unp (L s))) := by
  obtain ⟨y, hy, hL⟩ := trim_is s (by omega)
  have hle := tl_le (L s) (L s).length
  unfold pad_Unpad.f unp
  rw [hy, Option.bind_some]
  generalize hm : tl (L s) (L s).length = m at *
  have hys : y.size = m := by rw [← L_len, hL, List.length_take]; omega
  rw [L_len] at hle
  unfold strings_CutSuffix.f stringslite_CutSuffix.f stringslite_HasSuffix.f
  rw [show (⟨#[128]⟩ : ByteArray).size = 1 from rfl]
  by_cases c0 : m = 0
  · rw [if_neg (by omega), Option.bind_some, if_neg Bool.false_ne_true, Option.bind_some, Option.bind_some]
    simp only
    rw [show pad_Size.f (y.size : Int) = some (sz (y.size : Int)) from rfl, Option.bind_some, if_neg Bool.false_ne_true, if_neg (by omega)]
    rfl
  have hw : wrap64 ((y.size : Int) - ((1 : Nat) : Int)) = ((m - 1 : Nat) : Int) := by rw [hys, w64 _ (by omega) (by omega)]; omega
  have hd : L (y.extract (m - 1) y.size) = [(L s).getD (m - 1) 0] := by
    show (y.extract (m - 1) y.size).data.toList = _
    rw [Lib.extract_data, show y.data.toList = (L s).take m from hL, hys]
    apply List.ext_getElem?
    intro i
    rw [List.getElem?_take, List.getElem?_drop]
    cases i with
    | zero => rw [if_pos (by omega), Nat.add_zero, List.getElem?_take_of_lt (by omega)]
              have hlt : m - 1 < (L s).length := by rw [L_len]; omega
              simp [List.getD, List.getElem?_eq_getElem hlt]
    | succ i => rw [if_neg (by omega)]; rfl
  rw [if_pos (by omega), hw, if_pos (by omega), if_pos (by omega), Option.bind_some, Int.toNat_natCast, toL, toL, hd, show L (⟨#[128]⟩ : ByteArray) = [128] from rfl]
  by_cases c1 : (L s).getD (m - 1) 0 = 128
  · have e1 : ([(L s).getD (m - 1) 0] == [(128 : UInt8)]) = true := by rw [c1]; rfl
    have e2 : (y.extract 0 (m - 1)).size = m - 1 := by rw [← L_len, L_take, hL, List.length_take, List.length_take, L_len]; omega
    rw [e1, if_pos rfl, if_pos (by omega), if_pos (by omega), Option.bind_some, Option.bind_some]
    simp only
    rw [show pad_Size.f ((y.extract 0 (m - 1)).size : Int) = some (sz ((y.extract 0 (m - 1)).size : Int)) from rfl, Option.bind_some, e2, if_pos trivial]
    by_cases c2 : sz ((m - 1 : Nat) : Int) = (((L s).length : Int), 0)
    · have hu : (if 0 < m ∧ (L s).getD (m - 1) 0 = 128 ∧ sz ((m - 1 : Nat) : Int) = (((L s).length : Int), 0) then some ((L s).take (m - 1)) else none) = some ((L s).take (m - 1)) := if_pos ⟨by omega, c1, c2⟩
      rw [hu, c2]
      simp only
      rw [if_pos trivial, if_pos (show ((L s).length : Int) = (s.size : Int) by rw [L_len])]
      unfold back
      congr 2
      exact L_ext (by rw [L_take, hL, List.take_take, Nat.min_eq_left (by omega)])
    · have hu : (if 0 < m ∧ (L s).getD (m - 1) 0 = 128 ∧ sz ((m - 1 : Nat) : Int) = (((L s).length : Int), 0) then some ((L s).take (m - 1)) else none) = none := if_neg (fun hh => c2 hh.2.2)
      rw [hu]
      by_cases c3 : (sz ((m - 1 : Nat) : Int)).2 = 0
      · rw [if_pos c3, if_neg (fun e => c2 (Prod.ext (by simp only; rw [e, L_len]) c3))]
        rfl
      · rw [if_neg c3]
        rfl
  · have e1 : ([(L s).getD (m - 1) 0] == [(128 : UInt8)]) = false := by rw [beq_eq_false_iff_ne]; intro e; exact c1 (List.cons.inj e).1
    rw [e1, if_neg Bool.false_ne_true, Option.bind_some, Option.bind_some]
    simp only
    rw [show pad_Size.f (y.size : Int) = some (sz (y.size : Int)) from rfl, Option.bind_some, if_neg Bool.false_ne_true, if_neg (fun hh => c1 hh.2.1)]
    rfl
theorem rback_loop (s : ByteArray) (h : s.size ≤ 1048576) : ∀ (n k : Nat), n ≤ s.size → ∃ k', k ≤ k' + n ∧ samphireref14_Unpad.l0 (k + 1) s (wrap64 ((n : Int) - 1)) = samphireref14_Unpad.j1 k' s ((tl (L s) n : Int) - 1)
  | 0, k, hn => by
    refine ⟨k, by omega, ?_⟩
    simp only [samphireref14_Unpad.l0]
    rw [w64 _ (by omega) (by omega), if_neg (by omega)]
    rfl
  | n + 1, k, hn => by
    have hw : wrap64 (((n + 1 : Nat) : Int) - 1) = (n : Int) := by rw [w64 _ (by omega) (by omega)]; omega
    rw [hw]
    cases k with
    | zero =>
      refine ⟨0, by omega, ?_⟩
      simp only [samphireref14_Unpad.l0, samphireref14_Unpad.j1]
      rw [if_pos (by omega), if_pos (by omega), if_pos (by omega)]
      split <;> rfl
    | succ k =>
      simp only [samphireref14_Unpad.l0]
      rw [if_pos (by omega), if_pos (by omega), if_pos (by omega), bt_getD]
      unfold tl
      by_cases c : (L s).getD n 0 = 0
      · rw [if_pos (by rw [c]; rfl), if_pos c]
        obtain ⟨k', h1, h2⟩ := rback_loop s h n k (by omega)
        exact ⟨k', by omega, h2⟩
      · rw [if_neg (fun e => c (UInt8.toNat_inj.1 (show ((L s).getD n 0).toNat = 0 by omega))), if_neg c]
        exact ⟨k + 1, by omega, by rw [show (((n + 1 : Nat) : Int) - 1) = (n : Int) by omega]⟩
theorem runpad_is (s : ByteArray) (h : s.size ≤ 1048576) (k : Nat) (hk : s.size + 40 ≤ k) : samphireref14_Unpad.f k s = some (back (unp (L s))) := by
  obtain ⟨k, rfl⟩ : ∃ j, k = j + 1 := ⟨k - 1, by omega⟩
  unfold samphireref14_Unpad.f unp
  obtain ⟨k', h1, h2⟩ := rback_loop s h s.size k (Nat.le_refl _)
  rw [h2]
  have hle := tl_le (L s) s.size
  rw [L_len]
  generalize tl (L s) s.size = m at *
  obtain ⟨k', rfl⟩ : ∃ j, k' = j + 2 := ⟨k' - 2, by omega⟩
  simp only [samphireref14_Unpad.j1]
  by_cases c0 : m = 0
  · rw [if_pos (by omega), if_neg (by omega)]
    simp only [samphireref14_Unpad.j2]
    rw [if_pos trivial]
    rfl
  have hw : ((m : Int) - 1) = ((m - 1 : Nat) : Int) := by omega
  rw [hw, if_neg (by omega), if_pos (by omega), if_pos (by omega), bt_getD]
  simp only [samphireref14_Unpad.j2]
  by_cases c1 : (L s).getD (m - 1) 0 = 128
  · rw [show ((((L s).getD (m - 1) 0).toNat : Int) != 128) = false by rw [c1]; rfl, if_neg Bool.false_ne_true, rsize_is _ _ (by omega), Option.bind_some]
    by_cases c2 : sz ((m - 1 : Nat) : Int) = ((s.size : Int), 0)
    · have hu : (if 0 < m ∧ (L s).getD (m - 1) 0 = 128 ∧ sz ((m - 1 : Nat) : Int) = ((s.size : Int), 0) then some ((L s).take (m - 1)) else none) = some ((L s).take (m - 1)) := if_pos ⟨by omega, c1, c2⟩
      rw [hu, c2]
      simp only
      rw [if_pos trivial, if_pos trivial, if_pos (by omega), if_pos (by omega), Int.toNat_natCast]
      unfold back
      congr 2
      exact L_ext (by rw [L_take])
    · have hu : (if 0 < m ∧ (L s).getD (m - 1) 0 = 128 ∧ sz ((m - 1 : Nat) : Int) = ((s.size : Int), 0) then some ((L s).take (m - 1)) else none) = none := if_neg (fun hh => c2 hh.2.2)
      rw [hu]
      by_cases c3 : (sz ((m - 1 : Nat) : Int)).2 = 0
      · rw [if_pos c3, if_neg (fun e => c2 (Prod.ext e c3))]
        rfl
      · rw [if_neg c3]
        rfl
  · rw [if_pos (by rw [bne_iff_ne]; intro e; exact c1 (UInt8.toNat_inj.1 (show ((L s).getD (m - 1) 0).toNat = 128 by omega))), if_neg (fun hh => c1 hh.2.1)]
    rfl
/-! ### the laws -/
theorem PadPads : samphirelaw14_PadPads.Pure := by
  intro a _
  refine ⟨31 + 1, ?_⟩
  unfold samphirelaw14_PadPads.f
  by_cases c : (a.size : Int) > 32768
  · rw [if_pos c, awake_b]
  rw [if_neg c]
  by_cases c1 : a.size < 16384
  · obtain ⟨t, ht, hL⟩ := pad_is a c1
    obtain ⟨t', ht', hL'⟩ := rpad_is a c1 (31 + 1) (by omega)
    obtain rfl : t = t' := L_ext (hL.trans hL'.symm)
    have hts : t.size ≤ 1048576 := by
      have h1 := padL_length (L a) (by rw [L_len]; exact c1)
      obtain ⟨S, h2, _, _, h5⟩ := sz_fits (L a).length (by rw [L_len]; exact c1)
      rw [h2, ← hL, L_len] at h1
      simp only at h1
      omega
    rw [ht, Option.bind_some, ht', Option.bind_some, if_pos rfl]
    simp only [samphirelaw14_PadPads.j0, bne_self_eq_false]
    rw [if_neg Bool.false_ne_true, if_pos trivial, unpad_is t hts, hL, unp_padL _ (by rw [L_len]; exact c1), show back (some (L a)) = ((⟨(L a).toArray⟩ : ByteArray), (0 : Int)) from rfl, Option.bind_some]
    simp only
    rw [if_pos trivial, if_pos trivial, awake_b]
  · rw [pad_big a (by omega), Option.bind_some, rpad_big a (by omega) _ (by omega), Option.bind_some, if_pos rfl]
    simp only [samphirelaw14_PadPads.j0, bne_self_eq_false]
    rw [if_neg Bool.false_ne_true, if_neg (by decide), if_pos (by omega), awake_b]
theorem PadTakes : samphirelaw14_PadTakes.Pure := by
  intro a _
  obtain ⟨k, hk⟩ : ∃ k, k = a.size + 100 := ⟨_, rfl⟩
  refine ⟨k + 1, ?_⟩
  unfold samphirelaw14_PadTakes.f
  by_cases c : (a.size : Int) > 4096
  · rw [if_pos c, awake_b]
  rw [if_neg c, unpad_is a (by omega), Option.bind_some, runpad_is a (by omega) (k + 1) (by omega), Option.bind_some, if_pos rfl]
  simp only [samphirelaw14_PadTakes.j0, bne_self_eq_false]
  rw [if_neg Bool.false_ne_true]
  cases hu : unp (L a) with
  | none =>
    rw [show back none = ((⟨#[]⟩ : ByteArray), (140 : Int)) from rfl]
    simp only
    rw [if_neg (show ¬ (140 : Int) = 0 by decide), awake_b]
  | some l =>
    obtain ⟨h1, h2⟩ := padL_unp _ _ hu
    obtain ⟨t, ht, hL⟩ := pad_is ⟨l.toArray⟩ (by rw [← L_len]; exact h2)
    obtain rfl : t = a := L_ext (by rw [hL]; exact h1)
    rw [show back (some l) = ((⟨l.toArray⟩ : ByteArray), (0 : Int)) from rfl]
    simp only
    rw [if_pos trivial, ht, Option.bind_some, if_pos rfl, if_pos rfl, awake_b]
end Go.Proofs.YtlipgfahjmgekacDoor.S
