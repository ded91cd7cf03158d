/- Four of the Name laws over the plain functions: whatever texts come, the law's function tells true. -/
import Derived.Test.YtlipgfahjmgekabDoorPo
import Derived.Test.YtlipgfahjmgekabDoorSx5
import Derived.Test.YtlipgfahjmgekabDoorSx6
namespace Go.Proofs.YtlipgfahjmgekabDoor.S
open Go.RowKit Go.Proofs.YtlipgfahjmgekabDoorW.PrintWords Go.Proofs.YtlipgfahjmgekabDoorW.PrintLast Go.Proofs.YtlipgfahjmgekabDoorW.PrintMore
open Go.Lib (decodeL decodeN decodeL_N) 
open Pl
set_option linter.unusedVariables false
set_option linter.unusedSimpArgs false
theorem awake_ten : samphirelaw08_awake.f 10 = some true := by decide +kernel
theorem awake_is (k : Nat) (h : 10 ≤ k) : samphirelaw08_awake.f k = some true := at_rounds (g := fun k => samphirelaw08_awake.f k) samphirelaw08_awake.mono h awake_ten
theorem awake_b (k : Nat) (h : 10 ≤ k) : ((samphirelaw08_awake.f k).bind fun t => some t) = some true := by rw [awake_is k h]; rfl
theorem NameChecks : samphirelaw08_NameChecks.Pure := by
  intro a hs
  refine ⟨a.size + 100, ?_⟩
  unfold samphirelaw08_NameChecks.f
  by_cases c : (a.size : Int) > 1024
  · rw [if_pos c, awake_b _ (by omega)]
  rw [if_neg c, check_is a (by omega), rcheck_is a _ (by omega) (by omega), count_is a (by omega), rcount_is a _ (by omega) (by omega)]
  simp only [Option.bind_some, if_true]
  first | exact awake_is _ (by omega) | exact awake_b _ (by omega)
theorem first_runes (l : List UInt8) (n : Nat) : (runes (firstL l n)).length = min n (runes l).length := by
  unfold firstL
  rw [runes_take, List.length_take]
theorem NameCuts : samphirelaw08_NameCuts.Pure := by
  intro a n hs hn
  have hn2 : n < 9223372036854775808 := by
    simp [Lit.wf, IntKind.min, IntKind.max, IntKind.signed, IntKind.bits] at hn
    omega
  obtain ⟨k, hk⟩ : ∃ k, k = a.size + 99 := ⟨_, rfl⟩
  refine ⟨k + 1, ?_⟩
  unfold samphirelaw08_NameCuts.f
  by_cases c : (a.size : Int) > 1024
  · rw [if_pos c, awake_b _ (by omega)]
  obtain ⟨t, ht, hL⟩ := cut_is a n (by omega) hn2
  obtain ⟨t', ht', hL'⟩ := rcut_is a n (k + 1) (by omega) hn2 (by omega)
  obtain rfl : t = t' := L_ext (hL.trans hL'.symm)
  have hle : t.size ≤ a.size := by rw [← L_len, ← L_len, hL]; exact first_le _ _
  rw [if_neg c, ht, ht']
  simp only [Option.bind_some, if_true]
  rw [if_neg (by omega), if_pos (by omega), if_pos (by omega)]
  simp only [samphirelaw08_NameCuts.j0]
  have e : (a.extract 0 ((t.size : Int)).toNat).toList = t.toList := by
    rw [toL, toL, Int.toNat_natCast, L_take, hL, ← L_len t, hL, first_take]
  rw [e, bne_self_eq_false, if_neg (by simp), count_is t (by omega), count_is a (by omega)]
  simp only [Option.bind_some]
  have em : (((runes (L t)).length : Nat) : Int) = mx 0 (mn n ((runes (L a)).length : Int)) := by
    rw [hL, first_runes]
    generalize (runes (L a)).length = m
    unfold mx mn
    split <;> split <;> omega
  rw [if_pos em]
  exact awake_b _ (by omega)
/-! ### folding -/
theorem fo_lt (c : UInt8) : (c.toNat < 128 ∧ (fo c).toNat < 128) ∨ (128 ≤ c.toNat ∧ fo c = c) := by
  have h : ∀ n : Fin 256, ((UInt8.ofNat n.val).toNat < 128 ∧ (fo (UInt8.ofNat n.val)).toNat < 128) ∨ (128 ≤ (UInt8.ofNat n.val).toNat ∧ fo (UInt8.ofNat n.val) = UInt8.ofNat n.val) := by decide +kernel
  have h2 := h ⟨c.toNat, c.toNat_lt⟩
  simpa using h2
theorem fo_fo (c : UInt8) : fo (fo c) = fo c := by
  have h : ∀ n : Fin 256, fo (fo (UInt8.ofNat n.val)) = fo (UInt8.ofNat n.val) := by decide +kernel
  have h2 := h ⟨c.toNat, c.toNat_lt⟩
  simpa using h2
theorem fo_eq (c : UInt8) : (fo c = 32 ↔ c = 32) ∧ (fo c = 46 ↔ c = 46) := by
  have h : ∀ n : Fin 256, (fo (UInt8.ofNat n.val) = 32 ↔ UInt8.ofNat n.val = 32) ∧ (fo (UInt8.ofNat n.val) = 46 ↔ UInt8.ofNat n.val = 46) := by decide +kernel
  have h2 := h ⟨c.toNat, c.toNat_lt⟩
  simpa using h2
theorem fo_odd (c : UInt8) (h : c.toNat < 128) : oddB ((fo c).toNat : Int) = oddB (c.toNat : Int) := by
  have h : ∀ n : Fin 256, oddB ((fo (UInt8.ofNat n.val)).toNat : Int) = oddB ((UInt8.ofNat n.val).toNat : Int) := by decide +kernel
  have h2 := h ⟨c.toNat, c.toNat_lt⟩
  simpa using h2
theorem decodeN_fo (n b0 b1 b2 b3 c1 c2 c3 : Nat) (h0 : 128 ≤ b0) (h1 : (b1 < 128 ∧ c1 < 128) ∨ c1 = b1) (h2 : (b2 < 128 ∧ c2 < 128) ∨ c2 = b2) (h3 : (b3 < 128 ∧ c3 < 128) ∨ c3 = b3) :
    decodeN n b0 c1 c2 c3 = decodeN n b0 b1 b2 b3 := by
  rcases h1 with h1 | rfl
  · rw [Lib.decodeN_alone n b0 b1 b2 b3 h0 (.inr (by omega)), Lib.decodeN_alone n b0 c1 c2 c3 h0 (.inr (by omega))]
  rcases h2 with h2 | rfl
  · unfold decodeN
    have e1 : ¬ c2 / 64 = 2 := by omega
    have e2 : ¬ b2 / 64 = 2 := by omega
    simp only [e1, e2, and_false, false_and, if_false]
  rcases h3 with h3 | rfl
  · unfold decodeN
    have e1 : ¬ c3 / 64 = 2 := by omega
    have e2 : ¬ b3 / 64 = 2 := by omega
    simp only [e1, e2, and_false, false_and, if_false]
  · rfl
theorem getD_map_fo (l : List UInt8) (i : Nat) : (l.map fo).getD i 0 = fo (l.getD i 0) := by
  simp only [List.getD, List.getElem?_map]
  cases l[i]? <;> rfl
theorem decode_fo (l : List UInt8) (h : l ≠ []) : decodeL (l.map fo) = (if (l.getD 0 0).toNat < 128 then ((fo (l.getD 0 0)).toNat, 1) else decodeL l) := by
  rw [decodeL_N, decodeL_N, List.length_map, getD_map_fo, getD_map_fo, getD_map_fo, getD_map_fo]
  have hf : ∀ i, ((l.getD i 0).toNat < 128 ∧ (fo (l.getD i 0)).toNat < 128) ∨ (fo (l.getD i 0)).toNat = (l.getD i 0).toNat := fun i => by
    rcases fo_lt (l.getD i 0) with h | h
    · exact .inl h
    · exact .inr (by rw [h.2])
  by_cases c : (l.getD 0 0).toNat < 128
  · rw [if_pos c]
    rcases fo_lt (l.getD 0 0) with h0 | h0
    · exact Lib.decodeN_ascii _ _ _ _ _ h0.2
    · omega
  · rw [if_neg c]
    rcases fo_lt (l.getD 0 0) with h0 | h0
    · omega
    · rw [h0.2]
      exact decodeN_fo _ _ _ _ _ _ _ _ h0.1 (hf 1) (hf 2) (hf 3)
theorem decode_asc (l : List UInt8) (h : (l.getD 0 0).toNat < 128) : decodeL l = ((l.getD 0 0).toNat, 1) := by
  rw [decodeL_N, Lib.decodeN_ascii _ _ _ _ _ h]
theorem wd_fo (l : List UInt8) (h : l ≠ []) : wd (l.map fo) = wd l := by
  unfold wd
  rw [decode_fo l h]
  split
  · rename_i c; rw [decode_asc l c]
  · rfl
theorem odd_fo (l : List UInt8) (h : l ≠ []) : oddR (l.map fo) = oddR l := by
  unfold oddR rn
  rw [decode_fo l h]
  split
  · rename_i c; rw [decode_asc l c]; exact fo_odd _ c
  · rfl
theorem bad_fo (l : List UInt8) (h : l ≠ []) : bad (l.map fo) ↔ bad l := by
  unfold bad
  rw [decode_fo l h]
  split
  · rename_i c
    have hl := fo_lt (l.getD 0 0)
    rw [decode_asc l c, Prod.ext_iff, Prod.ext_iff]
    simp only
    omega
  · exact Iff.rfl
theorem runes_fo (l : List UInt8) : runes (l.map fo) = (runes l).map (List.map fo) := by
  induction l using rune_ind with
  | h0 => rfl
  | h1 l hl ih => rw [runes_step _ (by simpa using hl), runes_step l hl, wd_fo l hl, ← List.map_take, ← List.map_drop, ih, List.map_cons]
theorem fine_fo (l : List UInt8) : fine (l.map fo) = fine l := by
  induction l using rune_ind with
  | h0 => rfl
  | h1 l hl ih => rw [fine_step _ (by simpa using hl), fine_step l hl, wd_fo l hl, ← List.map_drop, ih, odd_fo l hl, decide_eq_decide.2 (not_congr (bad_fo l hl))]
theorem isName_fine (l : List UInt8) : isName l = (fine l && decide (1 ≤ (runes l).length) && decide ((runes l).length ≤ 32) && l != [46] && l != [46, 46] && l.head? != some 32 && l.getLast? != some 32) := by
  unfold isName fine
  rfl
theorem isName_fo (l : List UInt8) : isName (l.map fo) = isName l := by
  rw [isName_fine, isName_fine, fine_fo, runes_fo, List.length_map]
  have e1 : (l.map fo != [46]) = (l != [46]) := by
    rw [bne, bne]; congr 1; rw [Bool.eq_iff_iff, beq_iff_eq, beq_iff_eq]
    match l with
    | [] => simp
    | [a] => simp [fo_eq]
    | a :: b :: r => simp
  have e2 : (l.map fo != [46, 46]) = (l != [46, 46]) := by
    rw [bne, bne]; congr 1; rw [Bool.eq_iff_iff, beq_iff_eq, beq_iff_eq]
    match l with
    | [] => simp
    | [a] => simp
    | [a, b] => simp [fo_eq]
    | a :: b :: c :: r => simp
  have e3 : ((l.map fo).head? != some 32) = (l.head? != some 32) := by
    rw [bne, bne]; congr 1; rw [Bool.eq_iff_iff, beq_iff_eq, beq_iff_eq, List.head?_map]
    cases l.head? <;> simp [fo_eq]
  have e4 : ((l.map fo).getLast? != some 32) = (l.getLast? != some 32) := by
    rw [bne, bne]; congr 1; rw [Bool.eq_iff_iff, beq_iff_eq, beq_iff_eq, List.getLast?_map]
    cases l.getLast? <;> simp [fo_eq]
  rw [e1, e2, e3, e4]
theorem map_fo_fo (l : List UInt8) : (l.map fo).map fo = l.map fo := by
  rw [List.map_map]
  exact List.map_congr_left fun c _ => fo_fo c
theorem NameFolds : samphirelaw08_NameFolds.Pure := by
  intro a hs
  refine ⟨a.size + 100, ?_⟩
  unfold samphirelaw08_NameFolds.f
  by_cases c : (a.size : Int) > 1024
  · rw [if_pos c, awake_b _ (by omega)]
  obtain ⟨t, ht, hL⟩ := fold_is a (by omega)
  obtain ⟨t', ht', hL'⟩ := rfold_is a (a.size + 100) (by omega) (by omega)
  obtain rfl : t = t' := L_ext (hL.trans hL'.symm)
  have hts : t.size = a.size := by rw [← L_len, ← L_len, hL, List.length_map]
  obtain ⟨u, hu, hLu⟩ := fold_is t (by omega)
  obtain rfl : u = t := L_ext (by rw [hLu, hL, map_fo_fo])
  rw [if_neg c, ht, ht']
  simp only [Option.bind_some, if_true]
  rw [hu]
  simp only [Option.bind_some, if_true]
  rw [count_is u (by omega), count_is a (by omega), check_is u (by omega), check_is a (by omega), hL, runes_fo, List.length_map, isName_fo]
  simp only [Option.bind_some, if_true]
  first | exact awake_is _ (by omega) | exact awake_b _ (by omega)
/-! ### two texts, one behind the other -/
theorem isName_good {l : List UInt8} (h : isName l = true) : good l ∧ fine l = true ∧ 1 ≤ (runes l).length ∧ (runes l).length ≤ 32 ∧ l.head? ≠ some 32 ∧ l.getLast? ≠ some 32 := by
  have h2 := h
  rw [isName_fine] at h2
  simp only [Bool.and_eq_true, decide_eq_true_eq, bne_iff_ne, ne_eq] at h2
  obtain ⟨⟨⟨⟨⟨⟨h1, h2⟩, h3⟩, _⟩, _⟩, h4⟩, h5⟩ := h2
  refine ⟨?_, h1, h2, h3, h4, h5⟩
  unfold fine at h1
  simp only [Bool.and_eq_true, decide_eq_true_eq] at h1
  exact h1.1
theorem ne_nil_of_runes {l : List UInt8} (h : 1 ≤ (runes l).length) : l ≠ [] := by
  rintro rfl
  simp [runes_nil] at h
theorem fine_append (a b : List UInt8) (ha : fine a = true) (hb : fine b = true) : fine (a ++ b) = true := by
  have h1 := ha
  have h2 := hb
  unfold fine at h1 h2 ⊢
  simp only [Bool.and_eq_true, decide_eq_true_eq, Bool.not_eq_true', List.any_eq_false] at h1 h2 ⊢
  have hr := runes_append a b h1.1
  constructor
  · intro c hc
    rw [hr, List.mem_append] at hc
    exact hc.elim (h1.1 c) (h2.1 c)
  · intro c hc
    rw [hr, List.mem_append] at hc
    exact hc.elim (h1.2 c) (h2.2 c)
theorem isName_append (a b : List UInt8) (ha : isName a = true) (hb : isName b = true) : isName (a ++ b) = (decide ((runes a).length + (runes b).length ≤ 32) && (a ++ b != [46, 46])) := by
  obtain ⟨a1, a2, a3, a4, a5, a6⟩ := isName_good ha
  obtain ⟨b1, b2, b3, b4, b5, b6⟩ := isName_good hb
  have an := ne_nil_of_runes a3
  have bn := ne_nil_of_runes b3
  rw [isName_fine, fine_append a b a2 b2, runes_append a b a1, List.length_append]
  have e1 : decide (1 ≤ (runes a).length + (runes b).length) = true := decide_eq_true (by omega)
  have e2 : (a ++ b != [46]) = true := by
    rw [bne_iff_ne]
    intro e
    have h1 := congrArg List.length e
    have h2 := List.length_pos_iff.2 an
    have h3 := List.length_pos_iff.2 bn
    simp at h1
    omega
  have e3 : ((a ++ b).head? != some 32) = true := by
    rw [bne_iff_ne]
    cases a with
    | nil => exact absurd rfl an
    | cons x r => simpa using a5
  have e4 : ((a ++ b).getLast? != some 32) = true := by
    rw [bne_iff_ne, List.getLast?_append]
    cases hb : b.getLast? with
    | none => exact absurd (List.getLast?_eq_none_iff.1 hb) bn
    | some y => rw [hb] at b6; simpa using b6
  rw [e1, e2, e3, e4]
  simp
end Go.Proofs.YtlipgfahjmgekabDoor.S
