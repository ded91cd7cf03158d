/- Two of the Pad laws: texts of one size, and texts about the greatest lengths. -/
import Derived.Test.YtlipgfahjmgekacDoorPq
import Derived.Test.YtlipgfahjmgekacDoorSx4
import Derived.Laws.BitsLemmas
namespace Go.Proofs.YtlipgfahjmgekacDoor.S
open Go.RowKit Go.Proofs.YtlipgfahjmgekacDoorW.PrintWords Go.Proofs.YtlipgfahjmgekacDoorW.PrintLast Go.Proofs.YtlipgfahjmgekacDoorW.PrintMore
set_option linter.unusedVariables false
set_option linter.unusedSimpArgs false
theorem PadAlike : samphirelaw14_PadAlike.Pure := by
  intro a b _ _
  refine ⟨31 + 1, ?_⟩
  unfold samphirelaw14_PadAlike.f
  simp only [samphirelaw14_PadAlike.j0]
  by_cases c : (a.size : Int) > 4096
  · rw [if_pos c, if_pos trivial, awake_b]
  rw [if_neg c]
  by_cases c2 : (b.size : Int) > 4096
  · rw [decide_eq_true c2, if_pos rfl, awake_b]
  rw [decide_eq_false c2, if_neg Bool.false_ne_true]
  have ha : a.size < 16384 := by omega
  have hb : b.size < 16384 := by omega
  obtain ⟨s, hs, hLs⟩ := pad_is a ha
  obtain ⟨t, ht, hLt⟩ := pad_is b hb
  obtain ⟨S, s1, s2, s3, s4⟩ := sz_fits a.size ha
  obtain ⟨T, t1, t2, t3, t4⟩ := sz_fits b.size hb
  have e1 : (s.size : Int) = (S : Int) := by have h := padL_length (L a) (by rw [L_len]; exact ha); rw [← hLs, L_len, L_len, s1] at h; exact h
  have e2 : (t.size : Int) = (T : Int) := by have h := padL_length (L b) (by rw [L_len]; exact hb); rw [← hLt, L_len, L_len, t1] at h; exact h
  have e3 : ((s.toList == t.toList) == (a.toList == b.toList)) = true := by
    rw [toL, toL, toL, toL, beq_iff_eq, Bool.eq_iff_iff, beq_iff_eq, beq_iff_eq, hLs, hLt]
    exact ⟨fun h => padL_inj _ _ (by rw [L_len]; exact ha) (by rw [L_len]; exact hb) h, fun h => by rw [h]⟩
  have e4 : ¬ (a.size : Int) > (b.size : Int) → (S : Int) ≤ (T : Int) := by
    intro hn
    have ca := sz_cases (a.size : Int)
    have cb := sz_cases (b.size : Int)
    rw [s1] at ca
    rw [t1] at cb
    simp only [Prod.mk.injEq] at ca cb
    omega
  rw [hs, Option.bind_some, ht, Option.bind_some, show pad_Size.f (a.size : Int) = some (sz (a.size : Int)) from rfl, Option.bind_some, show pad_Size.f (b.size : Int) = some (sz (b.size : Int)) from rfl, Option.bind_some, s1, t1]
  simp only
  rw [if_pos trivial, if_pos trivial, if_pos trivial, if_pos trivial, if_pos e1, if_pos e2]
  by_cases c3 : (a.size : Int) > (b.size : Int)
  · rw [if_pos c3, if_pos e3, awake_b]
  · rw [if_neg c3, if_pos (e4 c3), if_pos e3, awake_b]
/-! ### bits of a number -/
theorem and64_def (a b : Int) : bits .and .i64 a b = IntKind.i64.wrap ((BitVec.ofInt 64 a &&& BitVec.ofInt 64 b).toNat : Int) := rfl
theorem mask7 (x : Int) : bits .and .i64 x 7 = x % 8 := by
  rw [and64_def, IntKind.wrap_i64]
  have e : (BitVec.ofInt 64 x &&& BitVec.ofInt 64 7).toNat = (x % 8).toNat := by
    rw [BitVec.toNat_and, BitVec.toNat_ofInt, show (BitVec.ofInt 64 7).toNat = 2 ^ 3 - 1 from by decide, Nat.and_two_pow_sub_one_eq_mod]
    omega
  rw [e]
  omega
theorem mask14 (x : Int) : bits .and .i64 x 16383 = x % 16384 := by
  rw [and64_def, IntKind.wrap_i64]
  have e : (BitVec.ofInt 64 x &&& BitVec.ofInt 64 16383).toNat = (x % 16384).toNat := by
    rw [BitVec.toNat_and, BitVec.toNat_ofInt, show (BitVec.ofInt 64 16383).toNat = 2 ^ 14 - 1 from by decide, Nat.and_two_pow_sub_one_eq_mod]
    omega
  rw [e]
  omega
theorem edges_loop (c : Int) (n : Nat) (hn : n ≤ 20000) : ∀ (d k i : Nat), i + d = n → d < k →
    samphirelaw14_PadEdges.l0 k c n (List.replicate i c ++ List.replicate (n - i) 0) i = samphirelaw14_PadEdges.l0 (k - d) c n (List.replicate n c) n := by
  intro d
  induction d with
  | zero =>
    intro k i hi hk
    obtain rfl : i = n := by omega
    rw [Nat.sub_self, List.replicate_zero, List.append_nil]
    rfl
  | succ d ih =>
    intro k i hi hk
    obtain ⟨k, rfl⟩ : ∃ x, k = x + 1 := ⟨k - 1, by omega⟩
    have e : (List.replicate i c ++ List.replicate (n - i) 0).set i c = List.replicate (i + 1) c ++ List.replicate (n - (i + 1)) 0 := by
      rw [List.set_append_right _ _ (by simp), List.length_replicate, Nat.sub_self, show n - i = (n - (i + 1)) + 1 by omega, List.replicate_succ, List.set_cons_zero, List.replicate_succ', List.append_assoc]
      rfl
    rw [show k + 1 - (d + 1) = k - d by omega, ← ih k (i + 1) (by omega) (by omega), ← e]
    conv => lhs; unfold samphirelaw14_PadEdges.l0
    rw [if_pos (by omega), if_pos (by omega), if_pos (by simp; omega), Int.toNat_natCast, w64 _ (by omega) (by omega)]
    rfl
theorem PadEdges : samphirelaw14_PadEdges.Pure := by
  intro at_ c h1 h2
  have hm : wrap64 (16381 + bits .and .i64 at_ 7) = ((16381 + (at_ % 8).toNat : Nat) : Int) := by
    rw [mask7, w64 _ (by omega) (by omega)]
    omega
  have hn8 : (at_ % 8).toNat < 8 := by omega
  obtain ⟨n, hn⟩ : ∃ n, n = 16381 + (at_ % 8).toNat := ⟨_, rfl⟩
  rw [← hn] at hm
  refine ⟨n + 1 + 100, ?_⟩
  unfold samphirelaw14_PadEdges.f
  rw [hm, if_pos (by omega), Int.toNat_natCast, if_pos (by omega)]
  have hl := edges_loop c n (by omega) n (n + 1 + 100) 0 (by omega) (by omega)
  rw [List.replicate_zero, List.nil_append, Nat.sub_zero, show n + 1 + 100 - n = 100 + 1 by omega] at hl
  refine Eq.trans hl ?_
  conv => lhs; unfold samphirelaw14_PadEdges.l0
  rw [if_neg (by omega)]
  have hsz : (strOfNums (List.replicate n c)).size = n := by rw [strOfNums_size, List.length_replicate]
  by_cases c1 : n < 16384
  · obtain ⟨t, ht, hL⟩ := pad_is (strOfNums (List.replicate n c)) (by omega)
    have hlt : (L (strOfNums (List.replicate n c))).length < 16384 := by rw [L_len]; omega
    have e1 : (t.size : Int) = 16384 := by
      have h := padL_length _ hlt
      rw [← hL, L_len, L_len, hsz] at h
      rw [h]
      rcases sz_cases (n : Int) with h | h | h | h | h | h | h | h | h | h
      all_goals first | omega | rw [h.2.2]
    rw [ht, Option.bind_some, if_neg (by omega), unpad_is t (by omega), hL, unp_padL _ hlt, show back (some (L (strOfNums (List.replicate n c)))) = ((⟨(L (strOfNums (List.replicate n c))).toArray⟩ : ByteArray), (0 : Int)) from rfl, Option.bind_some]
    simp only
    rw [if_pos trivial, if_pos e1, if_pos trivial, if_pos trivial, awake_b]
  · rw [pad_big _ (by omega), Option.bind_some, if_pos (by omega)]
    simp only
    rw [if_pos (by rw [toL]), if_pos trivial, awake_b]
end Go.Proofs.YtlipgfahjmgekacDoor.S
