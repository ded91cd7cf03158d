/- The reference's quarter round of an array of four numbers, as the machine walks it. -/
import Derived.Test.YtlipgfahjmgekaaHb
namespace Go.Proofs.Ytlipgfahjmgekaa.S
open Go.RowKit Go.Proofs.YtlipgfahjmgekaaW.PrintWords Go.Proofs.YtlipgfahjmgekaaW.PrintLast Go.Proofs.YtlipgfahjmgekaaW.PrintMore
attribute [local go_sem] max2_int min2_int max_two min_two max_three min_three max_four min_four
set_option linter.unusedVariables false
set_option linter.unusedSimpArgs false

set_option maxHeartbeats 8000000 in
set_option maxRecDepth 100000 in
theorem quarter10 (x0 x1 x2 x3 a b c d a1 d1 c1 b1 a2 d2 c2 b2 : Int) (w : World) (A0 : Aside0 (samphireref01_Word.f x0 = some a)) (A1 : Aside0 (samphireref01_Word.f x1 = some b)) (A2 : Aside0 (samphireref01_Word.f x2 = some c)) (A3 : Aside0 (samphireref01_Word.f x3 = some d)) (A4 : Aside0 (samphireref01_Word.f (a + b) = some a1)) (A5 : Aside0 (samphireref01_Rot.f (Go.bits .xor .i64 d a1) 16 = some d1)) (A6 : Aside0 (samphireref01_Word.f (c + d1) = some c1)) (A7 : Aside0 (samphireref01_Rot.f (Go.bits .xor .i64 b c1) 12 = some b1)) (A8 : Aside0 (samphireref01_Word.f (a1 + b1) = some a2)) (A9 : Aside0 (samphireref01_Rot.f (Go.bits .xor .i64 d1 a2) 8 = some d2)) (A10 : Aside0 (samphireref01_Word.f (c1 + d2) = some c2)) (A11 : Aside0 (samphireref01_Rot.f (Go.bits .xor .i64 b1 c2) 7 = some b2)) (la : 0 ≤ a) (ua : a ≤ 4294967295) (lb : 0 ≤ b) (ub : b ≤ 4294967295) (lc : 0 ≤ c) (uc : c ≤ 4294967295) (ld : 0 ≤ d) (ud : d ≤ 4294967295) (la1 : 0 ≤ a1) (ua1 : a1 ≤ 4294967295) (ld1 : 0 ≤ d1) (ud1 : d1 ≤ 4294967295) (lc1 : 0 ≤ c1) (uc1 : c1 ≤ 4294967295) (lb1 : 0 ≤ b1) (ub1 : b1 ≤ 4294967295) (la2 : 0 ≤ a2) (ua2 : a2 ≤ 4294967295) (ld2 : 0 ≤ d2) (ud2 : d2 ≤ 4294967295) (lc2 : 0 ≤ c2) (uc2 : c2 ≤ 4294967295) (lb2 : 0 ≤ b2) (ub2 : b2 ≤ 4294967295) :
    Calls Try.prog 10 #[.agg #[.int .i64 x0, .int .i64 x1, .int .i64 x2, .int .i64 x3]] w fun e w' => e = .returned (.agg #[.int .i64 a2, .int .i64 b2, .int .i64 c2, .int .i64 d2]) ∧ Below w.heap.size w w' := by
  go_enter Try.func10, Try.ntmps10
  go_wp2
  go_quiet (first | (go_at_call 17; (with_reducible refine (samphireref01_Word.calls x0 a _ A0.out).mono ?_); rintro e w' ⟨rfl, ⟨nd, rfl⟩⟩; (try first | exact ⟨rfl, _, World.drewN_drewN _ _ _⟩ | exact ⟨rfl, _, Eq.trans (World.drewN_drewN _ _ _) (congrArg (World.drewN _) (Nat.add_assoc _ _ _))⟩)) | (go_at_call 17; (with_reducible refine (samphireref01_Word.calls x1 b _ A1.out).mono ?_); rintro e w' ⟨rfl, ⟨nd, rfl⟩⟩; (try first | exact ⟨rfl, _, World.drewN_drewN _ _ _⟩ | exact ⟨rfl, _, Eq.trans (World.drewN_drewN _ _ _) (congrArg (World.drewN _) (Nat.add_assoc _ _ _))⟩)) | (go_at_call 17; (with_reducible refine (samphireref01_Word.calls x2 c _ A2.out).mono ?_); rintro e w' ⟨rfl, ⟨nd, rfl⟩⟩; (try first | exact ⟨rfl, _, World.drewN_drewN _ _ _⟩ | exact ⟨rfl, _, Eq.trans (World.drewN_drewN _ _ _) (congrArg (World.drewN _) (Nat.add_assoc _ _ _))⟩)) | (go_at_call 17; (with_reducible refine (samphireref01_Word.calls x3 d _ A3.out).mono ?_); rintro e w' ⟨rfl, ⟨nd, rfl⟩⟩; (try first | exact ⟨rfl, _, World.drewN_drewN _ _ _⟩ | exact ⟨rfl, _, Eq.trans (World.drewN_drewN _ _ _) (congrArg (World.drewN _) (Nat.add_assoc _ _ _))⟩)))
  go_wp2_with (first | (go_at_call 17; (with_reducible refine (samphireref01_Word.calls (a + b) a1 _ A4.out).mono ?_); rintro e w' ⟨rfl, ⟨nd, rfl⟩⟩) | (go_at_call 19; (with_reducible refine (samphireref01_Rot.calls (Go.bits .xor .i64 d a1) 16 d1 _ A5.out).mono ?_); rintro e w' ⟨rfl, ⟨nd, rfl⟩⟩) | (go_at_call 17; (with_reducible refine (samphireref01_Word.calls (c + d1) c1 _ A6.out).mono ?_); rintro e w' ⟨rfl, ⟨nd, rfl⟩⟩) | (go_at_call 19; (with_reducible refine (samphireref01_Rot.calls (Go.bits .xor .i64 b c1) 12 b1 _ A7.out).mono ?_); rintro e w' ⟨rfl, ⟨nd, rfl⟩⟩) | (go_at_call 17; (with_reducible refine (samphireref01_Word.calls (a1 + b1) a2 _ A8.out).mono ?_); rintro e w' ⟨rfl, ⟨nd, rfl⟩⟩) | (go_at_call 19; (with_reducible refine (samphireref01_Rot.calls (Go.bits .xor .i64 d1 a2) 8 d2 _ A9.out).mono ?_); rintro e w' ⟨rfl, ⟨nd, rfl⟩⟩) | (go_at_call 17; (with_reducible refine (samphireref01_Word.calls (c1 + d2) c2 _ A10.out).mono ?_); rintro e w' ⟨rfl, ⟨nd, rfl⟩⟩) | (go_at_call 19; (with_reducible refine (samphireref01_Rot.calls (Go.bits .xor .i64 b1 c2) 7 b2 _ A11.out).mono ?_); rintro e w' ⟨rfl, ⟨nd, rfl⟩⟩))
  have hb0 : ∀ m, ((((w.alloc (.cells #[.int .i64 x0, .int .i64 x1, .int .i64 x2, .int .i64 x3] 22)).alloc (.cells #[.int .i64 0, .int .i64 0, .int .i64 0, .int .i64 0] 22)).drewN m).heap[w.heap.size + 1]?) = some (.cells #[.int .i64 0, .int .i64 0, .int .i64 0, .int .i64 0] 22 (0, 0)) := by
    have := heap_alloc_new (w.alloc (.cells #[.int .i64 x0, .int .i64 x1, .int .i64 x2, .int .i64 x3] 22)) (.cells #[.int .i64 0, .int .i64 0, .int .i64 0, .int .i64 0] 22)
    intro m
    simpa using this
  have hb4 := fun m => blk_set (blk_set (blk_set (blk_set (hb0 m) 0 (.int .i64 a2)) 1 (.int .i64 b2)) 2 (.int .i64 c2)) 3 (.int .i64 d2)
  refine bodyPost_ret (results_single (r := .cell 2 22) rfl (.cell (w.heap.size + 1) 22 #[.int .i64 a2, .int .i64 b2, .int .i64 c2, .int .i64 d2] (0, 0) (.array 4 3) rfl (hb4 _) rfl rfl rfl .nil)) rfl ⟨rfl, ?_⟩
  exact below_set (below_set (below_set (below_set (pw_below_drewN (below_alloc (below_alloc (Below.refl _ _) _) _) _) (by omega)) (by omega)) (by omega)) (by omega)
theorem lo32_U (x : Int) : lo32 x = U (BitVec.ofInt 32 x) := by rw [U_ofInt]; exact mask32 x
theorem word_U (x : Int) (v : BitVec 32) (h : BitVec.ofInt 32 x = v) : Aside0 (samphireref01_Word.f x = some (U v)) := ⟨by rw [← h, ← lo32_U]; rfl⟩
theorem U_self (x : BitVec 32) : BitVec.ofInt 32 (U x) = x := by
  unfold U
  simp
theorem word_add (x y : BitVec 32) : Aside0 (samphireref01_Word.f (U x + U y) = some (U (x + y))) := by
  refine word_U _ _ (U_inj ?_)
  rw [U_ofInt, U_add]
theorem rot_xor (x y : BitVec 32) (n : Int) (hn : n = 16 ∨ n = 12 ∨ n = 8 ∨ n = 7) : Aside0 (samphireref01_Rot.f (Go.bits .xor .i64 (U x) (U y)) n = some (U (rotl (x ^^^ y) n.toNat))) := by
  refine ⟨?_⟩
  have hb := U_bd (x ^^^ y)
  unfold samphireref01_Rot.f
  have hl : lo32 (U (x ^^^ y)) = U (x ^^^ y) := by rw [lo32_U, U_self]
  rw [if_pos hn, U_xor, hl]
  have key : ∀ k : Nat, 0 < k → k < 32 → lo32 (Go.bits .or .i64 (wrap64 (U (x ^^^ y) * 2 ^ k)) (U (x ^^^ y) / 2 ^ (32 - k))) = U (rotl (x ^^^ y) k) := by
    intro k h0 h1
    have hw : wrap64 (U (x ^^^ y) * 2 ^ k) = U (x ^^^ y) * 2 ^ k := by
      have h2 : (2 : Int) ^ k ≤ 2 ^ 31 := by
        have h3 : (2 : Nat) ^ k ≤ 2 ^ 31 := Nat.pow_le_pow_right (by decide) (by omega)
        exact_mod_cast h3
      have h4 : (0 : Int) ≤ 2 ^ k := Int.pow_nonneg (by decide)
      have h5 : U (x ^^^ y) * 2 ^ k ≤ 4294967295 * 2 ^ 31 := Int.mul_le_mul hb.2 h2 h4 (by decide)
      have h6 : 0 ≤ U (x ^^^ y) * 2 ^ k := Int.mul_nonneg hb.1 h4
      unfold wrap64
      omega
    rw [hw]
    exact U_rot64 _ k h0 h1
  rw [key n.toNat (by omega) (by omega)]
theorem samphireref05_Quarter.calls (q : Q4) (x0 x1 x2 x3 : Int) (e0 : BitVec.ofInt 32 x0 = q.a) (e1 : BitVec.ofInt 32 x1 = q.b) (e2 : BitVec.ofInt 32 x2 = q.c) (e3 : BitVec.ofInt 32 x3 = q.d) (w : World) :
    Calls Try.prog 10 #[.agg #[.int .i64 x0, .int .i64 x1, .int .i64 x2, .int .i64 x3]] w fun e w' => e = .returned (.agg #[.int .i64 (U (qr q).a), .int .i64 (U (qr q).b), .int .i64 (U (qr q).c), .int .i64 (U (qr q).d)]) ∧ Below w.heap.size w w' :=
  quarter10 x0 x1 x2 x3 _ _ _ _ _ _ _ _ _ _ _ _ w (word_U _ _ e0) (word_U _ _ e1) (word_U _ _ e2) (word_U _ _ e3) (word_add _ _) (rot_xor _ _ 16 (by decide)) (word_add _ _) (rot_xor _ _ 12 (by decide)) (word_add _ _) (rot_xor _ _ 8 (by decide)) (word_add _ _) (rot_xor _ _ 7 (by decide))
    (U_bd _).1 (U_bd _).2 (U_bd _).1 (U_bd _).2 (U_bd _).1 (U_bd _).2 (U_bd _).1 (U_bd _).2 (U_bd _).1 (U_bd _).2 (U_bd _).1 (U_bd _).2 (U_bd _).1 (U_bd _).2 (U_bd _).1 (U_bd _).2 (U_bd _).1 (U_bd _).2 (U_bd _).1 (U_bd _).2 (U_bd _).1 (U_bd _).2 (U_bd _).1 (U_bd _).2
end Go.Proofs.Ytlipgfahjmgekaa.S
