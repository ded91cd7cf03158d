/- The quarter round of an array of four numbers: the program's and the reference's, as the machine walks them. -/
import Derived.Test.YtlipgfahjmgekaaHa
import Derived.Test.YtlipgfahjmgekaaHr
namespace Go.Proofs.Ytlipgfahjmgekaa.S
open Go.RowKit Go.Proofs.YtlipgfahjmgekaaW.PrintWords Go.Proofs.YtlipgfahjmgekaaW.PrintLast Go.Proofs.YtlipgfahjmgekaaW.PrintMore
attribute [local go_sem] max2_int min2_int max_two min_two max_three min_three max_four min_four
set_option linter.unusedVariables false
set_option linter.unusedSimpArgs false

structure Q4 where
  a : BitVec 32
  b : BitVec 32
  c : BitVec 32
  d : BitVec 32
def qr (q : Q4) : Q4 :=
  let a1 := q.a + q.b
  let d1 := rotl (q.d ^^^ a1) 16
  let c1 := q.c + d1
  let b1 := rotl (q.b ^^^ c1) 12
  let a2 := a1 + b1
  let d2 := rotl (d1 ^^^ a2) 8
  let c2 := c1 + d2
  let b2 := rotl (b1 ^^^ c2) 7
  ⟨a2, b2, c2, d2⟩
theorem U_add (a b : BitVec 32) : (U a + U b) % 4294967296 = U (a + b) := by
  unfold U
  rw [BitVec.toNat_add]
  omega
theorem rot_U16 (x : BitVec 32) : bits_RotateLeft32.f (U x) 16 = some (U (rotl x 16)) := by
  have e : Go.bits .and .u64 (IntKind.u64.wrap 16) 31 = 16 := by decide +kernel
  have e2 : IntKind.u64.wrap (32 - 16) = 16 := by decide +kernel
  unfold bits_RotateLeft32.f
  rw [e, e2, if_pos (by decide), if_pos (by decide)]
  have e1 : shl .u32 (U x) 16 = U (x <<< 16) := by
    unfold shl
    rw [IntKind.wrap_u32]
    exact U_shl x 16
  have e3 : shr .u32 (U x) 16 = U (x >>> 16) := U_shr x 16
  rw [e1, e3, U_or32]
  rfl
theorem rot_U12 (x : BitVec 32) : bits_RotateLeft32.f (U x) 12 = some (U (rotl x 12)) := by
  have e : Go.bits .and .u64 (IntKind.u64.wrap 12) 31 = 12 := by decide +kernel
  have e2 : IntKind.u64.wrap (32 - 12) = 20 := by decide +kernel
  unfold bits_RotateLeft32.f
  rw [e, e2, if_pos (by decide), if_pos (by decide)]
  have e1 : shl .u32 (U x) 12 = U (x <<< 12) := by
    unfold shl
    rw [IntKind.wrap_u32]
    exact U_shl x 12
  have e3 : shr .u32 (U x) 20 = U (x >>> 20) := U_shr x 20
  rw [e1, e3, U_or32]
  rfl
theorem rot_U8 (x : BitVec 32) : bits_RotateLeft32.f (U x) 8 = some (U (rotl x 8)) := by
  have e : Go.bits .and .u64 (IntKind.u64.wrap 8) 31 = 8 := by decide +kernel
  have e2 : IntKind.u64.wrap (32 - 8) = 24 := by decide +kernel
  unfold bits_RotateLeft32.f
  rw [e, e2, if_pos (by decide), if_pos (by decide)]
  have e1 : shl .u32 (U x) 8 = U (x <<< 8) := by
    unfold shl
    rw [IntKind.wrap_u32]
    exact U_shl x 8
  have e3 : shr .u32 (U x) 24 = U (x >>> 24) := U_shr x 24
  rw [e1, e3, U_or32]
  rfl
theorem rot_U7 (x : BitVec 32) : bits_RotateLeft32.f (U x) 7 = some (U (rotl x 7)) := by
  have e : Go.bits .and .u64 (IntKind.u64.wrap 7) 31 = 7 := by decide +kernel
  have e2 : IntKind.u64.wrap (32 - 7) = 25 := by decide +kernel
  unfold bits_RotateLeft32.f
  rw [e, e2, if_pos (by decide), if_pos (by decide)]
  have e1 : shl .u32 (U x) 7 = U (x <<< 7) := by
    unfold shl
    rw [IntKind.wrap_u32]
    exact U_shl x 7
  have e3 : shr .u32 (U x) 25 = U (x >>> 25) := U_shr x 25
  rw [e1, e3, U_or32]
  rfl
theorem quarter_U (q : Q4) : chacha_quarter.f (U q.a) (U q.b) (U q.c) (U q.d) = some (U (qr q).a, U (qr q).b, U (qr q).c, U (qr q).d) := by
  unfold chacha_quarter.f
  simp only [U_add, U_xor32, rot_U16, rot_U12, rot_U8, rot_U7, Option.bind_some]
  rfl
set_option maxHeartbeats 8000000 in
set_option maxRecDepth 100000 in
theorem quarter9 (a0 a1 a2 a3 r1 r2 r3 r4 : Int) (w : World) (A : Aside0 (chacha_quarter.f (a0 % 4294967296) (a1 % 4294967296) (a2 % 4294967296) (a3 % 4294967296) = some (r1, r2, r3, r4)))
    (h1 : 0 ≤ r1) (h1' : r1 ≤ 4294967295) (h2 : 0 ≤ r2) (h2' : r2 ≤ 4294967295) (h3 : 0 ≤ r3) (h3' : r3 ≤ 4294967295) (h4 : 0 ≤ r4) (h4' : r4 ≤ 4294967295) :
    Calls Try.prog 9 #[.agg #[.int .i64 a0, .int .i64 a1, .int .i64 a2, .int .i64 a3]] w fun e w' => e = .returned (.agg #[.int .i64 r1, .int .i64 r2, .int .i64 r3, .int .i64 r4]) ∧ Below w.heap.size w w' := by
  go_enter Try.func9, Try.ntmps9
  go_wp2_with (go_at_call 18; refine (chacha_quarter.calls _ _ _ _ r1 r2 r3 r4 _ A.out).mono ?_; rintro e w' ⟨rfl, ⟨nd, rfl⟩⟩)
  have hb0 : ((((w.alloc (.cells #[.int .i64 a0, .int .i64 a1, .int .i64 a2, .int .i64 a3] 22)).alloc (.cells #[.int .i64 0, .int .i64 0, .int .i64 0, .int .i64 0] 22)).drewN nd).heap[w.heap.size + 1]?) = some (.cells #[.int .i64 0, .int .i64 0, .int .i64 0, .int .i64 0] 22 (0, 0)) := by
    have := heap_alloc_new (w.alloc (.cells #[.int .i64 a0, .int .i64 a1, .int .i64 a2, .int .i64 a3] 22)) (.cells #[.int .i64 0, .int .i64 0, .int .i64 0, .int .i64 0] 22)
    simpa using this
  have hb4 := blk_set (blk_set (blk_set (blk_set hb0 0 (.int .i64 r1)) 1 (.int .i64 r2)) 2 (.int .i64 r3)) 3 (.int .i64 r4)
  refine bodyPost_ret (results_single (r := .cell 2 22) rfl (.cell (w.heap.size + 1) 22 #[.int .i64 r1, .int .i64 r2, .int .i64 r3, .int .i64 r4] (0, 0) (.array 4 3) rfl hb4 rfl rfl rfl .nil)) rfl ⟨rfl, ?_⟩
  exact below_set (below_set (below_set (below_set (pw_below_drewN (below_alloc (below_alloc (Below.refl _ _) _) _) _) (by omega)) (by omega)) (by omega)) (by omega)
theorem chacha_Quarter.calls (q : Q4) (a0 a1 a2 a3 : Int) (e0 : BitVec.ofInt 32 a0 = q.a) (e1 : BitVec.ofInt 32 a1 = q.b) (e2 : BitVec.ofInt 32 a2 = q.c) (e3 : BitVec.ofInt 32 a3 = q.d) (w : World) :
    Calls Try.prog 9 #[.agg #[.int .i64 a0, .int .i64 a1, .int .i64 a2, .int .i64 a3]] w fun e w' => e = .returned (.agg #[.int .i64 (U (qr q).a), .int .i64 (U (qr q).b), .int .i64 (U (qr q).c), .int .i64 (U (qr q).d)]) ∧ Below w.heap.size w w' := by
  refine quarter9 a0 a1 a2 a3 _ _ _ _ w ⟨?_⟩ (U_bd _).1 (U_bd _).2 (U_bd _).1 (U_bd _).2 (U_bd _).1 (U_bd _).2 (U_bd _).1 (U_bd _).2
  rw [← U_ofInt, ← U_ofInt, ← U_ofInt, ← U_ofInt, e0, e1, e2, e3]
  exact quarter_U q
end Go.Proofs.Ytlipgfahjmgekaa.S
