/- The law ChachaQuarters, as the machine walks it. -/
import Derived.Test.YtlipgfahjmgekaaHc
namespace Go.Proofs.Ytlipgfahjmgekaa.S
open Go.RowKit Go.Proofs.YtlipgfahjmgekaaW.PrintWords Go.Proofs.YtlipgfahjmgekaaW.PrintLast Go.Proofs.YtlipgfahjmgekaaW.PrintMore
attribute [local go_sem] max2_int min2_int max_two min_two max_three min_three max_four min_four
set_option linter.unusedVariables false
set_option linter.unusedSimpArgs false

theorem eq3 (w : World) (d : Nat) (x y : Int) : (Op.equalIn (d + 1) 3 (.int .i64 x) (.int .i64 y)).run Try.prog w = .ok (x == y) w := by
  go_simp
theorem eq22 (w : World) (x0 x1 x2 x3 : Int) : (Op.equalIn 10000 22 (.agg #[.int .i64 x0, .int .i64 x1, .int .i64 x2, .int .i64 x3]) (.agg #[.int .i64 x0, .int .i64 x1, .int .i64 x2, .int .i64 x3])).run Try.prog w = .ok true w := by
  have hs : (sizeOf 3).run Try.prog w = .ok 1 w := by kernel_rfl
  have q0 : ∀ w', (part 3 #[.int .i64 x0, .int .i64 x1, .int .i64 x2, .int .i64 x3] 0).run Try.prog w' = .ok (.int .i64 x0) w' := fun _ => by kernel_rfl
  have q1 : ∀ w', (part 3 #[.int .i64 x0, .int .i64 x1, .int .i64 x2, .int .i64 x3] 1).run Try.prog w' = .ok (.int .i64 x1) w' := fun _ => by kernel_rfl
  have q2 : ∀ w', (part 3 #[.int .i64 x0, .int .i64 x1, .int .i64 x2, .int .i64 x3] 2).run Try.prog w' = .ok (.int .i64 x2) w' := fun _ => by kernel_rfl
  have q3 : ∀ w', (part 3 #[.int .i64 x0, .int .i64 x1, .int .i64 x2, .int .i64 x3] 3).run Try.prog w' = .ok (.int .i64 x3) w' := fun _ => by kernel_rfl
  have e := fun w' x y => eq3 w' 9998 x y
  rw [show (10000 : Nat) = 9999 + 1 from rfl]
  unfold Op.equalIn
  simp only [Sem.run_bind, run_underlying Try.underlying22, Result.andThen_ok, hs]
  simp [List.range', q0, q1, q2, q3, e]
def known : Q4 := ⟨0x11111111#32, 0x01020304#32, 0x9b8d6f43#32, 0x01234567#32⟩
theorem known_is : U (qr known).a = 3928658676 ∧ U (qr known).b = 3407673550 ∧ U (qr known).c = 1166100270 ∧ U (qr known).d = 1484899515 := by decide +kernel
set_option maxHeartbeats 8000000 in
set_option maxRecDepth 100000 in
theorem samphirelaw05_quarter.calls (w : World) : Calls Try.prog 11 #[] w fun e w' => e = .returned (.bool true) ∧ Below w.heap.size w w' := by
  have C := fun w => chacha_Quarter.calls known 286331153 16909060 2609737539 19088743 (by decide +kernel) (by decide +kernel) (by decide +kernel) (by decide +kernel) w
  rw [known_is.1, known_is.2.1, known_is.2.2.1, known_is.2.2.2] at C
  have E := fun w' => eq22 w' 3928658676 3407673550 1166100270 1484899515
  go_enter Try.func11, Try.ntmps11
  go_wp2_with (go_at_call 9; refine (C _).mono ?_; rintro e w' ⟨rfl, hb⟩)
  go_ret
  exact ⟨rfl, hb⟩
def S4 (w : World) (B : Nat) (x0 x1 x2 x3 : Int) (W : World) : Prop := (W.cell? ⟨B, 0, none⟩ = some (.int .i64 x0) ∧ W.cell? ⟨B, 1, none⟩ = some (.int .i64 x1) ∧ W.cell? ⟨B, 2, none⟩ = some (.int .i64 x2) ∧ W.cell? ⟨B, 3, none⟩ = some (.int .i64 x3)) ∧ Below w.heap.size w W ∧ B < W.heap.size
theorem S4.next {w : World} {B : Nat} {x0 x1 x2 x3 : Int} {W W1 : World} (h : (W.cell? ⟨B, 0, none⟩ = some (.int .i64 x0) ∧ W.cell? ⟨B, 1, none⟩ = some (.int .i64 x1) ∧ W.cell? ⟨B, 2, none⟩ = some (.int .i64 x2) ∧ W.cell? ⟨B, 3, none⟩ = some (.int .i64 x3)) ∧ Below w.heap.size w W ∧ B < W.heap.size) (hb : Below W.heap.size W W1) :
    (W1.cell? ⟨B, 0, none⟩ = some (.int .i64 x0) ∧ W1.cell? ⟨B, 1, none⟩ = some (.int .i64 x1) ∧ W1.cell? ⟨B, 2, none⟩ = some (.int .i64 x2) ∧ W1.cell? ⟨B, 3, none⟩ = some (.int .i64 x3)) ∧ Below w.heap.size w W1 ∧ B < W1.heap.size :=
  ⟨⟨pw_cell_below hb h.1.1, pw_cell_below hb h.1.2.1, pw_cell_below hb h.1.2.2.1, pw_cell_below hb h.1.2.2.2⟩, below_then h.2.1 h.2.1.size hb, Nat.lt_of_lt_of_le h.2.2 hb.size⟩
set_option maxHeartbeats 8000000 in
set_option maxRecDepth 100000 in
theorem quarters_walk (x0 x1 x2 x3 y0 y1 y2 y3 : Int) (w : World)
    (C9 : ∀ w, Calls Try.prog 9 #[.agg #[.int .i64 x0, .int .i64 x1, .int .i64 x2, .int .i64 x3]] w fun e w' => e = .returned (.agg #[.int .i64 y0, .int .i64 y1, .int .i64 y2, .int .i64 y3]) ∧ Below w.heap.size w w')
    (C10 : ∀ w, Calls Try.prog 10 #[.agg #[.int .i64 x0, .int .i64 x1, .int .i64 x2, .int .i64 x3]] w fun e w' => e = .returned (.agg #[.int .i64 y0, .int .i64 y1, .int .i64 y2, .int .i64 y3]) ∧ Below w.heap.size w w') :
    Calls Try.prog 3 #[.agg #[.int .i64 x0, .int .i64 x1, .int .i64 x2, .int .i64 x3]] w fun e w' => e = .returned (.bool true) ∧ Below w.heap.size w w' := by
  have E := fun w' => eq22 w' y0 y1 y2 y3
  go_enter Try.func3, Try.ntmps3
  go_wp2_with fail
  have hb0 : Below w.heap.size w (w.alloc (.cells #[.int .i64 x0, .int .i64 x1, .int .i64 x2, .int .i64 x3] 22)).drew := below_drew (below_alloc (Below.refl _ _) _)
  go_region_held3 (fun w' => (w'.cell? ⟨w.heap.size, 0, none⟩ = some (.int .i64 x0) ∧ w'.cell? ⟨w.heap.size, 1, none⟩ = some (.int .i64 x1) ∧ w'.cell? ⟨w.heap.size, 2, none⟩ = some (.int .i64 x2) ∧ w'.cell? ⟨w.heap.size, 3, none⟩ = some (.int .i64 x3)) ∧ Below w.heap.size w w' ∧ w.heap.size < w'.heap.size)
    (first | exact S4.next (by assumption) (by assumption) | go_keep)
    (first | (go_at_call 9; refine (C9 _).mono ?_; rintro e w1 ⟨rfl, hb1⟩) | (go_at_call 10; refine (C10 _).mono ?_; rintro e w2 ⟨rfl, hb2⟩) | (go_at_call 11; refine (samphirelaw05_quarter.calls _).mono ?_; rintro e w3 ⟨rfl, hb3⟩))
  have hw3 : Below w.heap.size w w3 ∧ w.heap.size < w3.heap.size := (by assumption : _ ∧ Below w.heap.size w w3 ∧ w.heap.size < w3.heap.size).2
  go_wp2
  go_ret
  exact ⟨rfl, hw3.1⟩
theorem quarters_any (x0 x1 x2 x3 : Int) (w : World) : Calls Try.prog 3 #[.agg #[.int .i64 x0, .int .i64 x1, .int .i64 x2, .int .i64 x3]] w fun e w' => e = .returned (.bool true) ∧ Below w.heap.size w w' :=
  quarters_walk x0 x1 x2 x3 _ _ _ _ w (fun w => chacha_Quarter.calls ⟨BitVec.ofInt 32 x0, BitVec.ofInt 32 x1, BitVec.ofInt 32 x2, BitVec.ofInt 32 x3⟩ x0 x1 x2 x3 rfl rfl rfl rfl w)
    (fun w => samphireref05_Quarter.calls ⟨BitVec.ofInt 32 x0, BitVec.ofInt 32 x1, BitVec.ofInt 32 x2, BitVec.ofInt 32 x3⟩ x0 x1 x2 x3 rfl rfl rfl rfl w)
end Go.Proofs.Ytlipgfahjmgekaa.S
