/- Get, as the machine walks it. -/
import Derived.Test.YtiffeljmeahmkaaDoorMm
namespace Go.Proofs.YtiffeljmeahmkaaDoor.S
open Go.RowKit Go.Proofs.YtiffeljmeahmkaaDoorW.PrintWords Go.Proofs.YtiffeljmeahmkaaDoorW.PrintLast Go.Proofs.YtiffeljmeahmkaaDoorW.PrintMore
set_option linter.unusedVariables false
set_option linter.unusedSimpArgs false
attribute [local go_sem high] mEq field_par
-- TABLE BEGIN
abbrev marksMn_0 : Array Bool := #[false, false, false, false, false, false, false, false, false, false, false, false]
abbrev marksMn_1 : Array Bool := #[true, false, false, false, false, false, false, false, false, false, false, false]
abbrev marksMn_2 : Array Bool := #[true, true, false, false, false, false, false, false, false, false, false, false]
abbrev marksMn_3 : Array Bool := #[true, true, true, false, false, false, false, false, false, false, false, false]
abbrev marksMn_4 : Array Bool := #[true, true, true, true, false, false, false, false, false, false, false, false]
abbrev marksMn_5 : Array Bool := #[true, true, true, true, true, false, false, false, false, false, false, false]
abbrev marksMn_6 : Array Bool := #[true, true, true, true, true, true, false, false, false, false, false, false]
abbrev marksMn_7 : Array Bool := #[true, true, true, true, true, true, true, false, false, false, false, false]
abbrev marksMn_8 : Array Bool := #[true, true, true, true, true, true, true, true, false, false, false, false]
abbrev marksMn_9 : Array Bool := #[true, true, true, true, true, true, true, true, true, false, false, false]
abbrev marksMn_10 : Array Bool := #[true, true, true, true, true, true, true, true, true, true, false, false]
abbrev marksMn_11 : Array Bool := #[true, true, true, true, true, true, true, true, true, true, true, false]
abbrev marksMn_12 : Array Bool := #[true, true, true, true, true, true, true, true, true, true, true, true]
def get_.T3 : Bool × List (List Nat × List Nat) := (true, [([], []), ([0], [0]), ([1], [1]), ([2], [2]), ([], []), ([3, 4], [3, 4]), ([5], [5]), ([6], [6]), ([6], [6]), ([], []), ([9, 7, 0, 1, 2, 3, 4, 5, 6, 7, 9], [7, 9]), ([8, 10, 0, 1, 2, 3, 4, 5, 6, 7, 8, 9, 10], [8])])
def get_.B3 : List Nat := [0, 1, 3, 7, 0, 31, 63, 127, 127, 0, 767, 2047]
theorem get_.tab3 : rtab .any (opsOf Tryd.f19 3) = get_.T3 := by kernel_rfl
theorem get_.bits3 : waitsOk get_.T3.2 get_.B3 = true := by kernel_rfl
-- TABLE END
set_option maxHeartbeats 8000000 in
set_option maxRecDepth 100000 in
theorem Get_calls (w : World) (B g f n : Nat) (v : Value) (T : Tr) (s : Stp) (h : TreeAt w B g f n v T) : Calls Tryd.prog 19 #[.pointer (some ⟨g, 0, none⟩), .agg #[.int .i64 s.f0, .int .i64 s.f1]] w fun e w' => e = .returned (.tuple #[.agg #[.int .i64 (look T.now s).f0.f0, .int .i64 (look T.now s).f0.f1, .int .i64 (look T.now s).f1.f0, .int .i64 (look T.now s).f1.f1, .string (look T.now s).f2, .string (look T.now s).f3], .bool (has T.now s)]) ∧ Below w.heap.size w w' := by
  have hu := Tryd.underlying25
  have hu1 := Tryd.underlying36
  have BT := Aside0.mk (two_below w (.cells #[.int .i64 s.f0, .int .i64 s.f1] 25) (.cells #[.int .i64 0, .int .i64 0, .int .i64 0, .int .i64 0, .string ⟨#[]⟩, .string ⟨#[]⟩] 36))
  have NW := Aside0.mk (two_new w (.cells #[.int .i64 s.f0, .int .i64 s.f1] 25) (.cells #[.int .i64 0, .int .i64 0, .int .i64 0, .int .i64 0, .string ⟨#[]⟩, .string ⟨#[]⟩] 36))
  have HT1 := Aside0.mk (h.below BT.out)
  clear h
  go_enter Tryd.func19, Tryd.ntmps19
  go_wp2_with (first | (go_at_call 34; refine (given_calls _ B g f n v T HT1.out).mono ?_; rintro e w1 ⟨rfl, rfl⟩) | fail)
  generalize (w.alloc (.cells #[.int .i64 s.f0, .int .i64 s.f1] 25)).alloc (.cells #[.int .i64 0, .int .i64 0, .int .i64 0, .int .i64 0, .string ⟨#[]⟩, .string ⟨#[]⟩] 36) = w2 at BT NW HT1 ⊢
  have BKd := Aside0.mk (show w2.drew.heap[w.heap.size]? = _ from NW.out.1)
  have HTd := Aside0.mk (HT1.out.below (Below.refl _ _).drew)
  -- REGION 3 BEGIN
  refine start_ (n := 12) (S := fun w' => w'.cell? ⟨w.heap.size, 0, none⟩ = some (.int .i64 s.f0) ∧ w'.cell? ⟨w.heap.size, 1, none⟩ = some (.int .i64 s.f1) ∧ w'.cell? ⟨g, 1, none⟩ = some (.map (some n)) ∧ (Instr.lookup 64 (.map (some n)) (.agg #[.int .i64 s.f0, .int .i64 s.f1]) true).run Tryd.prog w' = .ok (.tuple #[.agg #[.int .i64 (look T.now s).f0.f0, .int .i64 (look T.now s).f0.f1, .int .i64 (look T.now s).f1.f0, .int .i64 (look T.now s).f1.f1, .string (look T.now s).f2, .string (look T.now s).f3], .bool (has T.now s)]) w') (ds := [10]) marksMn_0 (by kernel_rfl) rfl rfl ⟨(blk_cell BKd.out 0), (blk_cell BKd.out 1), (blk_cell HTd.out.blk 1), (look_run HTd.out.now s true)⟩ (fun hHeld => ?_)
  refine with_tabW get_.tab3 get_.bits3 (fun HT_ HW_ => ?_)
  refine pureQ (i := 0) (N := some 13) marksMn_1 (any_of HT_.out (by kernel_rfl)) ?_
  refine pureQ (i := 1) (N := some 14) marksMn_2 (any_of HT_.out (by kernel_rfl)) ?_
  refine pureQ (i := 2) (N := some 15) marksMn_3 (any_of HT_.out (by kernel_rfl)) ?_
  refine take_ (i := 3) (N := some 16) (v := ?_) (a' := ?_) marksMn_4 rfl rfl (take_ofW HT_.out HW_.out (by kernel_rfl)) (fun _ _ _ h => h) (Or.inl ⟨by rfl, ?_⟩) hHeld ?_ ?_
  rotate_left
  · rintro w' ⟨s0, s1, s2, s3⟩
    go_simp
    with_reducible rfl
  rotate_left
  · simp only [Act.put, List.setIfInBounds_toArray, List.set_cons_zero, List.set_cons_succ, i64_w, i32_w]
    rfl
  refine take_ (i := 4) (N := some 17) (v := ?_) (a' := ?_) marksMn_5 rfl rfl (take_ofW HT_.out HW_.out (by kernel_rfl)) (fun _ _ _ h => h) (Or.inl ⟨by rfl, ?_⟩) hHeld ?_ ?_
  rotate_left
  · rintro w' ⟨s0, s1, s2, s3⟩
    go_simp
    with_reducible rfl
  rotate_left
  · simp only [Act.put, List.setIfInBounds_toArray, List.set_cons_zero, List.set_cons_succ, i64_w, i32_w]
    rfl
  refine take_ (i := 5) (N := some 18) (v := ?_) (a' := ?_) marksMn_6 rfl rfl (take_ofW HT_.out HW_.out (by kernel_rfl)) (fun _ _ _ h => h) (Or.inl ⟨by rfl, ?_⟩) hHeld ?_ ?_
  rotate_left
  · rintro w' ⟨s0, s1, s2, s3⟩
    go_simp
    with_reducible rfl
  rotate_left
  · simp only [Act.put, List.setIfInBounds_toArray, List.set_cons_zero, List.set_cons_succ, i64_w, i32_w]
    rfl
  refine pureQ (i := 6) (N := some 12) marksMn_7 (any_of HT_.out (by kernel_rfl)) ?_
  refine pureQ (i := 7) (N := some 19) marksMn_8 (any_of HT_.out (by kernel_rfl)) ?_
  refine pureQ (i := 8) (N := some 20) marksMn_9 (any_of HT_.out (by kernel_rfl)) ?_
  refine one_ (i := 9) (N := some 6) marksMn_10 rfl rfl (one_of HT_.out (by kernel_rfl)) (by decide) (fun K hK => ?_)
  refine value_ (w1 := ?_) (v := ?_) (by rfl) rfl ?_ ?_
  rotate_left 2
  · go_simp
    constructor
    · rfl
    · rfl
  have BLv := Aside0.mk (below_new w2 (.cells #[.int .i64 0, .int .i64 0, .int .i64 0, .int .i64 0, .string ⟨#[]⟩, .string ⟨#[]⟩] 36))
  have BKw := Aside0.mk (blk_below BKd.out BLv.out)
  have HTw := Aside0.mk (HTd.out.below BLv.out)
  have BN := Aside0.mk (show (w2.alloc (.cells #[.int .i64 0, .int .i64 0, .int .i64 0, .int .i64 0, .string ⟨#[]⟩, .string ⟨#[]⟩] 36)).drew.heap[w2.heap.size]? = _ from heap_alloc_new w2 _)
  obtain ⟨u0, u1, u2, u3, u4, u5, u6, u7, u8, u9, ua, ub⟩ := Z6 BN.out
  refine hK.out _ _ ⟨(blk_cell BKw.out 0), (blk_cell BKw.out 1), (blk_cell HTw.out.blk 1), (look_run HTw.out.now s true)⟩ (fun hHeld => ?_)
  clear hK K
  refine norm_ (a' := ?_) ?_ ?_
  rotate_left
  · show Act.put _ (some 6) _ = _
    simp only [Act.put, List.setIfInBounds_toArray, List.set_cons_zero, List.set_cons_succ, i64_w, i32_w]
    rfl
  refine last_ (i := 10) (N := none) marksMn_11 rfl rfl (one_of HT_.out (by kernel_rfl)) (by decide) (fun K hK => ?_)
  refine skip_ (w1 := ?_) (by rfl) rfl ?_ ?_
  rotate_left
  · go_simp
    rfl
  refine hK.out _ _ ?_
  clear hK K
  refine pureQ (i := 11) (N := some 7) marksMn_12 (any_of HT_.out (by kernel_rfl)) ?_
  refine done_ (done_of HT_.out (by kernel_rfl)) ?_

-- REGION END
  have BN3 := Aside0.mk (show (w2.alloc (.cells #[.int .i64 (look T.now s).f0.f0, .int .i64 (look T.now s).f0.f1, .int .i64 (look T.now s).f1.f0, .int .i64 (look T.now s).f1.f1, .string (look T.now s).f2, .string (look T.now s).f3] 36)).drew.heap[w2.heap.size]? = _ from heap_alloc_new w2 _)
  have BL3 := Aside0.mk (below_new w2 (.cells #[.int .i64 (look T.now s).f0.f0, .int .i64 (look T.now s).f0.f1, .int .i64 (look T.now s).f1.f0, .int .i64 (look T.now s).f1.f1, .string (look T.now s).f2, .string (look T.now s).f3] 36))
  have BR3 := Aside0.mk (blk_below (show w2.drew.heap[w.heap.size + 1]? = _ from NW.out.2) BL3.out)
  have HB3 := Aside0.mk (below_step BT.out.drew BL3.out)
  clear BN BLv BKw HTw u0 u1 u2 u3 u4 u5 u6 u7 u8 u9 ua ub
  generalize (w2.alloc (.cells #[.int .i64 (look T.now s).f0.f0, .int .i64 (look T.now s).f0.f1, .int .i64 (look T.now s).f1.f0, .int .i64 (look T.now s).f1.f1, .string (look T.now s).f2, .string (look T.now s).f3] 36)).drew = w3 at BN3 BR3 HB3 ⊢
  obtain ⟨u0, u1, u2, u3, u4, u5⟩ := Y6 BN3.out
  obtain ⟨x0, x1, x2, x3, x4, x5, x6, x7, x8, x9, xa, xb⟩ := Z6 BR3.out
  go_wp2
  try simp only [Exit.inBlock, Exit.then]
  refine bodyPost_ret (results_ct rfl _ _ (w.heap.size + 1) 36 #[.int .i64 (look T.now s).f0.f0, .int .i64 (look T.now s).f0.f1, .int .i64 (look T.now s).f1.f0, .int .i64 (look T.now s).f1.f1, .string (look T.now s).f2, .string (look T.now s).f3] (0, 0) _ rfl (blk_put (blk_put (blk_put (blk_put (blk_put (blk_put BR3.out 0 _ rfl) 1 _ rfl) 2 _ rfl) 3 _ rfl) 4 _ rfl) 5 _ rfl) Tryd.underlying36 rfl (by kernel_rfl)) rfl ?_
  exact ⟨rfl, by repeat (first | exact HB3.out | refine below_set ?_ (by omega))⟩
end Go.Proofs.YtiffeljmeahmkaaDoor.S
