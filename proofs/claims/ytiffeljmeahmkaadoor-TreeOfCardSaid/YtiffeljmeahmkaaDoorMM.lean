/- Base, Ops, Get, as the machine walks them. -/
import Derived.Test.YtiffeljmeahmkaaDoorMl
namespace Go.Proofs.YtiffeljmeahmkaaDoor.S
open Go.RowKit Go.Proofs.YtiffeljmeahmkaaDoorW.PrintWords Go.Proofs.YtiffeljmeahmkaaDoorW.PrintLast Go.Proofs.YtiffeljmeahmkaaDoorW.PrintMore
set_option linter.unusedVariables false
set_option linter.unusedSimpArgs false
attribute [local go_sem high] mEq field_par
set_option maxHeartbeats 8000000 in
set_option maxRecDepth 100000 in
theorem Base_calls (w : World) (B g f n : Nat) (v : Value) (T : Tr) (h : TreeAt w B g f n v T) : Calls Tryd.prog 31 #[.pointer (some ⟨g, 0, none⟩)] w fun e w' => e = .returned (.agg #[.int .i64 T.base.f0, .int .i64 T.base.f1]) ∧ Below w.heap.size w w' := by
  have hu := Tryd.underlying25
  obtain ⟨z0, z1, z2, z3, z4⟩ := Y5 h.blk
  have HT1 := Aside0.mk (h.below (below_alloc (Below.refl w.heap.size w) (.cells #[.int .i64 0, .int .i64 0] 25)))
  have hg := blk_here h.blk
  clear h
  go_enter Tryd.func31, Tryd.ntmps31
  go_wp2_with (go_at_call 34; refine (given_calls _ B g f n v T HT1.out).mono ?_; rintro e w1 ⟨rfl, rfl⟩)
  try simp only [Exit.inBlock, Exit.then]
  refine bodyPost_ret (results_single rfl (.cell w.heap.size 25 #[.int .i64 T.base.f0, .int .i64 T.base.f1] (0, 0) _ rfl (heap_alloc_new w _) Tryd.underlying25 rfl (by kernel_rfl) .nil)) rfl ?_
  exact ⟨rfl, below_alloc (Below.refl _ _) _⟩
theorem append_many {w : World} {B : Nat} {v : Value} {l : List Opn} (h : OpsAt w B v l) (hB : B ≤ w.heap.size) (g c : Nat) (cur : Array Value) (l2 : List Opn) (hv : w.heap[g]? = some (.cells cur 28 (0, 0))) (ht : cur.toList.take (l2.length * 9) = flat l2) (hl : l.length + l2.length ≤ 1000000) (ty : TypeId) :
    ∃ v' w', (Builtin.append_ #[39, 39] ty #[v, .slice (some ⟨g, 0, none⟩) l2.length c]).run Tryd.prog w = .ok v' w' ∧ OpsAt w' B v' (l ++ l2) ∧ Stay w w' (fun k => v.ownBlock = some k) ∧ (∀ k, v'.ownBlock = some k → v.ownBlock = some k ∨ w.heap.size ≤ k) := by
  obtain ⟨i0, hi, hz⟩ := Option.map_eq_some_iff.1 infoOp
  simp only [Prod.mk.injEq] at hz
  obtain ⟨hz0, hz1, hz2⟩ := hz
  obtain ⟨v', w', hrun, ho, hg, _, hat⟩ := run_append_own_at (P := Tryd.prog) w B 39 ty 28 i0 _ 9 88 Tryd.underlying39 hi hz0 hz1 hz2 rfl (by decide) v l.length (flat l) h.row ⟨g, 0, none⟩ l2.length c (flat l2) (flat_length l2)
    (by have := rest_cells (l := l2) 0 (Nat.zero_le _) hv ht; simpa using this)
    (flat_cells l2) (by simp only [maxLen]; omega) (by omega) hB
  refine ⟨v', w', hrun, OpsAt.of_row ?_, Stay.of_grown hg, fun k hk => ?_⟩
  · rw [List.length_append, flat_append]; exact ho
  · rcases hat with e | e
    · exact .inl (e ▸ hk)
    · rw [e] at hk; exact .inr (Nat.le_of_eq (Option.some.inj hk))
section
variable {ops : Array Oper} {rest : List Oper} {oo : Oper} {a : Act} {Q : Exit → Act → World → Prop} {w : World}
theorem wl_append_many {B : Nat} {v : Value} {l : List Opn} (g c : Nat) (cur : Array Value) (l2 : List Opn) (s x : Operand) (hop : oo.op = .call { callee := .builtin .append, args := #[s, x], argTypes := #[39, 39] }) (hs : a.eval s = v) (hx : a.eval x = .slice (some ⟨g, 0, none⟩) l2.length c)
    (h0 : OpsAt w B v l) (hB : B ≤ w.heap.size) (hv : w.heap[g]? = some (.cells cur 28 (0, 0))) (ht : cur.toList.take (l2.length * 9) = flat l2) (hl : l.length + l2.length ≤ 1000000)
    (h : ∀ v' w', OpsAt w' B v' (l ++ l2) → Stay w w' (fun k => v.ownBlock = some k) → (∀ k, v'.ownBlock = some k → v.ownBlock = some k ∨ w.heap.size ≤ k) → wpList Tryd.prog ops Q rest (a.put oo.dst v') w') (hg : oo.guard = none := by rfl) : wpList Tryd.prog ops Q (oo :: rest) a w := by
  refine wpList_plain hg fun K' hK' => ?_
  obtain ⟨v', w', hrun, h1, h2, h3⟩ := append_many h0 hB g c cur l2 hv ht hl oo.type
  unfold Oper.wp execOp
  simp only [hop, resolve, invoke, builtin, Sem.run_bind, Sem.run_pure, Result.andThen_ok, List.map_toArray, List.map_cons, List.map_nil, hs, hx, hrun]
  exact hK' _ _ (h v' w' h1 h2 h3)
end
theorem empty_new (w : World) : OpsAt (w.alloc (.cells #[] 28)) w.heap.size (.slice (some ⟨w.heap.size, 0, none⟩) 0 0) [] :=
  OpsAt.of_row ⟨by simp [flat], .inr ⟨w.heap.size, 0, #[], rfl, Nat.le_refl _, heap_alloc_new w _, Nat.le_refl _, by simp [maxLen], by simp, by simp [flat]⟩⟩
set_option maxHeartbeats 8000000 in
set_option maxRecDepth 100000 in
theorem Clone_calls (w : World) (B : Nat) (v : Value) (l : List Opn) (h : OpsAt w B v l) (hl : l.length ≤ 1000000) : Calls Tryd.prog 45 #[v] w fun e w' => ∃ v', e = .returned v' ∧ OpsAt w' w.heap.size v' l ∧ Below w.heap.size w w' := by
  rcases h.row.2 with ⟨rfl, h0⟩ | ⟨g, c, cur, rfl, hBg, hcur, hlc, hcm, hcs, htk⟩
  · obtain rfl : l = [] := List.eq_nil_of_length_eq_zero h0
    have hq := Lib.run_eql_slice_nil (P := Tryd.prog) w 39 28 none 0 0 0 0 Tryd.underlying39
    go_enter Tryd.func45, Tryd.ntmps45
    go_wp2
    go_ret
    exact ⟨_, rfl, Kd.R_nil _ _ _ _ _, Below.refl _ _⟩
  · have H := Aside0.mk h
    have hq := Lib.run_eql_slice_nil (P := Tryd.prog) w 39 28 (some ⟨g, 0, none⟩) l.length c 0 0 Tryd.underlying39
    have HG := Aside0.mk (heap_alloc_old w (.cells #[] 28) (blk_here hcur) |>.trans hcur)
    have HT := Aside0.mk htk
    have HL := Aside0.mk hl
    clear h hcur htk hBg hlc hcm hcs hl
    go_enter Tryd.func45, Tryd.ntmps45
    go_wp2_with (at_builtin; refine wl_append_many g c cur l _ _ rfl rfl rfl (empty_new w) (by simp) HG.out HT.out (by have := HL.out; simpa using this) ?_; intro v2 w2 h1 h2 h3; have H1 := Aside0.mk h1; have H2 := Aside0.mk h2; clear h1 h2 h3)
    go_ret
    exact ⟨v2, rfl, H1.out, (H2.out.back (below_alloc (Below.refl w.heap.size w) (.cells #[] 28)) (by simp) (fun k hk => by cases hk; exact Nat.le_refl _))⟩
set_option maxHeartbeats 8000000 in
set_option maxRecDepth 100000 in
theorem Ops_calls (w : World) (B g f n : Nat) (v : Value) (T : Tr) (h : TreeAt w B g f n v T) (hl : T.ops.length ≤ 1000000) : Calls Tryd.prog 17 #[.pointer (some ⟨g, 0, none⟩)] w fun e w' => ∃ v', e = .returned v' ∧ OpsAt w' w.heap.size v' T.ops ∧ Below w.heap.size w w' := by
  obtain ⟨z0, z1, z2, z3, z4⟩ := Y5 h.blk
  obtain ⟨A, c, hv, hc, hC⟩ := Kd.R_reads h.ops
  subst hv
  have HT := Aside0.mk h
  have HL := Aside0.mk hl
  clear h hl
  go_enter Tryd.func17, Tryd.ntmps17
  go_wp2_with (first | (go_at_call 34; refine (given_calls _ B g f n _ T HT.out).mono ?_; rintro e w1 ⟨rfl, rfl⟩) | (go_at_call 45; refine (Clone_calls _ B _ T.ops HT.out.ops HL.out).mono ?_; rintro e w2 ⟨v2, rfl, h1, h2⟩; have H1 := Aside0.mk h1; have H2 := Aside0.mk h2; clear h1 h2))
  go_ret
  exact ⟨v2, rfl, H1.out, H2.out⟩
end Go.Proofs.YtiffeljmeahmkaaDoor.S
/- Get, as the machine walks it. -/
namespace Go.Proofs.YtiffeljmeahmkaaDoor.S
open Go.RowKit Go.Proofs.YtiffeljmeahmkaaDoorW.PrintWords Go.Proofs.YtiffeljmeahmkaaDoorW.PrintLast Go.Proofs.YtiffeljmeahmkaaDoorW.PrintMore
set_option linter.unusedVariables false
set_option linter.unusedSimpArgs false
attribute [local go_sem high] mEq field_par
-- TABLE BEGIN
abbrev marksMn_0 : Array Bool := #[false, false, false, false, false, false, false, false, false, false, false, false]
abbrev marksMn_1 : Array Bool := #[true, false, false, false, false, false, false, false, false, false, false, false]
abbrev marksMn_2 : Array Bool := #[true, true, false, false, false, false, false, false, false, false, false, false]
abbrev marksMn_3 : Array Bool := #[true, true, true, false, false, false, false, false, false, false, false, false]
abbrev marksMn_4 : Array Bool := #[true, true, true, true, false, false, false, false, false, false, false, false]
abbrev marksMn_5 : Array Bool := #[true, true, true, true, true, false, false, false, false, false, false, false]
abbrev marksMn_6 : Array Bool := #[true, true, true, true, true, true, false, false, false, false, false, false]
abbrev marksMn_7 : Array Bool := #[true, true, true, true, true, true, true, false, false, false, false, false]
abbrev marksMn_8 : Array Bool := #[true, true, true, true, true, true, true, true, false, false, false, false]
abbrev marksMn_9 : Array Bool := #[true, true, true, true, true, true, true, true, true, false, false, false]
abbrev marksMn_10 : Array Bool := #[true, true, true, true, true, true, true, true, true, true, false, false]
abbrev marksMn_11 : Array Bool := #[true, true, true, true, true, true, true, true, true, true, true, false]
abbrev marksMn_12 : Array Bool := #[true, true, true, true, true, true, true, true, true, true, true, true]
def get_.T3 : Bool × List (List Nat × List Nat) := (true, [([], []), ([0], [0]), ([1], [1]), ([2], [2]), ([], []), ([3, 4], [3, 4]), ([5], [5]), ([6], [6]), ([6], [6]), ([], []), ([9, 7, 0, 1, 2, 3, 4, 5, 6, 7, 9], [7, 9]), ([8, 10, 0, 1, 2, 3, 4, 5, 6, 7, 8, 9, 10], [8])])
def get_.B3 : List Nat := [0, 1, 3, 7, 0, 31, 63, 127, 127, 0, 767, 2047]
theorem get_.tab3 : rtab .any (opsOf Tryd.f19 3) = get_.T3 := by kernel_rfl
theorem get_.bits3 : waitsOk get_.T3.2 get_.B3 = true := by kernel_rfl
-- TABLE END
set_option maxHeartbeats 8000000 in
set_option maxRecDepth 100000 in
theorem Get_calls (w : World) (B g f n : Nat) (v : Value) (T : Tr) (s : Stp) (h : TreeAt w B g f n v T) : Calls Tryd.prog 19 #[.pointer (some ⟨g, 0, none⟩), .agg #[.int .i64 s.f0, .int .i64 s.f1]] w fun e w' => e = .returned (.tuple #[.agg #[.int .i64 (look T.now s).f0.f0, .int .i64 (look T.now s).f0.f1, .int .i64 (look T.now s).f1.f0, .int .i64 (look T.now s).f1.f1, .string (look T.now s).f2, .string (look T.now s).f3], .bool (has T.now s)]) ∧ Below w.heap.size w w' := by
  have hu := Tryd.underlying25
  have hu1 := Tryd.underlying36
  have BT := Aside0.mk (two_below w (.cells #[.int .i64 s.f0, .int .i64 s.f1] 25) (.cells #[.int .i64 0, .int .i64 0, .int .i64 0, .int .i64 0, .string ⟨#[]⟩, .string ⟨#[]⟩] 36))
  have NW := Aside0.mk (two_new w (.cells #[.int .i64 s.f0, .int .i64 s.f1] 25) (.cells #[.int .i64 0, .int .i64 0, .int .i64 0, .int .i64 0, .string ⟨#[]⟩, .string ⟨#[]⟩] 36))
  have HT1 := Aside0.mk (h.below BT.out)
  clear h
  go_enter Tryd.func19, Tryd.ntmps19
  go_wp2_with (first | (go_at_call 34; refine (given_calls _ B g f n v T HT1.out).mono ?_; rintro e w1 ⟨rfl, rfl⟩) | fail)
  generalize (w.alloc (.cells #[.int .i64 s.f0, .int .i64 s.f1] 25)).alloc (.cells #[.int .i64 0, .int .i64 0, .int .i64 0, .int .i64 0, .string ⟨#[]⟩, .string ⟨#[]⟩] 36) = w2 at BT NW HT1 ⊢
  have BKd := Aside0.mk (show w2.drew.heap[w.heap.size]? = _ from NW.out.1)
  have HTd := Aside0.mk (HT1.out.below (Below.refl _ _).drew)
  -- REGION 3 BEGIN
  refine start_ (n := 12) (S := fun w' => w'.cell? ⟨w.heap.size, 0, none⟩ = some (.int .i64 s.f0) ∧ w'.cell? ⟨w.heap.size, 1, none⟩ = some (.int .i64 s.f1) ∧ w'.cell? ⟨g, 1, none⟩ = some (.map (some n)) ∧ (Instr.lookup 64 (.map (some n)) (.agg #[.int .i64 s.f0, .int .i64 s.f1]) true).run Tryd.prog w' = .ok (.tuple #[.agg #[.int .i64 (look T.now s).f0.f0, .int .i64 (look T.now s).f0.f1, .int .i64 (look T.now s).f1.f0, .int .i64 (look T.now s).f1.f1, .string (look T.now s).f2, .string (look T.now s).f3], .bool (has T.now s)]) w') (ds := [10]) marksMn_0 (by kernel_rfl) rfl rfl ⟨(blk_cell BKd.out 0), (blk_cell BKd.out 1), (blk_cell HTd.out.blk 1), (look_run HTd.out.now s true)⟩ (fun hHeld => ?_)
  refine with_tabW get_.tab3 get_.bits3 (fun HT_ HW_ => ?_)
  refine pureQ (i := 0) (N := some 13) marksMn_1 (any_of HT_.out (by kernel_rfl)) ?_
  refine pureQ (i := 1) (N := some 14) marksMn_2 (any_of HT_.out (by kernel_rfl)) ?_
  refine pureQ (i := 2) (N := some 15) marksMn_3 (any_of HT_.out (by kernel_rfl)) ?_
  refine take_ (i := 3) (N := some 16) (v := ?_) (a' := ?_) marksMn_4 rfl rfl (take_ofW HT_.out HW_.out (by kernel_rfl)) (fun _ _ _ h => h) (Or.inl ⟨by rfl, ?_⟩) hHeld ?_ ?_
  rotate_left
  · rintro w' ⟨s0, s1, s2, s3⟩
    go_simp
    with_reducible rfl
  rotate_left
  · simp only [Act.put, List.setIfInBounds_toArray, List.set_cons_zero, List.set_cons_succ, i64_w, i32_w]
    rfl
  refine take_ (i := 4) (N := some 17) (v := ?_) (a' := ?_) marksMn_5 rfl rfl (take_ofW HT_.out HW_.out (by kernel_rfl)) (fun _ _ _ h => h) (Or.inl ⟨by rfl, ?_⟩) hHeld ?_ ?_
  rotate_left
  · rintro w' ⟨s0, s1, s2, s3⟩
    go_simp
    with_reducible rfl
  rotate_left
  · simp only [Act.put, List.setIfInBounds_toArray, List.set_cons_zero, List.set_cons_succ, i64_w, i32_w]
    rfl
  refine take_ (i := 5) (N := some 18) (v := ?_) (a' := ?_) marksMn_6 rfl rfl (take_ofW HT_.out HW_.out (by kernel_rfl)) (fun _ _ _ h => h) (Or.inl ⟨by rfl, ?_⟩) hHeld ?_ ?_
  rotate_left
  · rintro w' ⟨s0, s1, s2, s3⟩
    go_simp
    with_reducible rfl
  rotate_left
  · simp only [Act.put, List.setIfInBounds_toArray, List.set_cons_zero, List.set_cons_succ, i64_w, i32_w]
    rfl
  refine pureQ (i := 6) (N := some 12) marksMn_7 (any_of HT_.out (by kernel_rfl)) ?_
  refine pureQ (i := 7) (N := some 19) marksMn_8 (any_of HT_.out (by kernel_rfl)) ?_
  refine pureQ (i := 8) (N := some 20) marksMn_9 (any_of HT_.out (by kernel_rfl)) ?_
  refine one_ (i := 9) (N := some 6) marksMn_10 rfl rfl (one_of HT_.out (by kernel_rfl)) (by decide) (fun K hK => ?_)
  refine value_ (w1 := ?_) (v := ?_) (by rfl) rfl ?_ ?_
  rotate_left 2
  · go_simp
    constructor
    · rfl
    · rfl
  have BLv := Aside0.mk (below_new w2 (.cells #[.int .i64 0, .int .i64 0, .int .i64 0, .int .i64 0, .string ⟨#[]⟩, .string ⟨#[]⟩] 36))
  have BKw := Aside0.mk (blk_below BKd.out BLv.out)
  have HTw := Aside0.mk (HTd.out.below BLv.out)
  have BN := Aside0.mk (show (w2.alloc (.cells #[.int .i64 0, .int .i64 0, .int .i64 0, .int .i64 0, .string ⟨#[]⟩, .string ⟨#[]⟩] 36)).drew.heap[w2.heap.size]? = _ from heap_alloc_new w2 _)
  obtain ⟨u0, u1, u2, u3, u4, u5, u6, u7, u8, u9, ua, ub⟩ := Z6 BN.out
  refine hK.out _ _ ⟨(blk_cell BKw.out 0), (blk_cell BKw.out 1), (blk_cell HTw.out.blk 1), (look_run HTw.out.now s true)⟩ (fun hHeld => ?_)
  clear hK K
  refine norm_ (a' := ?_) ?_ ?_
  rotate_left
  · show Act.put _ (some 6) _ = _
    simp only [Act.put, List.setIfInBounds_toArray, List.set_cons_zero, List.set_cons_succ, i64_w, i32_w]
    rfl
  refine last_ (i := 10) (N := none) marksMn_11 rfl rfl (one_of HT_.out (by kernel_rfl)) (by decide) (fun K hK => ?_)
  refine skip_ (w1 := ?_) (by rfl) rfl ?_ ?_
  rotate_left
  · go_simp
    rfl
  refine hK.out _ _ ?_
  clear hK K
  refine pureQ (i := 11) (N := some 7) marksMn_12 (any_of HT_.out (by kernel_rfl)) ?_
  refine done_ (done_of HT_.out (by kernel_rfl)) ?_

-- REGION END
  have BN3 := Aside0.mk (show (w2.alloc (.cells #[.int .i64 (look T.now s).f0.f0, .int .i64 (look T.now s).f0.f1, .int .i64 (look T.now s).f1.f0, .int .i64 (look T.now s).f1.f1, .string (look T.now s).f2, .string (look T.now s).f3] 36)).drew.heap[w2.heap.size]? = _ from heap_alloc_new w2 _)
  have BL3 := Aside0.mk (below_new w2 (.cells #[.int .i64 (look T.now s).f0.f0, .int .i64 (look T.now s).f0.f1, .int .i64 (look T.now s).f1.f0, .int .i64 (look T.now s).f1.f1, .string (look T.now s).f2, .string (look T.now s).f3] 36))
  have BR3 := Aside0.mk (blk_below (show w2.drew.heap[w.heap.size + 1]? = _ from NW.out.2) BL3.out)
  have HB3 := Aside0.mk (below_step BT.out.drew BL3.out)
  clear BN BLv BKw HTw u0 u1 u2 u3 u4 u5 u6 u7 u8 u9 ua ub
  generalize (w2.alloc (.cells #[.int .i64 (look T.now s).f0.f0, .int .i64 (look T.now s).f0.f1, .int .i64 (look T.now s).f1.f0, .int .i64 (look T.now s).f1.f1, .string (look T.now s).f2, .string (look T.now s).f3] 36)).drew = w3 at BN3 BR3 HB3 ⊢
  obtain ⟨u0, u1, u2, u3, u4, u5⟩ := Y6 BN3.out
  obtain ⟨x0, x1, x2, x3, x4, x5, x6, x7, x8, x9, xa, xb⟩ := Z6 BR3.out
  go_wp2
  try simp only [Exit.inBlock, Exit.then]
  refine bodyPost_ret (results_ct rfl _ _ (w.heap.size + 1) 36 #[.int .i64 (look T.now s).f0.f0, .int .i64 (look T.now s).f0.f1, .int .i64 (look T.now s).f1.f0, .int .i64 (look T.now s).f1.f1, .string (look T.now s).f2, .string (look T.now s).f3] (0, 0) _ rfl (blk_put (blk_put (blk_put (blk_put (blk_put (blk_put BR3.out 0 _ rfl) 1 _ rfl) 2 _ rfl) 3 _ rfl) 4 _ rfl) 5 _ rfl) Tryd.underlying36 rfl (by kernel_rfl)) rfl ?_
  exact ⟨rfl, by repeat (first | exact HB3.out | refine below_set ?_ (by omega))⟩
end Go.Proofs.YtiffeljmeahmkaaDoor.S
/- slices.Delete of the first operations, as the machine walks it. -/
namespace Go.Proofs.YtiffeljmeahmkaaDoor.S
open Go.RowKit Go.Proofs.YtiffeljmeahmkaaDoorW.PrintWords Go.Proofs.YtiffeljmeahmkaaDoorW.PrintLast Go.Proofs.YtiffeljmeahmkaaDoorW.PrintMore
set_option linter.unusedVariables false
set_option linter.unusedSimpArgs false
abbrev zOp : Value := .agg #[.int .i64 0, .int .i64 0, .int .i64 0, .int .i64 0, .int .i64 0, .int .i64 0, .int .i64 0, .string ⟨#[]⟩, .string ⟨#[]⟩]
theorem zero_one (n : Nat) : ∀ v ∈ (Builtin.zeroCells zOp.cells n).toList, v.oneCell' = true := by
  intro v hv
  unfold Builtin.zeroCells at hv
  simp only [Array.toList_map, List.mem_map] at hv
  obtain ⟨i, _, rfl⟩ := hv
  have hz : zOp.cells.size = 9 := rfl
  rw [hz]
  have h9 : i % 9 < 9 := Nat.mod_lt _ (by decide)
  generalize i % 9 = j at h9
  have : ∀ j, j < 9 → (zOp.cells[j]!).oneCell' = true := by decide
  exact this j h9
theorem clear_ops (w : World) (g off n c : Nat) (cur : Array Value) (hg : w.heap[g]? = some (.cells cur 28 (0, 0))) (hfit : off + n * 9 ≤ cur.size) (ty : TypeId) :
    ∃ w' cur', (Builtin.clear_ #[39] ty #[.slice (some ⟨g, off, none⟩) n c]).run Tryd.prog w = .ok (.tuple #[]) w' ∧ w'.heap[g]? = some (.cells cur' 28 (0, 0)) ∧ cur'.size = cur.size ∧ cur'.toList.take off = cur.toList.take off ∧ Stay w w' (· = g) ∧ w'.heap.size = w.heap.size := by
  cases n with
  | zero => exact ⟨w, cur, by simp [Builtin.clear_, run_underlying Tryd.underlying39], hg, rfl, rfl, Stay.refl _ _, rfl⟩
  | succ n =>
    obtain ⟨cs, hcs⟩ : ∃ cs, cs = (Builtin.zeroCells zOp.cells (n + 1)).toList := ⟨_, rfl⟩
    have hlen : cs.length = (n + 1) * 9 := by rw [hcs, Array.length_toList, size_zeroCells]; rfl
    obtain ⟨cur', h3, h4, h5⟩ := setCells_row cs off w cur hg (by omega)
    obtain ⟨s1, s2, s3, s4⟩ := setCells_same g cs off w
    have hst := run_storeCells_cells (P := Tryd.prog) g off cs 0 w (fun j hj => by rw [cell_of_row w g _ cur _ (0, 0) hg]; simp; omega) (fun j _ => blk_frozen hg _) (by rw [hcs]; exact zero_one _)
    refine ⟨w.setCells g off cs, cur', ?_, h3, h4, ?_, ⟨s1, s2, s3, by rw [s4]; exact Nat.le_refl _, fun k _ hk => setCells_far cs _ k hk⟩, s4⟩
    · simp only [Nat.add_zero] at hst
      simp [Builtin.clear_, run_underlying Tryd.underlying39, zeroOp, ← hcs, hst, Result.andThen]
    · have : (cur.toList.take off).length = off := by rw [List.length_take, Array.length_toList]; omega
      rw [h5, List.append_assoc, List.take_left' this]
theorem append_in (w : World) (g c m : Nat) (ad : Addr) (sc : Nat) (cur : Array Value) (cs : List Value) (hg : w.heap[g]? = some (.cells cur 28 (0, 0))) (hm : cs.length = m * 9) (hmc : m ≤ c) (hc : cur.size = c * 9)
    (hsrc : ∀ j v, cs[j]? = some v → w.cell? (ad.add j) = some v) (h1 : ∀ v ∈ cs, v.oneCell' = true) (ty : TypeId) :
    ∃ w' cur', (Builtin.append_ #[39, 39] ty #[.slice (some ⟨g, 0, none⟩) 0 c, .slice (some ad) m sc]).run Tryd.prog w = .ok (.slice (some ⟨g, 0, none⟩) m c) w' ∧ w'.heap[g]? = some (.cells cur' 28 (0, 0)) ∧ cur'.size = cur.size ∧ cur'.toList.take (m * 9) = cs ∧ Stay w w' (· = g) ∧ w'.heap.size = w.heap.size := by
  obtain ⟨cur', h3, h4, h5⟩ := setCells_row cs 0 w cur hg (by rw [hm, hc]; omega)
  obtain ⟨s1, s2, s3, s4⟩ := setCells_same g cs 0 w
  have hl := run_loadCells_list (P := Tryd.prog) w ad cs hsrc
  have hst := run_storeCells_cells (P := Tryd.prog) g 0 cs 0 w (fun j hj => by rw [cell_of_row w g _ cur _ (0, 0) hg]; simp; omega) (fun j _ => blk_frozen hg _) h1
  refine ⟨w.setCells g 0 cs, cur', ?_, h3, h4, ?_, ⟨s1, s2, s3, by rw [s4]; exact Nat.le_refl _, fun k _ hk => setCells_far cs _ k hk⟩, s4⟩
  · have ha : (⟨g, 0, none⟩ : Addr).add (0 * 9) = ⟨g, 0, none⟩ := by rw [add_zero']
    simp only [Nat.add_zero] at hst
    simp [Builtin.append_, run_underlying Tryd.underlying39, Builtin.lenOf, Builtin.firstCells, sizeOp, hmc, ← hm, hl, hst, Result.andThen, Addr.add]
  · rw [h5, List.take_zero, List.nil_append, List.take_left' hm]
section
variable {ops : Array Oper} {rest : List Oper} {oo : Oper} {a : Act} {Q : Exit → Act → World → Prop} {w : World}
theorem wl_app {v x v' : Value} {w' : World} (s y : Operand) (hop : oo.op = .call { callee := .builtin .append, args := #[s, y], argTypes := #[39, 39] }) (hs : a.eval s = v) (hx : a.eval y = x) (hrun : (Builtin.append_ #[39, 39] oo.type #[v, x]).run Tryd.prog w = .ok v' w')
    (h : wpList Tryd.prog ops Q rest (a.put oo.dst v') w') (hg : oo.guard = none := by rfl) : wpList Tryd.prog ops Q (oo :: rest) a w := by
  refine wpList_plain hg fun K' hK' => ?_
  unfold Oper.wp execOp
  simp only [hop, resolve, invoke, builtin, Sem.run_bind, Sem.run_pure, Result.andThen_ok, List.map_toArray, List.map_cons, List.map_nil, hs, hx, hrun]
  exact hK' _ _ h
end
theorem Stay.undrew {w w1 : World} {S : Nat → Prop} (h : Stay w.drew w1 S) : Stay w w1 S := ⟨h.os, h.tape, h.output, h.size, h.block⟩
theorem drop_src {w : World} {g n c k : Nat} {cur : Array Value} {l : List Opn} (hk : k ≤ l.length) (hcur : w.heap[g]? = some (.cells cur 28 (0, 0))) (ht : cur.toList.take (l.length * 9) = flat l) : ∀ j v, (flat (l.drop k))[j]? = some v → w.cell? ((⟨g, k * 9, none⟩ : Addr).add j) = some v := rest_cells k hk hcur ht
set_option maxHeartbeats 8000000 in
set_option maxRecDepth 100000 in
theorem delete_calls (w : World) (B : Nat) (s : Value) (l : List Opn) (k : Nat) (hk : k ≤ l.length) (hs : OpsAt w B s l) (hl : l.length ≤ 1000000) :
    Calls Tryd.prog 44 #[s, .int .i64 0, .int .i64 (k : Int)] w fun e w' => ∃ s', e = .returned s' ∧ OpsAt w' B s' (l.drop k) ∧ Stay w w' (fun q => s.ownBlock = some q) ∧ s'.ownBlock = s.ownBlock := by
  rcases Nat.eq_zero_or_pos k with rfl | hk0
  · rcases hs.row.2 with ⟨rfl, h0⟩ | ⟨g, c, cur, rfl, hBg, hcur, hlc, hcm, hcs, htk⟩
    · obtain rfl : l = [] := List.eq_nil_of_length_eq_zero h0
      go_enter Tryd.func44, Tryd.ntmps44
      go_wp2
      go_ret
      exact ⟨_, rfl, Kd.R_nil _ _ _ _ _, Stay.refl _ _, rfl⟩
    · have H := Aside0.mk hs
      clear hs hcur htk hBg hcm hcs
      go_enter Tryd.func44, Tryd.ntmps44
      go_wp2
      go_ret
      exact ⟨_, rfl, H.out, Stay.refl _ _, rfl⟩
  · obtain ⟨g, c, cur, rfl, hBg, hcur, hlc, hcm, hcs, htk⟩ := hs.form (by omega)
    obtain ⟨ad, had⟩ : ∃ ad : Addr, ad = if c = k then ⟨g, 0, none⟩ else ⟨g, k * 9, none⟩ := ⟨_, rfl⟩
    obtain ⟨n, hn⟩ : ∃ n, n = l.length := ⟨_, rfl⟩
    have hsrc : ∀ j v, (flat (l.drop k))[j]? = some v → w.drew.cell? (ad.add j) = some v := by
      by_cases hc : c = k
      · intro j v hj
        rw [List.drop_of_length_le (by omega)] at hj
        simp [flat] at hj
      · rw [had, if_neg hc]
        exact drop_src (w := w.drew) (n := n) (c := c) hk hcur htk
    obtain ⟨w2, cur2, k1, k2, k3, k4, k5, k6⟩ := append_in w.drew g c (n - k) ad (c - k) cur (flat (l.drop k)) hcur (by rw [flat_length, List.length_drop, hn]) (by omega) hcs hsrc (flat_cells _) 39
    obtain ⟨w3, cur3, q1, q2, q3, q4, q5, q6⟩ := clear_ops w2 g ((n - k) * 9) k (c - (n - k)) cur2 k2 (by rw [k3, hcs]; omega) 0
    have HN := Aside0.mk hn
    have hb : n ≤ 1000000 := by omega
    have hkn : k ≤ n := by omega
    have hnc : n ≤ c := by omega
    have H := Aside0.mk (And.intro hBg (And.intro hcm hcs))
    clear hs hBg hcm htk hn
    by_cases hck : c = k
    · subst hck
      obtain rfl : n = c := by omega
      rw [if_pos rfl] at had
      subst had
      clear k1 k2 k3 k4 k5 k6 q1 q2 q3 q4 q5 q6
      obtain ⟨w4, cur4, q1, q2, q3, q4, q5, q6⟩ := clear_ops w.drew g 0 n n cur hcur (by rw [hcs]; omega) 0
      have Q2 := Aside0.mk q2
      have Q := Aside0.mk (And.intro q3 (And.intro q4 (And.intro q5 q6)))
      clear hcur hcs hsrc q2 q3 q4 q5 q6 hlc
      rw [← HN.out]
      clear hl hk
      go_enter Tryd.func44, Tryd.ntmps44
      go_upto_region 5 with fail
      go_still_tail 6, (by kernel_rfl)
      go_wp2
      go_ret
      refine ⟨_, rfl, ?_, (Stay.undrew Q.out.2.2.1).mono (fun q hq => by rw [hq]; rfl), rfl⟩
      rw [List.drop_of_length_le (by rw [← HN.out]; exact Nat.le_refl _)]
      exact OpsAt.of_row ⟨by simp [flat], .inr ⟨g, n, cur4, rfl, H.out.1, Q2.out, Nat.zero_le _, H.out.2.1, by rw [Q.out.1, H.out.2.2], by simp [flat]⟩⟩
    · rw [if_neg hck] at had
      subst had
      have dk : ((k : Int) == 0) = false := beq_eq_false_iff_ne.mpr (by omega)
      have z1 : ¬ (c = n - k) := by omega
      have z2 : ((n - k : Nat) : Int) ≤ n := by omega
      have z3 : n - (n - k) = k := by omega
      have z4 : n - k ≤ n := by omega
      have K := Aside0.mk (And.intro k3 (And.intro k4 (And.intro k5 k6)))
      have Q2 := Aside0.mk q2
      have Q := Aside0.mk (And.intro q3 (And.intro q4 (And.intro q5 q6)))
      clear hcur hcs hsrc k2 k3 k4 k5 k6 q2 q3 q4 q5 q6 hlc
      rw [← HN.out]
      clear hl hk
      go_enter Tryd.func44, Tryd.ntmps44
      go_upto_region 5 with fail
      have KR := Aside0.mk k1
      clear k1
      go_still_tail 6, (by kernel_rfl)
      go_wp2_with (at_builtin; refine wl_app _ _ rfl rfl rfl KR.out ?_)
      go_ret
      refine ⟨_, rfl, OpsAt.of_row ⟨flat_length _, .inr ⟨g, c, cur3, by rw [List.length_drop, ← HN.out]; rfl, H.out.1, Q2.out, by rw [List.length_drop, ← HN.out]; omega, H.out.2.1, by rw [Q.out.1, K.out.1, H.out.2.2], ?_⟩⟩, ?_, rfl⟩
      · rw [List.length_drop, ← HN.out, Q.out.2.1, K.out.2.1]
      · exact ((Stay.undrew K.out.2.2.1).trans Q.out.2.2.1 (fun q hq => .inl hq)).mono (fun q hq => by rw [hq]; rfl)
end Go.Proofs.YtiffeljmeahmkaaDoor.S
