/- Base, Ops, Get, as the machine walks them. -/
import Derived.Test.YtiffeljmeahmkaaDoorMl
namespace Go.Proofs.YtiffeljmeahmkaaDoor.S
open Go.RowKit Go.Proofs.YtiffeljmeahmkaaDoorW.PrintWords Go.Proofs.YtiffeljmeahmkaaDoorW.PrintLast Go.Proofs.YtiffeljmeahmkaaDoorW.PrintMore
set_option linter.unusedVariables false
set_option linter.unusedSimpArgs false
attribute [local go_sem high] mEq field_par
set_option maxHeartbeats 8000000 in
set_option maxRecDepth 100000 in
theorem Base_calls (w : World) (B g f n : Nat) (v : Value) (T : Tr) (h : TreeAt w B g f n v T) : Calls Tryd.prog 31 #[.pointer (some ⟨g, 0, none⟩)] w fun e w' => e = .returned (.agg #[.int .i64 T.base.f0, .int .i64 T.base.f1]) ∧ Below w.heap.size w w' := by
  have hu := Tryd.underlying25
  obtain ⟨z0, z1, z2, z3, z4⟩ := Y5 h.blk
  have HT1 := Aside0.mk (h.below (below_alloc (Below.refl w.heap.size w) (.cells #[.int .i64 0, .int .i64 0] 25)))
  have hg := blk_here h.blk
  clear h
  go_enter Tryd.func31, Tryd.ntmps31
  go_wp2_with (go_at_call 34; refine (given_calls _ B g f n v T HT1.out).mono ?_; rintro e w1 ⟨rfl, rfl⟩)
  try simp only [Exit.inBlock, Exit.then]
  refine bodyPost_ret (results_single rfl (.cell w.heap.size 25 #[.int .i64 T.base.f0, .int .i64 T.base.f1] (0, 0) _ rfl (heap_alloc_new w _) Tryd.underlying25 rfl (by kernel_rfl) .nil)) rfl ?_
  exact ⟨rfl, below_alloc (Below.refl _ _) _⟩
theorem append_many {w : World} {B : Nat} {v : Value} {l : List Opn} (h : OpsAt w B v l) (hB : B ≤ w.heap.size) (g c : Nat) (cur : Array Value) (l2 : List Opn) (hv : w.heap[g]? = some (.cells cur 28 (0, 0))) (ht : cur.toList.take (l2.length * 9) = flat l2) (hl : l.length + l2.length ≤ 1000000) (ty : TypeId) :
    ∃ v' w', (Builtin.append_ #[39, 39] ty #[v, .slice (some ⟨g, 0, none⟩) l2.length c]).run Tryd.prog w = .ok v' w' ∧ OpsAt w' B v' (l ++ l2) ∧ Stay w w' (fun k => v.ownBlock = some k) ∧ (∀ k, v'.ownBlock = some k → v.ownBlock = some k ∨ w.heap.size ≤ k) := by
  obtain ⟨i0, hi, hz⟩ := Option.map_eq_some_iff.1 infoOp
  simp only [Prod.mk.injEq] at hz
  obtain ⟨hz0, hz1, hz2⟩ := hz
  obtain ⟨v', w', hrun, ho, hg, _, hat⟩ := run_append_own_at (P := Tryd.prog) w B 39 ty 28 i0 _ 9 88 Tryd.underlying39 hi hz0 hz1 hz2 rfl (by decide) v l.length (flat l) h.row ⟨g, 0, none⟩ l2.length c (flat l2) (flat_length l2)
    (by have := rest_cells (l := l2) 0 (Nat.zero_le _) hv ht; simpa using this)
    (flat_cells l2) (by simp only [maxLen]; omega) (by omega) hB
  refine ⟨v', w', hrun, OpsAt.of_row ?_, Stay.of_grown hg, fun k hk => ?_⟩
  · rw [List.length_append, flat_append]; exact ho
  · rcases hat with e | e
    · exact .inl (e ▸ hk)
    · rw [e] at hk; exact .inr (Nat.le_of_eq (Option.some.inj hk))
section
variable {ops : Array Oper} {rest : List Oper} {oo : Oper} {a : Act} {Q : Exit → Act → World → Prop} {w : World}
theorem wl_append_many {B : Nat} {v : Value} {l : List Opn} (g c : Nat) (cur : Array Value) (l2 : List Opn) (s x : Operand) (hop : oo.op = .call { callee := .builtin .append, args := #[s, x], argTypes := #[39, 39] }) (hs : a.eval s = v) (hx : a.eval x = .slice (some ⟨g, 0, none⟩) l2.length c)
    (h0 : OpsAt w B v l) (hB : B ≤ w.heap.size) (hv : w.heap[g]? = some (.cells cur 28 (0, 0))) (ht : cur.toList.take (l2.length * 9) = flat l2) (hl : l.length + l2.length ≤ 1000000)
    (h : ∀ v' w', OpsAt w' B v' (l ++ l2) → Stay w w' (fun k => v.ownBlock = some k) → (∀ k, v'.ownBlock = some k → v.ownBlock = some k ∨ w.heap.size ≤ k) → wpList Tryd.prog ops Q rest (a.put oo.dst v') w') (hg : oo.guard = none := by rfl) : wpList Tryd.prog ops Q (oo :: rest) a w := by
  refine wpList_plain hg fun K' hK' => ?_
  obtain ⟨v', w', hrun, h1, h2, h3⟩ := append_many h0 hB g c cur l2 hv ht hl oo.type
  unfold Oper.wp execOp
  simp only [hop, resolve, invoke, builtin, Sem.run_bind, Sem.run_pure, Result.andThen_ok, List.map_toArray, List.map_cons, List.map_nil, hs, hx, hrun]
  exact hK' _ _ (h v' w' h1 h2 h3)
end
theorem empty_new (w : World) : OpsAt (w.alloc (.cells #[] 28)) w.heap.size (.slice (some ⟨w.heap.size, 0, none⟩) 0 0) [] :=
  OpsAt.of_row ⟨by simp [flat], .inr ⟨w.heap.size, 0, #[], rfl, Nat.le_refl _, heap_alloc_new w _, Nat.le_refl _, by simp [maxLen], by simp, by simp [flat]⟩⟩
set_option maxHeartbeats 8000000 in
set_option maxRecDepth 100000 in
theorem Clone_calls (w : World) (B : Nat) (v : Value) (l : List Opn) (h : OpsAt w B v l) (hl : l.length ≤ 1000000) : Calls Tryd.prog 45 #[v] w fun e w' => ∃ v', e = .returned v' ∧ OpsAt w' w.heap.size v' l ∧ Below w.heap.size w w' := by
  rcases h.row.2 with ⟨rfl, h0⟩ | ⟨g, c, cur, rfl, hBg, hcur, hlc, hcm, hcs, htk⟩
  · obtain rfl : l = [] := List.eq_nil_of_length_eq_zero h0
    have hq := Lib.run_eql_slice_nil (P := Tryd.prog) w 39 28 none 0 0 0 0 Tryd.underlying39
    go_enter Tryd.func45, Tryd.ntmps45
    go_wp2
    go_ret
    exact ⟨_, rfl, Kd.R_nil _ _ _ _ _, Below.refl _ _⟩
  · have H := Aside0.mk h
    have hq := Lib.run_eql_slice_nil (P := Tryd.prog) w 39 28 (some ⟨g, 0, none⟩) l.length c 0 0 Tryd.underlying39
    have HG := Aside0.mk (heap_alloc_old w (.cells #[] 28) (blk_here hcur) |>.trans hcur)
    have HT := Aside0.mk htk
    have HL := Aside0.mk hl
    clear h hcur htk hBg hlc hcm hcs hl
    go_enter Tryd.func45, Tryd.ntmps45
    go_wp2_with (at_builtin; refine wl_append_many g c cur l _ _ rfl rfl rfl (empty_new w) (by simp) HG.out HT.out (by have := HL.out; simpa using this) ?_; intro v2 w2 h1 h2 h3; have H1 := Aside0.mk h1; have H2 := Aside0.mk h2; clear h1 h2 h3)
    go_ret
    exact ⟨v2, rfl, H1.out, (H2.out.back (below_alloc (Below.refl w.heap.size w) (.cells #[] 28)) (by simp) (fun k hk => by cases hk; exact Nat.le_refl _))⟩
set_option maxHeartbeats 8000000 in
set_option maxRecDepth 100000 in
theorem Ops_calls (w : World) (B g f n : Nat) (v : Value) (T : Tr) (h : TreeAt w B g f n v T) (hl : T.ops.length ≤ 1000000) : Calls Tryd.prog 17 #[.pointer (some ⟨g, 0, none⟩)] w fun e w' => ∃ v', e = .returned v' ∧ OpsAt w' w.heap.size v' T.ops ∧ Below w.heap.size w w' := by
  obtain ⟨z0, z1, z2, z3, z4⟩ := Y5 h.blk
  obtain ⟨A, c, hv, hc, hC⟩ := Kd.R_reads h.ops
  subst hv
  have HT := Aside0.mk h
  have HL := Aside0.mk hl
  clear h hl
  go_enter Tryd.func17, Tryd.ntmps17
  go_wp2_with (first | (go_at_call 34; refine (given_calls _ B g f n _ T HT.out).mono ?_; rintro e w1 ⟨rfl, rfl⟩) | (go_at_call 45; refine (Clone_calls _ B _ T.ops HT.out.ops HL.out).mono ?_; rintro e w2 ⟨v2, rfl, h1, h2⟩; have H1 := Aside0.mk h1; have H2 := Aside0.mk h2; clear h1 h2))
  go_ret
  exact ⟨v2, rfl, H1.out, H2.out⟩
end Go.Proofs.YtiffeljmeahmkaaDoor.S
