/- Rows of operations, cell by cell: cuts, copies, appending; what lies in them. -/
import Derived.Test.YtiffeljmeahmkaaDoorMh
import Derived.Maps.AppendAt
import Derived.Laws.CopyOwn
namespace Go.Proofs.YtiffeljmeahmkaaDoor.S
open Go.RowKit Go.Proofs.YtiffeljmeahmkaaDoorW.PrintWords Go.Proofs.YtiffeljmeahmkaaDoorW.PrintLast Go.Proofs.YtiffeljmeahmkaaDoorW.PrintMore
set_option linter.unusedVariables false
set_option linter.unusedSimpArgs false
/-- An operation's cells. -/
def opC (o : Opn) : List Value := [.int .i64 o.f0, .int .i64 o.f1.f0, .int .i64 o.f1.f1, .int .i64 o.f2.f0, .int .i64 o.f2.f1, .int .i64 o.f3.f0, .int .i64 o.f3.f1, .string o.f4, .string o.f5]
def flat (l : List Opn) : List Value := l.flatMap opC
theorem flat_length (l : List Opn) : (flat l).length = l.length * 9 := by
  induction l with
  | nil => rfl
  | cons x l ih => unfold flat at ih ⊢; rw [List.flatMap_cons, List.length_append, ih, List.length_cons]; simp [opC]; omega
theorem flat_append (a b : List Opn) : flat (a ++ b) = flat a ++ flat b := by unfold flat; rw [List.flatMap_append]
theorem flat_take (l : List Opn) : ∀ (i : Nat), (flat l).take (i * 9) = flat (l.take i) := by
  induction l with
  | nil => intro i; simp [flat]
  | cons x l ih =>
    intro i
    cases i with
    | zero => simp [flat]
    | succ i =>
      have e : flat (x :: l) = opC x ++ flat l := by unfold flat; rw [List.flatMap_cons]
      have e2 : flat (x :: l.take i) = opC x ++ flat (l.take i) := by unfold flat; rw [List.flatMap_cons]
      rw [e, List.take_succ_cons, e2, List.take_append, show (opC x).length = 9 from rfl, show (i + 1) * 9 - 9 = i * 9 by omega, ih i, List.take_of_length_le (by show 9 ≤ _; omega)]
theorem flat_drop (l : List Opn) (i : Nat) : (flat l).drop (i * 9) = flat (l.drop i) := by
  have h := flat_take l i
  have h1 : flat l = flat (l.take i) ++ flat (l.drop i) := by rw [← flat_append, List.take_append_drop]
  have h2 : flat l = (flat l).take (i * 9) ++ (flat l).drop (i * 9) := (List.take_append_drop _ _).symm
  rw [h] at h2
  exact (List.append_cancel_left (h1.symm.trans h2)).symm
theorem flat_one (l : List Opn) : ∀ v ∈ flat l, v.oneCell' = true := by
  intro v hv
  unfold flat at hv
  obtain ⟨o, _, ho⟩ := List.mem_flatMap.1 hv
  simp only [opC, List.mem_cons, List.not_mem_nil, or_false] at ho
  rcases ho with rfl | rfl | rfl | rfl | rfl | rfl | rfl | rfl | rfl <;> rfl
theorem reps_flat {w : World} {B : Nat} {ok : Nat → Prop} : ∀ {l : List Opn} {cs : List Value}, Reps (k28.M w B ok) 9 l cs → cs = flat l
  | [], cs, h => List.eq_nil_of_length_eq_zero (by simpa using h.1)
  | o :: l, cs, h => by
    have h0 := h.2 0 o rfl
    rw [Nat.zero_mul, List.drop_zero] at h0
    have e0 := k28_openM h0
    have ht : Reps (k28.M w B ok) 9 l (cs.drop 9) := ⟨by rw [List.length_drop, h.1, List.length_cons]; omega, fun j p hj => by
      have := h.2 (j + 1) p (by simpa using hj)
      rw [List.drop_drop, show 9 + j * 9 = (j + 1) * 9 by omega]
      exact this⟩
    rw [← List.take_append_drop 9 cs, e0, reps_flat ht]
    rfl
theorem flat_reps (w : World) (B : Nat) (ok : Nat → Prop) (l : List Opn) : Reps (k28.M w B ok) 9 l (flat l) :=
  ⟨flat_length l, fun j p hj => by
    rw [flat_drop, show (9 : Nat) = 1 * 9 from rfl, flat_take]
    have : (l.drop j).take 1 = [p] := by
      have h1 := (List.getElem?_eq_some_iff.1 hj)
      obtain ⟨hlt, rfl⟩ := h1
      rw [List.drop_eq_getElem_cons hlt]
      rfl
    rw [this]
    have := k28_mkM w B ok p
    simpa [flat, opC] using this⟩
theorem OpsAt.row {w : World} {B : Nat} {v : Value} {l : List Opn} (h : OpsAt w B v l) : w.ownsRow B 28 9 v l.length (flat l) := by
  obtain ⟨_, inner, ho, hr⟩ := h
  have := reps_flat hr
  subst this
  exact ho
theorem OpsAt.of_row {w : World} {B : Nat} {v : Value} {l : List Opn} (h : w.ownsRow B 28 9 v l.length (flat l)) : OpsAt w B v l := ⟨fun _ _ => trivial, flat l, h, flat_reps w B _ l⟩
theorem Stay.of_grown {w w1 : World} {row : Option Nat} (h : w.grownBy w1 row) : Stay w w1 (fun k => row = some k) := ⟨h.os, h.tape, h.output, h.size, fun k hk hn => h.block k hk (fun e => hn e.symm)⟩
theorem add_zero' (b j : Nat) : (⟨b, 0, none⟩ : Addr).add j = ⟨b, j, none⟩ := by
  simp [Addr.add]
  try (intro h; exact h.symm)
theorem infoOp : (Tryd.prog.info? 28).map (fun i => (i.zero, i.size, i.bytes)) = some (some (.agg #[.int .i64 0, .int .i64 0, .int .i64 0, .int .i64 0, .int .i64 0, .int .i64 0, .int .i64 0, .string ⟨#[]⟩, .string ⟨#[]⟩]), 9, 88) := by kernel_rfl
theorem append_run {w : World} {B : Nat} {v : Value} {l : List Opn} (h : OpsAt w B v l) (hB : B ≤ w.heap.size) (vb c : Nat) (o : Opn) (hv : w.heap[vb]? = some (.cells (opC o).toArray 28 (0, 0))) (hl : l.length ≤ 1000000) (ty : TypeId) :
    ∃ v' w', (Builtin.append_ #[39, 39] ty #[v, .slice (some ⟨vb, 0, none⟩) 1 c]).run Tryd.prog w = .ok v' w' ∧ OpsAt w' B v' (l ++ [o]) ∧ Stay w w' (fun k => v.ownBlock = some k) ∧ (∀ k, v'.ownBlock = some k → v.ownBlock = some k ∨ w.heap.size ≤ k) := by
  obtain ⟨i0, hi, hz⟩ := Option.map_eq_some_iff.1 infoOp
  simp only [Prod.mk.injEq] at hz
  obtain ⟨hz0, hz1, hz2⟩ := hz
  obtain ⟨v', w', hrun, ho, hg, _, hat⟩ := run_append_own_at (P := Tryd.prog) w B 39 ty 28 i0 _ 9 88 Tryd.underlying39 hi hz0 hz1 hz2 rfl (by decide) v l.length (flat l) h.row ⟨vb, 0, none⟩ 1 c (opC o) rfl
    (fun j u hj => by
      have := cell_of_row w vb j _ _ _ hv
      rw [add_zero' vb j, this]
      simpa using hj)
    (fun u hu => flat_one [o] u (by simpa [flat] using hu)) (by simp only [maxLen]; omega) (by omega) hB
  refine ⟨v', w', hrun, OpsAt.of_row ?_, Stay.of_grown hg, fun k hk => ?_⟩
  · rw [List.length_append, flat_append]
    simpa [flat] using ho
  · rcases hat with e | e
    · exact .inl (e ▸ hk)
    · rw [e] at hk; exact .inr (Nat.le_of_eq (Option.some.inj hk))
theorem sizeOp (w : World) : (sizeOf 28).run Tryd.prog w = .ok 9 w := Tryd.sizeOf28 w
theorem at_i (w : World) (i : Nat) : (asIntOf (.int .i64 (i : Int))).run Tryd.prog w = .ok (.i64, (i : Int)) w := by simp [asIntOf]
theorem bound_run (w : World) (i y : Nat) (h : i ≤ y) (code : BoundsCode) : (Instr.sliceBound (.int .i64 (i : Int)) y code).run Tryd.prog w = .ok i w := by
  have h2 : (0 : Int) ≤ (i : Int) ∧ (i : Int) ≤ (y : Int) := ⟨by omega, by omega⟩
  unfold Instr.sliceBound
  simp only [Sem.run_bind, at_i, Result.andThen]
  rw [if_pos h2]
  simp
theorem slice_low (w : World) (A : Option Addr) (n c i : Nat) (h : i ≤ n) : (Instr.slice 39 (.slice A n c) (some (.int .i64 (i : Int))) none none).run Tryd.prog w = .ok (.slice (if c = i then A else A.map (·.add (i * 9))) (n - i) (c - i)) w := by
  unfold Instr.slice Instr.sliceBounds
  simp only [Sem.run_bind, run_underlying Tryd.underlying39, Result.andThen, Sem.run_pure, bound_run w i n h, sizeOp]
theorem slice_high (w : World) (g n c i : Nat) (h : i ≤ c) : (Instr.slice 39 (.slice (some ⟨g, 0, none⟩) n c) none (some (.int .i64 (i : Int))) none).run Tryd.prog w = .ok (.slice (some ⟨g, 0, none⟩) i c) w := by
  unfold Instr.slice Instr.sliceBounds
  simp only [Sem.run_bind, run_underlying Tryd.underlying39, Result.andThen, Sem.run_pure, bound_run w i c h, sizeOp]
  by_cases hc : c = 0
  · simp [hc]
  · simp [hc, Addr.add]
theorem copy_run (w : World) (g off dLen dCap : Nat) (ad : Addr) (sLen sCap : Nat) (cur : Array Value) (cs : List Value) (hg : w.heap[g]? = some (.cells cur 28 (0, 0))) (hn : cs.length = Nat.min sLen dLen * 9)
    (hsrc : ∀ j v, cs[j]? = some v → w.cell? (ad.add j) = some v) (hfit : off + cs.length ≤ cur.size) (h1 : ∀ v ∈ cs, v.oneCell' = true) (ty : TypeId) :
    ∃ w' cur', (Builtin.copy_ #[39, 39] ty #[.slice (some ⟨g, off, none⟩) dLen dCap, .slice (some ad) sLen sCap]).run Tryd.prog w = .ok (goInt (Nat.min sLen dLen)) w' ∧ w'.heap[g]? = some (.cells cur' 28 (0, 0)) ∧ cur'.size = cur.size ∧
      cur'.toList = cur.toList.take off ++ cs ++ cur.toList.drop (off + cs.length) ∧ Stay w w' (· = g) ∧ w'.heap.size = w.heap.size := by
  obtain ⟨cur', h3, h4, h5⟩ := setCells_row cs off w cur hg hfit
  obtain ⟨s1, s2, s3, s4⟩ := setCells_same g cs off w
  have hl := run_loadCells_list (P := Tryd.prog) w ad cs hsrc
  have hst := run_storeCells_cells (P := Tryd.prog) g off cs 0 w (fun j hj => by rw [cell_of_row w g _ cur _ (0, 0) hg]; simp; omega) (fun j _ => blk_frozen hg _) h1
  refine ⟨w.setCells g off cs, cur', ?_, h3, h4, h5, ⟨s1, s2, s3, by rw [s4]; exact Nat.le_refl _, fun k _ hk => setCells_far cs _ k hk⟩, s4⟩
  simp [Builtin.copy_, run_underlying Tryd.underlying39, Builtin.lenOf, Builtin.firstCells, sizeOp, ← hn, hl, hst, Result.andThen]
theorem zeroOp (w : World) : (zeroValue 28).run Tryd.prog w = .ok (.agg #[.int .i64 0, .int .i64 0, .int .i64 0, .int .i64 0, .int .i64 0, .int .i64 0, .int .i64 0, .string ⟨#[]⟩, .string ⟨#[]⟩]) w := Tryd.zeroValue28 w
/-- append(s[:i], make(.., m)..) where there is no room for it: a new row. -/
theorem grow_run {w : World} {B : Nat} (g i c : Nat) (xs : List Value) (h : w.ownsRow B 28 9 (.slice (some ⟨g, 0, none⟩) i c) i xs) (m : Nat) (hc : c < i + m) (hm : 0 < m) (hl : i + m ≤ 1000001) (hB : B ≤ w.heap.size) (ty : TypeId) :
    ∃ (w' : World) (c' : Nat) (cur : Array Value), (Builtin.append_ #[39, 3] ty #[.slice (some ⟨g, 0, none⟩) i c, .int .i64 (m : Int)]).run Tryd.prog w = .ok (.slice (some ⟨w.heap.size, 0, none⟩) (i + m) c') w' ∧ w'.heap[w.heap.size]? = some (.cells cur 28 (0, 0)) ∧
      i + m ≤ c' ∧ c' ≤ maxLen ∧ cur.size = c' * 9 ∧ cur.toList.take (i * 9) = xs ∧ Below w.heap.size w w' ∧ w'.heap.size = w.heap.size + 1 := by
  obtain ⟨i0, hi, hz⟩ := Option.map_eq_some_iff.1 infoOp
  simp only [Prod.mk.injEq] at hz
  obtain ⟨hz0, hz1, hz2⟩ := hz
  have hw : IntKind.i64.wrap (m : Int) = m := by rw [IntKind.wrap_i64]; omega
  have hneg : ¬ ((m : Int) < 0) := by omega
  have hbig : ¬ (281474976710656 < (m : Int) * (88 : Int)) := by omega
  have hn : ¬ (i + m ≤ c) := by omega
  have h63' : ¬ (9223372036854775807 < ((i : Int) + (m : Int))) := by omega
  have hfit := growslice_fits (bytes := 88) hc (by omega)
  have h48' : ¬ (281474976710656 < Builtin.nextslicecap (i + m) c * 88) := by omega
  have hfo : (Builtin.firstCells 9 i (.slice (some ⟨g, 0, none⟩) i c)).run Tryd.prog w.drew = .ok xs.toArray w.drew := run_firstCells_some (P := Tryd.prog) w.drew 9 i _ i c xs h.1 (by simpa using h.cells (g := g) rfl)
  have hge := grownCap_ge w (i + m) c 28
  have hcm : grownCap w (i + m) c 28 ≤ maxLen := grownCap_le_maxLen w (i + m) c 28 (by simp only [maxLen]; omega)
  have hmz : ¬ (m * 9 = 0) := by omega
  obtain ⟨Z, hZ⟩ : ∃ Z, Z = (Value.agg #[.int .i64 0, .int .i64 0, .int .i64 0, .int .i64 0, .int .i64 0, .int .i64 0, .int .i64 0, .string ⟨#[]⟩, .string ⟨#[]⟩]) := ⟨_, rfl⟩
  have hZs : Z.cells.size = 9 := by rw [hZ]; rfl
  rw [← hZ] at hz0
  refine ⟨w.drew.alloc (.cells (xs.toArray ++ Builtin.zeroCells Z.cells m ++ Builtin.zeroCells Z.cells (grownCap w (i + m) c 28 - (i + m))) 28), grownCap w (i + m) c 28, xs.toArray ++ Builtin.zeroCells Z.cells m ++ Builtin.zeroCells Z.cells (grownCap w (i + m) c 28 - (i + m)), ?_, heap_alloc_new w.drew _, hge, hcm, ?_, ?_, below_alloc (Below.refl w.heap.size w).drew _, by simp⟩
  · simp [Builtin.append_, run_underlying Tryd.underlying39, run_underlying Tryd.underlying3, sizeOf, typeInfo, zeroValue, hi, hz0, hz1, hz2, asInt, asIntOf, hw, hneg, hbig, hn, h63', h48', Question.forced, hfo, newRow, grownCap, hmz]
  · simp only [Array.size_append, List.size_toArray, size_zeroCells, hZs, h.1]
    omega
  · simp only [Array.toList_append, List.append_assoc]
    rw [← h.1]
    exact List.take_left
section
variable {ops : Array Oper} {rest : List Oper} {oo : Oper} {a : Act} {Q : Exit → Act → World → Prop} {w : World}
theorem wl_append {B : Nat} {v : Value} {l : List Opn} (vb c : Nat) (p : Opn) (s x : Operand) (hop : oo.op = .call { callee := .builtin .append, args := #[s, x], argTypes := #[39, 39] }) (hs : a.eval s = v) (hx : a.eval x = .slice (some ⟨vb, 0, none⟩) 1 c)
    (h0 : OpsAt w B v l) (hB : B ≤ w.heap.size) (hv : w.heap[vb]? = some (.cells (opC p).toArray 28 (0, 0))) (hl : l.length ≤ 1000000)
    (h : ∀ v' w', OpsAt w' B v' (l ++ [p]) → Stay w w' (fun k => v.ownBlock = some k) → (∀ k, v'.ownBlock = some k → v.ownBlock = some k ∨ w.heap.size ≤ k) → wpList Tryd.prog ops Q rest (a.put oo.dst v') w') (hg : oo.guard = none := by rfl) : wpList Tryd.prog ops Q (oo :: rest) a w := by
  refine wpList_plain hg fun K' hK' => ?_
  obtain ⟨v', w', hrun, h1, h2, h3⟩ := append_run h0 hB vb c p hv hl oo.type
  unfold Oper.wp execOp
  simp only [hop, resolve, invoke, builtin, Sem.run_bind, Sem.run_pure, Result.andThen_ok, List.map_toArray, List.map_cons, List.map_nil, hs, hx, hrun]
  exact hK' _ _ (h v' w' h1 h2 h3)
theorem wl_grow {B : Nat} (g i c m : Nat) (xs : List Value) (s x : Operand) (hop : oo.op = .call { callee := .builtin .append, args := #[s, x], argTypes := #[39, 3] }) (hs : a.eval s = .slice (some ⟨g, 0, none⟩) i c) (hx : a.eval x = .int .i64 (m : Int))
    (h0 : w.ownsRow B 28 9 (.slice (some ⟨g, 0, none⟩) i c) i xs) (hc : c < i + m) (hm : 0 < m) (hl : i + m ≤ 1000001) (hB : B ≤ w.heap.size)
    (h : ∀ w' c' cur, w'.heap[w.heap.size]? = some (.cells cur 28 (0, 0)) → i + m ≤ c' → c' ≤ maxLen → cur.size = c' * 9 → cur.toList.take (i * 9) = xs → Below w.heap.size w w' → w'.heap.size = w.heap.size + 1 →
      wpList Tryd.prog ops Q rest (a.put oo.dst (.slice (some ⟨w.heap.size, 0, none⟩) (i + m) c')) w') (hg : oo.guard = none := by rfl) : wpList Tryd.prog ops Q (oo :: rest) a w := by
  refine wpList_plain hg fun K' hK' => ?_
  obtain ⟨w', c', cur, hrun, g1, g2, g3, g4, g5, g6, g7⟩ := grow_run g i c xs h0 m hc hm hl hB oo.type
  unfold Oper.wp execOp
  simp only [hop, resolve, invoke, builtin, Sem.run_bind, Sem.run_pure, Result.andThen_ok, List.map_toArray, List.map_cons, List.map_nil, hs, hx, hrun]
  exact hK' _ _ (h w' c' cur g1 g2 g3 g4 g5 g6 g7)
end
end Go.Proofs.YtiffeljmeahmkaaDoor.S
