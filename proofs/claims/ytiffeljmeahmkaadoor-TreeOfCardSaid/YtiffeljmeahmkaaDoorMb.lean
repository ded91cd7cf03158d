/- What stays as it is beside some blocks; the laws of a map of nodes at the operation; has, below, do, as the machine walks them. -/
import Derived.Test.YtiffeljmeahmkaaDoorMa
import Derived.Test.YtiffeljmeahmkaaDoorSL1
import Derived.Test.YtiffeljmeahmkaaDoorQa
namespace Go.Proofs.YtiffeljmeahmkaaDoor.S
open Go.RowKit Go.Proofs.YtiffeljmeahmkaaDoorW.PrintWords Go.Proofs.YtiffeljmeahmkaaDoorW.PrintLast Go.Proofs.YtiffeljmeahmkaaDoorW.PrintMore
set_option linter.unusedVariables false
set_option linter.unusedSimpArgs false
/-- Beside the blocks of S all is as it was; none has gone. -/
structure Stay (w w1 : World) (S : Nat → Prop) : Prop where
  os : w1.os = w.os
  tape : w1.tape = w.tape
  output : w1.output = w.output
  size : w.heap.size ≤ w1.heap.size
  block : ∀ k, k < w.heap.size → ¬ S k → w1.heap[k]? = w.heap[k]?
section
variable {w w1 w2 : World} {S S' : Nat → Prop}
theorem Stay.refl (w : World) (S : Nat → Prop) : Stay w w S := ⟨rfl, rfl, rfl, Nat.le_refl _, fun _ _ _ => rfl⟩
theorem Stay.of (h : Below w.heap.size w w1) (S : Nat → Prop) : Stay w w1 S := ⟨h.os, h.tape, h.output, h.size, fun k hk _ => h.block k hk⟩
theorem Stay.trans (h : Stay w w1 S) (h' : Stay w1 w2 S') (hs : ∀ k, S' k → S k ∨ w.heap.size ≤ k) : Stay w w2 S :=
  ⟨h'.os.trans h.os, h'.tape.trans h.tape, h'.output.trans h.output, Nat.le_trans h.size h'.size, fun k hk hn => (h'.block k (Nat.lt_of_lt_of_le hk h.size) (fun h2 => (hs k h2).elim hn (fun h3 => by omega))).trans (h.block k hk hn)⟩
theorem Stay.mono (h : Stay w w1 S) (hs : ∀ k, S k → S' k) : Stay w w1 S' := ⟨h.os, h.tape, h.output, h.size, fun k hk hn => h.block k hk (fun h2 => hn (hs k h2))⟩
theorem Stay.below (h : Stay w w1 S) (hb : Below w1.heap.size w1 w2) : Stay w w2 S := h.trans (Stay.of hb (fun _ => False)) (fun _ hk => hk.elim)
theorem Stay.back (h : Stay w w1 S) {b : Nat} {w0 : World} (hb : Below b w0 w) (hle : b ≤ w.heap.size) (hs : ∀ k, S k → b ≤ k) : Below b w0 w1 :=
  hb.trans ⟨h.os, h.tape, h.output, h.size, fun k hk => h.block k (Nat.lt_of_lt_of_le hk hle) (fun h2 => by have := hs k h2; omega)⟩
theorem Stay.blk (h : Stay w w1 S) {g : Nat} {o : Obj} (hg : w.heap[g]? = some o) (hn : ¬ S g) : w1.heap[g]? = some o := (h.block g (blk_lt hg) hn).trans hg
theorem Lies.stay {b : Nat} {l : List Nod} (hl : Lies w b l) (h : Stay w w1 S) (hn : ¬ S b) : Lies w1 b l := hl.same (h.block b hl.lt hn)
theorem Stay.set (w : World) (b : Nat) (o : Obj) : Stay w { w with heap := w.heap.setIfInBounds b o } (· = b) :=
  ⟨rfl, rfl, rfl, by simp, fun k hk hn => by
    rw [Array.getElem?_setIfInBounds]
    split
    · rename_i e; exact absurd e.symm hn
    · rfl⟩
theorem Stay.cell (w : World) (a : Addr) (u : Value) : Stay w (w.setCell a u) (· = a.block) :=
  ⟨rfl, rfl, rfl, by simp [World.setCell], fun k _ hn => Below.heap_setCell w a u k hn⟩
end
section
variable {ops : Array Oper} {rest : List Oper} {o : Oper} {a : Act} {Q : Exit → Act → World → Prop} {w : World}
theorem wl_ok (b : Nat) (l : List Nod) (s : Stp) (y : Nod) (hy : look l s = y) (m x : Operand) (hop : o.op = Op.lookup 64 m x true) (hm : a.eval m = .map (some b)) (hx : a.eval x = .agg #[.int .i64 s.f0, .int .i64 s.f1]) (hl : Lies w b l)
    (h : wpList Tryd.prog ops Q rest (a.put o.dst (.tuple #[.agg #[.int .i64 y.f0.f0, .int .i64 y.f0.f1, .int .i64 y.f1.f0, .int .i64 y.f1.f1, .string y.f2, .string y.f3], .bool (has l s)])) w) (hg : o.guard = none := by rfl) : wpList Tryd.prog ops Q (o :: rest) a w := by
  refine wpList_plain hg fun K' hK' => ?_
  have hrun : (Instr.lookup 64 (.map (some b)) (.agg #[.int .i64 s.f0, .int .i64 s.f1]) true).run Tryd.prog w = .ok (.tuple #[.agg #[.int .i64 y.f0.f0, .int .i64 y.f0.f1, .int .i64 y.f1.f0, .int .i64 y.f1.f1, .string y.f2, .string y.f3], .bool (has l s)]) w := by subst hy; exact look_run hl s true
  unfold Oper.wp
  simp [execOp, hop, hm, hx, hrun, Result.andThen]
  exact hK' _ _ h
theorem wl_one (b : Nat) (l : List Nod) (s : Stp) (m x : Operand) (hop : o.op = Op.lookup 64 m x false) (hm : a.eval m = .map (some b)) (hx : a.eval x = .agg #[.int .i64 s.f0, .int .i64 s.f1]) (hl : Lies w b l)
    (h : wpList Tryd.prog ops Q rest (a.put o.dst (.agg #[.int .i64 (look l s).f0.f0, .int .i64 (look l s).f0.f1, .int .i64 (look l s).f1.f0, .int .i64 (look l s).f1.f1, .string (look l s).f2, .string (look l s).f3])) w) (hg : o.guard = none := by rfl) : wpList Tryd.prog ops Q (o :: rest) a w := by
  refine wpList_plain hg fun K' hK' => ?_
  have hrun : (Instr.lookup 64 (.map (some b)) (.agg #[.int .i64 s.f0, .int .i64 s.f1]) false).run Tryd.prog w = .ok (.agg #[.int .i64 (look l s).f0.f0, .int .i64 (look l s).f0.f1, .int .i64 (look l s).f1.f0, .int .i64 (look l s).f1.f1, .string (look l s).f2, .string (look l s).f3]) w := look_run hl s false
  unfold Oper.wp
  simp [execOp, hop, hm, hx, hrun, Result.andThen]
  exact hK' _ _ h
theorem wl_put (b : Nat) (l : List Nod) (n : Nod) (m k x : Operand) (hop : o.op = Op.mapUpdate 64 m k x) (hm : a.eval m = .map (some b)) (hk : a.eval k = n.f0.val) (hx : a.eval x = n.val) (hl : Lies w b l)
    (h : ∀ w1, Lies w1 b (put l n) → Stay w w1 (· = b) → wpList Tryd.prog ops Q rest (a.put o.dst undef) w1) (hg : o.guard = none := by rfl) : wpList Tryd.prog ops Q (o :: rest) a w := by
  refine wpList_plain hg fun K' hK' => ?_
  obtain ⟨o', hrun, hl'⟩ := put_run hl n
  unfold Oper.wp
  simp [execOp, hop, hm, hk, hx, hrun, Result.andThen]
  exact hK' _ _ (h _ hl' (Stay.set w b o'))
end
def outerB (s : Stp) : Bool := s.f0 == 0 && (s.f1 == 0 || s.f1 == 1)
attribute [local go_sem high] mEq
theorem outer_f (s : Stp) : tree_outer.f s.f0 s.f1 = some (outerB s) := by
  unfold tree_outer.f outerB
  cases s.f0 == 0 <;> cases s.f1 == 0 <;> simp
theorem field_par (a b c d : Int) (e f : ByteArray) (w : World) : (Instr.field 36 (.agg #[.int .i64 a, .int .i64 b, .int .i64 c, .int .i64 d, .string e, .string f]) 1).run Tryd.prog w = .ok (.agg #[.int .i64 c, .int .i64 d]) w := by
  unfold Instr.field
  simp only [Sem.run_bind, run_underlying Tryd.underlying36, Result.andThen]
  go_simp
  simp [asAgg, Result.andThen]
set_option maxHeartbeats 8000000 in
set_option maxRecDepth 100000 in
theorem has_calls (b : Nat) (l : List Nod) (s : Stp) (w : World) (hl : Lies w b l) : Calls Tryd.prog 58 #[.map (some b), .agg #[.int .i64 s.f0, .int .i64 s.f1]] w fun e w' => e = .returned (.bool (has l s || outerB s)) ∧ Below w.heap.size w w' := by
  have HL := Aside0.mk hl
  clear hl
  cases hh : has l s with
  | true =>
    go_enter Tryd.func58, Tryd.ntmps58
    go_wp2_with (at_lookup; refine wl_ok b l s (look l s) rfl _ _ rfl rfl rfl (HL.out.below (below_alloc (Below.refl _ _) _)) ?_)
    go_ret
    exact ⟨rfl, below_alloc (below_alloc (Below.refl _ _) _) _⟩
  | false =>
    go_enter Tryd.func58, Tryd.ntmps58
    go_wp2_with (first | (at_lookup; refine wl_ok b l s (look l s) rfl _ _ rfl rfl rfl (HL.out.below (below_alloc (Below.refl _ _) _)) ?_) | (go_at_call 49; refine (tree_outer.calls _ _ _ _ (outer_f s)).mono ?_; rintro e w1 ⟨rfl, hb⟩))
    go_ret
    exact ⟨rfl, below_step (below_alloc (below_alloc (Below.refl _ _) _) _) hb⟩
theorem blk_set2 {w : World} {g : Nat} {t : TypeId} {c0 c1 d0 d1 : Value} (h : w.heap[g]? = some (.cells #[c0, c1] t (0, 0))) : ((w.setCell ⟨g, 0, none⟩ d0).setCell ⟨g, 1, none⟩ d1).heap[g]? = some (.cells #[d0, d1] t (0, 0)) := blk_put (blk_put h 0 d0 rfl) 1 d1 rfl
attribute [local go_sem high] field_par
/-- Whether the parents of a number lead to a node; so many steps at the most. -/
def bel (l : List Nod) (id : Stp) : Nat → Stp → Option Bool
  | 0, _ => none
  | k + 1, s => if outerB s = true then some false else if (s.f0 == id.f0 && s.f1 == id.f1) = true then some true else bel l id k (look l s).f1
set_option maxHeartbeats 8000000 in
set_option maxRecDepth 100000 in
theorem below_calls (b : Nat) (l : List Nod) (s id : Stp) (k : Nat) (r : Bool) (w : World) (hl : Lies w b l) (h : bel l id k s = some r) :
    Calls Tryd.prog 59 #[.map (some b), .agg #[.int .i64 s.f0, .int .i64 s.f1], .agg #[.int .i64 id.f0, .int .i64 id.f1]] w fun e w' => e = .returned (.bool r) ∧ Below w.heap.size w w' := by
  have HL := Aside0.mk hl
  have HK := Aside0.mk h
  clear hl h
  go_enter Tryd.func59, Tryd.ntmps59
  go_wp2
  have hb0 := below_alloc (below_alloc (Below.refl w.heap.size w) (.cells #[.int .i64 s.f0, .int .i64 s.f1] 25)) (.cells #[.int .i64 id.f0, .int .i64 id.f1] 25)
  have e0 : (w.alloc (.cells #[.int .i64 s.f0, .int .i64 s.f1] 25)).heap.size = w.heap.size + 1 := by simp
  have hg0 : ((w.alloc (.cells #[.int .i64 s.f0, .int .i64 s.f1] 25)).alloc (.cells #[.int .i64 id.f0, .int .i64 id.f1] 25)).heap[w.heap.size]? = some (.cells #[.int .i64 s.f0, .int .i64 s.f1] 25) := (heap_alloc_old _ _ (by rw [e0]; omega)).trans (heap_alloc_new _ _)
  have hg1 : ((w.alloc (.cells #[.int .i64 s.f0, .int .i64 s.f1] 25)).alloc (.cells #[.int .i64 id.f0, .int .i64 id.f1] 25)).heap[w.heap.size + 1]? = some (.cells #[.int .i64 id.f0, .int .i64 id.f1] 25) := by rw [← e0]; exact heap_alloc_new _ _
  have BK0 := Aside0.mk hg0
  have BK1 := Aside0.mk hg1
  have HB := Aside0.mk hb0
  clear hg0 hg1 hb0 e0
  go_loopg [9] k (fun kq _ wr => ∃ s' : Stp, Aside0 (bel l id kq s' = some r) ∧ Aside0 (wr.heap[w.heap.size]? = some (.cells #[.int .i64 s'.f0, .int .i64 s'.f1] 25)) ∧ Aside0 (wr.heap[w.heap.size + 1]? = some (.cells #[.int .i64 id.f0, .int .i64 id.f1] 25)) ∧ Aside0 (Below w.heap.size w wr))
  case atStart => exact ⟨s, HK, BK0, BK1, HB⟩
  case round =>
    clear HK BK0 BK1 HB
    obtain ⟨s', HK, BK0, BK1, HB⟩ := hrel
    cases gk with
    | zero => exact absurd HK.out (by simp [bel])
    | succ k1 =>
      have H := HK.out
      clear HK
      simp only [bel] at H
      obtain ⟨z0, z1, z2, z3⟩ := Z2 BK0.out
      cases ho : outerB s' with
      | true =>
        rw [if_pos ho] at H
        obtain rfl := Option.some.inj H
        go_wp2_with (go_at_call 49; refine (tree_outer.calls _ _ _ _ (outer_f s')).mono ?_; rintro e w1 ⟨rfl, hb⟩; have HB1 := Aside0.mk (below_step HB.out hb); clear hb z0 z1 z2 z3)
        go_ret
        exact ⟨by simp [ho], HB1.out⟩
      | false =>
        rw [if_neg (by rw [ho]; simp)] at H
        by_cases he : (s'.f0 == id.f0 && s'.f1 == id.f1) = true
        · rw [if_pos he] at H
          obtain rfl := Option.some.inj H
          go_wp2_with (go_at_call 49; refine (tree_outer.calls _ _ _ _ (outer_f s')).mono ?_; rintro e w1 ⟨rfl, hb⟩; have n0 := Aside0.mk (blk_below BK0.out hb); have n1 := Aside0.mk (blk_below BK1.out hb); have HB1 := Aside0.mk (below_step HB.out hb); have HL1 := Aside0.mk ((HL.out.below HB.out).below hb); clear hb z0 z1 z2 z3 BK0 BK1 HB HL; obtain ⟨z0, z1, z2, z3⟩ := Z2 n0.out; obtain ⟨y0, y1⟩ := Y2 n1.out)
          go_ret
          exact ⟨rfl, HB1.out⟩
        · rw [if_neg he] at H
          have he' : (s'.f0 == id.f0 && s'.f1 == id.f1) = false := by simpa using he
          clear he
          have HK1 := Aside0.mk H
          clear H
          go_wp2_with (first | (go_at_call 49; refine (tree_outer.calls _ _ _ _ (outer_f s')).mono ?_; rintro e w1 ⟨rfl, hb⟩; have n0 := Aside0.mk (blk_below BK0.out hb); have n1 := Aside0.mk (blk_below BK1.out hb); have HB1 := Aside0.mk (below_step HB.out hb); have HL1 := Aside0.mk ((HL.out.below HB.out).below hb); clear hb z0 z1 z2 z3 BK0 BK1 HB HL; obtain ⟨z0, z1, z2, z3⟩ := Z2 n0.out; obtain ⟨y0, y1⟩ := Y2 n1.out) | (at_lookup; refine wl_one b l s' _ _ rfl rfl rfl HL1.out ?_))
          go_roundg k1
          case measure => omega
          case rel => exact ⟨(look l s').f1, HK1, ⟨blk_set2 n0.out⟩, ⟨blk_far (blk_far n1.out (by simp) _) (by simp) _⟩, ⟨below_set (below_set HB1.out (Nat.le_refl _)) (Nat.le_refl _)⟩⟩
end Go.Proofs.YtiffeljmeahmkaaDoor.S
