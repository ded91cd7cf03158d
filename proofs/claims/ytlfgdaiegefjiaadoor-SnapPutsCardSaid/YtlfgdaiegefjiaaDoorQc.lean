/- Short forms for the steps of regions that draw their order. -/
import Derived.Test.YtlfgdaiegefjiaaDoorSA
import Derived.Test.YtlfgdaiegefjiaaDoorQa
import Derived.Test.YtlfgdaiegefjiaaDoorWTab
namespace Go.Proofs.YtlfgdaiegefjiaaDoor.S
open Go.RowKit Go.Proofs.YtlfgdaiegefjiaaDoorW.PrintWords Go.Proofs.YtlfgdaiegefjiaaDoorW.PrintLast Go.Proofs.YtlfgdaiegefjiaaDoorW.PrintMore
set_option linter.unusedVariables false
/-- Marks: which of n operations are done, as bits. -/
def mb (n k : Nat) : Array Bool := ((List.range n).map fun i => k.testBit i).toArray
section
variable {P : Program} {ops : Array Oper} {Q : Exit → Act → World → Prop} {S : World → Prop} {ds : List Nat} {md : Region.Mode} {T : Bool × List (List Nat × List Nat)} {B : List Nat}
theorem pu (i N : Nat) {oi : Oper} {v : Value} {fuel : Nat} {l : Array Bool} {a a' : Act} {w : World} (l' : Array Bool) (hT : Aside0 (rtab md ops = T)) (h : wpAnyLast P md ops Q S ds fuel l' a' w) (hc : anyT T l.toList l'.toList i = true := by kernel_rfl) (hi : ops[i]? = some oi := by exact rfl) (hN : oi.dst = some N := by exact rfl) (hQ : ∀ c a w, Q (.panic c) (a.put oi.dst v) w → Q (.panic c) a w := by exact fun _ _ _ h => h) (hg : Region.wanted oi (yielded ops a.tmps) = true := by rfl) (hy : ∀ w', (execOp a.eval oi).run P w' = .ok (.value v) w' := by (intro w'; go_simp; with_reducible rfl)) (ha : a.put (some N) v = a' := by (simp only [Act.put, List.setIfInBounds_toArray, List.set_cons_zero, List.set_cons_succ, i64_w, i32_w]; rfl)) : wpAnyLast P md ops Q S ds (fuel + 1) l a w := pure_ l' hi hN (any_of hT.out hc) hQ (Or.inl ⟨hg, hy⟩) ha h
theorem tk (i N : Nat) {oi : Oper} {v : Value} {fuel : Nat} {l : Array Bool} {a a' : Act} {w : World} (l' : Array Bool) (hT : Aside0 (rtab md ops = T)) (hW : Aside0 (waitsOk T.2 B = true)) (hS : S w) (h : wpAnyLast P md ops Q S ds fuel l' a' w) (hc : takeW T B ds l.toList l'.toList i = true := by kernel_rfl) (hi : ops[i]? = some oi := by exact rfl) (hN : oi.dst = some N := by exact rfl) (hQ : ∀ c a w, Q (.panic c) (a.put oi.dst v) w → Q (.panic c) a w := by exact fun _ _ _ h => h) (hg : Region.wanted oi (yielded ops a.tmps) = true := by rfl) (hy : ∀ w', S w' → (execOp a.eval oi).run P w' = .ok (.value v) w' := by (intro w' h; (repeat (obtain ⟨_, h⟩ : _ ∧ _ := h)); go_simp; with_reducible rfl)) (ha : a.put (some N) v = a' := by (simp only [Act.put, List.setIfInBounds_toArray, List.set_cons_zero, List.set_cons_succ, i64_w, i32_w]; rfl)) : wpAnyLast P md ops Q S ds (fuel + 1) l a w := take_ l' hi hN (take_ofW hT.out hW.out hc) hQ (Or.inl ⟨hg, hy⟩) hS ha h
theorem on (i : Nat) (N : Option Tmp) {oi : Oper} {fuel : Nat} {l : Array Bool} {a : Act} {w : World} (l' : Array Bool) (hT : Aside0 (rtab md ops = T)) (h : ∀ K : Act → World → Prop, Shut (∀ a' w', S w' → (S w' → wpAnyLast P md ops Q S ds fuel l' a' w') → K a' w') → if Region.wanted oi (yielded ops a.tmps) = true then Oper.wp P oi a w K Q else K (a.put N undef) w) (hi : ops[i]? = some oi := by exact rfl) (hN : oi.dst = N := by exact rfl) (hc : (readyT T.2 l.toList == [i] && l.toList.set i true == l'.toList) = true := by kernel_rfl) (hd : i ∉ ds := by decide) : wpAnyLast P md ops Q S ds (fuel + 1) l a w := one_ l' hi hN (one_of hT.out hc) hd h
theorem nm {fuel : Nat} {l : Array Bool} {a : Act} {w : World} (a' : Act) (h : wpAnyLast P md ops Q S ds fuel l a' w) (ha : a = a' := by (show Act.put _ (some _) _ = _; simp only [Act.put, List.setIfInBounds_toArray, List.set_cons_zero, List.set_cons_succ, i64_w, i32_w]; rfl)) : wpAnyLast P md ops Q S ds fuel l a w := norm_ ha h
theorem dn {l : Array Bool} {a : Act} {w : World} {n : Nat} (hT : Aside0 (rtab md ops = T)) (h : Q .normal a w) (hr : (readyT T.2 l.toList == []) = true := by kernel_rfl) : wpAnyLast P md ops Q S ds n l a w := done_ (done_of hT.out hr) h
theorem gs {oi : Oper} {N : Option Tmp} {a : Act} {w : World} {K : Act → World → Prop} {f : FuncId} {fn : Func} {ar : Array Operand} {ts : Array TypeId} (hf : P.funcs[f]? = some fn) (args : Array Value) (h : Calls P f args w fun e w' => ∃ v, e = .returned v ∧ K (a.put N v) w') (hname : (fn.name == "runtime.NumGoroutine") = false := by kernel_rfl) (hb : fn.body.isSome = true := by exact rfl) (hw : Region.wanted oi (yielded ops a.tmps) = true := by rfl) (hN : oi.dst = N := by exact rfl) (hop : oi.op = .call { callee := .value (.func f), args := ar, argTypes := ts } := by exact rfl) (hargs : ar.map a.eval = args := by (simp only [List.map_toArray, List.map_cons, List.map_nil]; rfl)) : if Region.wanted oi (yielded ops a.tmps) = true then Oper.wp P oi a w K Q else K (a.put N undef) w := goes_ hf hname hb args hw hN hop hargs h
theorem hq {K : Act → World → Prop} {fuel : Nat} {l' : Array Bool} {a : Act} {w : World} (hK : Shut (∀ a' w', S w' → (S w' → wpAnyLast P md ops Q S ds fuel l' a' w') → K a' w')) (h : S w → wpAnyLast P md ops Q S ds fuel l' a w) (hS : S w := by repeat' (first | refine ⟨?_, ?_⟩ | exact (blk_cell (Aside0.out (by assumption)) _).trans (by rfl))) : K a w := hK.out _ _ hS h
theorem st {id : Nat} {a : Act} {w : World} (n : Nat) (S : World → Prop) (ds : List Nat) (h : S w.drew → wpAnyLast P .any ops Q S ds n (mb n 0) a w.drew) (hm : P.follows .mixedOrders = true := by kernel_rfl) (hn : ops.size = n := by rfl) (hl : Array.replicate n false = mb n 0 := by kernel_rfl) (hS : S w.drew := by repeat' (first | refine ⟨?_, ?_⟩ | exact (blk_cell (Aside0.out (by assumption)) _).trans (by rfl))) : (Code.region id ops true).wp P Q a w := start_ (mb n 0) hm hn hl hS h
def skA : Nat → Nat → Act → Act
  | 0, _, a => a
  | k + 1, N, a => skA k (N + 1) (a.put (some N) undef)
def skL : Nat → Nat → List Bool → List Bool
  | 0, _, l => l
  | k + 1, i, l => skL k (i + 1) (l.set i true)
def skO (T : Bool × List (List Nat × List Nat)) (ops : Array Oper) (N i : Nat) (l : List Bool) (a : Act) : Bool :=
  match ops[i]? with
  | none => false
  | some oi => anyT T l (l.set i true) i && decide (oi.dst = some N) && !(Region.wanted oi (yielded ops a.tmps))
def skB (T : Bool × List (List Nat × List Nat)) (ops : Array Oper) : Nat → Nat → Nat → List Bool → Act → Bool
  | 0, _, _, _, _ => true
  | k + 1, i, N, l, a => skO T ops N i l a && skB T ops k (i + 1) (N + 1) (l.set i true) (a.put (some N) undef)
theorem sk_go {w : World} (hT : rtab md ops = T) (hQ : ∀ c a w v (N : Nat), Q (.panic c) (Act.put a (some N) v) w → Q (.panic c) a w) : ∀ (k i N fuel : Nat) (l : List Bool) (a : Act), skB T ops k i N l a = true → wpAnyLast P md ops Q S ds fuel (skL k i l).toArray (skA k N a) w → wpAnyLast P md ops Q S ds (fuel + k) l.toArray a w
  | 0, i, N, fuel, l, a, _, h => h
  | k + 1, i, N, fuel, l, a, hb, h => by
    simp only [skB, Bool.and_eq_true] at hb
    obtain ⟨hb, hr⟩ := hb
    unfold skO at hb
    split at hb
    · cases hb
    · rename_i oi hi
      simp only [Bool.and_eq_true, Bool.not_eq_true', decide_eq_true_eq] at hb
      obtain ⟨⟨h1, h2⟩, h3⟩ := hb
      exact pure_ (v := undef) (l.set i true).toArray hi h2 (any_of hT h1) (fun c a w hq_ => hQ c a w undef N (by rw [h2] at hq_; exact hq_)) (Or.inr ⟨h3, rfl⟩) rfl (sk_go hT hQ k (i + 1) (N + 1) fuel _ _ hr h)
theorem sk (i N k : Nat) {fuel : Nat} {l : Array Bool} {a a' : Act} {w : World} (l' : Array Bool) (hT : Aside0 (rtab md ops = T)) (h : wpAnyLast P md ops Q S ds fuel l' a' w) (hc : skB T ops k i N l.toList a = true := by kernel_rfl) (hl : (skL k i l.toList == l'.toList) = true := by kernel_rfl) (hQ : ∀ c a w v (N : Nat), Q (.panic c) (Act.put a (some N) v) w → Q (.panic c) a w := by exact fun _ _ _ _ _ h => h) (ha : skA k N a = a' := by (simp only [skA, Act.put, List.setIfInBounds_toArray, List.set_cons_zero, List.set_cons_succ]; rfl)) : wpAnyLast P md ops Q S ds (fuel + k) l a w := by
  obtain ⟨l⟩ := l
  obtain ⟨l'⟩ := l'
  have e : skL k i l = l' := by simpa using hl
  subst e ha
  exact sk_go hT.out hQ k i N fuel l a hc h
theorem gL (N : Nat) {rest : List Oper} {oi : Oper} {a : Act} {w : World} {f : FuncId} {fn : Func} {ar : Array Operand} {ts : Array TypeId} (hf : P.funcs[f]? = some fn) (args : Array Value) (h : Calls P f args w fun e w' => ∃ v, e = .returned v ∧ wpList P ops Q rest (a.put (some N) v) w') (hd : oi.dst = some N := by exact rfl) (hg : oi.guard = none := by exact rfl) (hname : (fn.name == "runtime.NumGoroutine") = false := by kernel_rfl) (hb : fn.body.isSome = true := by exact rfl) (hop : oi.op = .call { callee := .value (.func f), args := ar, argTypes := ts } := by exact rfl) (hargs : ar.map a.eval = args := by (try simp only [List.map_toArray, List.map_cons, List.map_nil]); first | done | rfl | (simp only [List.length_drop, List.length_take]; rfl)) : wpList P ops Q (oi :: rest) a w := goesL_ (some N) hd hg hf hname hb args hop hargs h
end
theorem Qv {w w1 w2 : World} {g : Nat} {o : Obj} (h0 : Aside0 (w.heap[g]? = some o)) (hb : Below w1.heap.size w1 w2) (h : w1.heap[g]? = some o := by (repeat (first | exact Aside0.out (by with_reducible assumption) | (with_reducible first | refine blk_drewN ?_ _ | refine blk_drew ?_ | refine blk_alloc ?_ _ | apply blk_put | apply blk_far))); all_goals (first | exact Aside0.out (by assumption) | (simp only [List.setIfInBounds_toArray, List.set_cons_zero, List.set_cons_succ]; done) | (simp only [List.setIfInBounds_toArray, List.set_cons_zero, List.set_cons_succ]; rfl) | rfl)) : Aside0 (w2.heap[g]? = some o) := ⟨blk_below h hb⟩
theorem Qy {w w1 w2 : World} (hb : Below w1.heap.size w1 w2) (h : Below w.heap.size w w1 := by repeat (first | (with_reducible first | exact Aside0.out (by assumption) | apply below_alloc | apply pw_below_drewN | apply below_drew1 | refine below_set ?_ (Aside0.out (by assumption))) | exact Aside0.out (by assumption))) : Aside0 (Below w.heap.size w w2) := ⟨below_step h hb⟩
theorem Qt (w : World) {W : World} {g : Nat} (hg : g = W.heap.size) (h : Below w.heap.size w W := by repeat (first | (with_reducible first | exact Aside0.out (by assumption) | apply below_alloc | apply pw_below_drewN | apply below_drew1 | refine below_set ?_ (Aside0.out (by assumption))) | exact Aside0.out (by assumption))) : Aside0 (w.heap.size ≤ g) := ⟨Qs hg h⟩
theorem Qo {w w1 : World} {g g' : Nat} {o : Obj} (hg : g' = w1.heap.size) (h0 : Aside0 (w.heap[g]? = some o)) (h : w1.heap[g]? = some o := by (repeat (first | exact Aside0.out (by with_reducible assumption) | (with_reducible first | refine blk_drewN ?_ _ | refine blk_drew ?_ | refine blk_alloc ?_ _ | apply blk_put | apply blk_far))); all_goals (first | exact Aside0.out (by assumption) | (simp only [List.setIfInBounds_toArray, List.set_cons_zero, List.set_cons_succ]; done) | (simp only [List.setIfInBounds_toArray, List.set_cons_zero, List.set_cons_succ]; rfl) | rfl)) : Aside0 (g ≠ g') := ⟨Qn hg h0 h⟩
theorem Qp {w w1 : World} {g g' : Nat} {o : Obj} (hg : g' = w1.heap.size) (h0 : Aside0 (w.heap[g]? = some o)) (h : w1.heap[g]? = some o := by (repeat (first | exact Aside0.out (by with_reducible assumption) | (with_reducible first | refine blk_drewN ?_ _ | refine blk_drew ?_ | refine blk_alloc ?_ _ | apply blk_put | apply blk_far))); all_goals (first | exact Aside0.out (by assumption) | (simp only [List.setIfInBounds_toArray, List.set_cons_zero, List.set_cons_succ]; done) | (simp only [List.setIfInBounds_toArray, List.set_cons_zero, List.set_cons_succ]; rfl) | rfl)) : Aside0 (g' ≠ g) := ⟨(Qn hg h0 h).symm⟩
end Go.Proofs.YtlfgdaiegefjiaaDoor.S
