/- The values of a map as an iterator, in the form that a range over a function asks. -/
import Derived.Test.YtiffeljmeahmkaaDoorMd
import Derived.RangeFuncNested
import Derived.RangeFuncBound
import Derived.RangeFuncCalls
import Derived.RangeFuncLeaves
import Derived.RangeFuncFrom
import Derived.Shelf.Abstract
import Derived.Shelf.RegionOpen
import Derived.WalkKit
import Derived.OwnWalkIn
import Derived.TacticsInMore
import Derived.LoopNIn
import Derived.LoopIn
import Derived.Sort.MapsRangeIn
namespace Go.Proofs.YtiffeljmeahmkaaDoor.S
open Go.RowKit Go.Shelf Go.Proofs.YtiffeljmeahmkaaDoorW.PrintWords Go.Proofs.YtiffeljmeahmkaaDoorW.PrintLast Go.Proofs.YtiffeljmeahmkaaDoorW.PrintMore
attribute [local go_sem] Oper.semAt_some
set_option linter.unusedVariables false
set_option linter.unusedSimpArgs false
section
variable {F : Fence} {n : Nat} {ops : Array Oper} {rest : List Oper} {o : Oper} {a : Act} {Q : Exit → Act → World → Prop} {w : World}
theorem wli_range (f : Nat) (l : List Nod) (m : Operand) (hop : o.op = Op.range 64 m) (hm : a.eval m = .map (some f)) (hl : Lies w f l)
    (h : ∀ w1, Rng w1 w.heap.size f l [] l → Below w.heap.size w w1 → wpListIn F n Tryd.prog ops Q rest (a.put o.dst (.pointer (some ⟨w.heap.size, 0, none⟩))) w1) (hg : o.guard = none := by rfl) : wpListIn F n Tryd.prog ops Q (o :: rest) a w := by
  refine wpListIn_plain hg fun K' hK' => ?_
  obtain ⟨o', hrun, hr⟩ := range_run hl
  unfold Oper.wpIn
  refine ⟨by simp [Oper.about, hop], ?_⟩
  rw [Oper.semAt_plain F _ _ (by rw [hop]; intro c hc'; cases hc')]
  simp [execOp, hop, hm, hrun, Result.andThen]
  exact hK' _ _ (h _ hr (below_alloc (Below.refl _ _) _))
theorem wli_next (r f : Nat) (l done rst : List Nod) (it : Operand) (hop : o.op = Op.next it false) (hit : a.eval it = .pointer (some ⟨r, 0, none⟩)) (h : Rng w r f l done rst)
    (hDone : rst = [] → wpListIn F n Tryd.prog ops Q rest (a.put o.dst (.tuple #[.bool false])) w)
    (hMore : ∀ (n_ : Nod) (rst' : List Nod) (w' : World), (n_ :: rst').Perm rst → Rng w' r f l (done ++ [n_]) rst' → Stay w w' (· = r) → w'.heap.size = w.heap.size →
      (Instr.entry (.pointer (some ⟨r, 0, none⟩))).run Tryd.prog w' = .ok (.tuple #[.agg #[.int .i64 n_.f0.f0, .int .i64 n_.f0.f1], .agg #[.int .i64 n_.f0.f0, .int .i64 n_.f0.f1, .int .i64 n_.f1.f0, .int .i64 n_.f1.f1, .string n_.f2, .string n_.f3]]) w' →
      wpListIn F n Tryd.prog ops Q rest (a.put o.dst (.tuple #[.bool true, .agg #[.int .i64 n_.f0.f0, .int .i64 n_.f0.f1], .agg #[.int .i64 n_.f0.f0, .int .i64 n_.f0.f1, .int .i64 n_.f1.f0, .int .i64 n_.f1.f1, .string n_.f2, .string n_.f3]])) w')
    (hg : o.guard = none := by rfl) : wpListIn F n Tryd.prog ops Q (o :: rest) a w := by
  refine wpListIn_plain hg fun K' hK' => ?_
  unfold Oper.wpIn
  refine ⟨by simp [Oper.about, hop], ?_⟩
  rw [Oper.semAt_plain F _ _ (by rw [hop]; intro c hc'; cases hc')]
  rcases next_run h o.type with ⟨h0, hrun⟩ | ⟨n_, rst', w', hp, hrun, hr, hs, hz, he⟩
  · simp [execOp, hop, hit, hrun, Result.andThen]
    exact hK' _ _ (hDone h0)
  · simp [execOp, hop, hit, hrun, Result.andThen]
    exact hK' _ _ (hMore n_ rst' w' hp hr hs hz he)
end
/-- maps.Values: the map is boxed; the function value holds the box. -/
theorem values_in (F : Fence) (n : Nat) (hf : F.fn 71) (hro : F.round = none) (b : Nat) (w : World) :
    CallsIn F n Tryd.prog 71 #[.map (some b)] w fun e w' => e = .returned (.func (.func 81) #[] #[.pointer (some ⟨w.heap.size, 0, none⟩)]) ∧ w' = w.alloc (.cells #[.map (some b)] 64) := by
  refine callsIn_of_wp Tryd.func71 rfl hf ?_ hro
  simp only [Tryd.ntmps71, List.size_toArray, List.length_cons, List.length_nil, Nat.reduceAdd, Nat.reduceSub, Array.replicate_succ, Array.replicate_zero, List.push_toArray, List.append_toArray, List.nil_append, List.cons_append]
  gi_wp2
  go_ret
  exact ⟨rfl, rfl⟩
end Go.Proofs.YtiffeljmeahmkaaDoor.S
