/- A tree of nothing, as the machine walks it. -/
import Derived.Test.YtmogpfhhmekbiaaDoorSx0
import Derived.Test.YtmogpfhhmekbiaaDoorQa
import Derived.LoopTactic
import Derived.WideMake
import Derived.Maps.RangeRun
import Derived.Laws.IdiomRangeMap
import Derived.Test.YtmogpfhhmekbiaaDoorHc
import Derived.Test.YtmogpfhhmekbiaaDoorSx4
import Derived.Test.YtmogpfhhmekbiaaDoorSx5
namespace Go.Proofs.YtmogpfhhmekbiaaDoor.S
open Go.RowKit Go.Proofs.YtmogpfhhmekbiaaDoorW.PrintWords Go.Proofs.YtmogpfhhmekbiaaDoorW.PrintLast Go.Proofs.YtmogpfhhmekbiaaDoorW.PrintMore
set_option linter.unusedVariables false
set_option linter.unusedSimpArgs false
abbrev te.Q0 : Array Bool := #[false, false, false, false, false, false, false, false, false]
abbrev te.Q1 : Array Bool := #[true, false, false, false, false, false, false, false, false]
abbrev te.Q2 : Array Bool := #[true, true, false, false, false, false, false, false, false]
abbrev te.Q3 : Array Bool := #[true, true, true, false, false, false, false, false, false]
abbrev te.Q4 : Array Bool := #[true, true, true, false, true, false, false, false, false]
abbrev te.Q5 : Array Bool := #[true, true, true, false, true, true, false, false, false]
abbrev te.Q6 : Array Bool := #[true, true, true, false, true, true, true, false, false]
abbrev te.Q7 : Array Bool := #[true, true, true, true, true, true, true, false, false]
abbrev te.Q8 : Array Bool := #[true, true, true, true, true, true, true, true, false]
abbrev te.Q9 : Array Bool := #[true, true, true, true, true, true, true, true, true]
theorem u135 : Tryd.prog.underlying 135 = some (.map 23 72) := by kernel_rfl
theorem next_none (w : World) (r f : Nat) (hr : w.heap[r]? = some (.mapIter (some f) 0 #[] 0)) (hf : w.heap[f]? = some (.map #[] 0)) (ty : TypeId) :
    (Instr.next (.pointer (some ⟨r, 0, none⟩)) false ty).run Tryd.prog w = .ok (.tuple #[.bool false]) w := by
  rcases run_next_at (P := Tryd.prog) w ty r f 0 0 #[] #[] 0 hr hf (by simp) (Nat.le_refl _) with h | ⟨e, he, _⟩
  · exact h.2
  · simp [leftOf] at he
set_option maxHeartbeats 8000000 in
set_option maxRecDepth 100000 in
theorem New_calls (w : World) : Calls Tryd.prog 92 #[] w fun e w' => ∃ g f n, e = .returned (.pointer (some ⟨g, 0, none⟩)) ∧ w.heap.size ≤ g ∧ w.heap.size ≤ f ∧ w.heap.size ≤ n ∧
    w'.heap[g]? = some (.cells #[.map (some f), .map (some n), .slice none 0 0, .int .i64 0, .int .i64 0] 137 (0, 0)) ∧ w'.heap[f]? = some (.map #[] 0) ∧ w'.heap[n]? = some (.map #[] 0) ∧ f ≠ n ∧ g ≠ n ∧ Below w.heap.size w w' := by
  go_enter Tryd.func92, Tryd.ntmps92
  have h1 : ∀ w : World, (Instr.makeMap 135 none).run Tryd.prog w = .ok (.map (some w.heap.size)) (w.alloc (.map #[] 0)) := fun w => run_makeMap_plain w 135
  go_wp2
  go_ret
  have a1 := heap_alloc_new w (.map #[] 0)
  have a2 := heap_alloc_new (w.alloc (.map #[] 0)) (.map #[] 0)
  have s1 : (w.alloc (.map #[] 0)).heap.size = w.heap.size + 1 := by simp
  rw [s1] at a2
  have s2 : ((w.alloc (.map #[] 0)).alloc (.map #[] 0)).heap.size = w.heap.size + 1 + 1 := by simp
  have a3 := heap_alloc_new ((w.alloc (.map #[] 0)).alloc (.map #[] 0)) (.cells #[.map (some w.heap.size), .map (some (w.heap.size + 1)), .slice none 0 0, .int .i64 0, .int .i64 0] 137)
  rw [s2] at a3
  refine ⟨w.heap.size + 1 + 1, w.heap.size, w.heap.size + 1, rfl, by omega, by omega, by omega, a3, ?_, ?_, by omega, by omega, below_alloc (below_alloc (below_alloc (Below.refl _ _) _) _) _⟩
  · rw [heap_alloc_old _ _ (by rw [s2]; omega), heap_alloc_old _ _ (by rw [s1]; omega)]; exact a1
  · rw [heap_alloc_old _ _ (by rw [s2]; omega)]; exact a2
theorem clear_none (w : World) (n : Nat) (ty : TypeId) (hn : w.heap[n]? = some (.map #[] 0)) : (Builtin.clear_ #[135] ty #[.map (some n)]).run Tryd.prog w = .ok (.tuple #[]) w := by
  have hs : w.heap.setIfInBounds n (.map #[] 0) = w.heap := by
    refine Array.ext_getElem? fun i => ?_
    rw [Array.getElem?_setIfInBounds]
    split
    · rename_i h
      subst h
      rw [hn, if_pos (blk_lt hn)]
    · rfl
  simp [Builtin.clear_, run_underlying u135, MapKept.run_getObj_map hn, setObj, Sem.run, hn, Result.andThen]
  rw [hs]
set_option maxHeartbeats 8000000 in
set_option maxRecDepth 100000 in
theorem Copy_calls (w : World) (f n : Nat) (hf : w.heap[f]? = some (.map #[] 0)) : Calls Tryd.prog 100 #[.map (some n), .map (some f)] w fun e w' => e = .returned (.tuple #[]) ∧ Below w.heap.size w w' := by
  go_enter Tryd.func100, Tryd.ntmps100
  have h1 := run_range_map (P := Tryd.prog) w 135 23 72 f #[] 0 u135 hf
  have h2 := next_none (w.alloc (.mapIter (some f) 0 #[] 0)) w.heap.size f (heap_alloc_new _ _) ((heap_alloc_old _ _ (blk_lt hf)).trans hf)
  go_wp2
  go_loopw [8, 9] (fun _ _ wr => wr = w.alloc (.mapIter (some f) 0 #[] 0)) (fun _ _ _ => 0)
  case atStart => rfl
  case round =>
    subst hrel
    go_wp2
    go_end0
    exact ⟨rfl, below_alloc (Below.refl _ _) _⟩
/-- A tree of nothing lies so. -/
def Bare (W : World) (g f n : Nat) (b1 b2 : Int) : Prop :=
  W.heap[g]? = some (.cells #[.map (some f), .map (some n), .slice none 0 0, .int .i64 b1, .int .i64 b2] 137 (0, 0)) ∧ W.heap[f]? = some (.map #[] 0) ∧ W.heap[n]? = some (.map #[] 0)
def again_.T1 : Bool × List (List Nat × List Nat) := (true, [([], []), ([0], [0]), ([1], [1]), ([2], [2]), ([], []), ([4], [4]), ([5], [5]), ([6], [6]), ([3, 7], [3, 7])])
def again_.B1 : List Nat := [0, 1, 3, 7, 0, 16, 48, 112, 255]
theorem again_.tab1 : rtab .any (opsOf Tryd.f93 1) = again_.T1 := by kernel_rfl
theorem again_.bits1 : waitsOk again_.T1.2 again_.B1 = true := by kernel_rfl
set_option maxHeartbeats 8000000 in
set_option maxRecDepth 100000 in
theorem again_calls (w : World) (g f n : Nat) (b1 b2 : Int) (h : Bare w g f n b1 b2) : Calls Tryd.prog 93 #[.pointer (some ⟨g, 0, none⟩)] w fun e w' => e = .returned (.tuple #[]) ∧ Below w.heap.size w w' := by
  obtain ⟨hg, hf, hn⟩ := h
  have k0 : w.cell? ⟨g, 0, none⟩ = some (.map (some f)) := (blk_cell hg 0).trans rfl
  have k1 : w.cell? ⟨g, 1, none⟩ = some (.map (some n)) := (blk_cell hg 1).trans rfl
  have k2 : w.cell? ⟨g, 2, none⟩ = some (.slice none 0 0) := (blk_cell hg 2).trans rfl
  have hcl := fun ty => clear_none w n ty hn
  have HG := Aside0.mk hg
  have HF := Aside0.mk hf
  clear hg hf hn
  go_enter Tryd.func93, Tryd.ntmps93
  go_upto_region 1 with fail
  have hc := Copy_calls w.drew f n HF.out
  refine start_ (n := 9) (S := fun w' => w'.cell? ⟨g, 0, none⟩ = some (.map (some f)) ∧ w'.cell? ⟨g, 1, none⟩ = some (.map (some n))) (ds := [8]) te.Q0 (by kernel_rfl) rfl rfl ⟨k0, k1⟩ (fun hHeld => ?_)
  refine with_tabW again_.tab1 again_.bits1 (fun HT_ HW_ => ?_)
  refine pureQ (i := 0) (N := some 8) te.Q1 (any_of HT_.out (by kernel_rfl)) ?_
  refine pureQ (i := 1) (N := some 9) te.Q2 (any_of HT_.out (by kernel_rfl)) ?_
  refine pureQ (i := 2) (N := some 10) te.Q3 (any_of HT_.out (by kernel_rfl)) ?_
  refine pureQ (i := 4) (N := some 12) te.Q4 (any_of HT_.out (by kernel_rfl)) ?_
  refine pureQ (i := 5) (N := some 13) te.Q5 (any_of HT_.out (by kernel_rfl)) ?_
  refine pureQ (i := 6) (N := some 14) te.Q6 (any_of HT_.out (by kernel_rfl)) ?_
  refine take_ (i := 3) (N := some 11) (v := ?_) (a' := ?_) te.Q7 rfl rfl (take_ofW HT_.out HW_.out (by kernel_rfl)) (fun _ _ _ h => h) (Or.inl ⟨by rfl, ?_⟩) hHeld ?_ ?_
  rotate_left
  · rintro w' ⟨s0, s1⟩
    go_simp
    with_reducible rfl
  rotate_left
  · simp only [Act.put, List.setIfInBounds_toArray, List.set_cons_zero, List.set_cons_succ, i64_w, i32_w]
    rfl
  refine take_ (i := 7) (N := some 15) (v := ?_) (a' := ?_) te.Q8 rfl rfl (take_ofW HT_.out HW_.out (by kernel_rfl)) (fun _ _ _ h => h) (Or.inl ⟨by rfl, ?_⟩) hHeld ?_ ?_
  rotate_left
  · rintro w' ⟨s0, s1⟩
    go_simp
    with_reducible rfl
  rotate_left
  · simp only [Act.put, List.setIfInBounds_toArray, List.set_cons_zero, List.set_cons_succ, i64_w, i32_w]
    rfl
  refine last_ (i := 8) (N := some 16) te.Q9 rfl rfl (one_of HT_.out (by kernel_rfl)) (by decide) (fun K hK => ?_)
  refine goes_ Tryd.func100 (by kernel_rfl) rfl #[.map (some n), .map (some f)] (by rfl) rfl rfl (by simp only [List.map_toArray, List.map_cons, List.map_nil]; rfl) ?_
  with_reducible refine (hc).mono ?_
  rintro e w1 ⟨rfl, hb⟩
  refine ⟨_, rfl, ?_⟩
  refine hK.out _ _ ?_
  clear hK K
  refine norm_ (a' := ?_) ?_ ?_
  rotate_left
  · show Act.put _ (some 16) _ = _
    simp only [Act.put, List.setIfInBounds_toArray, List.set_cons_zero, List.set_cons_succ, i64_w, i32_w]
    rfl
  refine done_ (done_of HT_.out (by kernel_rfl)) ?_

  replace hb : Below w.heap.size w w1 := ⟨hb.os, hb.tape, hb.output, hb.size, hb.block⟩
  have HG1 := Aside0.mk (blk_below HG.out hb)
  have k2' : w1.cell? ⟨g, 2, none⟩ = some (.slice none 0 0) := (blk_cell HG1.out 2).trans rfl
  have HB1 := Aside0.mk hb
  clear hb k0 k1 k2 hcl
  go_wp2
  go_loopw [22, 3] (fun v22 _ wr => v22 = .int .i64 0 ∧ wr = w1) (fun _ _ _ => 0)
  case atStart => exact ⟨rfl, rfl⟩
  case round =>
    obtain ⟨rfl, rfl⟩ := hrel
    go_wp2
    go_end0
    exact ⟨rfl, HB1.out⟩
set_option maxHeartbeats 8000000 in
set_option maxRecDepth 100000 in
theorem Of_calls (w : World) (h59 : ∀ w : World, Calls Tryd.prog 59 #[.agg #[.int .i64 0, .int .i64 0]] w fun e w' => e = .returned (.bool false) ∧ Below w.heap.size w w') :
    Calls Tryd.prog 69 #[.agg #[.slice none 0 0, .slice none 0 0, .int .i64 0, .int .i64 0]] w fun e w' => (∃ g, e = .returned (.tuple #[.pointer (some ⟨g, 0, none⟩), .int .i64 0])) ∧ Below w.heap.size w w' := by
  have H59 := Aside0.mk h59
  clear h59
  go_enter Tryd.func69, Tryd.ntmps69
  go_upto_region 3 with fail
  refine (H59.out _).mono ?_
  rintro e w1 ⟨rfl, hd⟩
  dsimp only
  have hbx := blk_below (heap_alloc_new w (.cells #[.slice none 0 0, .slice none 0 0, .int .i64 0, .int .i64 0] 37)) hd
  have e2 : w1.cell? ⟨w.heap.size, 2, none⟩ = some (.int .i64 0) := (blk_cell hbx 2).trans rfl
  have e3 : w1.cell? ⟨w.heap.size, 3, none⟩ = some (.int .i64 0) := (blk_cell hbx 3).trans rfl
  have e0 : w1.cell? ⟨w.heap.size, 0, none⟩ = some (.slice none 0 0) := (blk_cell hbx 0).trans rfl
  have e1 : w1.cell? ⟨w.heap.size, 1, none⟩ = some (.slice none 0 0) := (blk_cell hbx 1).trans rfl
  have HBX := Aside0.mk hbx
  have HW1 := Aside0.mk (below_then (below_alloc (Below.refl w.heap.size w) (.cells #[.slice none 0 0, .slice none 0 0, .int .i64 0, .int .i64 0] 37)) (by simp) hd)
  clear hd hbx
  go_upto_region 3 with fail
  go_upto_region 4 with ((with_reducible refine gate_callee (f := 92) rfl ?_); refine goesL_ (some 33) rfl rfl Tryd.func92 (by kernel_rfl) rfl #[] rfl (by (try simp only [List.map_toArray, List.map_cons, List.map_nil]); first | done | rfl) ?_; refine Calls.mono (New_calls _) ?_; rintro e w2 ⟨g, f, n, rfl, hge, hfe, hne, hgg, hff, hnn, hfn, hgn, hb2⟩; refine ⟨_, rfl, ?_⟩)
  have x0 := blk_below HBX.out hb2
  have x1 : w2.cell? ⟨w.heap.size, 2, none⟩ = some (.int .i64 0) := (blk_cell x0 2).trans rfl
  have x2 : w2.cell? ⟨w.heap.size, 3, none⟩ = some (.int .i64 0) := (blk_cell x0 3).trans rfl
  have q1 := blk_frozen hgg 3
  have q2 := blk_frozen hgg 4
  have q3 : w2.cell? ⟨g, 3, none⟩ = some (.int .i64 0) := (blk_cell hgg 3).trans rfl
  have q4 : w2.cell? ⟨g, 4, none⟩ = some (.int .i64 0) := (blk_cell hgg 4).trans rfl
  have HW2 := Aside0.mk (below_then HW1.out HW1.out.size hb2)
  have HG := Aside0.mk hgg
  have HFN := Aside0.mk (And.intro hff hnn)
  have HGE := Aside0.mk hge
  have HX2 := Aside0.mk x0
  clear hb2 hgg hff hnn x0 hge hfe hne e0 e1 e2 e3
  go_upto_region 5 with fail
  have hgb : w.heap.size < w1.heap.size := blk_lt HBX.out
  have hne : g ≠ w.heap.size := by have := HGE.out; omega
  have hff := HFN.out.1
  have hnn := HFN.out.2
  have hgf : g ≠ f := fun h => by
    subst h
    rw [HG.out] at hff
    cases hff
  have hB3 : Bare ((w2.setCell ⟨g, 3, none⟩ (.int .i64 0)).setCell ⟨g, 4, none⟩ (.int .i64 0)) g f n 0 0 :=
    ⟨blk_set (blk_set HG.out 3 _) 4 _, (Below.heap_setCell _ _ _ f (Ne.symm hgf)).trans ((Below.heap_setCell _ _ _ f (Ne.symm hgf)).trans hff), (Below.heap_setCell _ _ _ n (Ne.symm hgn)).trans ((Below.heap_setCell _ _ _ n (Ne.symm hgn)).trans hnn)⟩
  have hX3 : ((w2.setCell ⟨g, 3, none⟩ (.int .i64 0)).setCell ⟨g, 4, none⟩ (.int .i64 0)).heap[w.heap.size]? = _ := (Below.heap_setCell _ _ _ _ (Ne.symm hne)).trans ((Below.heap_setCell _ _ _ _ (Ne.symm hne)).trans HX2.out)
  have hW3 : Below w.heap.size w ((w2.setCell ⟨g, 3, none⟩ (.int .i64 0)).setCell ⟨g, 4, none⟩ (.int .i64 0)) := below_set (below_set HW2.out (by have := HGE.out; omega)) (by have := HGE.out; omega)
  generalize hw3 : (w2.setCell ⟨g, 3, none⟩ (.int .i64 0)).setCell ⟨g, 4, none⟩ (.int .i64 0) = w3 at hB3 hX3 hW3 ⊢
  have HB3 := Aside0.mk hB3
  have HX3 := Aside0.mk hX3
  have HW3 := Aside0.mk hW3
  have e0 : w3.cell? ⟨w.heap.size, 0, none⟩ = some (.slice none 0 0) := (blk_cell hX3 0).trans rfl
  have e1 : w3.cell? ⟨w.heap.size, 1, none⟩ = some (.slice none 0 0) := (blk_cell hX3 1).trans rfl
  clear hB3 hX3 hW3 hw3 hff hnn hgf hne x1 x2 q1 q2 q3 q4
  go_wp2
  go_loopw [42] (fun v42 wr => v42 = .int .i64 0 ∧ wr = w3) (fun _ _ => 0)
  case atStart => exact ⟨rfl, rfl⟩
  case round =>
    obtain ⟨rfl, rfl⟩ := hrel
    go_wp2
    go_loopw [98] (fun v98 wr' => v98 = .int .i64 0 ∧ wr' = wr) (fun _ _ => 0)
    case atStart => exact ⟨rfl, rfl⟩
    case round =>
      obtain ⟨rfl, rfl⟩ := hrel
      go_upto_region 25 with ((with_reducible refine gate_callee (f := 93) rfl ?_); refine goesL_ (some 131) rfl rfl Tryd.func93 (by kernel_rfl) rfl #[.pointer (some ⟨g, 0, none⟩)] rfl (by (try simp only [List.map_toArray, List.map_cons, List.map_nil]); first | done | rfl) ?_; refine Calls.mono (again_calls _ g f n 0 0 HB3.out) ?_; rintro e w4 ⟨rfl, hb4⟩; refine ⟨_, rfl, ?_⟩)
      have HX4 := Aside0.mk (blk_below HX3.out hb4)
      have e1' : w4.cell? ⟨w.heap.size, 1, none⟩ = some (.slice none 0 0) := (blk_cell HX4.out 1).trans rfl
      have HW4 := Aside0.mk (below_then HW3.out HW3.out.size hb4)
      clear hb4 e0 e1
      go_wp2
      go_loopw [135] (fun v135 wr' => v135 = .int .i64 0 ∧ wr' = w4) (fun _ _ => 0)
      case atStart => exact ⟨rfl, rfl⟩
      case round =>
        obtain ⟨rfl, rfl⟩ := hrel
        go_wp2
        go_ret2
        exact ⟨⟨g, rfl⟩, HW4.out⟩
end Go.Proofs.YtmogpfhhmekbiaaDoor.S
/- A tree of nothing, put and taken, as the machine walks it. -/
namespace Go.Proofs.YtmogpfhhmekbiaaDoor.S
open Go.RowKit Go.Proofs.YtmogpfhhmekbiaaDoorW.PrintWords Go.Proofs.YtmogpfhhmekbiaaDoorW.PrintLast Go.Proofs.YtmogpfhhmekbiaaDoorW.PrintMore
set_option linter.unusedVariables false
set_option linter.unusedSimpArgs false
def Fine0 : Prop := ∀ w : World, Calls Tryd.prog 59 #[.agg #[.int .i64 0, .int .i64 0]] w fun e w' => e = .returned (.bool false) ∧ Below w.heap.size w w'
set_option maxHeartbeats 8000000 in
set_option maxRecDepth 100000 in
theorem may_calls (h59 : Fine0) (w : World) : Calls Tryd.prog 34 #[.agg #[.slice none 0 0, .slice none 0 0, .int .i64 0, .int .i64 0]] w fun e w' => e = .returned (.bool true) ∧ Below w.heap.size w w' := by
  have hO := Aside0.mk (fun w => Of_calls w h59)
  clear h59
  have hnew := heap_alloc_new w (.cells #[.slice none 0 0, .slice none 0 0, .int .i64 0, .int .i64 0] 37)
  go_enter Tryd.func34, Tryd.ntmps34
  go_upto_region 1 with fail
  generalize hw1 : w.alloc (.cells #[.slice none 0 0, .slice none 0 0, .int .i64 0, .int .i64 0] 37) = w1 at hnew ⊢
  have HB1 : Aside0 (Below w.heap.size w w1) := ⟨by rw [← hw1]; exact below_alloc (Below.refl _ _) _⟩
  have e0 : w1.cell? ⟨w.heap.size, 0, none⟩ = some (.slice none 0 0) := (blk_cell hnew 0).trans rfl
  have e1 : w1.cell? ⟨w.heap.size, 1, none⟩ = some (.slice none 0 0) := (blk_cell hnew 1).trans rfl
  have e2 : w1.cell? ⟨w.heap.size, 2, none⟩ = some (.int .i64 0) := (blk_cell hnew 2).trans rfl
  have e3 : w1.cell? ⟨w.heap.size, 3, none⟩ = some (.int .i64 0) := (blk_cell hnew 3).trans rfl
  clear hnew hw1
  go_wp2
  go_loopw [3] (fun v3 wr => v3 = .int .i64 1 ∧ wr = w1) (fun _ _ => 0)
  case atStart => exact ⟨rfl, rfl⟩
  case round =>
    obtain ⟨rfl, rfl⟩ := hrel
    go_wp2_with ((with_reducible refine gate_callee (f := 69) rfl ?_); refine goesL_ (some 30) rfl rfl Tryd.func69 (by kernel_rfl) rfl #[.agg #[.slice none 0 0, .slice none 0 0, .int .i64 0, .int .i64 0]] rfl (by (try simp only [List.map_toArray, List.map_cons, List.map_nil]); first | done | rfl) ?_; refine Calls.mono (hO.out _) ?_; rintro e w2 ⟨⟨g, rfl⟩, hb⟩; refine ⟨_, rfl, ?_⟩)
    go_ret
    exact ⟨rfl, below_then HB1.out HB1.out.size hb⟩
set_option maxHeartbeats 8000000 in
set_option maxRecDepth 100000 in
theorem listNodes_calls (g : Nat) (x : St) (F : Value) : Writes 36 g [.slice none 0 0, F] x (x.puts (isTime 0) ⟨#[]⟩ [(0, 6)]) := by
  intro md w0 w hO hB hbl
  show Calls Tryd.prog 36 #[.pointer (some ⟨g, 0, none⟩), .slice none 0 0, F] w _
  have hc := Aside0.mk ((Num_calls g 0 x) md w0 w hO hB hbl)
  clear hO hB
  go_enter Tryd.func36, Tryd.ntmps36
  go_upto_region 1 with ((with_reducible refine gate_callee (f := 73) rfl ?_); refine goesL_ (some 11) rfl rfl Tryd.func73 (by kernel_rfl) rfl #[.pointer (some ⟨g, 0, none⟩), .int .i64 0] rfl (by (try simp only [List.map_toArray, List.map_cons, List.map_nil]); first | done | rfl) ?_; refine Calls.mono (hc.out) ?_; rintro e w1 ⟨rfl, h1, h2, h3⟩; refine ⟨_, rfl, ?_⟩)
  go_wp2
  go_loopw [14] (fun v14 wr => v14 = .int .i64 0 ∧ wr = w1) (fun _ _ => 0)
  case atStart => exact ⟨rfl, rfl⟩
  case round =>
    obtain ⟨rfl, rfl⟩ := hrel
    go_wp2
    go_end0
    exact ⟨rfl, h1, h2, h3⟩
set_option maxHeartbeats 8000000 in
set_option maxRecDepth 100000 in
theorem listOps_calls (g : Nat) (x : St) (F : Value) : Writes 39 g [.slice none 0 0, F] x (x.puts (isTime 0) ⟨#[]⟩ [(0, 6)]) := by
  intro md w0 w hO hB hbl
  show Calls Tryd.prog 39 #[.pointer (some ⟨g, 0, none⟩), .slice none 0 0, F] w _
  have hc := Aside0.mk ((Num_calls g 0 x) md w0 w hO hB hbl)
  clear hO hB
  go_enter Tryd.func39, Tryd.ntmps39
  go_upto_region 1 with ((with_reducible refine gate_callee (f := 73) rfl ?_); refine goesL_ (some 11) rfl rfl Tryd.func73 (by kernel_rfl) rfl #[.pointer (some ⟨g, 0, none⟩), .int .i64 0] rfl (by (try simp only [List.map_toArray, List.map_cons, List.map_nil]); first | done | rfl) ?_; refine Calls.mono (hc.out) ?_; rintro e w1 ⟨rfl, h1, h2, h3⟩; refine ⟨_, rfl, ?_⟩)
  go_wp2
  go_loopw [14] (fun v14 wr => v14 = .int .i64 0 ∧ wr = w1) (fun _ _ => 0)
  case atStart => exact ⟨rfl, rfl⟩
  case round =>
    obtain ⟨rfl, rfl⟩ := hrel
    go_wp2
    go_end0
    exact ⟨rfl, h1, h2, h3⟩
theorem fine0 : Fine0 := fun w => tree_fine.calls 0 0 false w (by simp [tree_fine.f, clock_Check.f, clock_may.f])
end Go.Proofs.YtmogpfhhmekbiaaDoor.S
/- Put of nothing, as the machine walks it. -/
namespace Go.Proofs.YtmogpfhhmekbiaaDoor.S
open Go.RowKit Go.Proofs.YtmogpfhhmekbiaaDoorW.PrintWords Go.Proofs.YtmogpfhhmekbiaaDoorW.PrintLast Go.Proofs.YtmogpfhhmekbiaaDoorW.PrintMore
set_option linter.unusedVariables false
set_option linter.unusedSimpArgs false
def st0 : St := (false, [])
def st1 : St := st0.puts (isTime 0 && isByte 0) ⟨#[]⟩ [(0, 6), (0, 1)]
def st2 : St := st1.puts (isTime 0) ⟨#[]⟩ [(0, 6)]
def st3 : St := st2.puts (isTime 0) ⟨#[]⟩ [(0, 6)]
def zeros19 : ByteArray := strOfNums (List.replicate 19 0)
theorem st1_is : st1 = (false, List.replicate 7 0) := by decide
theorem st2_is : st2 = (false, List.replicate 13 0) := by unfold st2; rw [st1_is]; decide
theorem st3_is : st3 = (false, List.replicate 19 0) := by unfold st3; rw [st2_is]; decide
set_option maxHeartbeats 8000000 in
set_option maxRecDepth 100000 in
theorem Put_calls (w : World) : Calls Tryd.prog 15 #[.agg #[.slice none 0 0, .slice none 0 0, .int .i64 0, .int .i64 0]] w fun e w' => e = .returned (.tuple #[.string zeros19, .int .i64 0]) ∧ Below w.heap.size w w' := by
  have hM := Aside0.mk (may_calls fine0)
  have hnew := heap_alloc_new w (.cells #[.slice none 0 0, .slice none 0 0, .int .i64 0, .int .i64 0] 37)
  go_enter Tryd.func15, Tryd.ntmps15
  go_upto_region 1 with fail
  generalize hw1 : w.alloc (.cells #[.slice none 0 0, .slice none 0 0, .int .i64 0, .int .i64 0] 37) = w1 at hnew ⊢
  have HB1 : Aside0 (Below w.heap.size w w1) := ⟨by rw [← hw1]; exact below_alloc (Below.refl _ _) _⟩
  have HX1 := Aside0.mk hnew
  have e0 : w1.cell? ⟨w.heap.size, 0, none⟩ = some (.slice none 0 0) := (blk_cell hnew 0).trans rfl
  have e1 : w1.cell? ⟨w.heap.size, 1, none⟩ = some (.slice none 0 0) := (blk_cell hnew 1).trans rfl
  have e2 : w1.cell? ⟨w.heap.size, 2, none⟩ = some (.int .i64 0) := (blk_cell hnew 2).trans rfl
  have e3 : w1.cell? ⟨w.heap.size, 3, none⟩ = some (.int .i64 0) := (blk_cell hnew 3).trans rfl
  clear hnew hw1
  go_upto_region 3 with ((with_reducible refine gate_callee (f := 34) rfl ?_); refine goesL_ (some 6) rfl rfl Tryd.func34 (by kernel_rfl) rfl #[.agg #[.slice none 0 0, .slice none 0 0, .int .i64 0, .int .i64 0]] rfl (by (try simp only [List.map_toArray, List.map_cons, List.map_nil]); first | done | rfl) ?_; refine Calls.mono (hM.out _) ?_; rintro e w2 ⟨rfl, hb⟩; refine ⟨_, rfl, ?_⟩)
  have HX2 := Aside0.mk (blk_below HX1.out hb)
  have HB2 := Aside0.mk (below_then HB1.out HB1.out.size hb)
  clear hb e0 e1 e2 e3
  go_upto_region 4 with ((with_reducible refine gate_callee (f := 23) rfl ?_); refine goesL_ (some 8) rfl rfl Tryd.func23 (by kernel_rfl) rfl #[] rfl (by (try simp only [List.map_toArray, List.map_cons, List.map_nil]); first | done | rfl) ?_; refine Calls.mono (NewOut_calls w _ HB2.out) ?_; rintro e w3 ⟨g, rfl, hO, hge, hb⟩; refine ⟨_, rfl, ?_⟩)
  have hx2 := blk_lt HX2.out
  have hgx : g ≠ w.heap.size := by omega
  have hgq : g ≠ w3.heap.size := by
    obtain ⟨v0, h1, _⟩ := hO
    have := blk_lt h1
    omega
  have HX3 := blk_below HX2.out hb
  have HXq4 := Aside0.mk (blk_below HX3 (below_alloc (Below.refl w3.heap.size w3) (.cells #[.pointer (some ⟨g, 0, none⟩)] 54)))
  have HQ4 := Aside0.mk (heap_alloc_new w3 (.cells #[.pointer (some ⟨g, 0, none⟩)] 54))
  have HO4 := Aside0.mk (hO.below (below_alloc (Below.refl w3.heap.size w3) (.cells #[.pointer (some ⟨g, 0, none⟩)] 54)))
  have HB4 := Aside0.mk (below_alloc (below_then HB2.out HB2.out.size hb) (.cells #[.pointer (some ⟨g, 0, none⟩)] 54))
  clear HX3 hO hb
  generalize hq : w3.heap.size = q at hgq HQ4 ⊢
  generalize hw4 : w3.alloc (.cells #[.pointer (some ⟨g, 0, none⟩)] 54) = w4 at HXq4 HQ4 HO4 HB4 ⊢
  clear hq hw4
  have cq : w4.cell? ⟨q, 0, none⟩ = some (.pointer (some ⟨g, 0, none⟩)) := (blk_cell HQ4.out 0).trans rfl
  have e2 : w4.cell? ⟨w.heap.size, 2, none⟩ = some (.int .i64 0) := (blk_cell HXq4.out 2).trans rfl
  have e3 : w4.cell? ⟨w.heap.size, 3, none⟩ = some (.int .i64 0) := (blk_cell HXq4.out 3).trans rfl
  have hc1 := Aside0.mk ((Stamp_calls g 0 0 st0) true w w4 HO4.out HB4.out (by decide))
  go_upto_region 5 with ((with_reducible refine gate_callee (f := 35) rfl ?_); refine goesL_ (some 12) rfl rfl Tryd.func35 (by kernel_rfl) rfl #[.pointer (some ⟨g, 0, none⟩), .agg #[.int .i64 0, .int .i64 0]] rfl (by (try simp only [List.map_toArray, List.map_cons, List.map_nil]); first | done | rfl) ?_; refine Calls.mono (hc1.out) ?_; rintro e w5 ⟨rfl, h1, h2, h3⟩; refine ⟨_, rfl, ?_⟩)
  clear cq e2 e3
  have HXq5 := Aside0.mk (h2.2 _ _ HXq4.out (Ne.symm hgx) (fun cs e => by cases e))
  have HQ5 := Aside0.mk (h2.2 _ _ HQ4.out (Ne.symm hgq) (fun cs e => by cases e))
  have H15 := Aside0.mk h1
  have H35 := Aside0.mk h3
  clear h1 h2 h3
  have cq : w5.cell? ⟨q, 0, none⟩ = some (.pointer (some ⟨g, 0, none⟩)) := (blk_cell HQ5.out 0).trans rfl
  have e0 : w5.cell? ⟨w.heap.size, 0, none⟩ = some (.slice none 0 0) := (blk_cell HXq5.out 0).trans rfl
  have e1 : w5.cell? ⟨w.heap.size, 1, none⟩ = some (.slice none 0 0) := (blk_cell HXq5.out 1).trans rfl
  have hc2 := Aside0.mk (fun F => (listNodes_calls g st1 F) true w w5 H15.out H35.out (by rw [st1_is]; decide))
  go_upto_region 6 with ((with_reducible refine gate_callee (f := 36) rfl ?_); refine goesL_ (some 17) rfl rfl Tryd.func36 (by kernel_rfl) rfl #[.pointer (some ⟨g, 0, none⟩), .slice none 0 0, _] rfl (by (try simp only [List.map_toArray, List.map_cons, List.map_nil]); first | done | rfl) ?_; refine Calls.mono (hc2.out _) ?_; rintro e w6 ⟨rfl, h1, h2, h3⟩; refine ⟨_, rfl, ?_⟩)
  clear cq e0 e1
  have HXq6 := Aside0.mk (h2.2 _ _ HXq5.out (Ne.symm hgx) (fun cs e => by cases e))
  have HQ6 := Aside0.mk (h2.2 _ _ HQ5.out (Ne.symm hgq) (fun cs e => by cases e))
  have H16 := Aside0.mk h1
  have H36 := Aside0.mk h3
  clear h1 h2 h3
  have cq : w6.cell? ⟨q, 0, none⟩ = some (.pointer (some ⟨g, 0, none⟩)) := (blk_cell HQ6.out 0).trans rfl
  have e0 : w6.cell? ⟨w.heap.size, 0, none⟩ = some (.slice none 0 0) := (blk_cell HXq6.out 0).trans rfl
  have e1 : w6.cell? ⟨w.heap.size, 1, none⟩ = some (.slice none 0 0) := (blk_cell HXq6.out 1).trans rfl
  have hc3 := Aside0.mk (fun F => (listOps_calls g st2 F) true w w6 H16.out H36.out (by rw [st2_is]; decide))
  go_upto_region 7 with ((with_reducible refine gate_callee (f := 39) rfl ?_); refine goesL_ (some 22) rfl rfl Tryd.func39 (by kernel_rfl) rfl #[.pointer (some ⟨g, 0, none⟩), .slice none 0 0, _] rfl (by (try simp only [List.map_toArray, List.map_cons, List.map_nil]); first | done | rfl) ?_; refine Calls.mono (hc3.out _) ?_; rintro e w7 ⟨rfl, h1, h2, h3⟩; refine ⟨_, rfl, ?_⟩)
  clear cq e0 e1
  have HXq7 := Aside0.mk (h2.2 _ _ HXq6.out (Ne.symm hgx) (fun cs e => by cases e))
  have HQ7 := Aside0.mk (h2.2 _ _ HQ6.out (Ne.symm hgq) (fun cs e => by cases e))
  have H17 := Aside0.mk h1
  have H37 := Aside0.mk h3
  clear h1 h2 h3
  have cq : w7.cell? ⟨q, 0, none⟩ = some (.pointer (some ⟨g, 0, none⟩)) := (blk_cell HQ7.out 0).trans rfl
  have e0 : w7.cell? ⟨w.heap.size, 0, none⟩ = some (.slice none 0 0) := (blk_cell HXq7.out 0).trans rfl
  have e1 : w7.cell? ⟨w.heap.size, 1, none⟩ = some (.slice none 0 0) := (blk_cell HXq7.out 1).trans rfl
  have hd := Done_calls g st3 w w7 H17.out
  rw [show st3.done = (zeros19, 0) by rw [st3_is]; rfl] at hd
  replace hd := Aside0.mk hd
  go_wp2_with ((with_reducible refine gate_callee (f := 25) rfl ?_); refine goesL_ (some 24) rfl rfl Tryd.func25 (by kernel_rfl) rfl #[.pointer (some ⟨g, 0, none⟩)] rfl (by (try simp only [List.map_toArray, List.map_cons, List.map_nil]); first | done | rfl) ?_; refine Calls.mono (hd.out) ?_; rintro e w8 ⟨rfl, hb⟩; refine ⟨_, rfl, ?_⟩)
  go_ret2
  exact ⟨rfl, below_then H37.out H37.out.size hb⟩
end Go.Proofs.YtmogpfhhmekbiaaDoor.S
/- What the reader makes of nineteen zeros. -/
namespace Go.Proofs.YtmogpfhhmekbiaaDoor.S
open Go.RowKit Go.Proofs.YtmogpfhhmekbiaaDoorW.PrintWords Go.Proofs.YtmogpfhhmekbiaaDoorW.PrintLast Go.Proofs.YtmogpfhhmekbiaaDoorW.PrintMore
def zeros12 : ByteArray := strOfNums (List.replicate 12 0)
def zeros6 : ByteArray := strOfNums (List.replicate 6 0)
theorem stamp0 : code_In_Stamp.f 20 true zeros19 0 = some (0, 0, true, zeros12, 0) := by kernel_rfl
theorem num0 : code_In_Num.f 20 true zeros12 0 = some (0, true, zeros6, 0) := by kernel_rfl
theorem num1 : code_In_Num.f 20 true zeros6 0 = some (0, true, ⟨#[]⟩, 0) := by kernel_rfl
theorem done0 : code_In_Done.f true ⟨#[]⟩ 0 = some (0, true, ⟨#[]⟩, 0) := by kernel_rfl
end Go.Proofs.YtmogpfhhmekbiaaDoor.S
/- Take of nothing, as the machine walks it. -/
namespace Go.Proofs.YtmogpfhhmekbiaaDoor.S
open Go.RowKit Go.Proofs.YtmogpfhhmekbiaaDoorW.PrintWords Go.Proofs.YtmogpfhhmekbiaaDoorW.PrintLast Go.Proofs.YtmogpfhhmekbiaaDoorW.PrintMore
set_option linter.unusedVariables false
set_option linter.unusedSimpArgs false
set_option maxHeartbeats 8000000 in
set_option maxRecDepth 100000 in
theorem someNodes_calls (g : Nat) (s s' : ByteArray) (most : Int) (F : Value) (w0 w : World) (hI : IsS107 w0 w g true s 0) (hB : Below w0.heap.size w0 w) (hm : 0 ≤ most) (hN : code_In_Num.f 20 true s 0 = some (0, true, s', 0)) :
    Calls Tryd.prog 46 #[.pointer (some ⟨g, 0, none⟩), .int .i64 most, F] w fun e w' => e = .returned (.tuple #[.slice none 0 0, .bool true]) ∧ IsS107 w0 w' g true s' 0 ∧ Below w0.heap.size w0 w' ∧ KeepBut w w' g none := by
  have hc := Aside0.mk (code_In_Num.calls 20 g true s 0 0 true s' 0 w0 w hI hB hN)
  have d0 : decide (most < 0) = false := decide_eq_false (by omega)
  clear hI hB hN hm
  go_enter Tryd.func46, Tryd.ntmps46
  go_upto_region 2 with ((with_reducible refine gate_callee (f := 77) rfl ?_); refine goesL_ (some 11) rfl rfl Tryd.func77 (by kernel_rfl) rfl #[.pointer (some ⟨g, 0, none⟩)] rfl (by (try simp only [List.map_toArray, List.map_cons, List.map_nil]); first | done | rfl) ?_; refine Calls.mono (hc.out) ?_; rintro e w1 ⟨rfl, h1, h2, h3⟩; refine ⟨_, rfl, ?_⟩)
  have H1 := Aside0.mk h1
  have H2 := Aside0.mk h2
  have H3 := Aside0.mk h3
  clear h1 h2 h3
  go_wp2
  go_loopw [16, 9] (fun v16 v9 wr => v16 = .int .i64 0 ∧ v9 = .slice none 0 0 ∧ wr = w1) (fun _ _ _ => 0)
  case atStart => exact ⟨rfl, rfl, rfl⟩
  case round =>
    obtain ⟨rfl, rfl, rfl⟩ := hrel
    go_wp2
    go_ret2
    exact ⟨rfl, H1.out, H2.out, H3.out⟩
set_option maxHeartbeats 8000000 in
set_option maxRecDepth 100000 in
theorem someOps_calls (g : Nat) (s s' : ByteArray) (most : Int) (F : Value) (w0 w : World) (hI : IsS107 w0 w g true s 0) (hB : Below w0.heap.size w0 w) (hm : 0 ≤ most) (hN : code_In_Num.f 20 true s 0 = some (0, true, s', 0)) :
    Calls Tryd.prog 49 #[.pointer (some ⟨g, 0, none⟩), .int .i64 most, F] w fun e w' => e = .returned (.tuple #[.slice none 0 0, .bool true]) ∧ IsS107 w0 w' g true s' 0 ∧ Below w0.heap.size w0 w' ∧ KeepBut w w' g none := by
  have hc := Aside0.mk (code_In_Num.calls 20 g true s 0 0 true s' 0 w0 w hI hB hN)
  have d0 : decide (most < 0) = false := decide_eq_false (by omega)
  clear hI hB hN hm
  go_enter Tryd.func49, Tryd.ntmps49
  go_upto_region 2 with ((with_reducible refine gate_callee (f := 77) rfl ?_); refine goesL_ (some 11) rfl rfl Tryd.func77 (by kernel_rfl) rfl #[.pointer (some ⟨g, 0, none⟩)] rfl (by (try simp only [List.map_toArray, List.map_cons, List.map_nil]); first | done | rfl) ?_; refine Calls.mono (hc.out) ?_; rintro e w1 ⟨rfl, h1, h2, h3⟩; refine ⟨_, rfl, ?_⟩)
  have H1 := Aside0.mk h1
  have H2 := Aside0.mk h2
  have H3 := Aside0.mk h3
  clear h1 h2 h3
  go_wp2
  go_loopw [16, 9] (fun v16 v9 wr => v16 = .int .i64 0 ∧ v9 = .slice none 0 0 ∧ wr = w1) (fun _ _ _ => 0)
  case atStart => exact ⟨rfl, rfl, rfl⟩
  case round =>
    obtain ⟨rfl, rfl, rfl⟩ := hrel
    go_wp2
    go_ret2
    exact ⟨rfl, H1.out, H2.out, H3.out⟩
theorem keep_blk {w w' : World} {g k : Nat} {o : Obj} (hk : KeepBut w w' g none) (h : w.heap[k]? = some o) (hne : k ≠ g) : w'.heap[k]? = some o := (hk.2 k (blk_lt h) hne (by simp)).trans h
set_option maxHeartbeats 8000000 in
set_option maxRecDepth 100000 in
theorem Take_calls (w : World) : Calls Tryd.prog 17 #[.string zeros19] w fun e w' => e = .returned (.tuple #[.agg #[.slice none 0 0, .slice none 0 0, .int .i64 0, .int .i64 0], .int .i64 0]) ∧ Below w.heap.size w w' := by
  have hM := Aside0.mk (may_calls fine0)
  have hz : Aside0 (zeros19.size = 19) := ⟨by rfl⟩
  have hnew := heap_alloc_new w (.cells #[.slice none 0 0, .slice none 0 0, .int .i64 0, .int .i64 0] 37)
  go_enter Tryd.func17, Tryd.ntmps17
  go_upto_region 1 with fail
  generalize hr : w.heap.size = r at hnew ⊢
  generalize hw1 : w.alloc (.cells #[.slice none 0 0, .slice none 0 0, .int .i64 0, .int .i64 0] 37) = w1 at hnew ⊢
  have HB1 : Aside0 (Below w.heap.size w w1) := ⟨by rw [← hw1]; exact below_alloc (Below.refl _ _) _⟩
  have Hr1 := Aside0.mk hnew
  clear hnew hw1
  go_upto_region 2 with ((with_reducible refine gate_callee (f := 29) rfl ?_); refine goesL_ (some 9) rfl rfl Tryd.func29 (by kernel_rfl) rfl #[.string zeros19] rfl (by (try simp only [List.map_toArray, List.map_cons, List.map_nil]); first | done | rfl) ?_; refine Calls.mono (code_NewIn.calls zeros19 true zeros19 0 w _ HB1.out rfl) ?_; rintro e w2 ⟨g, rfl, hI, hb, hb'⟩; refine ⟨_, rfl, ?_⟩)
  have Hr2 := Aside0.mk (blk_below Hr1.out hb')
  have nr : r ≠ g := blk_ne Hr2.out hI.1 (by decide)
  have hI3 := Aside0.mk (hI.alloc (.cells #[.pointer (some ⟨g, 0, none⟩)] 62))
  have HB3 := Aside0.mk (below_alloc hb (.cells #[.pointer (some ⟨g, 0, none⟩)] 62))
  have Hq3 := Aside0.mk (heap_alloc_new w2 (.cells #[.pointer (some ⟨g, 0, none⟩)] 62))
  have Hr3 := Aside0.mk (blk_below Hr2.out (below_alloc (Below.refl w2.heap.size w2) (.cells #[.pointer (some ⟨g, 0, none⟩)] 62)))
  clear hI hb hb'
  generalize hq : w2.heap.size = q at Hq3 ⊢
  generalize hw3 : w2.alloc (.cells #[.pointer (some ⟨g, 0, none⟩)] 62) = w3 at hI3 HB3 Hq3 Hr3 ⊢
  clear hq hw3
  have nq : q ≠ g := blk_ne Hq3.out hI3.out.1 (by decide)
  have cq : w3.cell? ⟨q, 0, none⟩ = some (.pointer (some ⟨g, 0, none⟩)) := (blk_cell Hq3.out 0).trans rfl
  have hs := Aside0.mk (code_In_Stamp.calls 20 g true zeros19 0 0 0 true zeros12 0 w w3 hI3.out HB3.out stamp0)
  go_upto_region 3 with ((with_reducible refine gate_callee (f := 45) rfl ?_); refine goesL_ (some 11) rfl rfl Tryd.func45 (by kernel_rfl) rfl #[.pointer (some ⟨g, 0, none⟩)] rfl (by (try simp only [List.map_toArray, List.map_cons, List.map_nil]); first | done | rfl) ?_; refine Calls.mono (hs.out) ?_; rintro e w4 ⟨rfl, h1, h2, h3⟩; refine ⟨_, rfl, ?_⟩)
  have Hr4 := Aside0.mk (keep_blk h3 Hr3.out nr)
  have Hq4 := Aside0.mk (keep_blk h3 Hq3.out nq)
  have hI5 := Aside0.mk (h1.alloc (.cells #[.slice none 0 0, .slice none 0 0, .int .i64 0, .int .i64 0] 37))
  have HB5 := Aside0.mk (below_alloc h2 (.cells #[.slice none 0 0, .slice none 0 0, .int .i64 0, .int .i64 0] 37))
  have Ho5 := Aside0.mk (heap_alloc_new w4 (.cells #[.slice none 0 0, .slice none 0 0, .int .i64 0, .int .i64 0] 37))
  have Hr5 := Aside0.mk (blk_below Hr4.out (below_alloc (Below.refl w4.heap.size w4) (.cells #[.slice none 0 0, .slice none 0 0, .int .i64 0, .int .i64 0] 37)))
  have Hq5 := Aside0.mk (blk_below Hq4.out (below_alloc (Below.refl w4.heap.size w4) (.cells #[.slice none 0 0, .slice none 0 0, .int .i64 0, .int .i64 0] 37)))
  have hor : w4.heap.size ≠ r := by have := blk_lt Hr4.out; omega
  have hoq : w4.heap.size ≠ q := by have := blk_lt Hq4.out; omega
  have hob : w.heap.size ≤ w4.heap.size := by have := blk_lt Hr4.out; omega
  clear h1 h2 h3 cq
  generalize ho : w4.heap.size = o at Ho5 hor hoq hob ⊢
  generalize hw5 : w4.alloc (.cells #[.slice none 0 0, .slice none 0 0, .int .i64 0, .int .i64 0] 37) = w5 at hI5 HB5 Ho5 Hr5 Hq5 ⊢
  clear ho hw5
  have no : o ≠ g := blk_ne Ho5.out hI5.out.1 (by decide)
  have cq : w5.cell? ⟨q, 0, none⟩ = some (.pointer (some ⟨g, 0, none⟩)) := (blk_cell Hq5.out 0).trans rfl
  have hn := Aside0.mk (fun F => someNodes_calls g zeros12 zeros6 512 F w w5 hI5.out HB5.out (by decide) num0)
  go_upto_region 4 with fail
  go_upto_region 5 with ((with_reducible refine gate_callee (f := 46) rfl ?_); refine goesL_ (some 16) rfl rfl Tryd.func46 (by kernel_rfl) rfl #[.pointer (some ⟨g, 0, none⟩), .int .i64 512, _] rfl (by (try simp only [List.map_toArray, List.map_cons, List.map_nil]); first | done | rfl) ?_; refine Calls.mono (hn.out _) ?_; rintro e w6 ⟨rfl, h1, h2, h3⟩; refine ⟨_, rfl, ?_⟩; have cf := blk_frozen (keep_blk h3 Ho5.out no) 0; have co := (blk_cell (keep_blk h3 Ho5.out no) 0).trans rfl)
  have Hr6 := Aside0.mk (keep_blk h3 Hr5.out nr)
  have Hq6 := Aside0.mk (keep_blk h3 Hq5.out nq)
  have Ho6 := Aside0.mk (keep_blk h3 Ho5.out no)
  have hI7 : IsS107 w (w6.setCell ⟨o, 0, none⟩ (.slice none 0 0)) g true zeros6 0 := ⟨(Below.heap_setCell w6 _ _ g (Ne.symm no)).trans h1.1, h1.2⟩
  have HB7 := Aside0.mk (below_set (j := 0) (v := .slice none 0 0) h2 hob)
  have Ho7 := Aside0.mk (blk_set Ho6.out 0 (.slice none 0 0))
  have Hr7 := Aside0.mk ((Below.heap_setCell w6 ⟨o, 0, none⟩ (.slice none 0 0) r (Ne.symm hor)).trans Hr6.out)
  have Hq7 := Aside0.mk ((Below.heap_setCell w6 ⟨o, 0, none⟩ (.slice none 0 0) q (Ne.symm hoq)).trans Hq6.out)
  replace hI7 := Aside0.mk hI7
  clear h1 h2 h3 cq
  generalize hw7 : w6.setCell ⟨o, 0, none⟩ (.slice none 0 0) = w7 at hI7 HB7 Ho7 Hr7 Hq7 ⊢
  clear hw7
  have cq : w7.cell? ⟨q, 0, none⟩ = some (.pointer (some ⟨g, 0, none⟩)) := (blk_cell Hq7.out 0).trans rfl
  have hn2 := Aside0.mk (fun F => someOps_calls g zeros6 ⟨#[]⟩ 512 F w w7 hI7.out HB7.out (by decide) num1)
  clear cf co
  go_upto_region 6 with ((with_reducible refine gate_callee (f := 49) rfl ?_); refine goesL_ (some 23) rfl rfl Tryd.func49 (by kernel_rfl) rfl #[.pointer (some ⟨g, 0, none⟩), .int .i64 512, _] rfl (by (try simp only [List.map_toArray, List.map_cons, List.map_nil]); first | done | rfl) ?_; refine Calls.mono (hn2.out _) ?_; rintro e w8 ⟨rfl, h1, h2, h3⟩; refine ⟨_, rfl, ?_⟩; have cf := blk_frozen (keep_blk h3 Ho7.out no) 1; have co := (blk_cell (keep_blk h3 Ho7.out no) 1).trans rfl)
  have Hr8 := Aside0.mk (keep_blk h3 Hr7.out nr)
  have Hq8 := Aside0.mk (keep_blk h3 Hq7.out nq)
  have Ho8 := Aside0.mk (keep_blk h3 Ho7.out no)
  have hI9 : IsS107 w (w8.setCell ⟨o, 1, none⟩ (.slice none 0 0)) g true ⟨#[]⟩ 0 := ⟨(Below.heap_setCell w8 _ _ g (Ne.symm no)).trans h1.1, h1.2⟩
  have HB9 := Aside0.mk (below_set (j := 1) (v := .slice none 0 0) h2 hob)
  have Ho9 := Aside0.mk (blk_set Ho8.out 1 (.slice none 0 0))
  have Hr9 := Aside0.mk ((Below.heap_setCell w8 ⟨o, 1, none⟩ (.slice none 0 0) r (Ne.symm hor)).trans Hr8.out)
  have Hq9 := Aside0.mk ((Below.heap_setCell w8 ⟨o, 1, none⟩ (.slice none 0 0) q (Ne.symm hoq)).trans Hq8.out)
  replace hI9 := Aside0.mk hI9
  clear h1 h2 h3 cq cf co
  generalize hw9 : w8.setCell ⟨o, 1, none⟩ (.slice none 0 0) = w9 at hI9 HB9 Ho9 Hr9 Hq9 ⊢
  clear hw9
  have cq : w9.cell? ⟨q, 0, none⟩ = some (.pointer (some ⟨g, 0, none⟩)) := (blk_cell Hq9.out 0).trans rfl
  have o0 : w9.cell? ⟨o, 0, none⟩ = some (.slice none 0 0) := (blk_cell Ho9.out 0).trans rfl
  have o1 : w9.cell? ⟨o, 1, none⟩ = some (.slice none 0 0) := (blk_cell Ho9.out 1).trans rfl
  have o2 : w9.cell? ⟨o, 2, none⟩ = some (.int .i64 0) := (blk_cell Ho9.out 2).trans rfl
  have o3 : w9.cell? ⟨o, 3, none⟩ = some (.int .i64 0) := (blk_cell Ho9.out 3).trans rfl
  go_upto_region 8 with fail
  refine (code_In_Done.calls g true ⟨#[]⟩ 0 0 true ⟨#[]⟩ 0 w _ hI9.out HB9.out done0).mono ?_
  rintro e w10 ⟨rfl, h1, h2, h3⟩
  dsimp only
  have Hr10 := Aside0.mk (keep_blk h3 Hr9.out nr)
  have Ho10 := Aside0.mk (keep_blk h3 Ho9.out no)
  have HB10 := Aside0.mk h2
  clear h1 h2 h3 o0 o1 o2 o3 cq
  have o0 : w10.cell? ⟨o, 0, none⟩ = some (.slice none 0 0) := (blk_cell Ho10.out 0).trans rfl
  have o1 : w10.cell? ⟨o, 1, none⟩ = some (.slice none 0 0) := (blk_cell Ho10.out 1).trans rfl
  have o2 : w10.cell? ⟨o, 2, none⟩ = some (.int .i64 0) := (blk_cell Ho10.out 2).trans rfl
  have o3 : w10.cell? ⟨o, 3, none⟩ = some (.int .i64 0) := (blk_cell Ho10.out 3).trans rfl
  have hz19 := hz.out
  go_upto_region 8 with fail
  refine (hM.out _).mono ?_
  rintro e w11 ⟨rfl, hb⟩
  dsimp only
  have Ho11 := Aside0.mk (blk_below Ho10.out hb)
  have Hr11 := Aside0.mk (blk_below Hr10.out hb)
  have HB11 := Aside0.mk (below_then HB10.out HB10.out.size hb)
  clear hb o0 o1 o2 o3
  have o0 : w11.cell? ⟨o, 0, none⟩ = some (.slice none 0 0) := (blk_cell Ho11.out 0).trans rfl
  have o1 : w11.cell? ⟨o, 1, none⟩ = some (.slice none 0 0) := (blk_cell Ho11.out 1).trans rfl
  have o2 : w11.cell? ⟨o, 2, none⟩ = some (.int .i64 0) := (blk_cell Ho11.out 2).trans rfl
  have o3 : w11.cell? ⟨o, 3, none⟩ = some (.int .i64 0) := (blk_cell Ho11.out 3).trans rfl
  have r0 : w11.cell? ⟨r, 0, none⟩ = some (.slice none 0 0) := (blk_cell Hr11.out 0).trans rfl
  have r1 : w11.cell? ⟨r, 1, none⟩ = some (.slice none 0 0) := (blk_cell Hr11.out 1).trans rfl
  have r2 : w11.cell? ⟨r, 2, none⟩ = some (.int .i64 0) := (blk_cell Hr11.out 2).trans rfl
  have r3 : w11.cell? ⟨r, 3, none⟩ = some (.int .i64 0) := (blk_cell Hr11.out 3).trans rfl
  have f0 := blk_frozen Hr11.out 0
  have f1 := blk_frozen Hr11.out 1
  have f2 := blk_frozen Hr11.out 2
  have f3 := blk_frozen Hr11.out 3
  go_wp2
  refine bodyPost_ret (results_ct rfl _ _ r 37 #[.slice none 0 0, .slice none 0 0, .int .i64 0, .int .i64 0] (0, 0) _ rfl (blk_set (blk_set (blk_set (blk_set Hr11.out 0 _) 1 _) 2 _) 3 _) Tryd.underlying37 rfl (by kernel_rfl)) rfl ?_
  exact ⟨rfl, below_set (below_set (below_set (below_set HB11.out (by omega)) (by omega)) (by omega)) (by omega)⟩
end Go.Proofs.YtmogpfhhmekbiaaDoor.S
