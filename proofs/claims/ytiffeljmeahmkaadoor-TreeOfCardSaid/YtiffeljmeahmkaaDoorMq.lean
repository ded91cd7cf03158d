/- The nodes of a map in a row, and in order, as the machine walks them. -/
import Derived.Test.YtiffeljmeahmkaaDoorMp
import Derived.Test.YtiffeljmeahmkaaDoorSsp
namespace Go.Proofs.YtiffeljmeahmkaaDoor.S
open Go.RowKit Go.Proofs.YtiffeljmeahmkaaDoorW.PrintWords Go.Proofs.YtiffeljmeahmkaaDoorW.PrintLast Go.Proofs.YtiffeljmeahmkaaDoorW.PrintMore
set_option linter.unusedVariables false
set_option linter.unusedSimpArgs false
attribute [local go_sem high] mEq field_par
/-- The world has drawn more, and blocks have come; nothing else. -/
def Grown (w w' : World) : Prop := ∃ (q : Nat) (os : Array Obj), w' = Sort.grow (w.drewN q) os
theorem Grown.refl (w : World) : Grown w w := ⟨0, #[], by rw [Sort.grow_empty]; rfl⟩
theorem Grown.trans {w w1 w2 : World} (h : Grown w w1) (h' : Grown w1 w2) : Grown w w2 := by
  obtain ⟨q, os, rfl⟩ := h
  obtain ⟨p, os', rfl⟩ := h'
  refine ⟨q + p, os ++ os', ?_⟩
  simp [Sort.grow, World.drewN, Array.append_assoc, Nat.add_assoc]
theorem Grown.alloc {w w1 : World} (h : Grown w w1) (o : Obj) : Grown w (w1.alloc o) := h.trans ⟨0, #[o], Sort.alloc_eq_grow _ _⟩
theorem Grown.below {w w1 : World} (h : Grown w w1) : Below w.heap.size w w1 := by
  obtain ⟨q, os, rfl⟩ := h
  exact ⟨rfl, rfl, rfl, by simp [Sort.grow, World.drewN], fun k hk => by simp [Sort.grow, World.drewN, Array.getElem?_append, hk]⟩
set_option maxHeartbeats 8000000 in
set_option maxRecDepth 100000 in
theorem less_grow (a b : Stp) (w : World) : Calls Tryd.prog 35 #[.agg #[.int .i64 a.f0, .int .i64 a.f1], .agg #[.int .i64 b.f0, .int .i64 b.f1]] w fun e w' => e = .returned (.bool (lessB a b)) ∧ Grown w w' := by
  have hu := Tryd.underlying25
  by_cases h : a.f0 = b.f0
  · have d1 : (b.f0 != b.f0) = false := by simp
    go_enter Tryd.func35, Tryd.ntmps35
    rw [h]
    go_wp2
    go_ret
    exact ⟨by unfold lessB; rw [if_pos h]; rfl, ((Grown.refl w).alloc _).alloc _⟩
  · have d1 : (a.f0 != b.f0) = true := by simp [h]
    go_enter Tryd.func35, Tryd.ntmps35
    go_wp2
    go_ret
    exact ⟨by unfold lessB; rw [if_neg h]; rfl, ((Grown.refl w).alloc _).alloc _⟩
set_option maxHeartbeats 8000000 in
set_option maxRecDepth 100000 in
theorem order_grow (a b : Stp) (w : World) : Calls Tryd.prog 38 #[.agg #[.int .i64 a.f0, .int .i64 a.f1], .agg #[.int .i64 b.f0, .int .i64 b.f1]] w fun e w' => e = .returned (.int .i64 (ordI a b)) ∧ Grown w w' := by
  cases h1 : lessB a b with
  | true =>
    go_enter Tryd.func38, Tryd.ntmps38
    go_wp2_with (go_at_call 35; refine (less_grow a b _).mono ?_; rintro e w1 ⟨rfl, hg⟩; rw [h1]; have hd := hg.below; have HB := Aside0.mk ((((Grown.refl w).alloc _).alloc _).trans hg); obtain ⟨y0, y1⟩ := Y2 (blk_below (two_new w (.cells #[.int .i64 a.f0, .int .i64 a.f1] 25) (.cells #[.int .i64 b.f0, .int .i64 b.f1] 25)).1 hd); obtain ⟨z0, z1⟩ := Y2 (blk_below (two_new w (.cells #[.int .i64 a.f0, .int .i64 a.f1] 25) (.cells #[.int .i64 b.f0, .int .i64 b.f1] 25)).2 hd); clear hd hg)
    go_ret
    exact ⟨by unfold ordI; rw [if_pos h1]; rfl, HB.out⟩
  | false =>
    cases h2 : (a.f0 == b.f0 && a.f1 == b.f1) with
    | true =>
      go_enter Tryd.func38, Tryd.ntmps38
      go_wp2_with (go_at_call 35; refine (less_grow a b _).mono ?_; rintro e w1 ⟨rfl, hg⟩; rw [h1]; have hd := hg.below; have HB := Aside0.mk ((((Grown.refl w).alloc _).alloc _).trans hg); obtain ⟨y0, y1⟩ := Y2 (blk_below (two_new w (.cells #[.int .i64 a.f0, .int .i64 a.f1] 25) (.cells #[.int .i64 b.f0, .int .i64 b.f1] 25)).1 hd); obtain ⟨z0, z1⟩ := Y2 (blk_below (two_new w (.cells #[.int .i64 a.f0, .int .i64 a.f1] 25) (.cells #[.int .i64 b.f0, .int .i64 b.f1] 25)).2 hd); clear hd hg)
      go_ret
      exact ⟨by unfold ordI; rw [if_neg (by rw [h1]; simp), if_pos (show eqS a b = true from h2)]; rfl, HB.out⟩
    | false =>
      go_enter Tryd.func38, Tryd.ntmps38
      go_wp2_with (go_at_call 35; refine (less_grow a b _).mono ?_; rintro e w1 ⟨rfl, hg⟩; rw [h1]; have hd := hg.below; have HB := Aside0.mk ((((Grown.refl w).alloc _).alloc _).trans hg); obtain ⟨y0, y1⟩ := Y2 (blk_below (two_new w (.cells #[.int .i64 a.f0, .int .i64 a.f1] 25) (.cells #[.int .i64 b.f0, .int .i64 b.f1] 25)).1 hd); obtain ⟨z0, z1⟩ := Y2 (blk_below (two_new w (.cells #[.int .i64 a.f0, .int .i64 a.f1] 25) (.cells #[.int .i64 b.f0, .int .i64 b.f1] 25)).2 hd); clear hd hg)
      go_ret
      exact ⟨by unfold ordI; rw [if_neg (by rw [h1]; simp), if_neg (by show ¬ (a.f0 == b.f0 && a.f1 == b.f1) = true; rw [h2]; simp)]; rfl, HB.out⟩
set_option maxHeartbeats 8000000 in
set_option maxRecDepth 100000 in
theorem cmpN_grow (a b : Nod) (w : World) : Calls Tryd.prog 73 #[.agg #[.int .i64 a.f0.f0, .int .i64 a.f0.f1, .int .i64 a.f1.f0, .int .i64 a.f1.f1, .string a.f2, .string a.f3], .agg #[.int .i64 b.f0.f0, .int .i64 b.f0.f1, .int .i64 b.f1.f0, .int .i64 b.f1.f1, .string b.f2, .string b.f3]] w fun e w' => e = .returned (.int .i64 (ordI a.f0 b.f0)) ∧ Grown w w' := by
  have hu := Tryd.underlying36
  go_enter Tryd.func73, Tryd.ntmps73
  go_wp2_with (go_at_call 38; refine (order_grow a.f0 b.f0 _).mono ?_; rintro e w1 ⟨rfl, hd⟩)
  go_ret
  exact ⟨rfl, (((Grown.refl w).alloc _).alloc _).trans hd⟩
end Go.Proofs.YtiffeljmeahmkaaDoor.S
