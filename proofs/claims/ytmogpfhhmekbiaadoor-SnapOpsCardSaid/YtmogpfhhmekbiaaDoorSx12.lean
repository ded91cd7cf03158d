/- Functions of the translation as plain Lean functions, and that each call comes to what they say: for every argument. Written by a program of this session's own; Lean checks it. -/
import Derived.Test.YtmogpfhhmekbiaaDoorSx0
import Derived.Test.YtmogpfhhmekbiaaDoorQa
import Derived.Test.YtmogpfhhmekbiaaDoorSx9
import Derived.Test.YtmogpfhhmekbiaaDoorSx10
import Derived.Test.YtmogpfhhmekbiaaDoorSx11
namespace Go.Proofs.YtmogpfhhmekbiaaDoor.S
open Go.RowKit Go.Proofs.YtmogpfhhmekbiaaDoorW.PrintWords Go.Proofs.YtmogpfhhmekbiaaDoorW.PrintLast
set_option linter.unusedVariables false
set_option linter.unusedSimpArgs false

abbrev samphireref09_Text.Q0 : Array Bool := #[false, false, false, false, false, false, false, false]
abbrev samphireref09_Text.Q1 : Array Bool := #[false, true, false, false, false, false, false, false]
abbrev samphireref09_Text.Q2 : Array Bool := #[false, true, true, false, false, false, false, false]
abbrev samphireref09_Text.Q3 : Array Bool := #[false, true, true, false, true, false, false, false]
abbrev samphireref09_Text.Q4 : Array Bool := #[true, true, true, false, true, false, false, false]
abbrev samphireref09_Text.Q5 : Array Bool := #[true, true, true, true, true, false, false, false]
abbrev samphireref09_Text.Q6 : Array Bool := #[true, true, true, true, true, true, false, false]
abbrev samphireref09_Text.Q7 : Array Bool := #[true, true, true, true, true, true, true, false]
abbrev samphireref09_Text.Q8 : Array Bool := #[true, true, true, true, true, true, true, true]
abbrev samphireref09_Text.Q9 : Array Bool := #[false, false, false, false, false, false, false, false, false, false, false]
abbrev samphireref09_Text.Q10 : Array Bool := #[false, true, false, false, false, false, false, false, false, false, false]
abbrev samphireref09_Text.Q11 : Array Bool := #[false, true, false, true, false, false, false, false, false, false, false]
abbrev samphireref09_Text.Q12 : Array Bool := #[false, true, false, true, true, false, false, false, false, false, false]
abbrev samphireref09_Text.Q13 : Array Bool := #[true, true, false, true, true, false, false, false, false, false, false]
abbrev samphireref09_Text.Q14 : Array Bool := #[true, true, true, true, true, false, false, false, false, false, false]
abbrev samphireref09_Text.Q15 : Array Bool := #[true, true, true, true, true, true, false, false, false, false, false]
abbrev samphireref09_Text.Q16 : Array Bool := #[true, true, true, true, true, true, true, false, false, false, false]
abbrev samphireref09_Text.Q17 : Array Bool := #[true, true, true, true, true, true, true, true, false, false, false]
abbrev samphireref09_Text.Q18 : Array Bool := #[true, true, true, true, true, true, true, true, true, false, false]
abbrev samphireref09_Text.Q19 : Array Bool := #[true, true, true, true, true, true, true, true, true, true, false]
abbrev samphireref09_Text.Q20 : Array Bool := #[true, true, true, true, true, true, true, true, true, true, true]
/-! ### samphireref09_Text: function 44 -/
def samphireref09_Text.f (k : Nat) (a0_0 : ByteArray) (a0_1 : Bool) (a1 : ByteArray) : Option (ByteArray × Bool) := if (a1.size : Int) > 65535 then ((samphireref09_with.f a0_0 a0_1 (⟨#[]⟩ : ByteArray) false).bind fun bt293 => (some (bt293.1, bt293.2))) else ((samphireref09_big.f k (a1.size : Int) 2).bind fun t295 => (if t295.size + a1.size ≤ 9223372036854775807 then ((samphireref09_with.f a0_0 a0_1 (t295 ++ a1) true).bind fun bt296 => (some (bt296.1, bt296.2))) else (none)))
theorem samphireref09_Text.mono : ∀ a0 a1 a2 k, LeO (samphireref09_Text.f k a0 a1 a2) (samphireref09_Text.f (k + 1) a0 a1 a2) := by
  intro a0 a1 a2 k
  unfold samphireref09_Text.f
  repeat' first
      | (with_reducible exact samphireref09_big.mono _ _ _)
      | (with_reducible exact LeO.refl _)
      | (with_reducible exact LeO.none _)
      | (with_reducible refine LeO.ite ?_ ?_)
      | (with_reducible refine LeO.bind ?_ (fun _ => ?_))
      | exact samphireref09_big.mono _ _ _
      | exact LeO.none _
      | refine LeO.ite ?_ ?_
      | refine LeO.bind ?_ (fun _ => ?_)
def samphireref09_Text.T3 : Bool × List (List Nat × List Nat) := (true, [([], []), ([], []), ([1], [1]), ([2], [2]), ([], []), ([3, 4], [3, 4]), ([0, 5, 3], [0, 5]), ([6, 6, 0, 1, 2, 3, 4, 5, 6], [6])])
def samphireref09_Text.B3 : List Nat := [0, 0, 2, 6, 0, 30, 63, 127]
theorem samphireref09_Text.tab3 : rtab .any (opsOf Tryd.f44 3) = samphireref09_Text.T3 := by kernel_rfl
theorem samphireref09_Text.bits3 : waitsOk samphireref09_Text.T3.2 samphireref09_Text.B3 = true := by kernel_rfl
set_option maxHeartbeats 8000000 in
set_option maxRecDepth 100000 in
theorem samphireref09_Text.calls (k : Nat) (a0_0 : ByteArray) (a0_1 : Bool) (a1 : ByteArray) (r1 : ByteArray) (r2 : Bool) (w : World) (h : samphireref09_Text.f k a0_0 a0_1 a1 = some (r1, r2)) :
    Calls Tryd.prog 44 #[.agg #[.string a0_0, .bool a0_1], .string a1] w fun e w' => e = .returned (.agg #[.string r1, .bool r2]) ∧ Below w.heap.size w w' := by
  have hu60 := Tryd.underlying60
  have HB := Aside0.mk (Below.refl w.heap.size w)
  have H : (if (a1.size : Int) > 65535 then ((samphireref09_with.f a0_0 a0_1 (⟨#[]⟩ : ByteArray) false).bind fun bt293 => (some (bt293.1, bt293.2))) else ((samphireref09_big.f k (a1.size : Int) 2).bind fun t295 => (if t295.size + a1.size ≤ 9223372036854775807 then ((samphireref09_with.f a0_0 a0_1 (t295 ++ a1) true).bind fun bt296 => (some (bt296.1, bt296.2))) else (none)))) = some (r1, r2) := h
  clear h
  by_cases c3 : (a1.size : Int) > 65535
  · rw [if_pos c3] at H
    have c3b0 : decide (65535 < (a1.size : Int)) = true := decide_eq_true c3
    have c3b1 : decide (65535 < a1.size) = true := decide_eq_true (by omega)
    clear c3
    replace H := Option.bind_eq_some_iff.mp H
    obtain ⟨⟨t293, t294⟩, A40, H⟩ := H
    replace H : (some (t293, t294)) = some (r1, r2) := H
    have A4 := Aside0.mk A40
    clear A40
    simp only [Option.some.injEq, Prod.mk.injEq] at H
    obtain ⟨rfl, rfl⟩ := H
    go_enter Tryd.func44, Tryd.ntmps44
    go_wp2_with (first | ((with_reducible refine gate_dst (N := 2) rfl ?_); refine boxQ (N := 2) (cs := #[.string a0_0, .bool a0_1]) (t := 60) ?_; intro gb291 hg w5 hbox hb; have n0_ := Aside0.mk (below_step Qh hb); have n1_ := Aside0.mk (hbox); have n2_ := Aside0.mk (Qs (w := w) hg); have n3_ := Aside0.mk (Qs (w := w) hg); clear HB; have HB := n0_; have BK291 := n1_; have GW291 := n2_; have GE291 := n3_; clear n0_ n1_ n2_ n3_; clear hb hbox hg) | ((with_reducible refine gate_dst (N := 4) rfl ?_); refine boxQ (N := 4) (cs := #[.string (⟨#[]⟩ : ByteArray), .bool false]) (t := 60) ?_; intro gb292 hg w6 hbox hb; have n0_ := Aside0.mk (Qb BK291 hb); have n1_ := Aside0.mk (below_step Qh hb); have n2_ := Aside0.mk (hbox); have n3_ := Aside0.mk (Qs (w := w) hg); have n4_ := Aside0.mk (Qs (w := w) hg); have n5_ := Aside0.mk (Qn hg BK291); have n6_ := Aside0.mk (Qn hg BK291).symm; clear BK291; clear HB; have BK291 := n0_; have HB := n1_; have BK292 := n2_; have GW292 := n3_; have GE292 := n4_; have NB291_292 := n5_; have NB292_291 := n6_; clear n0_ n1_ n2_ n3_ n4_ n5_ n6_; clear hb hbox hg; have hnb7 := NB291_292.out; have hnc7 := NB292_291.out; obtain ⟨hcz8_0, hcz8_1, hfz8_0, hfz8_1⟩ := Z2 BK291.out) | ((with_reducible refine gate_callee (f := 75) rfl ?_); refine goesL_ (some 9) rfl rfl Tryd.func75 (by kernel_rfl) rfl #[.agg #[.string a0_0, .bool a0_1], .string (⟨#[]⟩ : ByteArray), .bool false] rfl Qm ?_; (with_reducible refine (samphireref09_with.calls a0_0 a0_1 (⟨#[]⟩ : ByteArray) false t293 t294 _ A4.out).mono ?_); rintro e w9 ⟨rfl, hb⟩; refine ⟨_, rfl, ?_⟩; have n0_ := Aside0.mk (Qb BK291 hb); have n1_ := Aside0.mk (Qb BK292 hb); have n2_ := Aside0.mk (below_step Qh hb); clear BK291; clear BK292; clear HB; have BK291 := n0_; have BK292 := n1_; have HB := n2_; clear n0_ n1_ n2_; (try clear hb); (try clear hb2); (try clear hk); (try clear hi); obtain ⟨hcz10_0, hcz10_1, hfz10_0, hfz10_1⟩ := Z2 BK292.out))
    refine bodyPost_ret (results_cell_row rfl _ _ gb292 60 #[.string t293, .bool t294] (0, 0) _ rfl Qk Tryd.underlying60 rfl (by kernel_rfl)) rfl ?_
    exact ⟨Qe, Qh⟩
  · rw [if_neg c3] at H
    have c3b0 : decide (65535 < (a1.size : Int)) = false := decide_eq_false c3
    have c3b1 : decide (65535 < a1.size) = false := decide_eq_false (by omega)
    clear c3
    replace H := Option.bind_eq_some_iff.mp H
    obtain ⟨t295, A110, H⟩ := H
    replace H : (if t295.size + a1.size ≤ 9223372036854775807 then ((samphireref09_with.f a0_0 a0_1 (t295 ++ a1) true).bind fun bt296 => (some (bt296.1, bt296.2))) else (none)) = some (r1, r2) := H
    have A11 := Aside0.mk A110
    clear A110
    by_cases c12 : t295.size + a1.size ≤ 9223372036854775807
    · rw [if_pos c12] at H
      have c12b0 := eq_true c12
      have c12b1 : decide (t295.size + a1.size ≤ 9223372036854775807) = true := decide_eq_true c12
      try have c12b2 : (9223372036854775807 < t295.size + a1.size) = False := eq_false (Nat.not_lt.2 c12)
      replace H := Option.bind_eq_some_iff.mp H
      obtain ⟨⟨t296, t297⟩, A130, H⟩ := H
      replace H : (some (t296, t297)) = some (r1, r2) := H
      have A13 := Aside0.mk A130
      clear A130
      simp only [Option.some.injEq, Prod.mk.injEq] at H
      obtain ⟨rfl, rfl⟩ := H
      go_enter Tryd.func44, Tryd.ntmps44
      try go_wp2_with (first | ((with_reducible refine gate_dst (N := 2) rfl ?_); refine boxQ (N := 2) (cs := #[.string a0_0, .bool a0_1]) (t := 60) ?_; intro gb291 hg w14 hbox hb; have n0_ := Aside0.mk (below_step Qh hb); have n1_ := Aside0.mk (hbox); have n2_ := Aside0.mk (Qs (w := w) hg); have n3_ := Aside0.mk (Qs (w := w) hg); clear HB; have HB := n0_; have BK291 := n1_; have GW291 := n2_; have GE291 := n3_; clear n0_ n1_ n2_ n3_; clear hb hbox hg) | ((with_reducible refine gate_dst (N := 4) rfl ?_); refine boxQ (N := 4) (cs := #[.string (⟨#[]⟩ : ByteArray), .bool false]) (t := 60) ?_; intro gb292 hg w15 hbox hb; have n0_ := Aside0.mk (Qb BK291 hb); have n1_ := Aside0.mk (below_step Qh hb); have n2_ := Aside0.mk (hbox); have n3_ := Aside0.mk (Qs (w := w) hg); have n4_ := Aside0.mk (Qs (w := w) hg); have n5_ := Aside0.mk (Qn hg BK291); have n6_ := Aside0.mk (Qn hg BK291).symm; clear BK291; clear HB; have BK291 := n0_; have HB := n1_; have BK292 := n2_; have GW292 := n3_; have GE292 := n4_; have NB291_292 := n5_; have NB292_291 := n6_; clear n0_ n1_ n2_ n3_ n4_ n5_ n6_; clear hb hbox hg))
      have n0_ := Aside0.mk (blk_drew BK291.out)
      have n1_ := Aside0.mk (blk_drew BK292.out)
      have n2_ := Aside0.mk (below_drew1 HB.out)
      clear BK291
      clear BK292
      clear HB
      have BK291 := n0_
      have BK292 := n1_
      have HB := n2_
      clear n0_ n1_ n2_
      refine start_ (n := 8) (S := fun w' => w'.cell? ⟨gb291, 0, none⟩ = some (.string a0_0) ∧ w'.cell? ⟨gb291, 1, none⟩ = some (.bool a0_1)) (ds := []) samphireref09_Text.Q0 (by kernel_rfl) rfl rfl ⟨(blk_cell BK291.out 0).trans rfl, (blk_cell BK291.out 1).trans rfl⟩ (fun hHeld => ?_); refine with_tabW samphireref09_Text.tab3 samphireref09_Text.bits3 (fun HT_ HW_ => ?_)
      generalize w15.drew = w16 at BK291 BK292 HB hHeld ⊢
      refine pureQ (i := 1) (N := some 11) samphireref09_Text.Q1 (any_of HT_.out (by kernel_rfl)) ?_
      refine pureQ (i := 2) (N := some 12) samphireref09_Text.Q2 (any_of HT_.out (by kernel_rfl)) ?_
      refine pureQ (i := 4) (N := some 14) samphireref09_Text.Q3 (any_of HT_.out (by kernel_rfl)) ?_
      refine take_ (i := 0) (N := some 10) (v := ?_) (a' := ?_) samphireref09_Text.Q4 rfl rfl (take_ofW HT_.out HW_.out (by kernel_rfl)) (fun _ _ _ h => h) (Or.inl ⟨by rfl, ?_⟩) hHeld ?_ ?_
      rotate_left
      · rintro w' ⟨s0, s1⟩
        go_simp
        with_reducible rfl
      rotate_left
      · simp only [Act.put, List.setIfInBounds_toArray, List.set_cons_zero, List.set_cons_succ, i64_w, i32_w]
        rfl
      refine one_ (i := 3) (N := some 13) samphireref09_Text.Q5 rfl rfl (one_of HT_.out (by kernel_rfl)) (by decide) (fun K hK => ?_)
      refine goes_ Tryd.func76 (by kernel_rfl) rfl #[.int .i64 (a1.size : Int), .int .i64 2] (by rfl) rfl rfl Qm ?_
      with_reducible refine (samphireref09_big.calls k (a1.size : Int) 2 t295 _ A11.out).mono ?_
      rintro e w17 ⟨rfl, hb⟩
      refine ⟨_, rfl, ?_⟩
      have n0_ := Aside0.mk (Qb BK291 hb)
      have n1_ := Aside0.mk (Qb BK292 hb)
      have n2_ := Aside0.mk (below_step Qh hb)
      clear BK291
      clear BK292
      clear HB
      have BK291 := n0_
      have BK292 := n1_
      have HB := n2_
      clear n0_ n1_ n2_
      (try clear hb)
      (try clear hb2)
      (try clear hk)
      (try clear hi)
      refine hK.out _ _ ⟨(blk_cell BK291.out 0).trans rfl, (blk_cell BK291.out 1).trans rfl⟩ (fun hHeld => ?_)
      clear hK K
      refine norm_ (a' := ?_) ?_ ?_
      rotate_left
      · show Act.put _ (some 13) _ = _
        simp only [Act.put, List.setIfInBounds_toArray, List.set_cons_zero, List.set_cons_succ, i64_w, i32_w]
        rfl
      refine pureQ (i := 5) (N := some 15) samphireref09_Text.Q6 (any_of HT_.out (by kernel_rfl)) ?_
      refine one_ (i := 6) (N := some 16) samphireref09_Text.Q7 rfl rfl (one_of HT_.out (by kernel_rfl)) (by decide) (fun K hK => ?_)
      refine goes_ Tryd.func75 (by kernel_rfl) rfl #[.agg #[.string a0_0, .bool a0_1], .string (t295 ++ a1), .bool true] (by rfl) rfl rfl Qm ?_
      with_reducible refine (samphireref09_with.calls a0_0 a0_1 (t295 ++ a1) true t296 t297 _ A13.out).mono ?_
      rintro e w18 ⟨rfl, hb⟩
      refine ⟨_, rfl, ?_⟩
      have n0_ := Aside0.mk (Qb BK291 hb)
      have n1_ := Aside0.mk (Qb BK292 hb)
      have n2_ := Aside0.mk (below_step Qh hb)
      clear BK291
      clear BK292
      clear HB
      have BK291 := n0_
      have BK292 := n1_
      have HB := n2_
      clear n0_ n1_ n2_
      (try clear hb)
      (try clear hb2)
      (try clear hk)
      (try clear hi)
      refine hK.out _ _ ⟨(blk_cell BK291.out 0).trans rfl, (blk_cell BK291.out 1).trans rfl⟩ (fun hHeld => ?_)
      clear hK K
      refine norm_ (a' := ?_) ?_ ?_
      rotate_left
      · show Act.put _ (some 16) _ = _
        simp only [Act.put, List.setIfInBounds_toArray, List.set_cons_zero, List.set_cons_succ, i64_w, i32_w]
        rfl
      refine one_ (i := 7) (N := none) samphireref09_Text.Q8 rfl rfl (one_of HT_.out (by kernel_rfl)) (by decide) (fun K hK => ?_)
      have hs19 : w18.cell? ⟨gb292, 0, none⟩ = some (.string (⟨#[]⟩ : ByteArray)) := (blk_cell BK292.out 0).trans rfl
      have hfs19 := blk_frozen BK292.out 0
      have hns19_0 := NB291_292.out
      have hms19_0 := NB292_291.out
      have hs20 : w18.cell? ⟨gb292, 1, none⟩ = some (.bool false) := (blk_cell BK292.out 1).trans rfl
      have hfs20 := blk_frozen BK292.out 1
      have hns20_0 := NB291_292.out
      have hms20_0 := NB292_291.out
      refine skip_ (w1 := ?_) (by rfl) rfl ?_ ?_
      rotate_left
      · go_simp
        rfl
      refine hK.out _ _ ⟨((cell_far (p := ⟨gb292, _, none⟩) NB291_292.out _).trans (((cell_far (p := ⟨gb292, _, none⟩) NB291_292.out _).trans (hHeld.1)))), ((cell_far (p := ⟨gb292, _, none⟩) NB291_292.out _).trans (((cell_far (p := ⟨gb292, _, none⟩) NB291_292.out _).trans (hHeld.2))))⟩ (fun hHeld => ?_)
      clear hK K
      refine done_ (done_of HT_.out (by kernel_rfl)) ?_
      try go_wp2
      refine bodyPost_ret (results_cell_row rfl _ _ gb292 60 #[.string t296, .bool t297] (0, 0) _ rfl Qk Tryd.underlying60 rfl (by kernel_rfl)) rfl ?_
      exact ⟨Qe, Qh⟩
    · rw [if_neg c12] at H
      exact absurd H (by simp)

/-! ### samphireref09_Byte: function 65 -/
def samphireref09_Byte.f (k : Nat) (a0_0 : ByteArray) (a0_1 : Bool) (a1 : Int) : Option (ByteArray × Bool) := (samphireref09_big.f k a1 1).bind fun t300 => (if a1 ≥ 0 then ((samphireref09_with.f a0_0 a0_1 t300 (decide (a1 ≤ 255))).bind fun bt301 => (some (bt301.1, bt301.2))) else ((samphireref09_with.f a0_0 a0_1 t300 false).bind fun bt303 => (some (bt303.1, bt303.2))))
theorem samphireref09_Byte.mono : ∀ a0 a1 a2 k, LeO (samphireref09_Byte.f k a0 a1 a2) (samphireref09_Byte.f (k + 1) a0 a1 a2) := by
  intro a0 a1 a2 k
  unfold samphireref09_Byte.f
  repeat' first
      | (with_reducible exact samphireref09_big.mono _ _ _)
      | (with_reducible exact LeO.refl _)
      | (with_reducible exact LeO.none _)
      | (with_reducible refine LeO.ite ?_ ?_)
      | (with_reducible refine LeO.bind ?_ (fun _ => ?_))
      | exact samphireref09_big.mono _ _ _
      | exact LeO.none _
      | refine LeO.ite ?_ ?_
      | refine LeO.bind ?_ (fun _ => ?_)
def samphireref09_Byte.T1 : Bool × List (List Nat × List Nat) := (true, [([], []), ([], []), ([1], [1]), ([], []), ([3], [3]), ([4, 2], [4]), ([5], [5]), ([6, 5], [5, 6]), ([5, 7], [5, 7]), ([0, 2, 8, 5], [0, 2, 8]), ([9, 9, 0, 1, 2, 3, 4, 5, 6, 7, 8, 9], [9])])
def samphireref09_Byte.B1 : List Nat := [0, 0, 2, 0, 8, 30, 62, 126, 254, 511, 1023]
theorem samphireref09_Byte.tab1 : rtab .any (opsOf Tryd.f65 1) = samphireref09_Byte.T1 := by kernel_rfl
theorem samphireref09_Byte.bits1 : waitsOk samphireref09_Byte.T1.2 samphireref09_Byte.B1 = true := by kernel_rfl
set_option maxHeartbeats 8000000 in
set_option maxRecDepth 100000 in
theorem samphireref09_Byte.calls (k : Nat) (a0_0 : ByteArray) (a0_1 : Bool) (a1 : Int) (r1 : ByteArray) (r2 : Bool) (w : World) (h : samphireref09_Byte.f k a0_0 a0_1 a1 = some (r1, r2)) :
    Calls Tryd.prog 65 #[.agg #[.string a0_0, .bool a0_1], .int .i64 a1] w fun e w' => e = .returned (.agg #[.string r1, .bool r2]) ∧ Below w.heap.size w w' := by
  have hu60 := Tryd.underlying60
  have HB := Aside0.mk (Below.refl w.heap.size w)
  have H : ((samphireref09_big.f k a1 1).bind fun t300 => (if a1 ≥ 0 then ((samphireref09_with.f a0_0 a0_1 t300 (decide (a1 ≤ 255))).bind fun bt301 => (some (bt301.1, bt301.2))) else ((samphireref09_with.f a0_0 a0_1 t300 false).bind fun bt303 => (some (bt303.1, bt303.2))))) = some (r1, r2) := h
  clear h
  replace H := Option.bind_eq_some_iff.mp H
  obtain ⟨t300, A30, H⟩ := H
  replace H : (if a1 ≥ 0 then ((samphireref09_with.f a0_0 a0_1 t300 (decide (a1 ≤ 255))).bind fun bt301 => (some (bt301.1, bt301.2))) else ((samphireref09_with.f a0_0 a0_1 t300 false).bind fun bt303 => (some (bt303.1, bt303.2)))) = some (r1, r2) := H
  have A3 := Aside0.mk A30
  clear A30
  by_cases c4 : a1 ≥ 0
  · rw [if_pos c4] at H
    have c4b0 : decide (0 ≤ a1) = true := decide_eq_true c4
    clear c4
    replace H := Option.bind_eq_some_iff.mp H
    obtain ⟨⟨t301, t302⟩, A50, H⟩ := H
    replace H : (some (t301, t302)) = some (r1, r2) := H
    have A5 := Aside0.mk A50
    clear A50
    simp only [Option.some.injEq, Prod.mk.injEq] at H
    obtain ⟨rfl, rfl⟩ := H
    go_enter Tryd.func65, Tryd.ntmps65
    try go_wp2_with (first | ((with_reducible refine gate_dst (N := 2) rfl ?_); refine boxQ (N := 2) (cs := #[.string a0_0, .bool a0_1]) (t := 60) ?_; intro gb298 hg w6 hbox hb; have n0_ := Aside0.mk (below_step Qh hb); have n1_ := Aside0.mk (hbox); have n2_ := Aside0.mk (Qs (w := w) hg); have n3_ := Aside0.mk (Qs (w := w) hg); clear HB; have HB := n0_; have BK298 := n1_; have GW298 := n2_; have GE298 := n3_; clear n0_ n1_ n2_ n3_; clear hb hbox hg) | ((with_reducible refine gate_dst (N := 4) rfl ?_); refine boxQ (N := 4) (cs := #[.string (⟨#[]⟩ : ByteArray), .bool false]) (t := 60) ?_; intro gb299 hg w7 hbox hb; have n0_ := Aside0.mk (Qb BK298 hb); have n1_ := Aside0.mk (below_step Qh hb); have n2_ := Aside0.mk (hbox); have n3_ := Aside0.mk (Qs (w := w) hg); have n4_ := Aside0.mk (Qs (w := w) hg); have n5_ := Aside0.mk (Qn hg BK298); have n6_ := Aside0.mk (Qn hg BK298).symm; clear BK298; clear HB; have BK298 := n0_; have HB := n1_; have BK299 := n2_; have GW299 := n3_; have GE299 := n4_; have NB298_299 := n5_; have NB299_298 := n6_; clear n0_ n1_ n2_ n3_ n4_ n5_ n6_; clear hb hbox hg))
    have n0_ := Aside0.mk (blk_drew BK298.out)
    have n1_ := Aside0.mk (blk_drew BK299.out)
    have n2_ := Aside0.mk (below_drew1 HB.out)
    clear BK298
    clear BK299
    clear HB
    have BK298 := n0_
    have BK299 := n1_
    have HB := n2_
    clear n0_ n1_ n2_
    refine start_ (n := 11) (S := fun w' => w'.cell? ⟨gb298, 0, none⟩ = some (.string a0_0) ∧ w'.cell? ⟨gb298, 1, none⟩ = some (.bool a0_1)) (ds := []) samphireref09_Text.Q9 (by kernel_rfl) rfl rfl ⟨(blk_cell BK298.out 0).trans rfl, (blk_cell BK298.out 1).trans rfl⟩ (fun hHeld => ?_); refine with_tabW samphireref09_Byte.tab1 samphireref09_Byte.bits1 (fun HT_ HW_ => ?_)
    generalize w7.drew = w8 at BK298 BK299 HB hHeld ⊢
    refine pureQ (i := 1) (N := some 6) samphireref09_Text.Q10 (any_of HT_.out (by kernel_rfl)) ?_
    refine pureQ (i := 3) (N := some 8) samphireref09_Text.Q11 (any_of HT_.out (by kernel_rfl)) ?_
    refine pureQ (i := 4) (N := some 9) samphireref09_Text.Q12 (any_of HT_.out (by kernel_rfl)) ?_
    refine take_ (i := 0) (N := some 5) (v := ?_) (a' := ?_) samphireref09_Text.Q13 rfl rfl (take_ofW HT_.out HW_.out (by kernel_rfl)) (fun _ _ _ h => h) (Or.inl ⟨by rfl, ?_⟩) hHeld ?_ ?_
    rotate_left
    · rintro w' ⟨s0, s1⟩
      go_simp
      with_reducible rfl
    rotate_left
    · simp only [Act.put, List.setIfInBounds_toArray, List.set_cons_zero, List.set_cons_succ, i64_w, i32_w]
      rfl
    refine one_ (i := 2) (N := some 7) samphireref09_Text.Q14 rfl rfl (one_of HT_.out (by kernel_rfl)) (by decide) (fun K hK => ?_)
    refine goes_ Tryd.func76 (by kernel_rfl) rfl #[.int .i64 a1, .int .i64 1] (by rfl) rfl rfl Qm ?_
    with_reducible refine (samphireref09_big.calls k a1 1 t300 _ A3.out).mono ?_
    rintro e w9 ⟨rfl, hb⟩
    refine ⟨_, rfl, ?_⟩
    have n0_ := Aside0.mk (Qb BK298 hb)
    have n1_ := Aside0.mk (Qb BK299 hb)
    have n2_ := Aside0.mk (below_step Qh hb)
    clear BK298
    clear BK299
    clear HB
    have BK298 := n0_
    have BK299 := n1_
    have HB := n2_
    clear n0_ n1_ n2_
    (try clear hb)
    (try clear hb2)
    (try clear hk)
    (try clear hi)
    refine hK.out _ _ ⟨(blk_cell BK298.out 0).trans rfl, (blk_cell BK298.out 1).trans rfl⟩ (fun hHeld => ?_)
    clear hK K
    refine norm_ (a' := ?_) ?_ ?_
    rotate_left
    · show Act.put _ (some 7) _ = _
      simp only [Act.put, List.setIfInBounds_toArray, List.set_cons_zero, List.set_cons_succ, i64_w, i32_w]
      rfl
    refine pureQ (i := 5) (N := some 10) samphireref09_Text.Q15 (any_of HT_.out (by kernel_rfl)) ?_
    refine pureQ (i := 6) (N := some 11) samphireref09_Text.Q16 (any_of HT_.out (by kernel_rfl)) ?_
    refine pureQ (i := 7) (N := some 12) samphireref09_Text.Q17 (any_of HT_.out (by kernel_rfl)) ?_
    refine pureQ (i := 8) (N := some 13) samphireref09_Text.Q18 (any_of HT_.out (by kernel_rfl)) ?_
    refine one_ (i := 9) (N := some 14) samphireref09_Text.Q19 rfl rfl (one_of HT_.out (by kernel_rfl)) (by decide) (fun K hK => ?_)
    refine goes_ Tryd.func75 (by kernel_rfl) rfl #[.agg #[.string a0_0, .bool a0_1], .string t300, .bool (decide (a1 ≤ 255))] (by rfl) rfl rfl Qm ?_
    with_reducible refine (samphireref09_with.calls a0_0 a0_1 t300 (decide (a1 ≤ 255)) t301 t302 _ A5.out).mono ?_
    rintro e w10 ⟨rfl, hb⟩
    refine ⟨_, rfl, ?_⟩
    have n0_ := Aside0.mk (Qb BK298 hb)
    have n1_ := Aside0.mk (Qb BK299 hb)
    have n2_ := Aside0.mk (below_step Qh hb)
    clear BK298
    clear BK299
    clear HB
    have BK298 := n0_
    have BK299 := n1_
    have HB := n2_
    clear n0_ n1_ n2_
    (try clear hb)
    (try clear hb2)
    (try clear hk)
    (try clear hi)
    refine hK.out _ _ ⟨(blk_cell BK298.out 0).trans rfl, (blk_cell BK298.out 1).trans rfl⟩ (fun hHeld => ?_)
    clear hK K
    refine norm_ (a' := ?_) ?_ ?_
    rotate_left
    · show Act.put _ (some 14) _ = _
      simp only [Act.put, List.setIfInBounds_toArray, List.set_cons_zero, List.set_cons_succ, i64_w, i32_w]
      rfl
    refine one_ (i := 10) (N := none) samphireref09_Text.Q20 rfl rfl (one_of HT_.out (by kernel_rfl)) (by decide) (fun K hK => ?_)
    have hs11 : w10.cell? ⟨gb299, 0, none⟩ = some (.string (⟨#[]⟩ : ByteArray)) := (blk_cell BK299.out 0).trans rfl
    have hfs11 := blk_frozen BK299.out 0
    have hns11_0 := NB298_299.out
    have hms11_0 := NB299_298.out
    have hs12 : w10.cell? ⟨gb299, 1, none⟩ = some (.bool false) := (blk_cell BK299.out 1).trans rfl
    have hfs12 := blk_frozen BK299.out 1
    have hns12_0 := NB298_299.out
    have hms12_0 := NB299_298.out
    refine skip_ (w1 := ?_) (by rfl) rfl ?_ ?_
    rotate_left
    · go_simp
      rfl
    refine hK.out _ _ ⟨((cell_far (p := ⟨gb299, _, none⟩) NB298_299.out _).trans (((cell_far (p := ⟨gb299, _, none⟩) NB298_299.out _).trans (hHeld.1)))), ((cell_far (p := ⟨gb299, _, none⟩) NB298_299.out _).trans (((cell_far (p := ⟨gb299, _, none⟩) NB298_299.out _).trans (hHeld.2))))⟩ (fun hHeld => ?_)
    clear hK K
    refine done_ (done_of HT_.out (by kernel_rfl)) ?_
    try go_wp2
    refine bodyPost_ret (results_cell_row rfl _ _ gb299 60 #[.string t301, .bool t302] (0, 0) _ rfl Qk Tryd.underlying60 rfl (by kernel_rfl)) rfl ?_
    exact ⟨Qe, Qh⟩
  · rw [if_neg c4] at H
    have c4b0 : decide (0 ≤ a1) = false := decide_eq_false c4
    clear c4
    replace H := Option.bind_eq_some_iff.mp H
    obtain ⟨⟨t303, t304⟩, A130, H⟩ := H
    replace H : (some (t303, t304)) = some (r1, r2) := H
    have A13 := Aside0.mk A130
    clear A130
    simp only [Option.some.injEq, Prod.mk.injEq] at H
    obtain ⟨rfl, rfl⟩ := H
    go_enter Tryd.func65, Tryd.ntmps65
    try go_wp2_with (first | ((with_reducible refine gate_dst (N := 2) rfl ?_); refine boxQ (N := 2) (cs := #[.string a0_0, .bool a0_1]) (t := 60) ?_; intro gb298 hg w14 hbox hb; have n0_ := Aside0.mk (below_step Qh hb); have n1_ := Aside0.mk (hbox); have n2_ := Aside0.mk (Qs (w := w) hg); have n3_ := Aside0.mk (Qs (w := w) hg); clear HB; have HB := n0_; have BK298 := n1_; have GW298 := n2_; have GE298 := n3_; clear n0_ n1_ n2_ n3_; clear hb hbox hg) | ((with_reducible refine gate_dst (N := 4) rfl ?_); refine boxQ (N := 4) (cs := #[.string (⟨#[]⟩ : ByteArray), .bool false]) (t := 60) ?_; intro gb299 hg w15 hbox hb; have n0_ := Aside0.mk (Qb BK298 hb); have n1_ := Aside0.mk (below_step Qh hb); have n2_ := Aside0.mk (hbox); have n3_ := Aside0.mk (Qs (w := w) hg); have n4_ := Aside0.mk (Qs (w := w) hg); have n5_ := Aside0.mk (Qn hg BK298); have n6_ := Aside0.mk (Qn hg BK298).symm; clear BK298; clear HB; have BK298 := n0_; have HB := n1_; have BK299 := n2_; have GW299 := n3_; have GE299 := n4_; have NB298_299 := n5_; have NB299_298 := n6_; clear n0_ n1_ n2_ n3_ n4_ n5_ n6_; clear hb hbox hg))
    have n0_ := Aside0.mk (blk_drew BK298.out)
    have n1_ := Aside0.mk (blk_drew BK299.out)
    have n2_ := Aside0.mk (below_drew1 HB.out)
    clear BK298
    clear BK299
    clear HB
    have BK298 := n0_
    have BK299 := n1_
    have HB := n2_
    clear n0_ n1_ n2_
    refine start_ (n := 11) (S := fun w' => w'.cell? ⟨gb298, 0, none⟩ = some (.string a0_0) ∧ w'.cell? ⟨gb298, 1, none⟩ = some (.bool a0_1)) (ds := []) samphireref09_Text.Q9 (by kernel_rfl) rfl rfl ⟨(blk_cell BK298.out 0).trans rfl, (blk_cell BK298.out 1).trans rfl⟩ (fun hHeld => ?_); refine with_tabW samphireref09_Byte.tab1 samphireref09_Byte.bits1 (fun HT_ HW_ => ?_)
    generalize w15.drew = w16 at BK298 BK299 HB hHeld ⊢
    refine pureQ (i := 1) (N := some 6) samphireref09_Text.Q10 (any_of HT_.out (by kernel_rfl)) ?_
    refine pureQ (i := 3) (N := some 8) samphireref09_Text.Q11 (any_of HT_.out (by kernel_rfl)) ?_
    refine pureQ (i := 4) (N := some 9) samphireref09_Text.Q12 (any_of HT_.out (by kernel_rfl)) ?_
    refine take_ (i := 0) (N := some 5) (v := ?_) (a' := ?_) samphireref09_Text.Q13 rfl rfl (take_ofW HT_.out HW_.out (by kernel_rfl)) (fun _ _ _ h => h) (Or.inl ⟨by rfl, ?_⟩) hHeld ?_ ?_
    rotate_left
    · rintro w' ⟨s0, s1⟩
      go_simp
      with_reducible rfl
    rotate_left
    · simp only [Act.put, List.setIfInBounds_toArray, List.set_cons_zero, List.set_cons_succ, i64_w, i32_w]
      rfl
    refine one_ (i := 2) (N := some 7) samphireref09_Text.Q14 rfl rfl (one_of HT_.out (by kernel_rfl)) (by decide) (fun K hK => ?_)
    refine goes_ Tryd.func76 (by kernel_rfl) rfl #[.int .i64 a1, .int .i64 1] (by rfl) rfl rfl Qm ?_
    with_reducible refine (samphireref09_big.calls k a1 1 t300 _ A3.out).mono ?_
    rintro e w17 ⟨rfl, hb⟩
    refine ⟨_, rfl, ?_⟩
    have n0_ := Aside0.mk (Qb BK298 hb)
    have n1_ := Aside0.mk (Qb BK299 hb)
    have n2_ := Aside0.mk (below_step Qh hb)
    clear BK298
    clear BK299
    clear HB
    have BK298 := n0_
    have BK299 := n1_
    have HB := n2_
    clear n0_ n1_ n2_
    (try clear hb)
    (try clear hb2)
    (try clear hk)
    (try clear hi)
    refine hK.out _ _ ⟨(blk_cell BK298.out 0).trans rfl, (blk_cell BK298.out 1).trans rfl⟩ (fun hHeld => ?_)
    clear hK K
    refine norm_ (a' := ?_) ?_ ?_
    rotate_left
    · show Act.put _ (some 7) _ = _
      simp only [Act.put, List.setIfInBounds_toArray, List.set_cons_zero, List.set_cons_succ, i64_w, i32_w]
      rfl
    refine pureQ (i := 5) (N := some 10) samphireref09_Text.Q15 (any_of HT_.out (by kernel_rfl)) ?_
    refine pure_ (i := 6) (N := some 11) (v := undef) (a' := ?_) samphireref09_Text.Q16 rfl rfl (any_of HT_.out (by kernel_rfl)) (fun _ _ _ h => h) (Or.inr ⟨by rfl, rfl⟩) ?_ ?_
    rotate_left
    · simp only [Act.put, List.setIfInBounds_toArray, List.set_cons_zero, List.set_cons_succ, i64_w, i32_w]
      rfl
    refine pure_ (i := 7) (N := some 12) (v := undef) (a' := ?_) samphireref09_Text.Q17 rfl rfl (any_of HT_.out (by kernel_rfl)) (fun _ _ _ h => h) (Or.inr ⟨by rfl, rfl⟩) ?_ ?_
    rotate_left
    · simp only [Act.put, List.setIfInBounds_toArray, List.set_cons_zero, List.set_cons_succ, i64_w, i32_w]
      rfl
    refine pureQ (i := 8) (N := some 13) samphireref09_Text.Q18 (any_of HT_.out (by kernel_rfl)) ?_
    refine one_ (i := 9) (N := some 14) samphireref09_Text.Q19 rfl rfl (one_of HT_.out (by kernel_rfl)) (by decide) (fun K hK => ?_)
    refine goes_ Tryd.func75 (by kernel_rfl) rfl #[.agg #[.string a0_0, .bool a0_1], .string t300, .bool false] (by rfl) rfl rfl Qm ?_
    with_reducible refine (samphireref09_with.calls a0_0 a0_1 t300 false t303 t304 _ A13.out).mono ?_
    rintro e w18 ⟨rfl, hb⟩
    refine ⟨_, rfl, ?_⟩
    have n0_ := Aside0.mk (Qb BK298 hb)
    have n1_ := Aside0.mk (Qb BK299 hb)
    have n2_ := Aside0.mk (below_step Qh hb)
    clear BK298
    clear BK299
    clear HB
    have BK298 := n0_
    have BK299 := n1_
    have HB := n2_
    clear n0_ n1_ n2_
    (try clear hb)
    (try clear hb2)
    (try clear hk)
    (try clear hi)
    refine hK.out _ _ ⟨(blk_cell BK298.out 0).trans rfl, (blk_cell BK298.out 1).trans rfl⟩ (fun hHeld => ?_)
    clear hK K
    refine norm_ (a' := ?_) ?_ ?_
    rotate_left
    · show Act.put _ (some 14) _ = _
      simp only [Act.put, List.setIfInBounds_toArray, List.set_cons_zero, List.set_cons_succ, i64_w, i32_w]
      rfl
    refine one_ (i := 10) (N := none) samphireref09_Text.Q20 rfl rfl (one_of HT_.out (by kernel_rfl)) (by decide) (fun K hK => ?_)
    have hs19 : w18.cell? ⟨gb299, 0, none⟩ = some (.string (⟨#[]⟩ : ByteArray)) := (blk_cell BK299.out 0).trans rfl
    have hfs19 := blk_frozen BK299.out 0
    have hns19_0 := NB298_299.out
    have hms19_0 := NB299_298.out
    have hs20 : w18.cell? ⟨gb299, 1, none⟩ = some (.bool false) := (blk_cell BK299.out 1).trans rfl
    have hfs20 := blk_frozen BK299.out 1
    have hns20_0 := NB298_299.out
    have hms20_0 := NB299_298.out
    refine skip_ (w1 := ?_) (by rfl) rfl ?_ ?_
    rotate_left
    · go_simp
      rfl
    refine hK.out _ _ ⟨((cell_far (p := ⟨gb299, _, none⟩) NB298_299.out _).trans (((cell_far (p := ⟨gb299, _, none⟩) NB298_299.out _).trans (hHeld.1)))), ((cell_far (p := ⟨gb299, _, none⟩) NB298_299.out _).trans (((cell_far (p := ⟨gb299, _, none⟩) NB298_299.out _).trans (hHeld.2))))⟩ (fun hHeld => ?_)
    clear hK K
    refine done_ (done_of HT_.out (by kernel_rfl)) ?_
    try go_wp2
    refine bodyPost_ret (results_cell_row rfl _ _ gb299 60 #[.string t303, .bool t304] (0, 0) _ rfl Qk Tryd.underlying60 rfl (by kernel_rfl)) rfl ?_
    exact ⟨Qe, Qh⟩

/-! ### samphireref13_op: function 28 -/
def samphireref13_op.f (k : Nat) (a0_0 : ByteArray) (a0_1 : Bool) (a1_0 : Int) (a1_1 : Int) (a1_2 : Int) (a1_3 : Int) (a1_4 : Int) (a1_5 : Int) (a1_6 : Int) (a1_7 : ByteArray) (a1_8 : ByteArray) : Option (ByteArray × Bool) := (samphireref09_Byte.f k a0_0 a0_1 a1_0).bind fun bt308 => ((samphireref09_Stamp.f k bt308.1 bt308.2 a1_1 a1_2).bind fun bt310 => ((samphireref09_Stamp.f k bt310.1 bt310.2 a1_3 a1_4).bind fun bt312 => ((samphireref09_Stamp.f k bt312.1 bt312.2 a1_5 a1_6).bind fun bt314 => ((samphireref09_Text.f k bt314.1 bt314.2 a1_7).bind fun bt316 => ((samphireref09_Text.f k bt316.1 bt316.2 a1_8).bind fun bt318 => (some (bt318.1, bt318.2)))))))
theorem samphireref13_op.mono : ∀ a0 a1 a2 a3 a4 a5 a6 a7 a8 a9 a10 k, LeO (samphireref13_op.f k a0 a1 a2 a3 a4 a5 a6 a7 a8 a9 a10) (samphireref13_op.f (k + 1) a0 a1 a2 a3 a4 a5 a6 a7 a8 a9 a10) := by
  intro a0 a1 a2 a3 a4 a5 a6 a7 a8 a9 a10 k
  unfold samphireref13_op.f
  repeat' first
      | (with_reducible exact samphireref09_Byte.mono _ _ _ _)
      | (with_reducible exact samphireref09_Stamp.mono _ _ _ _ _)
      | (with_reducible exact samphireref09_Text.mono _ _ _ _)
      | (with_reducible exact LeO.refl _)
      | (with_reducible exact LeO.none _)
      | (with_reducible refine LeO.ite ?_ ?_)
      | (with_reducible refine LeO.bind ?_ (fun _ => ?_))
      | exact samphireref09_Byte.mono _ _ _ _
      | exact samphireref09_Stamp.mono _ _ _ _ _
      | exact samphireref09_Text.mono _ _ _ _
      | exact LeO.none _
      | refine LeO.ite ?_ ?_
      | refine LeO.bind ?_ (fun _ => ?_)
set_option maxHeartbeats 8000000 in
set_option maxRecDepth 100000 in
theorem samphireref13_op.calls (k : Nat) (a0_0 : ByteArray) (a0_1 : Bool) (a1_0 : Int) (a1_1 : Int) (a1_2 : Int) (a1_3 : Int) (a1_4 : Int) (a1_5 : Int) (a1_6 : Int) (a1_7 : ByteArray) (a1_8 : ByteArray) (r1 : ByteArray) (r2 : Bool) (w : World) (h : samphireref13_op.f k a0_0 a0_1 a1_0 a1_1 a1_2 a1_3 a1_4 a1_5 a1_6 a1_7 a1_8 = some (r1, r2)) :
    Calls Tryd.prog 28 #[.agg #[.string a0_0, .bool a0_1], .agg #[.int .i64 a1_0, .int .i64 a1_1, .int .i64 a1_2, .int .i64 a1_3, .int .i64 a1_4, .int .i64 a1_5, .int .i64 a1_6, .string a1_7, .string a1_8]] w fun e w' => e = .returned (.agg #[.string r1, .bool r2]) ∧ Below w.heap.size w w' := by
  have hu60 := Tryd.underlying60
  have hu25 := Tryd.underlying25
  have hu23 := Tryd.underlying23
  have HB := Aside0.mk (Below.refl w.heap.size w)
  have H : ((samphireref09_Byte.f k a0_0 a0_1 a1_0).bind fun bt308 => ((samphireref09_Stamp.f k bt308.1 bt308.2 a1_1 a1_2).bind fun bt310 => ((samphireref09_Stamp.f k bt310.1 bt310.2 a1_3 a1_4).bind fun bt312 => ((samphireref09_Stamp.f k bt312.1 bt312.2 a1_5 a1_6).bind fun bt314 => ((samphireref09_Text.f k bt314.1 bt314.2 a1_7).bind fun bt316 => ((samphireref09_Text.f k bt316.1 bt316.2 a1_8).bind fun bt318 => (some (bt318.1, bt318.2)))))))) = some (r1, r2) := h
  clear h
  replace H := Option.bind_eq_some_iff.mp H
  obtain ⟨⟨t308, t309⟩, A30, H⟩ := H
  replace H : ((samphireref09_Stamp.f k t308 t309 a1_1 a1_2).bind fun bt310 => ((samphireref09_Stamp.f k bt310.1 bt310.2 a1_3 a1_4).bind fun bt312 => ((samphireref09_Stamp.f k bt312.1 bt312.2 a1_5 a1_6).bind fun bt314 => ((samphireref09_Text.f k bt314.1 bt314.2 a1_7).bind fun bt316 => ((samphireref09_Text.f k bt316.1 bt316.2 a1_8).bind fun bt318 => (some (bt318.1, bt318.2))))))) = some (r1, r2) := H
  have A3 := Aside0.mk A30
  clear A30
  replace H := Option.bind_eq_some_iff.mp H
  obtain ⟨⟨t310, t311⟩, A40, H⟩ := H
  replace H : ((samphireref09_Stamp.f k t310 t311 a1_3 a1_4).bind fun bt312 => ((samphireref09_Stamp.f k bt312.1 bt312.2 a1_5 a1_6).bind fun bt314 => ((samphireref09_Text.f k bt314.1 bt314.2 a1_7).bind fun bt316 => ((samphireref09_Text.f k bt316.1 bt316.2 a1_8).bind fun bt318 => (some (bt318.1, bt318.2)))))) = some (r1, r2) := H
  have A4 := Aside0.mk A40
  clear A40
  replace H := Option.bind_eq_some_iff.mp H
  obtain ⟨⟨t312, t313⟩, A50, H⟩ := H
  replace H : ((samphireref09_Stamp.f k t312 t313 a1_5 a1_6).bind fun bt314 => ((samphireref09_Text.f k bt314.1 bt314.2 a1_7).bind fun bt316 => ((samphireref09_Text.f k bt316.1 bt316.2 a1_8).bind fun bt318 => (some (bt318.1, bt318.2))))) = some (r1, r2) := H
  have A5 := Aside0.mk A50
  clear A50
  replace H := Option.bind_eq_some_iff.mp H
  obtain ⟨⟨t314, t315⟩, A60, H⟩ := H
  replace H : ((samphireref09_Text.f k t314 t315 a1_7).bind fun bt316 => ((samphireref09_Text.f k bt316.1 bt316.2 a1_8).bind fun bt318 => (some (bt318.1, bt318.2)))) = some (r1, r2) := H
  have A6 := Aside0.mk A60
  clear A60
  replace H := Option.bind_eq_some_iff.mp H
  obtain ⟨⟨t316, t317⟩, A70, H⟩ := H
  replace H : ((samphireref09_Text.f k t316 t317 a1_8).bind fun bt318 => (some (bt318.1, bt318.2))) = some (r1, r2) := H
  have A7 := Aside0.mk A70
  clear A70
  replace H := Option.bind_eq_some_iff.mp H
  obtain ⟨⟨t318, t319⟩, A80, H⟩ := H
  replace H : (some (t318, t319)) = some (r1, r2) := H
  have A8 := Aside0.mk A80
  clear A80
  simp only [Option.some.injEq, Prod.mk.injEq] at H
  obtain ⟨rfl, rfl⟩ := H
  go_enter Tryd.func28, Tryd.ntmps28
  go_wp2_with (first | ((with_reducible refine gate_dst (N := 2) rfl ?_); refine boxQ (N := 2) (cs := #[.string a0_0, .bool a0_1]) (t := 60) ?_; intro gb305 hg w9 hbox hb; have n0_ := Aside0.mk (below_step Qh hb); have n1_ := Aside0.mk (hbox); have n2_ := Aside0.mk (Qs (w := w) hg); have n3_ := Aside0.mk (Qs (w := w) hg); clear HB; have HB := n0_; have BK305 := n1_; have GW305 := n2_; have GE305 := n3_; clear n0_ n1_ n2_ n3_; clear hb hbox hg) | ((with_reducible refine gate_dst (N := 3) rfl ?_); refine boxQ (N := 3) (cs := #[.int .i64 a1_0, .int .i64 a1_1, .int .i64 a1_2, .int .i64 a1_3, .int .i64 a1_4, .int .i64 a1_5, .int .i64 a1_6, .string a1_7, .string a1_8]) (t := 25) ?_; intro gb306 hg w10 hbox hb; have n0_ := Aside0.mk (Qb BK305 hb); have n1_ := Aside0.mk (below_step Qh hb); have n2_ := Aside0.mk (hbox); have n3_ := Aside0.mk (Qs (w := w) hg); have n4_ := Aside0.mk (Qs (w := w) hg); have n5_ := Aside0.mk (Qn hg BK305); have n6_ := Aside0.mk (Qn hg BK305).symm; clear BK305; clear HB; have BK305 := n0_; have HB := n1_; have BK306 := n2_; have GW306 := n3_; have GE306 := n4_; have NB305_306 := n5_; have NB306_305 := n6_; clear n0_ n1_ n2_ n3_ n4_ n5_ n6_; clear hb hbox hg) | ((with_reducible refine gate_dst (N := 4) rfl ?_); refine boxQ (N := 4) (cs := #[.string (⟨#[]⟩ : ByteArray), .bool false]) (t := 60) ?_; intro gb307 hg w11 hbox hb; have n0_ := Aside0.mk (Qb BK305 hb); have n1_ := Aside0.mk (Qb BK306 hb); have n2_ := Aside0.mk (below_step Qh hb); have n3_ := Aside0.mk (hbox); have n4_ := Aside0.mk (Qs (w := w) hg); have n5_ := Aside0.mk (Qs (w := w) hg); have n6_ := Aside0.mk (Qn hg BK305); have n7_ := Aside0.mk (Qn hg BK305).symm; have n8_ := Aside0.mk (Qn hg BK306); have n9_ := Aside0.mk (Qn hg BK306).symm; clear BK305; clear BK306; clear HB; have BK305 := n0_; have BK306 := n1_; have HB := n2_; have BK307 := n3_; have GW307 := n4_; have GE307 := n5_; have NB305_307 := n6_; have NB307_305 := n7_; have NB306_307 := n8_; have NB307_306 := n9_; clear n0_ n1_ n2_ n3_ n4_ n5_ n6_ n7_ n8_ n9_; clear hb hbox hg; have hnb12 := NB305_306.out; have hnc12 := NB306_305.out; have hnb13 := NB305_307.out; have hnc13 := NB307_305.out; obtain ⟨hcz14_0, hcz14_1, hfz14_0, hfz14_1⟩ := Z2 BK305.out; have hnb15 := NB306_307.out; have hnc15 := NB307_306.out; obtain ⟨hcz16_0, hcz16_1, hcz16_2, hcz16_3, hcz16_4, hcz16_5, hcz16_6, hcz16_7, hcz16_8, hfz16_0, hfz16_1, hfz16_2, hfz16_3, hfz16_4, hfz16_5, hfz16_6, hfz16_7, hfz16_8⟩ := Z9 BK306.out) | ((with_reducible refine gate_callee (f := 65) rfl ?_); refine goesL_ (some 8) rfl rfl Tryd.func65 (by kernel_rfl) rfl #[.agg #[.string a0_0, .bool a0_1], .int .i64 a1_0] rfl Qm ?_; (with_reducible refine (samphireref09_Byte.calls k a0_0 a0_1 a1_0 t308 t309 _ A3.out).mono ?_); rintro e w17 ⟨rfl, hb⟩; refine ⟨_, rfl, ?_⟩; have n0_ := Aside0.mk (Qb BK305 hb); have n1_ := Aside0.mk (Qb BK306 hb); have n2_ := Aside0.mk (Qb BK307 hb); have n3_ := Aside0.mk (below_step Qh hb); clear BK305; clear BK306; clear BK307; clear HB; have BK305 := n0_; have BK306 := n1_; have BK307 := n2_; have HB := n3_; clear n0_ n1_ n2_ n3_; (try clear hb); (try clear hb2); (try clear hk); (try clear hi); obtain ⟨hcz18_0, hcz18_1, hfz18_0, hfz18_1⟩ := Z2 BK305.out; obtain ⟨hcz19_0, hcz19_1, hcz19_2, hcz19_3, hcz19_4, hcz19_5, hcz19_6, hcz19_7, hcz19_8, hfz19_0, hfz19_1, hfz19_2, hfz19_3, hfz19_4, hfz19_5, hfz19_6, hfz19_7, hfz19_8⟩ := Z9 BK306.out) | ((with_reducible refine gate_callee (f := 42) rfl ?_); refine goesL_ (some 12) rfl rfl Tryd.func42 (by kernel_rfl) rfl #[.agg #[.string t308, .bool t309], .agg #[.int .i64 a1_1, .int .i64 a1_2]] rfl Qm ?_; (with_reducible refine (samphireref09_Stamp.calls k t308 t309 a1_1 a1_2 t310 t311 _ A4.out).mono ?_); rintro e w20 ⟨rfl, hb⟩; refine ⟨_, rfl, ?_⟩; have n0_ := Aside0.mk (blk_below (g := gb305) (o := .cells #[.string t308, .bool t309] 60 (0, 0)) Qk hb); have n1_ := Aside0.mk (blk_below (g := gb306) (o := .cells #[.int .i64 a1_0, .int .i64 a1_1, .int .i64 a1_2, .int .i64 a1_3, .int .i64 a1_4, .int .i64 a1_5, .int .i64 a1_6, .string a1_7, .string a1_8] 25 (0, 0)) Qk hb); have n2_ := Aside0.mk (blk_below (g := gb307) (o := .cells #[.string (⟨#[]⟩ : ByteArray), .bool false] 60 (0, 0)) Qk hb); have n3_ := Aside0.mk (below_step Qh hb); clear BK305; clear BK306; clear BK307; clear HB; have BK305 := n0_; have BK306 := n1_; have BK307 := n2_; have HB := n3_; clear n0_ n1_ n2_ n3_; (try clear hb); (try clear hb2); (try clear hk); (try clear hi); obtain ⟨hcz21_0, hcz21_1, hfz21_0, hfz21_1⟩ := Z2 BK305.out; obtain ⟨hcz22_0, hcz22_1, hcz22_2, hcz22_3, hcz22_4, hcz22_5, hcz22_6, hcz22_7, hcz22_8, hfz22_0, hfz22_1, hfz22_2, hfz22_3, hfz22_4, hfz22_5, hfz22_6, hfz22_7, hfz22_8⟩ := Z9 BK306.out) | ((with_reducible refine gate_callee (f := 42) rfl ?_); refine goesL_ (some 16) rfl rfl Tryd.func42 (by kernel_rfl) rfl #[.agg #[.string t310, .bool t311], .agg #[.int .i64 a1_3, .int .i64 a1_4]] rfl Qm ?_; (with_reducible refine (samphireref09_Stamp.calls k t310 t311 a1_3 a1_4 t312 t313 _ A5.out).mono ?_); rintro e w23 ⟨rfl, hb⟩; refine ⟨_, rfl, ?_⟩; have n0_ := Aside0.mk (blk_below (g := gb305) (o := .cells #[.string t310, .bool t311] 60 (0, 0)) Qk hb); have n1_ := Aside0.mk (blk_below (g := gb306) (o := .cells #[.int .i64 a1_0, .int .i64 a1_1, .int .i64 a1_2, .int .i64 a1_3, .int .i64 a1_4, .int .i64 a1_5, .int .i64 a1_6, .string a1_7, .string a1_8] 25 (0, 0)) Qk hb); have n2_ := Aside0.mk (blk_below (g := gb307) (o := .cells #[.string (⟨#[]⟩ : ByteArray), .bool false] 60 (0, 0)) Qk hb); have n3_ := Aside0.mk (below_step Qh hb); clear BK305; clear BK306; clear BK307; clear HB; have BK305 := n0_; have BK306 := n1_; have BK307 := n2_; have HB := n3_; clear n0_ n1_ n2_ n3_; (try clear hb); (try clear hb2); (try clear hk); (try clear hi); obtain ⟨hcz24_0, hcz24_1, hfz24_0, hfz24_1⟩ := Z2 BK305.out; obtain ⟨hcz25_0, hcz25_1, hcz25_2, hcz25_3, hcz25_4, hcz25_5, hcz25_6, hcz25_7, hcz25_8, hfz25_0, hfz25_1, hfz25_2, hfz25_3, hfz25_4, hfz25_5, hfz25_6, hfz25_7, hfz25_8⟩ := Z9 BK306.out) | ((with_reducible refine gate_callee (f := 42) rfl ?_); refine goesL_ (some 20) rfl rfl Tryd.func42 (by kernel_rfl) rfl #[.agg #[.string t312, .bool t313], .agg #[.int .i64 a1_5, .int .i64 a1_6]] rfl Qm ?_; (with_reducible refine (samphireref09_Stamp.calls k t312 t313 a1_5 a1_6 t314 t315 _ A6.out).mono ?_); rintro e w26 ⟨rfl, hb⟩; refine ⟨_, rfl, ?_⟩; have n0_ := Aside0.mk (blk_below (g := gb305) (o := .cells #[.string t312, .bool t313] 60 (0, 0)) Qk hb); have n1_ := Aside0.mk (blk_below (g := gb306) (o := .cells #[.int .i64 a1_0, .int .i64 a1_1, .int .i64 a1_2, .int .i64 a1_3, .int .i64 a1_4, .int .i64 a1_5, .int .i64 a1_6, .string a1_7, .string a1_8] 25 (0, 0)) Qk hb); have n2_ := Aside0.mk (blk_below (g := gb307) (o := .cells #[.string (⟨#[]⟩ : ByteArray), .bool false] 60 (0, 0)) Qk hb); have n3_ := Aside0.mk (below_step Qh hb); clear BK305; clear BK306; clear BK307; clear HB; have BK305 := n0_; have BK306 := n1_; have BK307 := n2_; have HB := n3_; clear n0_ n1_ n2_ n3_; (try clear hb); (try clear hb2); (try clear hk); (try clear hi); obtain ⟨hcz27_0, hcz27_1, hfz27_0, hfz27_1⟩ := Z2 BK305.out; obtain ⟨hcz28_0, hcz28_1, hcz28_2, hcz28_3, hcz28_4, hcz28_5, hcz28_6, hcz28_7, hcz28_8, hfz28_0, hfz28_1, hfz28_2, hfz28_3, hfz28_4, hfz28_5, hfz28_6, hfz28_7, hfz28_8⟩ := Z9 BK306.out) | ((with_reducible refine gate_callee (f := 44) rfl ?_); refine goesL_ (some 24) rfl rfl Tryd.func44 (by kernel_rfl) rfl #[.agg #[.string t314, .bool t315], .string a1_7] rfl Qm ?_; (with_reducible refine (samphireref09_Text.calls k t314 t315 a1_7 t316 t317 _ A7.out).mono ?_); rintro e w29 ⟨rfl, hb⟩; refine ⟨_, rfl, ?_⟩; have n0_ := Aside0.mk (blk_below (g := gb305) (o := .cells #[.string t314, .bool t315] 60 (0, 0)) Qk hb); have n1_ := Aside0.mk (blk_below (g := gb306) (o := .cells #[.int .i64 a1_0, .int .i64 a1_1, .int .i64 a1_2, .int .i64 a1_3, .int .i64 a1_4, .int .i64 a1_5, .int .i64 a1_6, .string a1_7, .string a1_8] 25 (0, 0)) Qk hb); have n2_ := Aside0.mk (blk_below (g := gb307) (o := .cells #[.string (⟨#[]⟩ : ByteArray), .bool false] 60 (0, 0)) Qk hb); have n3_ := Aside0.mk (below_step Qh hb); clear BK305; clear BK306; clear BK307; clear HB; have BK305 := n0_; have BK306 := n1_; have BK307 := n2_; have HB := n3_; clear n0_ n1_ n2_ n3_; (try clear hb); (try clear hb2); (try clear hk); (try clear hi); obtain ⟨hcz30_0, hcz30_1, hfz30_0, hfz30_1⟩ := Z2 BK305.out; obtain ⟨hcz31_0, hcz31_1, hcz31_2, hcz31_3, hcz31_4, hcz31_5, hcz31_6, hcz31_7, hcz31_8, hfz31_0, hfz31_1, hfz31_2, hfz31_3, hfz31_4, hfz31_5, hfz31_6, hfz31_7, hfz31_8⟩ := Z9 BK306.out) | ((with_reducible refine gate_callee (f := 44) rfl ?_); refine goesL_ (some 28) rfl rfl Tryd.func44 (by kernel_rfl) rfl #[.agg #[.string t316, .bool t317], .string a1_8] rfl Qm ?_; (with_reducible refine (samphireref09_Text.calls k t316 t317 a1_8 t318 t319 _ A8.out).mono ?_); rintro e w32 ⟨rfl, hb⟩; refine ⟨_, rfl, ?_⟩; have n0_ := Aside0.mk (blk_below (g := gb305) (o := .cells #[.string t316, .bool t317] 60 (0, 0)) Qk hb); have n1_ := Aside0.mk (blk_below (g := gb306) (o := .cells #[.int .i64 a1_0, .int .i64 a1_1, .int .i64 a1_2, .int .i64 a1_3, .int .i64 a1_4, .int .i64 a1_5, .int .i64 a1_6, .string a1_7, .string a1_8] 25 (0, 0)) Qk hb); have n2_ := Aside0.mk (blk_below (g := gb307) (o := .cells #[.string (⟨#[]⟩ : ByteArray), .bool false] 60 (0, 0)) Qk hb); have n3_ := Aside0.mk (below_step Qh hb); clear BK305; clear BK306; clear BK307; clear HB; have BK305 := n0_; have BK306 := n1_; have BK307 := n2_; have HB := n3_; clear n0_ n1_ n2_ n3_; (try clear hb); (try clear hb2); (try clear hk); (try clear hi); obtain ⟨hcz33_0, hcz33_1, hfz33_0, hfz33_1⟩ := Z2 BK307.out))
  refine bodyPost_ret (results_cell_row rfl _ _ gb307 60 #[.string t318, .bool t319] (0, 0) _ rfl Qk Tryd.underlying60 rfl (by kernel_rfl)) rfl ?_
  exact ⟨Qe, Qh⟩

/-! ### samphireref13_PutOp: function 11 -/
def samphireref13_PutOp.f (k : Nat) (a0_0 : Int) (a0_1 : Int) (a0_2 : Int) (a0_3 : Int) (a0_4 : Int) (a0_5 : Int) (a0_6 : Int) (a0_7 : ByteArray) (a0_8 : ByteArray) : Option (ByteArray × Int) := (samphireref11_May.f k a0_0 a0_1 a0_2 a0_3 a0_4 a0_5 a0_6 a0_7 a0_8).bind fun t321 => (if t321 = true then ((samphireref13_op.f k (⟨#[]⟩ : ByteArray) false a0_0 a0_1 a0_2 a0_3 a0_4 a0_5 a0_6 a0_7 a0_8).bind fun bt322 => ((samphireref09_Done.f bt322.1 bt322.2).bind fun bt324 => (some (bt324.1, bt324.2)))) else (some ((⟨#[]⟩ : ByteArray), 1)))
theorem samphireref13_PutOp.mono : ∀ a0 a1 a2 a3 a4 a5 a6 a7 a8 k, LeO (samphireref13_PutOp.f k a0 a1 a2 a3 a4 a5 a6 a7 a8) (samphireref13_PutOp.f (k + 1) a0 a1 a2 a3 a4 a5 a6 a7 a8) := by
  intro a0 a1 a2 a3 a4 a5 a6 a7 a8 k
  unfold samphireref13_PutOp.f
  repeat' first
      | (with_reducible exact samphireref11_May.mono _ _ _ _ _ _ _ _ _ _)
      | (with_reducible exact samphireref13_op.mono _ _ _ _ _ _ _ _ _ _ _ _)
      | (with_reducible exact LeO.refl _)
      | (with_reducible exact LeO.none _)
      | (with_reducible refine LeO.ite ?_ ?_)
      | (with_reducible refine LeO.bind ?_ (fun _ => ?_))
      | exact samphireref11_May.mono _ _ _ _ _ _ _ _ _ _
      | exact samphireref13_op.mono _ _ _ _ _ _ _ _ _ _ _ _
      | exact LeO.none _
      | refine LeO.ite ?_ ?_
      | refine LeO.bind ?_ (fun _ => ?_)
set_option maxHeartbeats 8000000 in
set_option maxRecDepth 100000 in
theorem samphireref13_PutOp.calls (k : Nat) (a0_0 : Int) (a0_1 : Int) (a0_2 : Int) (a0_3 : Int) (a0_4 : Int) (a0_5 : Int) (a0_6 : Int) (a0_7 : ByteArray) (a0_8 : ByteArray) (r1 : ByteArray) (r2 : Int) (w : World) (h : samphireref13_PutOp.f k a0_0 a0_1 a0_2 a0_3 a0_4 a0_5 a0_6 a0_7 a0_8 = some (r1, r2)) :
    Calls Tryd.prog 11 #[.agg #[.int .i64 a0_0, .int .i64 a0_1, .int .i64 a0_2, .int .i64 a0_3, .int .i64 a0_4, .int .i64 a0_5, .int .i64 a0_6, .string a0_7, .string a0_8]] w fun e w' => e = .returned (.tuple #[.string r1, .int .i64 r2]) ∧ Below w.heap.size w w' := by
  have hu25 := Tryd.underlying25
  have hu60 := Tryd.underlying60
  have HB := Aside0.mk (Below.refl w.heap.size w)
  have H : ((samphireref11_May.f k a0_0 a0_1 a0_2 a0_3 a0_4 a0_5 a0_6 a0_7 a0_8).bind fun t321 => (if t321 = true then ((samphireref13_op.f k (⟨#[]⟩ : ByteArray) false a0_0 a0_1 a0_2 a0_3 a0_4 a0_5 a0_6 a0_7 a0_8).bind fun bt322 => ((samphireref09_Done.f bt322.1 bt322.2).bind fun bt324 => (some (bt324.1, bt324.2)))) else (some ((⟨#[]⟩ : ByteArray), 1)))) = some (r1, r2) := h
  clear h
  replace H := Option.bind_eq_some_iff.mp H
  obtain ⟨t321, A20, H⟩ := H
  replace H : (if t321 = true then ((samphireref13_op.f k (⟨#[]⟩ : ByteArray) false a0_0 a0_1 a0_2 a0_3 a0_4 a0_5 a0_6 a0_7 a0_8).bind fun bt322 => ((samphireref09_Done.f bt322.1 bt322.2).bind fun bt324 => (some (bt324.1, bt324.2)))) else (some ((⟨#[]⟩ : ByteArray), 1))) = some (r1, r2) := H
  have A2 := Aside0.mk A20
  clear A20
  by_cases c3 : t321 = true
  · subst c3
    have H1 : ((samphireref13_op.f k (⟨#[]⟩ : ByteArray) false a0_0 a0_1 a0_2 a0_3 a0_4 a0_5 a0_6 a0_7 a0_8).bind fun bt322 => ((samphireref09_Done.f bt322.1 bt322.2).bind fun bt324 => (some (bt324.1, bt324.2)))) = some (r1, r2) := by rw [if_pos rfl] at H; exact H
    clear H
    have H := H1
    clear H1
    replace H := Option.bind_eq_some_iff.mp H
    obtain ⟨⟨t322, t323⟩, A40, H⟩ := H
    replace H : ((samphireref09_Done.f t322 t323).bind fun bt324 => (some (bt324.1, bt324.2))) = some (r1, r2) := H
    have A4 := Aside0.mk A40
    clear A40
    replace H := Option.bind_eq_some_iff.mp H
    obtain ⟨⟨t324, t325⟩, A50, H⟩ := H
    replace H : (some (t324, t325)) = some (r1, r2) := H
    have A5 := Aside0.mk A50
    clear A50
    simp only [Option.some.injEq, Prod.mk.injEq] at H
    obtain ⟨rfl, rfl⟩ := H
    go_enter Tryd.func11, Tryd.ntmps11
    go_wp2_with (first | ((with_reducible refine gate_dst (N := 1) rfl ?_); refine boxQ (N := 1) (cs := #[.int .i64 a0_0, .int .i64 a0_1, .int .i64 a0_2, .int .i64 a0_3, .int .i64 a0_4, .int .i64 a0_5, .int .i64 a0_6, .string a0_7, .string a0_8]) (t := 25) ?_; intro gb320 hg w6 hbox hb; have n0_ := Aside0.mk (below_step Qh hb); have n1_ := Aside0.mk (hbox); have n2_ := Aside0.mk (Qs (w := w) hg); have n3_ := Aside0.mk (Qs (w := w) hg); clear HB; have HB := n0_; have BK320 := n1_; have GW320 := n2_; have GE320 := n3_; clear n0_ n1_ n2_ n3_; clear hb hbox hg; obtain ⟨hcz7_0, hcz7_1, hcz7_2, hcz7_3, hcz7_4, hcz7_5, hcz7_6, hcz7_7, hcz7_8, hfz7_0, hfz7_1, hfz7_2, hfz7_3, hfz7_4, hfz7_5, hfz7_6, hfz7_7, hfz7_8⟩ := Z9 BK320.out) | ((with_reducible refine gate_callee (f := 26) rfl ?_); refine goesL_ (some 5) rfl rfl Tryd.func26 (by kernel_rfl) rfl #[.agg #[.int .i64 a0_0, .int .i64 a0_1, .int .i64 a0_2, .int .i64 a0_3, .int .i64 a0_4, .int .i64 a0_5, .int .i64 a0_6, .string a0_7, .string a0_8]] rfl Qm ?_; (with_reducible refine (samphireref11_May.calls k a0_0 a0_1 a0_2 a0_3 a0_4 a0_5 a0_6 a0_7 a0_8 true _ A2.out).mono ?_); rintro e w8 ⟨rfl, hb⟩; refine ⟨_, rfl, ?_⟩; have n0_ := Aside0.mk (Qb BK320 hb); have n1_ := Aside0.mk (below_step Qh hb); clear BK320; clear HB; have BK320 := n0_; have HB := n1_; clear n0_ n1_; (try clear hb); (try clear hb2); (try clear hk); (try clear hi); obtain ⟨hcz9_0, hcz9_1, hcz9_2, hcz9_3, hcz9_4, hcz9_5, hcz9_6, hcz9_7, hcz9_8, hfz9_0, hfz9_1, hfz9_2, hfz9_3, hfz9_4, hfz9_5, hfz9_6, hfz9_7, hfz9_8⟩ := Z9 BK320.out) | ((with_reducible refine gate_callee (f := 28) rfl ?_); refine goesL_ (some 9) rfl rfl Tryd.func28 (by kernel_rfl) rfl #[.agg #[.string (⟨#[]⟩ : ByteArray), .bool false], .agg #[.int .i64 a0_0, .int .i64 a0_1, .int .i64 a0_2, .int .i64 a0_3, .int .i64 a0_4, .int .i64 a0_5, .int .i64 a0_6, .string a0_7, .string a0_8]] rfl Qm ?_; (with_reducible refine (samphireref13_op.calls k (⟨#[]⟩ : ByteArray) false a0_0 a0_1 a0_2 a0_3 a0_4 a0_5 a0_6 a0_7 a0_8 t322 t323 _ A4.out).mono ?_); rintro e w10 ⟨rfl, hb⟩; refine ⟨_, rfl, ?_⟩; have n0_ := Aside0.mk (Qb BK320 hb); have n1_ := Aside0.mk (below_step Qh hb); clear BK320; clear HB; have BK320 := n0_; have HB := n1_; clear n0_ n1_; (try clear hb); (try clear hb2); (try clear hk); (try clear hi)) | ((with_reducible refine gate_callee (f := 27) rfl ?_); refine goesL_ (some 10) rfl rfl Tryd.func27 (by kernel_rfl) rfl #[.agg #[.string t322, .bool t323]] rfl Qm ?_; (with_reducible refine (samphireref09_Done.calls t322 t323 t324 t325 _ A5.out).mono ?_); rintro e w11 ⟨rfl, hb⟩; refine ⟨_, rfl, ?_⟩; have n0_ := Aside0.mk (Qb BK320 hb); have n1_ := Aside0.mk (below_step Qh hb); clear BK320; clear HB; have BK320 := n0_; have HB := n1_; clear n0_ n1_; (try clear hb); (try clear hb2); (try clear hk); (try clear hi)))
    go_ret2
    exact ⟨Qe, Qh⟩
  · replace c3 := Bool.eq_false_iff.mpr c3
    subst c3
    have H1 : (some ((⟨#[]⟩ : ByteArray), 1)) = some (r1, r2) := by rw [if_neg (show ¬ (false = true) by decide)] at H; exact H
    clear H
    have H := H1
    clear H1
    simp only [Option.some.injEq, Prod.mk.injEq] at H
    obtain ⟨rfl, rfl⟩ := H
    go_enter Tryd.func11, Tryd.ntmps11
    go_wp2_with (first | ((with_reducible refine gate_dst (N := 1) rfl ?_); refine boxQ (N := 1) (cs := #[.int .i64 a0_0, .int .i64 a0_1, .int .i64 a0_2, .int .i64 a0_3, .int .i64 a0_4, .int .i64 a0_5, .int .i64 a0_6, .string a0_7, .string a0_8]) (t := 25) ?_; intro gb320 hg w12 hbox hb; have n0_ := Aside0.mk (below_step Qh hb); have n1_ := Aside0.mk (hbox); have n2_ := Aside0.mk (Qs (w := w) hg); have n3_ := Aside0.mk (Qs (w := w) hg); clear HB; have HB := n0_; have BK320 := n1_; have GW320 := n2_; have GE320 := n3_; clear n0_ n1_ n2_ n3_; clear hb hbox hg; obtain ⟨hcz13_0, hcz13_1, hcz13_2, hcz13_3, hcz13_4, hcz13_5, hcz13_6, hcz13_7, hcz13_8, hfz13_0, hfz13_1, hfz13_2, hfz13_3, hfz13_4, hfz13_5, hfz13_6, hfz13_7, hfz13_8⟩ := Z9 BK320.out) | ((with_reducible refine gate_callee (f := 26) rfl ?_); refine goesL_ (some 5) rfl rfl Tryd.func26 (by kernel_rfl) rfl #[.agg #[.int .i64 a0_0, .int .i64 a0_1, .int .i64 a0_2, .int .i64 a0_3, .int .i64 a0_4, .int .i64 a0_5, .int .i64 a0_6, .string a0_7, .string a0_8]] rfl Qm ?_; (with_reducible refine (samphireref11_May.calls k a0_0 a0_1 a0_2 a0_3 a0_4 a0_5 a0_6 a0_7 a0_8 false _ A2.out).mono ?_); rintro e w14 ⟨rfl, hb⟩; refine ⟨_, rfl, ?_⟩; have n0_ := Aside0.mk (Qb BK320 hb); have n1_ := Aside0.mk (below_step Qh hb); clear BK320; clear HB; have BK320 := n0_; have HB := n1_; clear n0_ n1_; (try clear hb); (try clear hb2); (try clear hk); (try clear hi)))
    go_ret2
    exact ⟨Qe, Qh⟩

/-! ### samphireref09_wrong: function 82 -/
def samphireref09_wrong.f (a0_0 : ByteArray) (a0_1 : Int) (a1 : Int) : Option (ByteArray × Int) := if a0_1 = 0 then (some ((⟨#[]⟩ : ByteArray), a1)) else (some ((⟨#[]⟩ : ByteArray), a0_1))
set_option maxHeartbeats 8000000 in
set_option maxRecDepth 100000 in
theorem samphireref09_wrong.calls (a0_0 : ByteArray) (a0_1 : Int) (a1 : Int) (r1 : ByteArray) (r2 : Int) (w : World) (h : samphireref09_wrong.f a0_0 a0_1 a1 = some (r1, r2)) :
    Calls Tryd.prog 82 #[.agg #[.string a0_0, .int .i64 a0_1], .int .i64 a1] w fun e w' => e = .returned (.agg #[.string r1, .int .i64 r2]) ∧ Below w.heap.size w w' := by
  have hu67 := Tryd.underlying67
  have HB := Aside0.mk (Below.refl w.heap.size w)
  have H : (if a0_1 = 0 then (some ((⟨#[]⟩ : ByteArray), a1)) else (some ((⟨#[]⟩ : ByteArray), a0_1))) = some (r1, r2) := h
  clear h
  by_cases c3 : a0_1 = 0
  · rw [if_pos c3] at H
    have c3b0 : (a0_1 == 0) = true := beq_iff_eq.mpr c3
    have c3b1 : (a0_1 != 0) = false := bne_eq_false_iff_eq.mpr c3
    clear c3
    simp only [Option.some.injEq, Prod.mk.injEq] at H
    obtain ⟨rfl, rfl⟩ := H
    go_enter Tryd.func82, Tryd.ntmps82
    go_wp2_with (first | ((with_reducible refine gate_dst (N := 2) rfl ?_); refine boxQ (N := 2) (cs := #[.string a0_0, .int .i64 a0_1]) (t := 67) ?_; intro gb326 hg w4 hbox hb; have n0_ := Aside0.mk (below_step Qh hb); have n1_ := Aside0.mk (hbox); have n2_ := Aside0.mk (Qs (w := w) hg); have n3_ := Aside0.mk (Qs (w := w) hg); clear HB; have HB := n0_; have BK326 := n1_; have GW326 := n2_; have GE326 := n3_; clear n0_ n1_ n2_ n3_; clear hb hbox hg) | ((with_reducible refine gate_dst (N := 4) rfl ?_); refine boxQ (N := 4) (cs := #[.string (⟨#[]⟩ : ByteArray), .int .i64 0]) (t := 67) ?_; intro gb327 hg w5 hbox hb; have n0_ := Aside0.mk (Qb BK326 hb); have n1_ := Aside0.mk (below_step Qh hb); have n2_ := Aside0.mk (hbox); have n3_ := Aside0.mk (Qs (w := w) hg); have n4_ := Aside0.mk (Qs (w := w) hg); have n5_ := Aside0.mk (Qn hg BK326); have n6_ := Aside0.mk (Qn hg BK326).symm; clear BK326; clear HB; have BK326 := n0_; have HB := n1_; have BK327 := n2_; have GW327 := n3_; have GE327 := n4_; have NB326_327 := n5_; have NB327_326 := n6_; clear n0_ n1_ n2_ n3_ n4_ n5_ n6_; clear hb hbox hg; have hnb6 := NB326_327.out; have hnc6 := NB327_326.out; obtain ⟨hcz7_0, hcz7_1, hfz7_0, hfz7_1⟩ := Z2 BK326.out; obtain ⟨hcz8_0, hcz8_1, hfz8_0, hfz8_1⟩ := Z2 BK327.out))
    refine bodyPost_ret (results_cell_row rfl _ _ gb327 67 #[.string (⟨#[]⟩ : ByteArray), .int .i64 a1] (0, 0) _ rfl Qk Tryd.underlying67 rfl (by kernel_rfl)) rfl ?_
    exact ⟨Qe, Qh⟩
  · rw [if_neg c3] at H
    have c3b0 : (a0_1 == 0) = false := beq_eq_false_iff_ne.mpr c3
    have c3b1 : (a0_1 != 0) = true := bne_iff_ne.mpr c3
    simp only [Option.some.injEq, Prod.mk.injEq] at H
    obtain ⟨rfl, rfl⟩ := H
    go_enter Tryd.func82, Tryd.ntmps82
    go_wp2_with (first | ((with_reducible refine gate_dst (N := 2) rfl ?_); refine boxQ (N := 2) (cs := #[.string a0_0, .int .i64 a0_1]) (t := 67) ?_; intro gb326 hg w9 hbox hb; have n0_ := Aside0.mk (below_step Qh hb); have n1_ := Aside0.mk (hbox); have n2_ := Aside0.mk (Qs (w := w) hg); have n3_ := Aside0.mk (Qs (w := w) hg); clear HB; have HB := n0_; have BK326 := n1_; have GW326 := n2_; have GE326 := n3_; clear n0_ n1_ n2_ n3_; clear hb hbox hg) | ((with_reducible refine gate_dst (N := 4) rfl ?_); refine boxQ (N := 4) (cs := #[.string (⟨#[]⟩ : ByteArray), .int .i64 0]) (t := 67) ?_; intro gb327 hg w10 hbox hb; have n0_ := Aside0.mk (Qb BK326 hb); have n1_ := Aside0.mk (below_step Qh hb); have n2_ := Aside0.mk (hbox); have n3_ := Aside0.mk (Qs (w := w) hg); have n4_ := Aside0.mk (Qs (w := w) hg); have n5_ := Aside0.mk (Qn hg BK326); have n6_ := Aside0.mk (Qn hg BK326).symm; clear BK326; clear HB; have BK326 := n0_; have HB := n1_; have BK327 := n2_; have GW327 := n3_; have GE327 := n4_; have NB326_327 := n5_; have NB327_326 := n6_; clear n0_ n1_ n2_ n3_ n4_ n5_ n6_; clear hb hbox hg; have hnb11 := NB326_327.out; have hnc11 := NB327_326.out; obtain ⟨hcz12_0, hcz12_1, hfz12_0, hfz12_1⟩ := Z2 BK326.out; obtain ⟨hcz13_0, hcz13_1, hfz13_0, hfz13_1⟩ := Z2 BK327.out))
    refine bodyPost_ret (results_cell_row rfl _ _ gb327 67 #[.string (⟨#[]⟩ : ByteArray), .int .i64 a0_1] (0, 0) _ rfl Qk Tryd.underlying67 rfl (by kernel_rfl)) rfl ?_
    exact ⟨Qe, Qh⟩

end Go.Proofs.YtmogpfhhmekbiaaDoor.S
