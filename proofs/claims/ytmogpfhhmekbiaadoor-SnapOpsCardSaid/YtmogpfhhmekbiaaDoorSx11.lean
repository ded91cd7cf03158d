/- Functions of the translation as plain Lean functions, and that each call comes to what they say: for every argument. Written by a program of this session's own; Lean checks it. -/
import Derived.Test.YtmogpfhhmekbiaaDoorSx0
import Derived.Test.YtmogpfhhmekbiaaDoorQa
import Derived.Test.YtmogpfhhmekbiaaDoorSx9
import Derived.Test.YtmogpfhhmekbiaaDoorSx10
namespace Go.Proofs.YtmogpfhhmekbiaaDoor.S
open Go.RowKit Go.Proofs.YtmogpfhhmekbiaaDoorW.PrintWords Go.Proofs.YtmogpfhhmekbiaaDoorW.PrintLast
set_option linter.unusedVariables false
set_option linter.unusedSimpArgs false

abbrev samphireref09_Stamp.Q0 : Array Bool := #[false, false, false, false, false, false, false, false, false, false, false, false, false, false, false, false, false, false, false, false, false, false, false, false, false, false, false, false]
abbrev samphireref09_Stamp.Q1 : Array Bool := #[false, true, false, false, false, false, false, false, false, false, false, false, false, false, false, false, false, false, false, false, false, false, false, false, false, false, false, false]
abbrev samphireref09_Stamp.Q2 : Array Bool := #[false, true, false, false, true, false, false, false, false, false, false, false, false, false, false, false, false, false, false, false, false, false, false, false, false, false, false, false]
abbrev samphireref09_Stamp.Q3 : Array Bool := #[false, true, false, false, true, false, false, false, true, false, false, false, false, false, false, false, false, false, false, false, false, false, false, false, false, false, false, false]
abbrev samphireref09_Stamp.Q4 : Array Bool := #[true, true, false, false, true, false, false, false, true, false, false, false, false, false, false, false, false, false, false, false, false, false, false, false, false, false, false, false]
abbrev samphireref09_Stamp.Q5 : Array Bool := #[true, true, true, false, true, false, false, false, true, false, false, false, false, false, false, false, false, false, false, false, false, false, false, false, false, false, false, false]
abbrev samphireref09_Stamp.Q6 : Array Bool := #[true, true, true, false, true, true, false, false, true, false, false, false, false, false, false, false, false, false, false, false, false, false, false, false, false, false, false, false]
abbrev samphireref09_Stamp.Q7 : Array Bool := #[true, true, true, false, true, true, false, false, true, true, false, false, false, false, false, false, false, false, false, false, false, false, false, false, false, false, false, false]
abbrev samphireref09_Stamp.Q8 : Array Bool := #[true, true, true, false, true, true, false, false, true, true, true, false, false, false, false, false, false, false, false, false, false, false, false, false, false, false, false, false]
abbrev samphireref09_Stamp.Q9 : Array Bool := #[true, true, true, true, true, true, false, false, true, true, true, false, false, false, false, false, false, false, false, false, false, false, false, false, false, false, false, false]
abbrev samphireref09_Stamp.Q10 : Array Bool := #[true, true, true, true, true, true, true, false, true, true, true, false, false, false, false, false, false, false, false, false, false, false, false, false, false, false, false, false]
abbrev samphireref09_Stamp.Q11 : Array Bool := #[true, true, true, true, true, true, true, true, true, true, true, false, false, false, false, false, false, false, false, false, false, false, false, false, false, false, false, false]
abbrev samphireref09_Stamp.Q12 : Array Bool := #[true, true, true, true, true, true, true, true, true, true, true, true, false, false, false, false, false, false, false, false, false, false, false, false, false, false, false, false]
abbrev samphireref09_Stamp.Q13 : Array Bool := #[true, true, true, true, true, true, true, true, true, true, true, true, true, false, false, false, false, false, false, false, false, false, false, false, false, false, false, false]
abbrev samphireref09_Stamp.Q14 : Array Bool := #[true, true, true, true, true, true, true, true, true, true, true, true, true, true, false, false, false, false, false, false, false, false, false, false, false, false, false, false]
abbrev samphireref09_Stamp.Q15 : Array Bool := #[true, true, true, true, true, true, true, true, true, true, true, true, true, true, true, false, false, false, false, false, false, false, false, false, false, false, false, false]
abbrev samphireref09_Stamp.Q16 : Array Bool := #[true, true, true, true, true, true, true, true, true, true, true, true, true, true, true, true, false, false, false, false, false, false, false, false, false, false, false, false]
abbrev samphireref09_Stamp.Q17 : Array Bool := #[true, true, true, true, true, true, true, true, true, true, true, true, true, true, true, true, true, false, false, false, false, false, false, false, false, false, false, false]
abbrev samphireref09_Stamp.Q18 : Array Bool := #[true, true, true, true, true, true, true, true, true, true, true, true, true, true, true, true, true, true, false, false, false, false, false, false, false, false, false, false]
abbrev samphireref09_Stamp.Q19 : Array Bool := #[true, true, true, true, true, true, true, true, true, true, true, true, true, true, true, true, true, true, true, false, false, false, false, false, false, false, false, false]
abbrev samphireref09_Stamp.Q20 : Array Bool := #[true, true, true, true, true, true, true, true, true, true, true, true, true, true, true, true, true, true, true, true, false, false, false, false, false, false, false, false]
abbrev samphireref09_Stamp.Q21 : Array Bool := #[true, true, true, true, true, true, true, true, true, true, true, true, true, true, true, true, true, true, true, true, true, false, false, false, false, false, false, false]
abbrev samphireref09_Stamp.Q22 : Array Bool := #[true, true, true, true, true, true, true, true, true, true, true, true, true, true, true, true, true, true, true, true, true, true, false, false, false, false, false, false]
abbrev samphireref09_Stamp.Q23 : Array Bool := #[true, true, true, true, true, true, true, true, true, true, true, true, true, true, true, true, true, true, true, true, true, true, true, false, false, false, false, false]
abbrev samphireref09_Stamp.Q24 : Array Bool := #[true, true, true, true, true, true, true, true, true, true, true, true, true, true, true, true, true, true, true, true, true, true, true, true, false, false, false, false]
abbrev samphireref09_Stamp.Q25 : Array Bool := #[true, true, true, true, true, true, true, true, true, true, true, true, true, true, true, true, true, true, true, true, true, true, true, true, true, false, false, false]
abbrev samphireref09_Stamp.Q26 : Array Bool := #[true, true, true, true, true, true, true, true, true, true, true, true, true, true, true, true, true, true, true, true, true, true, true, true, true, true, false, false]
abbrev samphireref09_Stamp.Q27 : Array Bool := #[true, true, true, true, true, true, true, true, true, true, true, true, true, true, true, true, true, true, true, true, true, true, true, true, true, true, true, false]
abbrev samphireref09_Stamp.Q28 : Array Bool := #[true, true, true, true, true, true, true, true, true, true, true, true, true, true, true, true, true, true, true, true, true, true, true, true, true, true, true, true]
/-! ### samphireref09_Stamp: function 42 -/
def samphireref09_Stamp.f (k : Nat) (a0_0 : ByteArray) (a0_1 : Bool) (a1_0 : Int) (a1_1 : Int) : Option (ByteArray × Bool) := (samphireref09_big.f k a1_0 6).bind fun t281 => ((samphireref09_big.f k a1_1 1).bind fun t282 => (if t281.size + t282.size ≤ 9223372036854775807 then (if a1_0 ≥ 0 then (if a1_0 ≤ 1099511627775 then (if a1_1 ≥ 0 then ((samphireref09_with.f a0_0 a0_1 (t281 ++ t282) (decide (a1_1 ≤ 255))).bind fun bt283 => (some (bt283.1, bt283.2))) else ((samphireref09_with.f a0_0 a0_1 (t281 ++ t282) false).bind fun bt285 => (some (bt285.1, bt285.2)))) else ((samphireref09_with.f a0_0 a0_1 (t281 ++ t282) false).bind fun bt287 => (some (bt287.1, bt287.2)))) else ((samphireref09_with.f a0_0 a0_1 (t281 ++ t282) false).bind fun bt289 => (some (bt289.1, bt289.2)))) else (none)))
theorem samphireref09_Stamp.mono : ∀ a0 a1 a2 a3 k, LeO (samphireref09_Stamp.f k a0 a1 a2 a3) (samphireref09_Stamp.f (k + 1) a0 a1 a2 a3) := by
  intro a0 a1 a2 a3 k
  unfold samphireref09_Stamp.f
  repeat' first
      | (with_reducible exact samphireref09_big.mono _ _ _)
      | (with_reducible exact LeO.refl _)
      | (with_reducible exact LeO.none _)
      | (with_reducible refine LeO.ite ?_ ?_)
      | (with_reducible refine LeO.bind ?_ (fun _ => ?_))
      | exact samphireref09_big.mono _ _ _
      | exact LeO.none _
      | refine LeO.ite ?_ ?_
      | refine LeO.bind ?_ (fun _ => ?_)
def samphireref09_Stamp.T1 : Bool × List (List Nat × List Nat) := (true, [([], []), ([], []), ([1], [1]), ([2], [2]), ([], []), ([4], [4]), ([5, 3], [5]), ([3, 6], [3, 6]), ([], []), ([8], [8]), ([9], [9]), ([10, 6], [10]), ([11], [11]), ([12, 11], [11, 12]), ([13, 11], [11, 13]), ([11, 14], [11, 14]), ([15, 11], [15]), ([16], [16]), ([17, 16], [16, 17]), ([18, 16], [16, 18]), ([16, 19], [16, 19]), ([20, 16], [20]), ([21], [21]), ([22, 21], [21, 22]), ([23, 21], [21, 23]), ([21, 24], [21, 24]), ([0, 7, 25, 21], [0, 7, 25]), ([26, 26, 0, 1, 2, 3, 4, 5, 6, 7, 8, 9, 10, 11, 12, 13, 14, 15, 16, 17, 18, 19, 20, 21, 22, 23, 24, 25, 26], [26])])
def samphireref09_Stamp.B1 : List Nat := [0, 0, 2, 6, 0, 16, 62, 126, 0, 256, 768, 1918, 3966, 8062, 16254, 32638, 65406, 130942, 262014, 524158, 1048446, 2097022, 4194174, 8388478, 16777086, 33554302, 67108863, 134217727]
theorem samphireref09_Stamp.tab1 : rtab .any (opsOf Tryd.f42 1) = samphireref09_Stamp.T1 := by kernel_rfl
theorem samphireref09_Stamp.bits1 : waitsOk samphireref09_Stamp.T1.2 samphireref09_Stamp.B1 = true := by kernel_rfl
set_option maxHeartbeats 8000000 in
set_option maxRecDepth 100000 in
theorem samphireref09_Stamp.calls (k : Nat) (a0_0 : ByteArray) (a0_1 : Bool) (a1_0 : Int) (a1_1 : Int) (r1 : ByteArray) (r2 : Bool) (w : World) (h : samphireref09_Stamp.f k a0_0 a0_1 a1_0 a1_1 = some (r1, r2)) :
    Calls Tryd.prog 42 #[.agg #[.string a0_0, .bool a0_1], .agg #[.int .i64 a1_0, .int .i64 a1_1]] w fun e w' => e = .returned (.agg #[.string r1, .bool r2]) ∧ Below w.heap.size w w' := by
  have hu60 := Tryd.underlying60
  have hu23 := Tryd.underlying23
  have HB := Aside0.mk (Below.refl w.heap.size w)
  have H : ((samphireref09_big.f k a1_0 6).bind fun t281 => ((samphireref09_big.f k a1_1 1).bind fun t282 => (if t281.size + t282.size ≤ 9223372036854775807 then (if a1_0 ≥ 0 then (if a1_0 ≤ 1099511627775 then (if a1_1 ≥ 0 then ((samphireref09_with.f a0_0 a0_1 (t281 ++ t282) (decide (a1_1 ≤ 255))).bind fun bt283 => (some (bt283.1, bt283.2))) else ((samphireref09_with.f a0_0 a0_1 (t281 ++ t282) false).bind fun bt285 => (some (bt285.1, bt285.2)))) else ((samphireref09_with.f a0_0 a0_1 (t281 ++ t282) false).bind fun bt287 => (some (bt287.1, bt287.2)))) else ((samphireref09_with.f a0_0 a0_1 (t281 ++ t282) false).bind fun bt289 => (some (bt289.1, bt289.2)))) else (none)))) = some (r1, r2) := h
  clear h
  replace H := Option.bind_eq_some_iff.mp H
  obtain ⟨t281, A30, H⟩ := H
  replace H : ((samphireref09_big.f k a1_1 1).bind fun t282 => (if t281.size + t282.size ≤ 9223372036854775807 then (if a1_0 ≥ 0 then (if a1_0 ≤ 1099511627775 then (if a1_1 ≥ 0 then ((samphireref09_with.f a0_0 a0_1 (t281 ++ t282) (decide (a1_1 ≤ 255))).bind fun bt283 => (some (bt283.1, bt283.2))) else ((samphireref09_with.f a0_0 a0_1 (t281 ++ t282) false).bind fun bt285 => (some (bt285.1, bt285.2)))) else ((samphireref09_with.f a0_0 a0_1 (t281 ++ t282) false).bind fun bt287 => (some (bt287.1, bt287.2)))) else ((samphireref09_with.f a0_0 a0_1 (t281 ++ t282) false).bind fun bt289 => (some (bt289.1, bt289.2)))) else (none))) = some (r1, r2) := H
  have A3 := Aside0.mk A30
  clear A30
  replace H := Option.bind_eq_some_iff.mp H
  obtain ⟨t282, A40, H⟩ := H
  replace H : (if t281.size + t282.size ≤ 9223372036854775807 then (if a1_0 ≥ 0 then (if a1_0 ≤ 1099511627775 then (if a1_1 ≥ 0 then ((samphireref09_with.f a0_0 a0_1 (t281 ++ t282) (decide (a1_1 ≤ 255))).bind fun bt283 => (some (bt283.1, bt283.2))) else ((samphireref09_with.f a0_0 a0_1 (t281 ++ t282) false).bind fun bt285 => (some (bt285.1, bt285.2)))) else ((samphireref09_with.f a0_0 a0_1 (t281 ++ t282) false).bind fun bt287 => (some (bt287.1, bt287.2)))) else ((samphireref09_with.f a0_0 a0_1 (t281 ++ t282) false).bind fun bt289 => (some (bt289.1, bt289.2)))) else (none)) = some (r1, r2) := H
  have A4 := Aside0.mk A40
  clear A40
  by_cases c5 : t281.size + t282.size ≤ 9223372036854775807
  · rw [if_pos c5] at H
    have c5b0 := eq_true c5
    have c5b1 : decide (t281.size + t282.size ≤ 9223372036854775807) = true := decide_eq_true c5
    try have c5b2 : (9223372036854775807 < t281.size + t282.size) = False := eq_false (Nat.not_lt.2 c5)
    by_cases c6 : a1_0 ≥ 0
    · rw [if_pos c6] at H
      have c6b0 : decide (0 ≤ a1_0) = true := decide_eq_true c6
      clear c6
      by_cases c7 : a1_0 ≤ 1099511627775
      · rw [if_pos c7] at H
        have c7b0 : decide (a1_0 ≤ 1099511627775) = true := decide_eq_true c7
        clear c7
        by_cases c8 : a1_1 ≥ 0
        · rw [if_pos c8] at H
          have c8b0 : decide (0 ≤ a1_1) = true := decide_eq_true c8
          clear c8
          replace H := Option.bind_eq_some_iff.mp H
          obtain ⟨⟨t283, t284⟩, A90, H⟩ := H
          replace H : (some (t283, t284)) = some (r1, r2) := H
          have A9 := Aside0.mk A90
          clear A90
          simp only [Option.some.injEq, Prod.mk.injEq] at H
          obtain ⟨rfl, rfl⟩ := H
          go_enter Tryd.func42, Tryd.ntmps42
          try go_wp2_with (first | ((with_reducible refine gate_dst (N := 2) rfl ?_); refine boxQ (N := 2) (cs := #[.string a0_0, .bool a0_1]) (t := 60) ?_; intro gb278 hg w10 hbox hb; have n0_ := Aside0.mk (below_step Qh hb); have n1_ := Aside0.mk (hbox); have n2_ := Aside0.mk (Qs (w := w) hg); have n3_ := Aside0.mk (Qs (w := w) hg); clear HB; have HB := n0_; have BK278 := n1_; have GW278 := n2_; have GE278 := n3_; clear n0_ n1_ n2_ n3_; clear hb hbox hg) | ((with_reducible refine gate_dst (N := 3) rfl ?_); refine boxQ (N := 3) (cs := #[.int .i64 a1_0, .int .i64 a1_1]) (t := 23) ?_; intro gb279 hg w11 hbox hb; have n0_ := Aside0.mk (Qb BK278 hb); have n1_ := Aside0.mk (below_step Qh hb); have n2_ := Aside0.mk (hbox); have n3_ := Aside0.mk (Qs (w := w) hg); have n4_ := Aside0.mk (Qs (w := w) hg); have n5_ := Aside0.mk (Qn hg BK278); have n6_ := Aside0.mk (Qn hg BK278).symm; clear BK278; clear HB; have BK278 := n0_; have HB := n1_; have BK279 := n2_; have GW279 := n3_; have GE279 := n4_; have NB278_279 := n5_; have NB279_278 := n6_; clear n0_ n1_ n2_ n3_ n4_ n5_ n6_; clear hb hbox hg) | ((with_reducible refine gate_dst (N := 4) rfl ?_); refine boxQ (N := 4) (cs := #[.string (⟨#[]⟩ : ByteArray), .bool false]) (t := 60) ?_; intro gb280 hg w12 hbox hb; have n0_ := Aside0.mk (Qb BK278 hb); have n1_ := Aside0.mk (Qb BK279 hb); have n2_ := Aside0.mk (below_step Qh hb); have n3_ := Aside0.mk (hbox); have n4_ := Aside0.mk (Qs (w := w) hg); have n5_ := Aside0.mk (Qs (w := w) hg); have n6_ := Aside0.mk (Qn hg BK278); have n7_ := Aside0.mk (Qn hg BK278).symm; have n8_ := Aside0.mk (Qn hg BK279); have n9_ := Aside0.mk (Qn hg BK279).symm; clear BK278; clear BK279; clear HB; have BK278 := n0_; have BK279 := n1_; have HB := n2_; have BK280 := n3_; have GW280 := n4_; have GE280 := n5_; have NB278_280 := n6_; have NB280_278 := n7_; have NB279_280 := n8_; have NB280_279 := n9_; clear n0_ n1_ n2_ n3_ n4_ n5_ n6_ n7_ n8_ n9_; clear hb hbox hg))
          have n0_ := Aside0.mk (blk_drew BK278.out)
          have n1_ := Aside0.mk (blk_drew BK279.out)
          have n2_ := Aside0.mk (blk_drew BK280.out)
          have n3_ := Aside0.mk (below_drew1 HB.out)
          clear BK278
          clear BK279
          clear BK280
          clear HB
          have BK278 := n0_
          have BK279 := n1_
          have BK280 := n2_
          have HB := n3_
          clear n0_ n1_ n2_ n3_
          refine start_ (n := 28) (S := fun w' => w'.cell? ⟨gb278, 0, none⟩ = some (.string a0_0) ∧ w'.cell? ⟨gb278, 1, none⟩ = some (.bool a0_1) ∧ w'.cell? ⟨gb279, 0, none⟩ = some (.int .i64 a1_0) ∧ w'.cell? ⟨gb279, 1, none⟩ = some (.int .i64 a1_1)) (ds := []) samphireref09_Stamp.Q0 (by kernel_rfl) rfl rfl ⟨(blk_cell BK278.out 0).trans rfl, (blk_cell BK278.out 1).trans rfl, (blk_cell BK279.out 0).trans rfl, (blk_cell BK279.out 1).trans rfl⟩ (fun hHeld => ?_); refine with_tabW samphireref09_Stamp.tab1 samphireref09_Stamp.bits1 (fun HT_ HW_ => ?_)
          generalize w12.drew = w13 at BK278 BK279 BK280 HB hHeld ⊢
          refine pureQ (i := 1) (N := some 6) samphireref09_Stamp.Q1 (any_of HT_.out (by kernel_rfl)) ?_
          refine pureQ (i := 4) (N := some 9) samphireref09_Stamp.Q2 (any_of HT_.out (by kernel_rfl)) ?_
          refine pureQ (i := 8) (N := some 13) samphireref09_Stamp.Q3 (any_of HT_.out (by kernel_rfl)) ?_
          refine take_ (i := 0) (N := some 5) (v := ?_) (a' := ?_) samphireref09_Stamp.Q4 rfl rfl (take_ofW HT_.out HW_.out (by kernel_rfl)) (fun _ _ _ h => h) (Or.inl ⟨by rfl, ?_⟩) hHeld ?_ ?_
          rotate_left
          · rintro w' ⟨s0, s1, s2, s3⟩
            go_simp
            with_reducible rfl
          rotate_left
          · simp only [Act.put, List.setIfInBounds_toArray, List.set_cons_zero, List.set_cons_succ, i64_w, i32_w]
            rfl
          refine take_ (i := 2) (N := some 7) (v := ?_) (a' := ?_) samphireref09_Stamp.Q5 rfl rfl (take_ofW HT_.out HW_.out (by kernel_rfl)) (fun _ _ _ h => h) (Or.inl ⟨by rfl, ?_⟩) hHeld ?_ ?_
          rotate_left
          · rintro w' ⟨s0, s1, s2, s3⟩
            go_simp
            with_reducible rfl
          rotate_left
          · simp only [Act.put, List.setIfInBounds_toArray, List.set_cons_zero, List.set_cons_succ, i64_w, i32_w]
            rfl
          refine take_ (i := 5) (N := some 10) (v := ?_) (a' := ?_) samphireref09_Stamp.Q6 rfl rfl (take_ofW HT_.out HW_.out (by kernel_rfl)) (fun _ _ _ h => h) (Or.inl ⟨by rfl, ?_⟩) hHeld ?_ ?_
          rotate_left
          · rintro w' ⟨s0, s1, s2, s3⟩
            go_simp
            with_reducible rfl
          rotate_left
          · simp only [Act.put, List.setIfInBounds_toArray, List.set_cons_zero, List.set_cons_succ, i64_w, i32_w]
            rfl
          refine take_ (i := 9) (N := some 14) (v := ?_) (a' := ?_) samphireref09_Stamp.Q7 rfl rfl (take_ofW HT_.out HW_.out (by kernel_rfl)) (fun _ _ _ h => h) (Or.inl ⟨by rfl, ?_⟩) hHeld ?_ ?_
          rotate_left
          · rintro w' ⟨s0, s1, s2, s3⟩
            go_simp
            with_reducible rfl
          rotate_left
          · simp only [Act.put, List.setIfInBounds_toArray, List.set_cons_zero, List.set_cons_succ, i64_w, i32_w]
            rfl
          refine pureQ (i := 10) (N := some 15) samphireref09_Stamp.Q8 (any_of HT_.out (by kernel_rfl)) ?_
          refine one_ (i := 3) (N := some 8) samphireref09_Stamp.Q9 rfl rfl (one_of HT_.out (by kernel_rfl)) (by decide) (fun K hK => ?_)
          refine goes_ Tryd.func76 (by kernel_rfl) rfl #[.int .i64 a1_0, .int .i64 6] (by rfl) rfl rfl Qm ?_
          with_reducible refine (samphireref09_big.calls k a1_0 6 t281 _ A3.out).mono ?_
          rintro e w14 ⟨rfl, hb⟩
          refine ⟨_, rfl, ?_⟩
          have n0_ := Aside0.mk (Qb BK278 hb)
          have n1_ := Aside0.mk (Qb BK279 hb)
          have n2_ := Aside0.mk (Qb BK280 hb)
          have n3_ := Aside0.mk (below_step Qh hb)
          clear BK278
          clear BK279
          clear BK280
          clear HB
          have BK278 := n0_
          have BK279 := n1_
          have BK280 := n2_
          have HB := n3_
          clear n0_ n1_ n2_ n3_
          (try clear hb)
          (try clear hb2)
          (try clear hk)
          (try clear hi)
          refine hK.out _ _ ⟨(blk_cell BK278.out 0).trans rfl, (blk_cell BK278.out 1).trans rfl, (blk_cell BK279.out 0).trans rfl, (blk_cell BK279.out 1).trans rfl⟩ (fun hHeld => ?_)
          clear hK K
          refine norm_ (a' := ?_) ?_ ?_
          rotate_left
          · show Act.put _ (some 8) _ = _
            simp only [Act.put, List.setIfInBounds_toArray, List.set_cons_zero, List.set_cons_succ, i64_w, i32_w]
            rfl
          refine one_ (i := 6) (N := some 11) samphireref09_Stamp.Q10 rfl rfl (one_of HT_.out (by kernel_rfl)) (by decide) (fun K hK => ?_)
          refine goes_ Tryd.func76 (by kernel_rfl) rfl #[.int .i64 a1_1, .int .i64 1] (by rfl) rfl rfl Qm ?_
          with_reducible refine (samphireref09_big.calls k a1_1 1 t282 _ A4.out).mono ?_
          rintro e w15 ⟨rfl, hb⟩
          refine ⟨_, rfl, ?_⟩
          have n0_ := Aside0.mk (Qb BK278 hb)
          have n1_ := Aside0.mk (Qb BK279 hb)
          have n2_ := Aside0.mk (Qb BK280 hb)
          have n3_ := Aside0.mk (below_step Qh hb)
          clear BK278
          clear BK279
          clear BK280
          clear HB
          have BK278 := n0_
          have BK279 := n1_
          have BK280 := n2_
          have HB := n3_
          clear n0_ n1_ n2_ n3_
          (try clear hb)
          (try clear hb2)
          (try clear hk)
          (try clear hi)
          refine hK.out _ _ ⟨(blk_cell BK278.out 0).trans rfl, (blk_cell BK278.out 1).trans rfl, (blk_cell BK279.out 0).trans rfl, (blk_cell BK279.out 1).trans rfl⟩ (fun hHeld => ?_)
          clear hK K
          refine norm_ (a' := ?_) ?_ ?_
          rotate_left
          · show Act.put _ (some 11) _ = _
            simp only [Act.put, List.setIfInBounds_toArray, List.set_cons_zero, List.set_cons_succ, i64_w, i32_w]
            rfl
          refine pureQ (i := 7) (N := some 12) samphireref09_Stamp.Q11 (any_of HT_.out (by kernel_rfl)) ?_
          refine pureQ (i := 11) (N := some 16) samphireref09_Stamp.Q12 (any_of HT_.out (by kernel_rfl)) ?_
          refine pureQ (i := 12) (N := some 17) samphireref09_Stamp.Q13 (any_of HT_.out (by kernel_rfl)) ?_
          refine take_ (i := 13) (N := some 18) (v := ?_) (a' := ?_) samphireref09_Stamp.Q14 rfl rfl (take_ofW HT_.out HW_.out (by kernel_rfl)) (fun _ _ _ h => h) (Or.inl ⟨by rfl, ?_⟩) hHeld ?_ ?_
          rotate_left
          · rintro w' ⟨s0, s1, s2, s3⟩
            go_simp
            with_reducible rfl
          rotate_left
          · simp only [Act.put, List.setIfInBounds_toArray, List.set_cons_zero, List.set_cons_succ, i64_w, i32_w]
            rfl
          refine pureQ (i := 14) (N := some 19) samphireref09_Stamp.Q15 (any_of HT_.out (by kernel_rfl)) ?_
          refine pureQ (i := 15) (N := some 20) samphireref09_Stamp.Q16 (any_of HT_.out (by kernel_rfl)) ?_
          refine pureQ (i := 16) (N := some 21) samphireref09_Stamp.Q17 (any_of HT_.out (by kernel_rfl)) ?_
          refine pureQ (i := 17) (N := some 22) samphireref09_Stamp.Q18 (any_of HT_.out (by kernel_rfl)) ?_
          refine take_ (i := 18) (N := some 23) (v := ?_) (a' := ?_) samphireref09_Stamp.Q19 rfl rfl (take_ofW HT_.out HW_.out (by kernel_rfl)) (fun _ _ _ h => h) (Or.inl ⟨by rfl, ?_⟩) hHeld ?_ ?_
          rotate_left
          · rintro w' ⟨s0, s1, s2, s3⟩
            go_simp
            with_reducible rfl
          rotate_left
          · simp only [Act.put, List.setIfInBounds_toArray, List.set_cons_zero, List.set_cons_succ, i64_w, i32_w]
            rfl
          refine pureQ (i := 19) (N := some 24) samphireref09_Stamp.Q20 (any_of HT_.out (by kernel_rfl)) ?_
          refine pureQ (i := 20) (N := some 25) samphireref09_Stamp.Q21 (any_of HT_.out (by kernel_rfl)) ?_
          refine pureQ (i := 21) (N := some 26) samphireref09_Stamp.Q22 (any_of HT_.out (by kernel_rfl)) ?_
          refine pureQ (i := 22) (N := some 27) samphireref09_Stamp.Q23 (any_of HT_.out (by kernel_rfl)) ?_
          refine take_ (i := 23) (N := some 28) (v := ?_) (a' := ?_) samphireref09_Stamp.Q24 rfl rfl (take_ofW HT_.out HW_.out (by kernel_rfl)) (fun _ _ _ h => h) (Or.inl ⟨by rfl, ?_⟩) hHeld ?_ ?_
          rotate_left
          · rintro w' ⟨s0, s1, s2, s3⟩
            go_simp
            with_reducible rfl
          rotate_left
          · simp only [Act.put, List.setIfInBounds_toArray, List.set_cons_zero, List.set_cons_succ, i64_w, i32_w]
            rfl
          refine pureQ (i := 24) (N := some 29) samphireref09_Stamp.Q25 (any_of HT_.out (by kernel_rfl)) ?_
          refine pureQ (i := 25) (N := some 30) samphireref09_Stamp.Q26 (any_of HT_.out (by kernel_rfl)) ?_
          refine one_ (i := 26) (N := some 31) samphireref09_Stamp.Q27 rfl rfl (one_of HT_.out (by kernel_rfl)) (by decide) (fun K hK => ?_)
          refine goes_ Tryd.func75 (by kernel_rfl) rfl #[.agg #[.string a0_0, .bool a0_1], .string (t281 ++ t282), .bool (decide (a1_1 ≤ 255))] (by rfl) rfl rfl Qm ?_
          with_reducible refine (samphireref09_with.calls a0_0 a0_1 (t281 ++ t282) (decide (a1_1 ≤ 255)) t283 t284 _ A9.out).mono ?_
          rintro e w16 ⟨rfl, hb⟩
          refine ⟨_, rfl, ?_⟩
          have n0_ := Aside0.mk (Qb BK278 hb)
          have n1_ := Aside0.mk (Qb BK279 hb)
          have n2_ := Aside0.mk (Qb BK280 hb)
          have n3_ := Aside0.mk (below_step Qh hb)
          clear BK278
          clear BK279
          clear BK280
          clear HB
          have BK278 := n0_
          have BK279 := n1_
          have BK280 := n2_
          have HB := n3_
          clear n0_ n1_ n2_ n3_
          (try clear hb)
          (try clear hb2)
          (try clear hk)
          (try clear hi)
          refine hK.out _ _ ⟨(blk_cell BK278.out 0).trans rfl, (blk_cell BK278.out 1).trans rfl, (blk_cell BK279.out 0).trans rfl, (blk_cell BK279.out 1).trans rfl⟩ (fun hHeld => ?_)
          clear hK K
          refine norm_ (a' := ?_) ?_ ?_
          rotate_left
          · show Act.put _ (some 31) _ = _
            simp only [Act.put, List.setIfInBounds_toArray, List.set_cons_zero, List.set_cons_succ, i64_w, i32_w]
            rfl
          refine one_ (i := 27) (N := none) samphireref09_Stamp.Q28 rfl rfl (one_of HT_.out (by kernel_rfl)) (by decide) (fun K hK => ?_)
          have hs17 : w16.cell? ⟨gb280, 0, none⟩ = some (.string (⟨#[]⟩ : ByteArray)) := (blk_cell BK280.out 0).trans rfl
          have hfs17 := blk_frozen BK280.out 0
          have hns17_0 := NB278_280.out
          have hns17_1 := NB279_280.out
          have hms17_0 := NB280_278.out
          have hms17_1 := NB280_279.out
          have hs18 : w16.cell? ⟨gb280, 1, none⟩ = some (.bool false) := (blk_cell BK280.out 1).trans rfl
          have hfs18 := blk_frozen BK280.out 1
          have hns18_0 := NB278_280.out
          have hns18_1 := NB279_280.out
          have hms18_0 := NB280_278.out
          have hms18_1 := NB280_279.out
          refine skip_ (w1 := ?_) (by rfl) rfl ?_ ?_
          rotate_left
          · go_simp
            rfl
          refine hK.out _ _ ⟨((cell_far (p := ⟨gb280, _, none⟩) NB278_280.out _).trans (((cell_far (p := ⟨gb280, _, none⟩) NB278_280.out _).trans (hHeld.1)))), ((cell_far (p := ⟨gb280, _, none⟩) NB278_280.out _).trans (((cell_far (p := ⟨gb280, _, none⟩) NB278_280.out _).trans (hHeld.2.1)))), ((cell_far (p := ⟨gb280, _, none⟩) NB279_280.out _).trans (((cell_far (p := ⟨gb280, _, none⟩) NB279_280.out _).trans (hHeld.2.2.1)))), ((cell_far (p := ⟨gb280, _, none⟩) NB279_280.out _).trans (((cell_far (p := ⟨gb280, _, none⟩) NB279_280.out _).trans (hHeld.2.2.2))))⟩ (fun hHeld => ?_)
          clear hK K
          refine done_ (done_of HT_.out (by kernel_rfl)) ?_
          try go_wp2
          refine bodyPost_ret (results_cell_row rfl _ _ gb280 60 #[.string t283, .bool t284] (0, 0) _ rfl Qk Tryd.underlying60 rfl (by kernel_rfl)) rfl ?_
          exact ⟨Qe, Qh⟩
        · rw [if_neg c8] at H
          have c8b0 : decide (0 ≤ a1_1) = false := decide_eq_false c8
          clear c8
          replace H := Option.bind_eq_some_iff.mp H
          obtain ⟨⟨t285, t286⟩, A190, H⟩ := H
          replace H : (some (t285, t286)) = some (r1, r2) := H
          have A19 := Aside0.mk A190
          clear A190
          simp only [Option.some.injEq, Prod.mk.injEq] at H
          obtain ⟨rfl, rfl⟩ := H
          go_enter Tryd.func42, Tryd.ntmps42
          try go_wp2_with (first | ((with_reducible refine gate_dst (N := 2) rfl ?_); refine boxQ (N := 2) (cs := #[.string a0_0, .bool a0_1]) (t := 60) ?_; intro gb278 hg w20 hbox hb; have n0_ := Aside0.mk (below_step Qh hb); have n1_ := Aside0.mk (hbox); have n2_ := Aside0.mk (Qs (w := w) hg); have n3_ := Aside0.mk (Qs (w := w) hg); clear HB; have HB := n0_; have BK278 := n1_; have GW278 := n2_; have GE278 := n3_; clear n0_ n1_ n2_ n3_; clear hb hbox hg) | ((with_reducible refine gate_dst (N := 3) rfl ?_); refine boxQ (N := 3) (cs := #[.int .i64 a1_0, .int .i64 a1_1]) (t := 23) ?_; intro gb279 hg w21 hbox hb; have n0_ := Aside0.mk (Qb BK278 hb); have n1_ := Aside0.mk (below_step Qh hb); have n2_ := Aside0.mk (hbox); have n3_ := Aside0.mk (Qs (w := w) hg); have n4_ := Aside0.mk (Qs (w := w) hg); have n5_ := Aside0.mk (Qn hg BK278); have n6_ := Aside0.mk (Qn hg BK278).symm; clear BK278; clear HB; have BK278 := n0_; have HB := n1_; have BK279 := n2_; have GW279 := n3_; have GE279 := n4_; have NB278_279 := n5_; have NB279_278 := n6_; clear n0_ n1_ n2_ n3_ n4_ n5_ n6_; clear hb hbox hg) | ((with_reducible refine gate_dst (N := 4) rfl ?_); refine boxQ (N := 4) (cs := #[.string (⟨#[]⟩ : ByteArray), .bool false]) (t := 60) ?_; intro gb280 hg w22 hbox hb; have n0_ := Aside0.mk (Qb BK278 hb); have n1_ := Aside0.mk (Qb BK279 hb); have n2_ := Aside0.mk (below_step Qh hb); have n3_ := Aside0.mk (hbox); have n4_ := Aside0.mk (Qs (w := w) hg); have n5_ := Aside0.mk (Qs (w := w) hg); have n6_ := Aside0.mk (Qn hg BK278); have n7_ := Aside0.mk (Qn hg BK278).symm; have n8_ := Aside0.mk (Qn hg BK279); have n9_ := Aside0.mk (Qn hg BK279).symm; clear BK278; clear BK279; clear HB; have BK278 := n0_; have BK279 := n1_; have HB := n2_; have BK280 := n3_; have GW280 := n4_; have GE280 := n5_; have NB278_280 := n6_; have NB280_278 := n7_; have NB279_280 := n8_; have NB280_279 := n9_; clear n0_ n1_ n2_ n3_ n4_ n5_ n6_ n7_ n8_ n9_; clear hb hbox hg))
          have n0_ := Aside0.mk (blk_drew BK278.out)
          have n1_ := Aside0.mk (blk_drew BK279.out)
          have n2_ := Aside0.mk (blk_drew BK280.out)
          have n3_ := Aside0.mk (below_drew1 HB.out)
          clear BK278
          clear BK279
          clear BK280
          clear HB
          have BK278 := n0_
          have BK279 := n1_
          have BK280 := n2_
          have HB := n3_
          clear n0_ n1_ n2_ n3_
          refine start_ (n := 28) (S := fun w' => w'.cell? ⟨gb278, 0, none⟩ = some (.string a0_0) ∧ w'.cell? ⟨gb278, 1, none⟩ = some (.bool a0_1) ∧ w'.cell? ⟨gb279, 0, none⟩ = some (.int .i64 a1_0) ∧ w'.cell? ⟨gb279, 1, none⟩ = some (.int .i64 a1_1)) (ds := []) samphireref09_Stamp.Q0 (by kernel_rfl) rfl rfl ⟨(blk_cell BK278.out 0).trans rfl, (blk_cell BK278.out 1).trans rfl, (blk_cell BK279.out 0).trans rfl, (blk_cell BK279.out 1).trans rfl⟩ (fun hHeld => ?_); refine with_tabW samphireref09_Stamp.tab1 samphireref09_Stamp.bits1 (fun HT_ HW_ => ?_)
          generalize w22.drew = w23 at BK278 BK279 BK280 HB hHeld ⊢
          refine pureQ (i := 1) (N := some 6) samphireref09_Stamp.Q1 (any_of HT_.out (by kernel_rfl)) ?_
          refine pureQ (i := 4) (N := some 9) samphireref09_Stamp.Q2 (any_of HT_.out (by kernel_rfl)) ?_
          refine pureQ (i := 8) (N := some 13) samphireref09_Stamp.Q3 (any_of HT_.out (by kernel_rfl)) ?_
          refine take_ (i := 0) (N := some 5) (v := ?_) (a' := ?_) samphireref09_Stamp.Q4 rfl rfl (take_ofW HT_.out HW_.out (by kernel_rfl)) (fun _ _ _ h => h) (Or.inl ⟨by rfl, ?_⟩) hHeld ?_ ?_
          rotate_left
          · rintro w' ⟨s0, s1, s2, s3⟩
            go_simp
            with_reducible rfl
          rotate_left
          · simp only [Act.put, List.setIfInBounds_toArray, List.set_cons_zero, List.set_cons_succ, i64_w, i32_w]
            rfl
          refine take_ (i := 2) (N := some 7) (v := ?_) (a' := ?_) samphireref09_Stamp.Q5 rfl rfl (take_ofW HT_.out HW_.out (by kernel_rfl)) (fun _ _ _ h => h) (Or.inl ⟨by rfl, ?_⟩) hHeld ?_ ?_
          rotate_left
          · rintro w' ⟨s0, s1, s2, s3⟩
            go_simp
            with_reducible rfl
          rotate_left
          · simp only [Act.put, List.setIfInBounds_toArray, List.set_cons_zero, List.set_cons_succ, i64_w, i32_w]
            rfl
          refine take_ (i := 5) (N := some 10) (v := ?_) (a' := ?_) samphireref09_Stamp.Q6 rfl rfl (take_ofW HT_.out HW_.out (by kernel_rfl)) (fun _ _ _ h => h) (Or.inl ⟨by rfl, ?_⟩) hHeld ?_ ?_
          rotate_left
          · rintro w' ⟨s0, s1, s2, s3⟩
            go_simp
            with_reducible rfl
          rotate_left
          · simp only [Act.put, List.setIfInBounds_toArray, List.set_cons_zero, List.set_cons_succ, i64_w, i32_w]
            rfl
          refine take_ (i := 9) (N := some 14) (v := ?_) (a' := ?_) samphireref09_Stamp.Q7 rfl rfl (take_ofW HT_.out HW_.out (by kernel_rfl)) (fun _ _ _ h => h) (Or.inl ⟨by rfl, ?_⟩) hHeld ?_ ?_
          rotate_left
          · rintro w' ⟨s0, s1, s2, s3⟩
            go_simp
            with_reducible rfl
          rotate_left
          · simp only [Act.put, List.setIfInBounds_toArray, List.set_cons_zero, List.set_cons_succ, i64_w, i32_w]
            rfl
          refine pureQ (i := 10) (N := some 15) samphireref09_Stamp.Q8 (any_of HT_.out (by kernel_rfl)) ?_
          refine one_ (i := 3) (N := some 8) samphireref09_Stamp.Q9 rfl rfl (one_of HT_.out (by kernel_rfl)) (by decide) (fun K hK => ?_)
          refine goes_ Tryd.func76 (by kernel_rfl) rfl #[.int .i64 a1_0, .int .i64 6] (by rfl) rfl rfl Qm ?_
          with_reducible refine (samphireref09_big.calls k a1_0 6 t281 _ A3.out).mono ?_
          rintro e w24 ⟨rfl, hb⟩
          refine ⟨_, rfl, ?_⟩
          have n0_ := Aside0.mk (Qb BK278 hb)
          have n1_ := Aside0.mk (Qb BK279 hb)
          have n2_ := Aside0.mk (Qb BK280 hb)
          have n3_ := Aside0.mk (below_step Qh hb)
          clear BK278
          clear BK279
          clear BK280
          clear HB
          have BK278 := n0_
          have BK279 := n1_
          have BK280 := n2_
          have HB := n3_
          clear n0_ n1_ n2_ n3_
          (try clear hb)
          (try clear hb2)
          (try clear hk)
          (try clear hi)
          refine hK.out _ _ ⟨(blk_cell BK278.out 0).trans rfl, (blk_cell BK278.out 1).trans rfl, (blk_cell BK279.out 0).trans rfl, (blk_cell BK279.out 1).trans rfl⟩ (fun hHeld => ?_)
          clear hK K
          refine norm_ (a' := ?_) ?_ ?_
          rotate_left
          · show Act.put _ (some 8) _ = _
            simp only [Act.put, List.setIfInBounds_toArray, List.set_cons_zero, List.set_cons_succ, i64_w, i32_w]
            rfl
          refine one_ (i := 6) (N := some 11) samphireref09_Stamp.Q10 rfl rfl (one_of HT_.out (by kernel_rfl)) (by decide) (fun K hK => ?_)
          refine goes_ Tryd.func76 (by kernel_rfl) rfl #[.int .i64 a1_1, .int .i64 1] (by rfl) rfl rfl Qm ?_
          with_reducible refine (samphireref09_big.calls k a1_1 1 t282 _ A4.out).mono ?_
          rintro e w25 ⟨rfl, hb⟩
          refine ⟨_, rfl, ?_⟩
          have n0_ := Aside0.mk (Qb BK278 hb)
          have n1_ := Aside0.mk (Qb BK279 hb)
          have n2_ := Aside0.mk (Qb BK280 hb)
          have n3_ := Aside0.mk (below_step Qh hb)
          clear BK278
          clear BK279
          clear BK280
          clear HB
          have BK278 := n0_
          have BK279 := n1_
          have BK280 := n2_
          have HB := n3_
          clear n0_ n1_ n2_ n3_
          (try clear hb)
          (try clear hb2)
          (try clear hk)
          (try clear hi)
          refine hK.out _ _ ⟨(blk_cell BK278.out 0).trans rfl, (blk_cell BK278.out 1).trans rfl, (blk_cell BK279.out 0).trans rfl, (blk_cell BK279.out 1).trans rfl⟩ (fun hHeld => ?_)
          clear hK K
          refine norm_ (a' := ?_) ?_ ?_
          rotate_left
          · show Act.put _ (some 11) _ = _
            simp only [Act.put, List.setIfInBounds_toArray, List.set_cons_zero, List.set_cons_succ, i64_w, i32_w]
            rfl
          refine pureQ (i := 7) (N := some 12) samphireref09_Stamp.Q11 (any_of HT_.out (by kernel_rfl)) ?_
          refine pureQ (i := 11) (N := some 16) samphireref09_Stamp.Q12 (any_of HT_.out (by kernel_rfl)) ?_
          refine pureQ (i := 12) (N := some 17) samphireref09_Stamp.Q13 (any_of HT_.out (by kernel_rfl)) ?_
          refine take_ (i := 13) (N := some 18) (v := ?_) (a' := ?_) samphireref09_Stamp.Q14 rfl rfl (take_ofW HT_.out HW_.out (by kernel_rfl)) (fun _ _ _ h => h) (Or.inl ⟨by rfl, ?_⟩) hHeld ?_ ?_
          rotate_left
          · rintro w' ⟨s0, s1, s2, s3⟩
            go_simp
            with_reducible rfl
          rotate_left
          · simp only [Act.put, List.setIfInBounds_toArray, List.set_cons_zero, List.set_cons_succ, i64_w, i32_w]
            rfl
          refine pureQ (i := 14) (N := some 19) samphireref09_Stamp.Q15 (any_of HT_.out (by kernel_rfl)) ?_
          refine pureQ (i := 15) (N := some 20) samphireref09_Stamp.Q16 (any_of HT_.out (by kernel_rfl)) ?_
          refine pureQ (i := 16) (N := some 21) samphireref09_Stamp.Q17 (any_of HT_.out (by kernel_rfl)) ?_
          refine pureQ (i := 17) (N := some 22) samphireref09_Stamp.Q18 (any_of HT_.out (by kernel_rfl)) ?_
          refine take_ (i := 18) (N := some 23) (v := ?_) (a' := ?_) samphireref09_Stamp.Q19 rfl rfl (take_ofW HT_.out HW_.out (by kernel_rfl)) (fun _ _ _ h => h) (Or.inl ⟨by rfl, ?_⟩) hHeld ?_ ?_
          rotate_left
          · rintro w' ⟨s0, s1, s2, s3⟩
            go_simp
            with_reducible rfl
          rotate_left
          · simp only [Act.put, List.setIfInBounds_toArray, List.set_cons_zero, List.set_cons_succ, i64_w, i32_w]
            rfl
          refine pureQ (i := 19) (N := some 24) samphireref09_Stamp.Q20 (any_of HT_.out (by kernel_rfl)) ?_
          refine pureQ (i := 20) (N := some 25) samphireref09_Stamp.Q21 (any_of HT_.out (by kernel_rfl)) ?_
          refine pureQ (i := 21) (N := some 26) samphireref09_Stamp.Q22 (any_of HT_.out (by kernel_rfl)) ?_
          refine pure_ (i := 22) (N := some 27) (v := undef) (a' := ?_) samphireref09_Stamp.Q23 rfl rfl (any_of HT_.out (by kernel_rfl)) (fun _ _ _ h => h) (Or.inr ⟨by rfl, rfl⟩) ?_ ?_
          rotate_left
          · simp only [Act.put, List.setIfInBounds_toArray, List.set_cons_zero, List.set_cons_succ, i64_w, i32_w]
            rfl
          refine pure_ (i := 23) (N := some 28) (v := undef) (a' := ?_) samphireref09_Stamp.Q24 rfl rfl (any_of HT_.out (by kernel_rfl)) (fun _ _ _ h => h) (Or.inr ⟨by rfl, rfl⟩) ?_ ?_
          rotate_left
          · simp only [Act.put, List.setIfInBounds_toArray, List.set_cons_zero, List.set_cons_succ, i64_w, i32_w]
            rfl
          refine pure_ (i := 24) (N := some 29) (v := undef) (a' := ?_) samphireref09_Stamp.Q25 rfl rfl (any_of HT_.out (by kernel_rfl)) (fun _ _ _ h => h) (Or.inr ⟨by rfl, rfl⟩) ?_ ?_
          rotate_left
          · simp only [Act.put, List.setIfInBounds_toArray, List.set_cons_zero, List.set_cons_succ, i64_w, i32_w]
            rfl
          refine pureQ (i := 25) (N := some 30) samphireref09_Stamp.Q26 (any_of HT_.out (by kernel_rfl)) ?_
          refine one_ (i := 26) (N := some 31) samphireref09_Stamp.Q27 rfl rfl (one_of HT_.out (by kernel_rfl)) (by decide) (fun K hK => ?_)
          refine goes_ Tryd.func75 (by kernel_rfl) rfl #[.agg #[.string a0_0, .bool a0_1], .string (t281 ++ t282), .bool false] (by rfl) rfl rfl Qm ?_
          with_reducible refine (samphireref09_with.calls a0_0 a0_1 (t281 ++ t282) false t285 t286 _ A19.out).mono ?_
          rintro e w26 ⟨rfl, hb⟩
          refine ⟨_, rfl, ?_⟩
          have n0_ := Aside0.mk (Qb BK278 hb)
          have n1_ := Aside0.mk (Qb BK279 hb)
          have n2_ := Aside0.mk (Qb BK280 hb)
          have n3_ := Aside0.mk (below_step Qh hb)
          clear BK278
          clear BK279
          clear BK280
          clear HB
          have BK278 := n0_
          have BK279 := n1_
          have BK280 := n2_
          have HB := n3_
          clear n0_ n1_ n2_ n3_
          (try clear hb)
          (try clear hb2)
          (try clear hk)
          (try clear hi)
          refine hK.out _ _ ⟨(blk_cell BK278.out 0).trans rfl, (blk_cell BK278.out 1).trans rfl, (blk_cell BK279.out 0).trans rfl, (blk_cell BK279.out 1).trans rfl⟩ (fun hHeld => ?_)
          clear hK K
          refine norm_ (a' := ?_) ?_ ?_
          rotate_left
          · show Act.put _ (some 31) _ = _
            simp only [Act.put, List.setIfInBounds_toArray, List.set_cons_zero, List.set_cons_succ, i64_w, i32_w]
            rfl
          refine one_ (i := 27) (N := none) samphireref09_Stamp.Q28 rfl rfl (one_of HT_.out (by kernel_rfl)) (by decide) (fun K hK => ?_)
          have hs27 : w26.cell? ⟨gb280, 0, none⟩ = some (.string (⟨#[]⟩ : ByteArray)) := (blk_cell BK280.out 0).trans rfl
          have hfs27 := blk_frozen BK280.out 0
          have hns27_0 := NB278_280.out
          have hns27_1 := NB279_280.out
          have hms27_0 := NB280_278.out
          have hms27_1 := NB280_279.out
          have hs28 : w26.cell? ⟨gb280, 1, none⟩ = some (.bool false) := (blk_cell BK280.out 1).trans rfl
          have hfs28 := blk_frozen BK280.out 1
          have hns28_0 := NB278_280.out
          have hns28_1 := NB279_280.out
          have hms28_0 := NB280_278.out
          have hms28_1 := NB280_279.out
          refine skip_ (w1 := ?_) (by rfl) rfl ?_ ?_
          rotate_left
          · go_simp
            rfl
          refine hK.out _ _ ⟨((cell_far (p := ⟨gb280, _, none⟩) NB278_280.out _).trans (((cell_far (p := ⟨gb280, _, none⟩) NB278_280.out _).trans (hHeld.1)))), ((cell_far (p := ⟨gb280, _, none⟩) NB278_280.out _).trans (((cell_far (p := ⟨gb280, _, none⟩) NB278_280.out _).trans (hHeld.2.1)))), ((cell_far (p := ⟨gb280, _, none⟩) NB279_280.out _).trans (((cell_far (p := ⟨gb280, _, none⟩) NB279_280.out _).trans (hHeld.2.2.1)))), ((cell_far (p := ⟨gb280, _, none⟩) NB279_280.out _).trans (((cell_far (p := ⟨gb280, _, none⟩) NB279_280.out _).trans (hHeld.2.2.2))))⟩ (fun hHeld => ?_)
          clear hK K
          refine done_ (done_of HT_.out (by kernel_rfl)) ?_
          try go_wp2
          refine bodyPost_ret (results_cell_row rfl _ _ gb280 60 #[.string t285, .bool t286] (0, 0) _ rfl Qk Tryd.underlying60 rfl (by kernel_rfl)) rfl ?_
          exact ⟨Qe, Qh⟩
      · rw [if_neg c7] at H
        have c7b0 : decide (a1_0 ≤ 1099511627775) = false := decide_eq_false c7
        clear c7
        replace H := Option.bind_eq_some_iff.mp H
        obtain ⟨⟨t287, t288⟩, A290, H⟩ := H
        replace H : (some (t287, t288)) = some (r1, r2) := H
        have A29 := Aside0.mk A290
        clear A290
        simp only [Option.some.injEq, Prod.mk.injEq] at H
        obtain ⟨rfl, rfl⟩ := H
        go_enter Tryd.func42, Tryd.ntmps42
        try go_wp2_with (first | ((with_reducible refine gate_dst (N := 2) rfl ?_); refine boxQ (N := 2) (cs := #[.string a0_0, .bool a0_1]) (t := 60) ?_; intro gb278 hg w30 hbox hb; have n0_ := Aside0.mk (below_step Qh hb); have n1_ := Aside0.mk (hbox); have n2_ := Aside0.mk (Qs (w := w) hg); have n3_ := Aside0.mk (Qs (w := w) hg); clear HB; have HB := n0_; have BK278 := n1_; have GW278 := n2_; have GE278 := n3_; clear n0_ n1_ n2_ n3_; clear hb hbox hg) | ((with_reducible refine gate_dst (N := 3) rfl ?_); refine boxQ (N := 3) (cs := #[.int .i64 a1_0, .int .i64 a1_1]) (t := 23) ?_; intro gb279 hg w31 hbox hb; have n0_ := Aside0.mk (Qb BK278 hb); have n1_ := Aside0.mk (below_step Qh hb); have n2_ := Aside0.mk (hbox); have n3_ := Aside0.mk (Qs (w := w) hg); have n4_ := Aside0.mk (Qs (w := w) hg); have n5_ := Aside0.mk (Qn hg BK278); have n6_ := Aside0.mk (Qn hg BK278).symm; clear BK278; clear HB; have BK278 := n0_; have HB := n1_; have BK279 := n2_; have GW279 := n3_; have GE279 := n4_; have NB278_279 := n5_; have NB279_278 := n6_; clear n0_ n1_ n2_ n3_ n4_ n5_ n6_; clear hb hbox hg) | ((with_reducible refine gate_dst (N := 4) rfl ?_); refine boxQ (N := 4) (cs := #[.string (⟨#[]⟩ : ByteArray), .bool false]) (t := 60) ?_; intro gb280 hg w32 hbox hb; have n0_ := Aside0.mk (Qb BK278 hb); have n1_ := Aside0.mk (Qb BK279 hb); have n2_ := Aside0.mk (below_step Qh hb); have n3_ := Aside0.mk (hbox); have n4_ := Aside0.mk (Qs (w := w) hg); have n5_ := Aside0.mk (Qs (w := w) hg); have n6_ := Aside0.mk (Qn hg BK278); have n7_ := Aside0.mk (Qn hg BK278).symm; have n8_ := Aside0.mk (Qn hg BK279); have n9_ := Aside0.mk (Qn hg BK279).symm; clear BK278; clear BK279; clear HB; have BK278 := n0_; have BK279 := n1_; have HB := n2_; have BK280 := n3_; have GW280 := n4_; have GE280 := n5_; have NB278_280 := n6_; have NB280_278 := n7_; have NB279_280 := n8_; have NB280_279 := n9_; clear n0_ n1_ n2_ n3_ n4_ n5_ n6_ n7_ n8_ n9_; clear hb hbox hg))
        have n0_ := Aside0.mk (blk_drew BK278.out)
        have n1_ := Aside0.mk (blk_drew BK279.out)
        have n2_ := Aside0.mk (blk_drew BK280.out)
        have n3_ := Aside0.mk (below_drew1 HB.out)
        clear BK278
        clear BK279
        clear BK280
        clear HB
        have BK278 := n0_
        have BK279 := n1_
        have BK280 := n2_
        have HB := n3_
        clear n0_ n1_ n2_ n3_
        refine start_ (n := 28) (S := fun w' => w'.cell? ⟨gb278, 0, none⟩ = some (.string a0_0) ∧ w'.cell? ⟨gb278, 1, none⟩ = some (.bool a0_1) ∧ w'.cell? ⟨gb279, 0, none⟩ = some (.int .i64 a1_0) ∧ w'.cell? ⟨gb279, 1, none⟩ = some (.int .i64 a1_1)) (ds := []) samphireref09_Stamp.Q0 (by kernel_rfl) rfl rfl ⟨(blk_cell BK278.out 0).trans rfl, (blk_cell BK278.out 1).trans rfl, (blk_cell BK279.out 0).trans rfl, (blk_cell BK279.out 1).trans rfl⟩ (fun hHeld => ?_); refine with_tabW samphireref09_Stamp.tab1 samphireref09_Stamp.bits1 (fun HT_ HW_ => ?_)
        generalize w32.drew = w33 at BK278 BK279 BK280 HB hHeld ⊢
        refine pureQ (i := 1) (N := some 6) samphireref09_Stamp.Q1 (any_of HT_.out (by kernel_rfl)) ?_
        refine pureQ (i := 4) (N := some 9) samphireref09_Stamp.Q2 (any_of HT_.out (by kernel_rfl)) ?_
        refine pureQ (i := 8) (N := some 13) samphireref09_Stamp.Q3 (any_of HT_.out (by kernel_rfl)) ?_
        refine take_ (i := 0) (N := some 5) (v := ?_) (a' := ?_) samphireref09_Stamp.Q4 rfl rfl (take_ofW HT_.out HW_.out (by kernel_rfl)) (fun _ _ _ h => h) (Or.inl ⟨by rfl, ?_⟩) hHeld ?_ ?_
        rotate_left
        · rintro w' ⟨s0, s1, s2, s3⟩
          go_simp
          with_reducible rfl
        rotate_left
        · simp only [Act.put, List.setIfInBounds_toArray, List.set_cons_zero, List.set_cons_succ, i64_w, i32_w]
          rfl
        refine take_ (i := 2) (N := some 7) (v := ?_) (a' := ?_) samphireref09_Stamp.Q5 rfl rfl (take_ofW HT_.out HW_.out (by kernel_rfl)) (fun _ _ _ h => h) (Or.inl ⟨by rfl, ?_⟩) hHeld ?_ ?_
        rotate_left
        · rintro w' ⟨s0, s1, s2, s3⟩
          go_simp
          with_reducible rfl
        rotate_left
        · simp only [Act.put, List.setIfInBounds_toArray, List.set_cons_zero, List.set_cons_succ, i64_w, i32_w]
          rfl
        refine take_ (i := 5) (N := some 10) (v := ?_) (a' := ?_) samphireref09_Stamp.Q6 rfl rfl (take_ofW HT_.out HW_.out (by kernel_rfl)) (fun _ _ _ h => h) (Or.inl ⟨by rfl, ?_⟩) hHeld ?_ ?_
        rotate_left
        · rintro w' ⟨s0, s1, s2, s3⟩
          go_simp
          with_reducible rfl
        rotate_left
        · simp only [Act.put, List.setIfInBounds_toArray, List.set_cons_zero, List.set_cons_succ, i64_w, i32_w]
          rfl
        refine take_ (i := 9) (N := some 14) (v := ?_) (a' := ?_) samphireref09_Stamp.Q7 rfl rfl (take_ofW HT_.out HW_.out (by kernel_rfl)) (fun _ _ _ h => h) (Or.inl ⟨by rfl, ?_⟩) hHeld ?_ ?_
        rotate_left
        · rintro w' ⟨s0, s1, s2, s3⟩
          go_simp
          with_reducible rfl
        rotate_left
        · simp only [Act.put, List.setIfInBounds_toArray, List.set_cons_zero, List.set_cons_succ, i64_w, i32_w]
          rfl
        refine pureQ (i := 10) (N := some 15) samphireref09_Stamp.Q8 (any_of HT_.out (by kernel_rfl)) ?_
        refine one_ (i := 3) (N := some 8) samphireref09_Stamp.Q9 rfl rfl (one_of HT_.out (by kernel_rfl)) (by decide) (fun K hK => ?_)
        refine goes_ Tryd.func76 (by kernel_rfl) rfl #[.int .i64 a1_0, .int .i64 6] (by rfl) rfl rfl Qm ?_
        with_reducible refine (samphireref09_big.calls k a1_0 6 t281 _ A3.out).mono ?_
        rintro e w34 ⟨rfl, hb⟩
        refine ⟨_, rfl, ?_⟩
        have n0_ := Aside0.mk (Qb BK278 hb)
        have n1_ := Aside0.mk (Qb BK279 hb)
        have n2_ := Aside0.mk (Qb BK280 hb)
        have n3_ := Aside0.mk (below_step Qh hb)
        clear BK278
        clear BK279
        clear BK280
        clear HB
        have BK278 := n0_
        have BK279 := n1_
        have BK280 := n2_
        have HB := n3_
        clear n0_ n1_ n2_ n3_
        (try clear hb)
        (try clear hb2)
        (try clear hk)
        (try clear hi)
        refine hK.out _ _ ⟨(blk_cell BK278.out 0).trans rfl, (blk_cell BK278.out 1).trans rfl, (blk_cell BK279.out 0).trans rfl, (blk_cell BK279.out 1).trans rfl⟩ (fun hHeld => ?_)
        clear hK K
        refine norm_ (a' := ?_) ?_ ?_
        rotate_left
        · show Act.put _ (some 8) _ = _
          simp only [Act.put, List.setIfInBounds_toArray, List.set_cons_zero, List.set_cons_succ, i64_w, i32_w]
          rfl
        refine one_ (i := 6) (N := some 11) samphireref09_Stamp.Q10 rfl rfl (one_of HT_.out (by kernel_rfl)) (by decide) (fun K hK => ?_)
        refine goes_ Tryd.func76 (by kernel_rfl) rfl #[.int .i64 a1_1, .int .i64 1] (by rfl) rfl rfl Qm ?_
        with_reducible refine (samphireref09_big.calls k a1_1 1 t282 _ A4.out).mono ?_
        rintro e w35 ⟨rfl, hb⟩
        refine ⟨_, rfl, ?_⟩
        have n0_ := Aside0.mk (Qb BK278 hb)
        have n1_ := Aside0.mk (Qb BK279 hb)
        have n2_ := Aside0.mk (Qb BK280 hb)
        have n3_ := Aside0.mk (below_step Qh hb)
        clear BK278
        clear BK279
        clear BK280
        clear HB
        have BK278 := n0_
        have BK279 := n1_
        have BK280 := n2_
        have HB := n3_
        clear n0_ n1_ n2_ n3_
        (try clear hb)
        (try clear hb2)
        (try clear hk)
        (try clear hi)
        refine hK.out _ _ ⟨(blk_cell BK278.out 0).trans rfl, (blk_cell BK278.out 1).trans rfl, (blk_cell BK279.out 0).trans rfl, (blk_cell BK279.out 1).trans rfl⟩ (fun hHeld => ?_)
        clear hK K
        refine norm_ (a' := ?_) ?_ ?_
        rotate_left
        · show Act.put _ (some 11) _ = _
          simp only [Act.put, List.setIfInBounds_toArray, List.set_cons_zero, List.set_cons_succ, i64_w, i32_w]
          rfl
        refine pureQ (i := 7) (N := some 12) samphireref09_Stamp.Q11 (any_of HT_.out (by kernel_rfl)) ?_
        refine pureQ (i := 11) (N := some 16) samphireref09_Stamp.Q12 (any_of HT_.out (by kernel_rfl)) ?_
        refine pureQ (i := 12) (N := some 17) samphireref09_Stamp.Q13 (any_of HT_.out (by kernel_rfl)) ?_
        refine take_ (i := 13) (N := some 18) (v := ?_) (a' := ?_) samphireref09_Stamp.Q14 rfl rfl (take_ofW HT_.out HW_.out (by kernel_rfl)) (fun _ _ _ h => h) (Or.inl ⟨by rfl, ?_⟩) hHeld ?_ ?_
        rotate_left
        · rintro w' ⟨s0, s1, s2, s3⟩
          go_simp
          with_reducible rfl
        rotate_left
        · simp only [Act.put, List.setIfInBounds_toArray, List.set_cons_zero, List.set_cons_succ, i64_w, i32_w]
          rfl
        refine pureQ (i := 14) (N := some 19) samphireref09_Stamp.Q15 (any_of HT_.out (by kernel_rfl)) ?_
        refine pureQ (i := 15) (N := some 20) samphireref09_Stamp.Q16 (any_of HT_.out (by kernel_rfl)) ?_
        refine pureQ (i := 16) (N := some 21) samphireref09_Stamp.Q17 (any_of HT_.out (by kernel_rfl)) ?_
        refine pure_ (i := 17) (N := some 22) (v := undef) (a' := ?_) samphireref09_Stamp.Q18 rfl rfl (any_of HT_.out (by kernel_rfl)) (fun _ _ _ h => h) (Or.inr ⟨by rfl, rfl⟩) ?_ ?_
        rotate_left
        · simp only [Act.put, List.setIfInBounds_toArray, List.set_cons_zero, List.set_cons_succ, i64_w, i32_w]
          rfl
        refine pure_ (i := 18) (N := some 23) (v := undef) (a' := ?_) samphireref09_Stamp.Q19 rfl rfl (any_of HT_.out (by kernel_rfl)) (fun _ _ _ h => h) (Or.inr ⟨by rfl, rfl⟩) ?_ ?_
        rotate_left
        · simp only [Act.put, List.setIfInBounds_toArray, List.set_cons_zero, List.set_cons_succ, i64_w, i32_w]
          rfl
        refine pure_ (i := 19) (N := some 24) (v := undef) (a' := ?_) samphireref09_Stamp.Q20 rfl rfl (any_of HT_.out (by kernel_rfl)) (fun _ _ _ h => h) (Or.inr ⟨by rfl, rfl⟩) ?_ ?_
        rotate_left
        · simp only [Act.put, List.setIfInBounds_toArray, List.set_cons_zero, List.set_cons_succ, i64_w, i32_w]
          rfl
        refine pureQ (i := 20) (N := some 25) samphireref09_Stamp.Q21 (any_of HT_.out (by kernel_rfl)) ?_
        refine pureQ (i := 21) (N := some 26) samphireref09_Stamp.Q22 (any_of HT_.out (by kernel_rfl)) ?_
        refine pure_ (i := 22) (N := some 27) (v := undef) (a' := ?_) samphireref09_Stamp.Q23 rfl rfl (any_of HT_.out (by kernel_rfl)) (fun _ _ _ h => h) (Or.inr ⟨by rfl, rfl⟩) ?_ ?_
        rotate_left
        · simp only [Act.put, List.setIfInBounds_toArray, List.set_cons_zero, List.set_cons_succ, i64_w, i32_w]
          rfl
        refine pure_ (i := 23) (N := some 28) (v := undef) (a' := ?_) samphireref09_Stamp.Q24 rfl rfl (any_of HT_.out (by kernel_rfl)) (fun _ _ _ h => h) (Or.inr ⟨by rfl, rfl⟩) ?_ ?_
        rotate_left
        · simp only [Act.put, List.setIfInBounds_toArray, List.set_cons_zero, List.set_cons_succ, i64_w, i32_w]
          rfl
        refine pure_ (i := 24) (N := some 29) (v := undef) (a' := ?_) samphireref09_Stamp.Q25 rfl rfl (any_of HT_.out (by kernel_rfl)) (fun _ _ _ h => h) (Or.inr ⟨by rfl, rfl⟩) ?_ ?_
        rotate_left
        · simp only [Act.put, List.setIfInBounds_toArray, List.set_cons_zero, List.set_cons_succ, i64_w, i32_w]
          rfl
        refine pureQ (i := 25) (N := some 30) samphireref09_Stamp.Q26 (any_of HT_.out (by kernel_rfl)) ?_
        refine one_ (i := 26) (N := some 31) samphireref09_Stamp.Q27 rfl rfl (one_of HT_.out (by kernel_rfl)) (by decide) (fun K hK => ?_)
        refine goes_ Tryd.func75 (by kernel_rfl) rfl #[.agg #[.string a0_0, .bool a0_1], .string (t281 ++ t282), .bool false] (by rfl) rfl rfl Qm ?_
        with_reducible refine (samphireref09_with.calls a0_0 a0_1 (t281 ++ t282) false t287 t288 _ A29.out).mono ?_
        rintro e w36 ⟨rfl, hb⟩
        refine ⟨_, rfl, ?_⟩
        have n0_ := Aside0.mk (Qb BK278 hb)
        have n1_ := Aside0.mk (Qb BK279 hb)
        have n2_ := Aside0.mk (Qb BK280 hb)
        have n3_ := Aside0.mk (below_step Qh hb)
        clear BK278
        clear BK279
        clear BK280
        clear HB
        have BK278 := n0_
        have BK279 := n1_
        have BK280 := n2_
        have HB := n3_
        clear n0_ n1_ n2_ n3_
        (try clear hb)
        (try clear hb2)
        (try clear hk)
        (try clear hi)
        refine hK.out _ _ ⟨(blk_cell BK278.out 0).trans rfl, (blk_cell BK278.out 1).trans rfl, (blk_cell BK279.out 0).trans rfl, (blk_cell BK279.out 1).trans rfl⟩ (fun hHeld => ?_)
        clear hK K
        refine norm_ (a' := ?_) ?_ ?_
        rotate_left
        · show Act.put _ (some 31) _ = _
          simp only [Act.put, List.setIfInBounds_toArray, List.set_cons_zero, List.set_cons_succ, i64_w, i32_w]
          rfl
        refine one_ (i := 27) (N := none) samphireref09_Stamp.Q28 rfl rfl (one_of HT_.out (by kernel_rfl)) (by decide) (fun K hK => ?_)
        have hs37 : w36.cell? ⟨gb280, 0, none⟩ = some (.string (⟨#[]⟩ : ByteArray)) := (blk_cell BK280.out 0).trans rfl
        have hfs37 := blk_frozen BK280.out 0
        have hns37_0 := NB278_280.out
        have hns37_1 := NB279_280.out
        have hms37_0 := NB280_278.out
        have hms37_1 := NB280_279.out
        have hs38 : w36.cell? ⟨gb280, 1, none⟩ = some (.bool false) := (blk_cell BK280.out 1).trans rfl
        have hfs38 := blk_frozen BK280.out 1
        have hns38_0 := NB278_280.out
        have hns38_1 := NB279_280.out
        have hms38_0 := NB280_278.out
        have hms38_1 := NB280_279.out
        refine skip_ (w1 := ?_) (by rfl) rfl ?_ ?_
        rotate_left
        · go_simp
          rfl
        refine hK.out _ _ ⟨((cell_far (p := ⟨gb280, _, none⟩) NB278_280.out _).trans (((cell_far (p := ⟨gb280, _, none⟩) NB278_280.out _).trans (hHeld.1)))), ((cell_far (p := ⟨gb280, _, none⟩) NB278_280.out _).trans (((cell_far (p := ⟨gb280, _, none⟩) NB278_280.out _).trans (hHeld.2.1)))), ((cell_far (p := ⟨gb280, _, none⟩) NB279_280.out _).trans (((cell_far (p := ⟨gb280, _, none⟩) NB279_280.out _).trans (hHeld.2.2.1)))), ((cell_far (p := ⟨gb280, _, none⟩) NB279_280.out _).trans (((cell_far (p := ⟨gb280, _, none⟩) NB279_280.out _).trans (hHeld.2.2.2))))⟩ (fun hHeld => ?_)
        clear hK K
        refine done_ (done_of HT_.out (by kernel_rfl)) ?_
        try go_wp2
        refine bodyPost_ret (results_cell_row rfl _ _ gb280 60 #[.string t287, .bool t288] (0, 0) _ rfl Qk Tryd.underlying60 rfl (by kernel_rfl)) rfl ?_
        exact ⟨Qe, Qh⟩
    · rw [if_neg c6] at H
      have c6b0 : decide (0 ≤ a1_0) = false := decide_eq_false c6
      clear c6
      replace H := Option.bind_eq_some_iff.mp H
      obtain ⟨⟨t289, t290⟩, A390, H⟩ := H
      replace H : (some (t289, t290)) = some (r1, r2) := H
      have A39 := Aside0.mk A390
      clear A390
      simp only [Option.some.injEq, Prod.mk.injEq] at H
      obtain ⟨rfl, rfl⟩ := H
      go_enter Tryd.func42, Tryd.ntmps42
      try go_wp2_with (first | ((with_reducible refine gate_dst (N := 2) rfl ?_); refine boxQ (N := 2) (cs := #[.string a0_0, .bool a0_1]) (t := 60) ?_; intro gb278 hg w40 hbox hb; have n0_ := Aside0.mk (below_step Qh hb); have n1_ := Aside0.mk (hbox); have n2_ := Aside0.mk (Qs (w := w) hg); have n3_ := Aside0.mk (Qs (w := w) hg); clear HB; have HB := n0_; have BK278 := n1_; have GW278 := n2_; have GE278 := n3_; clear n0_ n1_ n2_ n3_; clear hb hbox hg) | ((with_reducible refine gate_dst (N := 3) rfl ?_); refine boxQ (N := 3) (cs := #[.int .i64 a1_0, .int .i64 a1_1]) (t := 23) ?_; intro gb279 hg w41 hbox hb; have n0_ := Aside0.mk (Qb BK278 hb); have n1_ := Aside0.mk (below_step Qh hb); have n2_ := Aside0.mk (hbox); have n3_ := Aside0.mk (Qs (w := w) hg); have n4_ := Aside0.mk (Qs (w := w) hg); have n5_ := Aside0.mk (Qn hg BK278); have n6_ := Aside0.mk (Qn hg BK278).symm; clear BK278; clear HB; have BK278 := n0_; have HB := n1_; have BK279 := n2_; have GW279 := n3_; have GE279 := n4_; have NB278_279 := n5_; have NB279_278 := n6_; clear n0_ n1_ n2_ n3_ n4_ n5_ n6_; clear hb hbox hg) | ((with_reducible refine gate_dst (N := 4) rfl ?_); refine boxQ (N := 4) (cs := #[.string (⟨#[]⟩ : ByteArray), .bool false]) (t := 60) ?_; intro gb280 hg w42 hbox hb; have n0_ := Aside0.mk (Qb BK278 hb); have n1_ := Aside0.mk (Qb BK279 hb); have n2_ := Aside0.mk (below_step Qh hb); have n3_ := Aside0.mk (hbox); have n4_ := Aside0.mk (Qs (w := w) hg); have n5_ := Aside0.mk (Qs (w := w) hg); have n6_ := Aside0.mk (Qn hg BK278); have n7_ := Aside0.mk (Qn hg BK278).symm; have n8_ := Aside0.mk (Qn hg BK279); have n9_ := Aside0.mk (Qn hg BK279).symm; clear BK278; clear BK279; clear HB; have BK278 := n0_; have BK279 := n1_; have HB := n2_; have BK280 := n3_; have GW280 := n4_; have GE280 := n5_; have NB278_280 := n6_; have NB280_278 := n7_; have NB279_280 := n8_; have NB280_279 := n9_; clear n0_ n1_ n2_ n3_ n4_ n5_ n6_ n7_ n8_ n9_; clear hb hbox hg))
      have n0_ := Aside0.mk (blk_drew BK278.out)
      have n1_ := Aside0.mk (blk_drew BK279.out)
      have n2_ := Aside0.mk (blk_drew BK280.out)
      have n3_ := Aside0.mk (below_drew1 HB.out)
      clear BK278
      clear BK279
      clear BK280
      clear HB
      have BK278 := n0_
      have BK279 := n1_
      have BK280 := n2_
      have HB := n3_
      clear n0_ n1_ n2_ n3_
      refine start_ (n := 28) (S := fun w' => w'.cell? ⟨gb278, 0, none⟩ = some (.string a0_0) ∧ w'.cell? ⟨gb278, 1, none⟩ = some (.bool a0_1) ∧ w'.cell? ⟨gb279, 0, none⟩ = some (.int .i64 a1_0) ∧ w'.cell? ⟨gb279, 1, none⟩ = some (.int .i64 a1_1)) (ds := []) samphireref09_Stamp.Q0 (by kernel_rfl) rfl rfl ⟨(blk_cell BK278.out 0).trans rfl, (blk_cell BK278.out 1).trans rfl, (blk_cell BK279.out 0).trans rfl, (blk_cell BK279.out 1).trans rfl⟩ (fun hHeld => ?_); refine with_tabW samphireref09_Stamp.tab1 samphireref09_Stamp.bits1 (fun HT_ HW_ => ?_)
      generalize w42.drew = w43 at BK278 BK279 BK280 HB hHeld ⊢
      refine pureQ (i := 1) (N := some 6) samphireref09_Stamp.Q1 (any_of HT_.out (by kernel_rfl)) ?_
      refine pureQ (i := 4) (N := some 9) samphireref09_Stamp.Q2 (any_of HT_.out (by kernel_rfl)) ?_
      refine pureQ (i := 8) (N := some 13) samphireref09_Stamp.Q3 (any_of HT_.out (by kernel_rfl)) ?_
      refine take_ (i := 0) (N := some 5) (v := ?_) (a' := ?_) samphireref09_Stamp.Q4 rfl rfl (take_ofW HT_.out HW_.out (by kernel_rfl)) (fun _ _ _ h => h) (Or.inl ⟨by rfl, ?_⟩) hHeld ?_ ?_
      rotate_left
      · rintro w' ⟨s0, s1, s2, s3⟩
        go_simp
        with_reducible rfl
      rotate_left
      · simp only [Act.put, List.setIfInBounds_toArray, List.set_cons_zero, List.set_cons_succ, i64_w, i32_w]
        rfl
      refine take_ (i := 2) (N := some 7) (v := ?_) (a' := ?_) samphireref09_Stamp.Q5 rfl rfl (take_ofW HT_.out HW_.out (by kernel_rfl)) (fun _ _ _ h => h) (Or.inl ⟨by rfl, ?_⟩) hHeld ?_ ?_
      rotate_left
      · rintro w' ⟨s0, s1, s2, s3⟩
        go_simp
        with_reducible rfl
      rotate_left
      · simp only [Act.put, List.setIfInBounds_toArray, List.set_cons_zero, List.set_cons_succ, i64_w, i32_w]
        rfl
      refine take_ (i := 5) (N := some 10) (v := ?_) (a' := ?_) samphireref09_Stamp.Q6 rfl rfl (take_ofW HT_.out HW_.out (by kernel_rfl)) (fun _ _ _ h => h) (Or.inl ⟨by rfl, ?_⟩) hHeld ?_ ?_
      rotate_left
      · rintro w' ⟨s0, s1, s2, s3⟩
        go_simp
        with_reducible rfl
      rotate_left
      · simp only [Act.put, List.setIfInBounds_toArray, List.set_cons_zero, List.set_cons_succ, i64_w, i32_w]
        rfl
      refine take_ (i := 9) (N := some 14) (v := ?_) (a' := ?_) samphireref09_Stamp.Q7 rfl rfl (take_ofW HT_.out HW_.out (by kernel_rfl)) (fun _ _ _ h => h) (Or.inl ⟨by rfl, ?_⟩) hHeld ?_ ?_
      rotate_left
      · rintro w' ⟨s0, s1, s2, s3⟩
        go_simp
        with_reducible rfl
      rotate_left
      · simp only [Act.put, List.setIfInBounds_toArray, List.set_cons_zero, List.set_cons_succ, i64_w, i32_w]
        rfl
      refine pureQ (i := 10) (N := some 15) samphireref09_Stamp.Q8 (any_of HT_.out (by kernel_rfl)) ?_
      refine one_ (i := 3) (N := some 8) samphireref09_Stamp.Q9 rfl rfl (one_of HT_.out (by kernel_rfl)) (by decide) (fun K hK => ?_)
      refine goes_ Tryd.func76 (by kernel_rfl) rfl #[.int .i64 a1_0, .int .i64 6] (by rfl) rfl rfl Qm ?_
      with_reducible refine (samphireref09_big.calls k a1_0 6 t281 _ A3.out).mono ?_
      rintro e w44 ⟨rfl, hb⟩
      refine ⟨_, rfl, ?_⟩
      have n0_ := Aside0.mk (Qb BK278 hb)
      have n1_ := Aside0.mk (Qb BK279 hb)
      have n2_ := Aside0.mk (Qb BK280 hb)
      have n3_ := Aside0.mk (below_step Qh hb)
      clear BK278
      clear BK279
      clear BK280
      clear HB
      have BK278 := n0_
      have BK279 := n1_
      have BK280 := n2_
      have HB := n3_
      clear n0_ n1_ n2_ n3_
      (try clear hb)
      (try clear hb2)
      (try clear hk)
      (try clear hi)
      refine hK.out _ _ ⟨(blk_cell BK278.out 0).trans rfl, (blk_cell BK278.out 1).trans rfl, (blk_cell BK279.out 0).trans rfl, (blk_cell BK279.out 1).trans rfl⟩ (fun hHeld => ?_)
      clear hK K
      refine norm_ (a' := ?_) ?_ ?_
      rotate_left
      · show Act.put _ (some 8) _ = _
        simp only [Act.put, List.setIfInBounds_toArray, List.set_cons_zero, List.set_cons_succ, i64_w, i32_w]
        rfl
      refine one_ (i := 6) (N := some 11) samphireref09_Stamp.Q10 rfl rfl (one_of HT_.out (by kernel_rfl)) (by decide) (fun K hK => ?_)
      refine goes_ Tryd.func76 (by kernel_rfl) rfl #[.int .i64 a1_1, .int .i64 1] (by rfl) rfl rfl Qm ?_
      with_reducible refine (samphireref09_big.calls k a1_1 1 t282 _ A4.out).mono ?_
      rintro e w45 ⟨rfl, hb⟩
      refine ⟨_, rfl, ?_⟩
      have n0_ := Aside0.mk (Qb BK278 hb)
      have n1_ := Aside0.mk (Qb BK279 hb)
      have n2_ := Aside0.mk (Qb BK280 hb)
      have n3_ := Aside0.mk (below_step Qh hb)
      clear BK278
      clear BK279
      clear BK280
      clear HB
      have BK278 := n0_
      have BK279 := n1_
      have BK280 := n2_
      have HB := n3_
      clear n0_ n1_ n2_ n3_
      (try clear hb)
      (try clear hb2)
      (try clear hk)
      (try clear hi)
      refine hK.out _ _ ⟨(blk_cell BK278.out 0).trans rfl, (blk_cell BK278.out 1).trans rfl, (blk_cell BK279.out 0).trans rfl, (blk_cell BK279.out 1).trans rfl⟩ (fun hHeld => ?_)
      clear hK K
      refine norm_ (a' := ?_) ?_ ?_
      rotate_left
      · show Act.put _ (some 11) _ = _
        simp only [Act.put, List.setIfInBounds_toArray, List.set_cons_zero, List.set_cons_succ, i64_w, i32_w]
        rfl
      refine pureQ (i := 7) (N := some 12) samphireref09_Stamp.Q11 (any_of HT_.out (by kernel_rfl)) ?_
      refine pureQ (i := 11) (N := some 16) samphireref09_Stamp.Q12 (any_of HT_.out (by kernel_rfl)) ?_
      refine pure_ (i := 12) (N := some 17) (v := undef) (a' := ?_) samphireref09_Stamp.Q13 rfl rfl (any_of HT_.out (by kernel_rfl)) (fun _ _ _ h => h) (Or.inr ⟨by rfl, rfl⟩) ?_ ?_
      rotate_left
      · simp only [Act.put, List.setIfInBounds_toArray, List.set_cons_zero, List.set_cons_succ, i64_w, i32_w]
        rfl
      refine pure_ (i := 13) (N := some 18) (v := undef) (a' := ?_) samphireref09_Stamp.Q14 rfl rfl (any_of HT_.out (by kernel_rfl)) (fun _ _ _ h => h) (Or.inr ⟨by rfl, rfl⟩) ?_ ?_
      rotate_left
      · simp only [Act.put, List.setIfInBounds_toArray, List.set_cons_zero, List.set_cons_succ, i64_w, i32_w]
        rfl
      refine pure_ (i := 14) (N := some 19) (v := undef) (a' := ?_) samphireref09_Stamp.Q15 rfl rfl (any_of HT_.out (by kernel_rfl)) (fun _ _ _ h => h) (Or.inr ⟨by rfl, rfl⟩) ?_ ?_
      rotate_left
      · simp only [Act.put, List.setIfInBounds_toArray, List.set_cons_zero, List.set_cons_succ, i64_w, i32_w]
        rfl
      refine pureQ (i := 15) (N := some 20) samphireref09_Stamp.Q16 (any_of HT_.out (by kernel_rfl)) ?_
      refine pureQ (i := 16) (N := some 21) samphireref09_Stamp.Q17 (any_of HT_.out (by kernel_rfl)) ?_
      refine pure_ (i := 17) (N := some 22) (v := undef) (a' := ?_) samphireref09_Stamp.Q18 rfl rfl (any_of HT_.out (by kernel_rfl)) (fun _ _ _ h => h) (Or.inr ⟨by rfl, rfl⟩) ?_ ?_
      rotate_left
      · simp only [Act.put, List.setIfInBounds_toArray, List.set_cons_zero, List.set_cons_succ, i64_w, i32_w]
        rfl
      refine pure_ (i := 18) (N := some 23) (v := undef) (a' := ?_) samphireref09_Stamp.Q19 rfl rfl (any_of HT_.out (by kernel_rfl)) (fun _ _ _ h => h) (Or.inr ⟨by rfl, rfl⟩) ?_ ?_
      rotate_left
      · simp only [Act.put, List.setIfInBounds_toArray, List.set_cons_zero, List.set_cons_succ, i64_w, i32_w]
        rfl
      refine pure_ (i := 19) (N := some 24) (v := undef) (a' := ?_) samphireref09_Stamp.Q20 rfl rfl (any_of HT_.out (by kernel_rfl)) (fun _ _ _ h => h) (Or.inr ⟨by rfl, rfl⟩) ?_ ?_
      rotate_left
      · simp only [Act.put, List.setIfInBounds_toArray, List.set_cons_zero, List.set_cons_succ, i64_w, i32_w]
        rfl
      refine pureQ (i := 20) (N := some 25) samphireref09_Stamp.Q21 (any_of HT_.out (by kernel_rfl)) ?_
      refine pureQ (i := 21) (N := some 26) samphireref09_Stamp.Q22 (any_of HT_.out (by kernel_rfl)) ?_
      refine pure_ (i := 22) (N := some 27) (v := undef) (a' := ?_) samphireref09_Stamp.Q23 rfl rfl (any_of HT_.out (by kernel_rfl)) (fun _ _ _ h => h) (Or.inr ⟨by rfl, rfl⟩) ?_ ?_
      rotate_left
      · simp only [Act.put, List.setIfInBounds_toArray, List.set_cons_zero, List.set_cons_succ, i64_w, i32_w]
        rfl
      refine pure_ (i := 23) (N := some 28) (v := undef) (a' := ?_) samphireref09_Stamp.Q24 rfl rfl (any_of HT_.out (by kernel_rfl)) (fun _ _ _ h => h) (Or.inr ⟨by rfl, rfl⟩) ?_ ?_
      rotate_left
      · simp only [Act.put, List.setIfInBounds_toArray, List.set_cons_zero, List.set_cons_succ, i64_w, i32_w]
        rfl
      refine pure_ (i := 24) (N := some 29) (v := undef) (a' := ?_) samphireref09_Stamp.Q25 rfl rfl (any_of HT_.out (by kernel_rfl)) (fun _ _ _ h => h) (Or.inr ⟨by rfl, rfl⟩) ?_ ?_
      rotate_left
      · simp only [Act.put, List.setIfInBounds_toArray, List.set_cons_zero, List.set_cons_succ, i64_w, i32_w]
        rfl
      refine pureQ (i := 25) (N := some 30) samphireref09_Stamp.Q26 (any_of HT_.out (by kernel_rfl)) ?_
      refine one_ (i := 26) (N := some 31) samphireref09_Stamp.Q27 rfl rfl (one_of HT_.out (by kernel_rfl)) (by decide) (fun K hK => ?_)
      refine goes_ Tryd.func75 (by kernel_rfl) rfl #[.agg #[.string a0_0, .bool a0_1], .string (t281 ++ t282), .bool false] (by rfl) rfl rfl Qm ?_
      with_reducible refine (samphireref09_with.calls a0_0 a0_1 (t281 ++ t282) false t289 t290 _ A39.out).mono ?_
      rintro e w46 ⟨rfl, hb⟩
      refine ⟨_, rfl, ?_⟩
      have n0_ := Aside0.mk (Qb BK278 hb)
      have n1_ := Aside0.mk (Qb BK279 hb)
      have n2_ := Aside0.mk (Qb BK280 hb)
      have n3_ := Aside0.mk (below_step Qh hb)
      clear BK278
      clear BK279
      clear BK280
      clear HB
      have BK278 := n0_
      have BK279 := n1_
      have BK280 := n2_
      have HB := n3_
      clear n0_ n1_ n2_ n3_
      (try clear hb)
      (try clear hb2)
      (try clear hk)
      (try clear hi)
      refine hK.out _ _ ⟨(blk_cell BK278.out 0).trans rfl, (blk_cell BK278.out 1).trans rfl, (blk_cell BK279.out 0).trans rfl, (blk_cell BK279.out 1).trans rfl⟩ (fun hHeld => ?_)
      clear hK K
      refine norm_ (a' := ?_) ?_ ?_
      rotate_left
      · show Act.put _ (some 31) _ = _
        simp only [Act.put, List.setIfInBounds_toArray, List.set_cons_zero, List.set_cons_succ, i64_w, i32_w]
        rfl
      refine one_ (i := 27) (N := none) samphireref09_Stamp.Q28 rfl rfl (one_of HT_.out (by kernel_rfl)) (by decide) (fun K hK => ?_)
      have hs47 : w46.cell? ⟨gb280, 0, none⟩ = some (.string (⟨#[]⟩ : ByteArray)) := (blk_cell BK280.out 0).trans rfl
      have hfs47 := blk_frozen BK280.out 0
      have hns47_0 := NB278_280.out
      have hns47_1 := NB279_280.out
      have hms47_0 := NB280_278.out
      have hms47_1 := NB280_279.out
      have hs48 : w46.cell? ⟨gb280, 1, none⟩ = some (.bool false) := (blk_cell BK280.out 1).trans rfl
      have hfs48 := blk_frozen BK280.out 1
      have hns48_0 := NB278_280.out
      have hns48_1 := NB279_280.out
      have hms48_0 := NB280_278.out
      have hms48_1 := NB280_279.out
      refine skip_ (w1 := ?_) (by rfl) rfl ?_ ?_
      rotate_left
      · go_simp
        rfl
      refine hK.out _ _ ⟨((cell_far (p := ⟨gb280, _, none⟩) NB278_280.out _).trans (((cell_far (p := ⟨gb280, _, none⟩) NB278_280.out _).trans (hHeld.1)))), ((cell_far (p := ⟨gb280, _, none⟩) NB278_280.out _).trans (((cell_far (p := ⟨gb280, _, none⟩) NB278_280.out _).trans (hHeld.2.1)))), ((cell_far (p := ⟨gb280, _, none⟩) NB279_280.out _).trans (((cell_far (p := ⟨gb280, _, none⟩) NB279_280.out _).trans (hHeld.2.2.1)))), ((cell_far (p := ⟨gb280, _, none⟩) NB279_280.out _).trans (((cell_far (p := ⟨gb280, _, none⟩) NB279_280.out _).trans (hHeld.2.2.2))))⟩ (fun hHeld => ?_)
      clear hK K
      refine done_ (done_of HT_.out (by kernel_rfl)) ?_
      try go_wp2
      refine bodyPost_ret (results_cell_row rfl _ _ gb280 60 #[.string t289, .bool t290] (0, 0) _ rfl Qk Tryd.underlying60 rfl (by kernel_rfl)) rfl ?_
      exact ⟨Qe, Qh⟩
  · rw [if_neg c5] at H
    exact absurd H (by simp)

end Go.Proofs.YtmogpfhhmekbiaaDoor.S
