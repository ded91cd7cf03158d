/- Functions of the translation as plain Lean functions, and that each call comes to what they say: for every argument. Written by a program of this session's own; Lean checks it. -/
import Derived.Test.YtmogpfhhmekbiaaDoorSx0
import Derived.Test.YtmogpfhhmekbiaaDoorQa
import Derived.Test.YtmogpfhhmekbiaaDoorSx12
namespace Go.Proofs.YtmogpfhhmekbiaaDoor.S
open Go.RowKit Go.Proofs.YtmogpfhhmekbiaaDoorW.PrintWords Go.Proofs.YtmogpfhhmekbiaaDoorW.PrintLast
set_option linter.unusedVariables false
set_option linter.unusedSimpArgs false

/-! ### samphireref09_number: function 81 -/
mutual
def samphireref09_number.j0 : Nat → Int → Bool → ByteArray → Int → Option (ByteArray × Int × Int)
  | 0, _, _, _, _ => none
  | k + 1, x1, x17, x329000, x329001 => if x17 = true then ((samphireref09_wrong.f x329000 x329001 90).bind fun bt330 => (some (bt330.1, bt330.2, 0))) else (samphireref09_number.l0 k x1 0 0 x329000 x329001)
def samphireref09_number.l0 : Nat → Int → Int → Int → ByteArray → Int → Option (ByteArray × Int × Int)
  | 0, _, _, _, _, _ => none
  | k + 1, x1, x6, x7, x329000, x329001 => if x7 < x1 then (if 0 ≤ x7 then (if x7 < (x329000.size : Int) then (samphireref09_number.l0 k x1 (Go.bits .or .i64 (wrap64 (x6 * 256)) (wrap64 (bt x329000 x7))) (wrap64 (x7 + 1)) x329000 x329001) else (none)) else (none)) else (if 0 ≤ x1 then (if x1 ≤ (x329000.size : Int) then (some (x329000.extract (x1 : Int).toNat x329000.size, x329001, x6)) else (none)) else (none))
end
def samphireref09_number.f (k : Nat) (a0_0 : ByteArray) (a0_1 : Int) (a1 : Int) : Option (ByteArray × Int × Int) := if a0_1 = 0 then (samphireref09_number.j0 k a1 (decide ((a0_0.size : Int) < a1)) a0_0 a0_1) else (samphireref09_number.j0 k a1 true a0_0 a0_1)
theorem samphireref09_number.mono_l : ∀ k, (∀ y0 y1 y2 y3, LeO (samphireref09_number.j0 k y0 y1 y2 y3) (samphireref09_number.j0 (k + 1) y0 y1 y2 y3)) ∧ (∀ y0 y1 y2 y3 y4, LeO (samphireref09_number.l0 k y0 y1 y2 y3 y4) (samphireref09_number.l0 (k + 1) y0 y1 y2 y3 y4))
  | 0 => ⟨fun _ _ _ _ r h => by simp [samphireref09_number.j0] at h, fun _ _ _ _ _ r h => by simp [samphireref09_number.l0] at h⟩
  | k + 1 => by
    obtain ⟨ih0, ih1⟩ := samphireref09_number.mono_l k
    refine ⟨?_, ?_⟩
    · intro y0 y1 y2 y3
      unfold samphireref09_number.j0
      repeat' first
      | (with_reducible exact ih0 _ _ _ _)
      | (with_reducible exact ih1 _ _ _ _ _)
      | (with_reducible exact LeO.refl _)
      | (with_reducible exact LeO.none _)
      | (with_reducible refine LeO.ite ?_ ?_)
      | (with_reducible refine LeO.bind ?_ (fun _ => ?_))
      | exact ih0 _ _ _ _
      | exact ih1 _ _ _ _ _
      | exact LeO.none _
      | refine LeO.ite ?_ ?_
      | refine LeO.bind ?_ (fun _ => ?_)
    · intro y0 y1 y2 y3 y4
      unfold samphireref09_number.l0
      repeat' first
      | (with_reducible exact ih0 _ _ _ _)
      | (with_reducible exact ih1 _ _ _ _ _)
      | (with_reducible exact LeO.refl _)
      | (with_reducible exact LeO.none _)
      | (with_reducible refine LeO.ite ?_ ?_)
      | (with_reducible refine LeO.bind ?_ (fun _ => ?_))
      | exact ih0 _ _ _ _
      | exact ih1 _ _ _ _ _
      | exact LeO.none _
      | refine LeO.ite ?_ ?_
      | refine LeO.bind ?_ (fun _ => ?_)
theorem samphireref09_number.mono : ∀ a0 a1 a2 k, LeO (samphireref09_number.f k a0 a1 a2) (samphireref09_number.f (k + 1) a0 a1 a2) := by
  intro a0 a1 a2 k
  obtain ⟨ih0, ih1⟩ := samphireref09_number.mono_l k
  unfold samphireref09_number.f
  repeat' first
      | (with_reducible exact ih0 _ _ _ _)
      | (with_reducible exact ih1 _ _ _ _ _)
      | (with_reducible exact LeO.refl _)
      | (with_reducible exact LeO.none _)
      | (with_reducible refine LeO.ite ?_ ?_)
      | (with_reducible refine LeO.bind ?_ (fun _ => ?_))
      | exact ih0 _ _ _ _
      | exact ih1 _ _ _ _ _
      | exact LeO.none _
      | refine LeO.ite ?_ ?_
      | refine LeO.bind ?_ (fun _ => ?_)
set_option maxHeartbeats 8000000 in
set_option maxRecDepth 100000 in
theorem samphireref09_number.calls (k : Nat) (a0_0 : ByteArray) (a0_1 : Int) (a1 : Int) (r1 : ByteArray) (r2 : Int) (r3 : Int) (w : World) (h : samphireref09_number.f k a0_0 a0_1 a1 = some (r1, r2, r3)) :
    Calls Tryd.prog 81 #[.agg #[.string a0_0, .int .i64 a0_1], .int .i64 a1] w fun e w' => e = .returned (.tuple #[.agg #[.string r1, .int .i64 r2], .int .i64 r3]) ∧ Below w.heap.size w w' := by
  have hu67 := Tryd.underlying67
  have HB := Aside0.mk (Below.refl w.heap.size w)
  have H : (if a0_1 = 0 then (samphireref09_number.j0 k a1 (decide ((a0_0.size : Int) < a1)) a0_0 a0_1) else (samphireref09_number.j0 k a1 true a0_0 a0_1)) = some (r1, r2, r3) := h
  clear h
  have HC3 := Aside0.mk H
  clear H
  go_enter Tryd.func81, Tryd.ntmps81
  go_upto_region 1 with (first | ((with_reducible refine gate_dst (N := 2) rfl ?_); (try (refine gate_guard (by rfl) ?_; dsimp only)); refine boxQ (N := 2) (cs := #[.string a0_0, .int .i64 a0_1]) (t := 67) ?_; intro gb328 hg w4 hbox hb; have n0_ := Aside0.mk (below_step Qh hb); have n1_ := Aside0.mk (hbox); have n2_ := Aside0.mk (Qs (w := w) hg); have n3_ := Aside0.mk (Qs (w := w) hg); clear HB; have HB := n0_; have BK328 := n1_; have GW328 := n2_; have GE328 := n3_; clear n0_ n1_ n2_ n3_; clear hb hbox hg) | ((with_reducible refine gate_dst (N := 4) rfl ?_); (try (refine gate_guard (by rfl) ?_; dsimp only)); refine boxQ (N := 4) (cs := #[.string (⟨#[]⟩ : ByteArray), .int .i64 0]) (t := 67) ?_; intro gb329 hg w5 hbox hb; have n0_ := Aside0.mk (Qb BK328 hb); have n1_ := Aside0.mk (below_step Qh hb); have n2_ := Aside0.mk (hbox); have n3_ := Aside0.mk (Qs (w := w) hg); have n4_ := Aside0.mk (Qs (w := w) hg); have n5_ := Aside0.mk (Qn hg BK328); have n6_ := Aside0.mk (Qn hg BK328).symm; clear BK328; clear HB; have BK328 := n0_; have HB := n1_; have BK329 := n2_; have GW329 := n3_; have GE329 := n4_; have NB328_329 := n5_; have NB329_328 := n6_; clear n0_ n1_ n2_ n3_ n4_ n5_ n6_; clear hb hbox hg))
  (try simp only [Act.put, List.setIfInBounds_toArray, List.set_cons_zero, List.set_cons_succ])
  go_cut [17] (fun v17 wc => ∃ (kq : Nat) (x17_2 : Bool), v17 = .bool x17_2 ∧ Aside0 (samphireref09_number.j0 kq a1 x17_2 a0_0 a0_1 = some (r1, r2, r3)) ∧ Aside0 (kq ≤ k) ∧ Aside0 (wc.heap[gb328]? = some (.cells #[.string a0_0, .int .i64 a0_1] 67 (0, 0))) ∧ Aside0 (wc.heap[gb329]? = some (.cells #[.string (⟨#[]⟩ : ByteArray), .int .i64 0] 67 (0, 0))) ∧ Aside0 (Below w.heap.size w wc))
  case first =>
    have H := HC3.out
    clear HC3
    by_cases c6 : a0_1 = 0
    · rw [if_pos c6] at H
      have c6b0 : (a0_1 == 0) = true := beq_iff_eq.mpr c6
      have c6b1 : (a0_1 != 0) = false := bne_eq_false_iff_eq.mpr c6
      clear c6
      (first | rw [c6b0] | (simp only [i64_w, i32_w]; rw [c6b0]) | skip)
      have H' := Aside0.mk H
      clear H
      have hnb7 := NB328_329.out
      have hnc7 := NB329_328.out
      obtain ⟨hcz8_0, hcz8_1, hfz8_0, hfz8_1⟩ := Z2 BK328.out
      go_wp2
      go_meet
      case rel => exact ⟨_, (decide ((a0_0.size : Int) < a1)), (by first | rfl | (simp; done) | (simp [*]; done)), H', ⟨by first | omega | exact Nat.le_refl _⟩, ⟨Qk⟩, ⟨Qk⟩, ⟨Qh⟩⟩
    · rw [if_neg c6] at H
      have c6b0 : (a0_1 == 0) = false := beq_eq_false_iff_ne.mpr c6
      have c6b1 : (a0_1 != 0) = true := bne_iff_ne.mpr c6
      (first | rw [c6b0] | (simp only [i64_w, i32_w]; rw [c6b0]) | skip)
      have H' := Aside0.mk H
      clear H
      have hnb9 := NB328_329.out
      have hnc9 := NB329_328.out
      obtain ⟨hcz10_0, hcz10_1, hfz10_0, hfz10_1⟩ := Z2 BK328.out
      go_wp2
      go_meet
      case rel => exact ⟨_, (true), (by first | rfl | (simp; done) | (simp [*]; done)), H', ⟨by first | omega | exact Nat.le_refl _⟩, ⟨Qk⟩, ⟨Qk⟩, ⟨Qh⟩⟩
  case rest =>
    clear HC3
    try clear p2
    try clear c6
    try clear c6b0
    try clear c6b1
    try clear c7
    try clear c8
    try clear c9
    try clear hcz10_0 hcz10_1
    try clear hcz8_0 hcz8_1
    try clear hfz10_0 hfz10_1
    try clear hfz8_0 hfz8_1
    obtain ⟨kq, x17_2, rfl, HA, HJ2, BK328, BK329, HB⟩ := hcut
    cases kq with
    | zero => exact absurd HA.out (by simp [samphireref09_number.j0])
    | succ kj2 =>
      have H := HA.out
      clear HA
      simp only [samphireref09_number.j0] at H
      by_cases c11 : x17_2 = true
      · subst c11
        have H1 : ((samphireref09_wrong.f a0_0 a0_1 90).bind fun bt330 => (some (bt330.1, bt330.2, 0))) = some (r1, r2, r3) := by rw [if_pos rfl] at H; exact H
        clear H
        have H := H1
        clear H1
        replace H := Option.bind_eq_some_iff.mp H
        obtain ⟨⟨t330, t331⟩, A120, H⟩ := H
        replace H : (some (t330, t331, 0)) = some (r1, r2, r3) := H
        have A12 := Aside0.mk A120
        clear A120
        simp only [Option.some.injEq, Prod.mk.injEq] at H
        obtain ⟨rfl, rfl, rfl⟩ := H
        have hnb13 := NB328_329.out
        have hnc13 := NB329_328.out
        obtain ⟨hcz14_0, hcz14_1, hfz14_0, hfz14_1⟩ := Z2 BK328.out
        go_wp2_with (first | ((with_reducible refine gate_callee (f := 82) rfl ?_); refine goesL_ (some 19) rfl rfl Tryd.func82 (by kernel_rfl) rfl #[.agg #[.string a0_0, .int .i64 a0_1], .int .i64 90] rfl Qm ?_; (with_reducible refine (samphireref09_wrong.calls a0_0 a0_1 90 t330 t331 _ A12.out).mono ?_); rintro e w15 ⟨rfl, hb⟩; refine ⟨_, rfl, ?_⟩; have n0_ := Aside0.mk (Qb BK328 hb); have n1_ := Aside0.mk (Qb BK329 hb); have n2_ := Aside0.mk (below_step Qh hb); clear BK328; clear BK329; clear HB; have BK328 := n0_; have BK329 := n1_; have HB := n2_; clear n0_ n1_ n2_; (try clear hb); (try clear hb2); (try clear hk); (try clear hi); obtain ⟨hcz16_0, hcz16_1, hfz16_0, hfz16_1⟩ := Z2 BK329.out))
        refine bodyPost_ret (results_ct rfl _ _ gb329 67 #[.string t330, .int .i64 t331] (0, 0) _ rfl Qk Tryd.underlying67 rfl (by kernel_rfl)) rfl ?_
        exact ⟨Qe, Qh⟩
      · replace c11 := Bool.eq_false_iff.mpr c11
        subst c11
        have H1 : (samphireref09_number.l0 kj2 a1 0 0 a0_0 a0_1) = some (r1, r2, r3) := by rw [if_neg (show ¬ (false = true) by decide)] at H; exact H
        clear H
        have H := H1
        clear H1
        have H' := Aside0.mk H
        clear H
        go_wp2
        go_loopg [6, 7] kj2 (fun kq v6 v7 w' => ∃ (x6_2 : Int) (x7_2 : Int), v6 = .int .i64 x6_2 ∧ v7 = .int .i64 x7_2 ∧ Aside0 (samphireref09_number.l0 kq a1 x6_2 x7_2 a0_0 a0_1 = some (r1, r2, r3)) ∧ Aside0 (kq ≤ kj2) ∧ Aside0 (w'.heap[gb328]? = some (.cells #[.string a0_0, .int .i64 a0_1] 67 (0, 0))) ∧ Aside0 (w'.heap[gb329]? = some (.cells #[.string (⟨#[]⟩ : ByteArray), .int .i64 0] 67 (0, 0))) ∧ Aside0 (Below w.heap.size w w'))
        case atStart => exact ⟨(0), (0), (by first | rfl | (simp; done) | (simp [*]; done)), (by first | rfl | (simp; done) | (simp [*]; done)), H', ⟨Nat.le_refl _⟩, ⟨Qk⟩, ⟨Qk⟩, ⟨Qh⟩⟩
        case round =>
          clear H'
          try clear c1
          try clear p2
          try clear c6
          try clear c6b0
          try clear c6b1
          try clear c7
          try clear c8
          try clear c9
          try clear c11
          try clear c13
          try clear hcz10_0 hcz10_1
          try clear hcz14_0 hcz14_1
          try clear hcz16_0 hcz16_1
          try clear hcz8_0 hcz8_1
          try clear hfz10_0 hfz10_1
          try clear hfz14_0 hfz14_1
          try clear hfz16_0 hfz16_1
          try clear hfz8_0 hfz8_1
          try clear p2
          obtain ⟨x6_2, x7_2, rfl, rfl, HA, HK2, BK328, BK329, HB⟩ := hrel
          cases gk with
          | zero => exact absurd HA.out (by simp [samphireref09_number.l0])
          | succ k2 =>
            have H := HA.out
            clear HA
            simp only [samphireref09_number.l0] at H
            by_cases c17 : x7_2 < a1
            · rw [if_pos c17] at H
              have c17b0 : decide (x7_2 < a1) = true := decide_eq_true c17
              clear c17
              by_cases c18 : 0 ≤ x7_2
              · rw [if_pos c18] at H
                have c18b0 : decide (0 ≤ x7_2) = true := decide_eq_true c18
                clear c18
                by_cases c19 : x7_2 < (a0_0.size : Int)
                · rw [if_pos c19] at H
                  have c19b0 : decide (x7_2 < (a0_0.size : Int)) = true := decide_eq_true c19
                  clear c19
                  have H' := Aside0.mk H
                  clear H
                  have hnb21 := NB328_329.out
                  have hnc21 := NB329_328.out
                  obtain ⟨hcz22_0, hcz22_1, hfz22_0, hfz22_1⟩ := Z2 BK328.out
                  have p20 : 0 ≤ (x7_2 : Int) := of_decide_eq_true (by first | (with_reducible assumption) | assumption)
                  have q20 : x7_2 < (a0_0.size : Int) := of_decide_eq_true (by first | (with_reducible assumption) | assumption)
                  have hx20 := bt_at a0_0 x7_2
                  replace p20 := eq_true p20
                  replace q20 := eq_true q20
                  go_wp2
                  go_roundg k2
                  case measure => have := HJ2.out; have := HK2.out; omega
                  case rel => exact ⟨(Go.bits .or .i64 (wrap64 (x6_2 * 256)) (wrap64 (bt a0_0 x7_2))), (wrap64 (x7_2 + 1)), (by first | rfl | (simp; done) | (simp [*]; done)), (by first | rfl | (simp; done) | (simp [*]; done)), H', ⟨by have := HJ2.out; have := HK2.out; omega⟩, ⟨Qk⟩, ⟨Qk⟩, ⟨Qh⟩⟩
                · rw [if_neg c19] at H
                  exact absurd H (by simp)
              · rw [if_neg c18] at H
                exact absurd H (by simp)
            · rw [if_neg c17] at H
              have c17b0 : decide (x7_2 < a1) = false := decide_eq_false c17
              clear c17
              by_cases c23 : 0 ≤ a1
              · rw [if_pos c23] at H
                have c23b0 := eq_true c23
                have c23b1 : decide (0 ≤ a1) = true := decide_eq_true c23
                clear c23
                by_cases c24 : a1 ≤ (a0_0.size : Int)
                · rw [if_pos c24] at H
                  have c24b0 := eq_true c24
                  have c24b1 : decide (a1 ≤ (a0_0.size : Int)) = true := decide_eq_true c24
                  clear c24
                  simp only [Option.some.injEq, Prod.mk.injEq] at H
                  obtain ⟨rfl, rfl, rfl⟩ := H
                  have hnb25 := NB328_329.out
                  have hnc25 := NB329_328.out
                  obtain ⟨hcz26_0, hcz26_1, hfz26_0, hfz26_1⟩ := Z2 BK328.out
                  obtain ⟨hcz27_0, hcz27_1, hfz27_0, hfz27_1⟩ := Z2 BK329.out
                  go_wp2
                  refine bodyPost_ret (results_ct rfl _ _ gb329 67 #[.string (a0_0.extract (a1 : Int).toNat a0_0.size), .int .i64 a0_1] (0, 0) _ rfl Qk Tryd.underlying67 rfl (by kernel_rfl)) rfl ?_
                  exact ⟨Qe, Qh⟩
                · rw [if_neg c24] at H
                  exact absurd H (by simp)
              · rw [if_neg c23] at H
                exact absurd H (by simp)

/-! ### samphireref09_InNum: function 54 -/
def samphireref09_InNum.f (k : Nat) (a0_0 : ByteArray) (a0_1 : Int) : Option (ByteArray × Int × Int) := (samphireref09_number.f k a0_0 a0_1 6).bind fun bt334 => (if bt334.2.2 > 1099511627775 then ((samphireref09_wrong.f bt334.1 bt334.2.1 91).bind fun bt338 => (some (bt338.1, bt338.2, 0))) else (some (bt334.1, bt334.2.1, bt334.2.2)))
theorem samphireref09_InNum.mono : ∀ a0 a1 k, LeO (samphireref09_InNum.f k a0 a1) (samphireref09_InNum.f (k + 1) a0 a1) := by
  intro a0 a1 k
  unfold samphireref09_InNum.f
  repeat' first
      | (with_reducible exact samphireref09_number.mono _ _ _ _)
      | (with_reducible exact LeO.refl _)
      | (with_reducible exact LeO.none _)
      | (with_reducible refine LeO.ite ?_ ?_)
      | (with_reducible refine LeO.bind ?_ (fun _ => ?_))
      | exact samphireref09_number.mono _ _ _ _
      | exact LeO.none _
      | refine LeO.ite ?_ ?_
      | refine LeO.bind ?_ (fun _ => ?_)
set_option maxHeartbeats 8000000 in
set_option maxRecDepth 100000 in
theorem samphireref09_InNum.calls (k : Nat) (a0_0 : ByteArray) (a0_1 : Int) (r1 : ByteArray) (r2 : Int) (r3 : Int) (w : World) (h : samphireref09_InNum.f k a0_0 a0_1 = some (r1, r2, r3)) :
    Calls Tryd.prog 54 #[.agg #[.string a0_0, .int .i64 a0_1]] w fun e w' => e = .returned (.tuple #[.agg #[.string r1, .int .i64 r2], .int .i64 r3]) ∧ Below w.heap.size w w' := by
  have hu67 := Tryd.underlying67
  have HB := Aside0.mk (Below.refl w.heap.size w)
  have H : ((samphireref09_number.f k a0_0 a0_1 6).bind fun bt334 => (if bt334.2.2 > 1099511627775 then ((samphireref09_wrong.f bt334.1 bt334.2.1 91).bind fun bt338 => (some (bt338.1, bt338.2, 0))) else (some (bt334.1, bt334.2.1, bt334.2.2)))) = some (r1, r2, r3) := h
  clear h
  replace H := Option.bind_eq_some_iff.mp H
  obtain ⟨⟨t334, t335, t336⟩, A20, H⟩ := H
  replace H : (if t336 > 1099511627775 then ((samphireref09_wrong.f t334 t335 91).bind fun bt338 => (some (bt338.1, bt338.2, 0))) else (some (t334, t335, t336))) = some (r1, r2, r3) := H
  have A2 := Aside0.mk A20
  clear A20
  by_cases c3 : t336 > 1099511627775
  · rw [if_pos c3] at H
    have c3b0 : decide (1099511627775 < t336) = true := decide_eq_true c3
    clear c3
    replace H := Option.bind_eq_some_iff.mp H
    obtain ⟨⟨t338, t339⟩, A40, H⟩ := H
    replace H : (some (t338, t339, 0)) = some (r1, r2, r3) := H
    have A4 := Aside0.mk A40
    clear A40
    simp only [Option.some.injEq, Prod.mk.injEq] at H
    obtain ⟨rfl, rfl, rfl⟩ := H
    go_enter Tryd.func54, Tryd.ntmps54
    go_wp2_with (first | ((with_reducible refine gate_dst (N := 1) rfl ?_); refine boxQ (N := 1) (cs := #[.string a0_0, .int .i64 a0_1]) (t := 67) ?_; intro gb332 hg w5 hbox hb; have n0_ := Aside0.mk (below_step Qh hb); have n1_ := Aside0.mk (hbox); have n2_ := Aside0.mk (Qs (w := w) hg); have n3_ := Aside0.mk (Qs (w := w) hg); clear HB; have HB := n0_; have BK332 := n1_; have GW332 := n2_; have GE332 := n3_; clear n0_ n1_ n2_ n3_; clear hb hbox hg) | ((with_reducible refine gate_dst (N := 2) rfl ?_); refine boxQ (N := 2) (cs := #[.string (⟨#[]⟩ : ByteArray), .int .i64 0]) (t := 67) ?_; intro gb333 hg w6 hbox hb; have n0_ := Aside0.mk (Qb BK332 hb); have n1_ := Aside0.mk (below_step Qh hb); have n2_ := Aside0.mk (hbox); have n3_ := Aside0.mk (Qs (w := w) hg); have n4_ := Aside0.mk (Qs (w := w) hg); have n5_ := Aside0.mk (Qn hg BK332); have n6_ := Aside0.mk (Qn hg BK332).symm; clear BK332; clear HB; have BK332 := n0_; have HB := n1_; have BK333 := n2_; have GW333 := n3_; have GE333 := n4_; have NB332_333 := n5_; have NB333_332 := n6_; clear n0_ n1_ n2_ n3_ n4_ n5_ n6_; clear hb hbox hg; have hnb7 := NB332_333.out; have hnc7 := NB333_332.out; obtain ⟨hcz8_0, hcz8_1, hfz8_0, hfz8_1⟩ := Z2 BK332.out) | ((with_reducible refine gate_callee (f := 81) rfl ?_); refine goesL_ (some 8) rfl rfl Tryd.func81 (by kernel_rfl) rfl #[.agg #[.string a0_0, .int .i64 a0_1], .int .i64 6] rfl Qm ?_; (with_reducible refine (samphireref09_number.calls k a0_0 a0_1 6 t334 t335 t336 _ A2.out).mono ?_); rintro e w9 ⟨rfl, hb⟩; refine ⟨_, rfl, ?_⟩; have n0_ := Aside0.mk (Qb BK332 hb); have n1_ := Aside0.mk (Qb BK333 hb); have n2_ := Aside0.mk (below_step Qh hb); clear BK332; clear BK333; clear HB; have BK332 := n0_; have BK333 := n1_; have HB := n2_; clear n0_ n1_ n2_; (try clear hb); (try clear hb2); (try clear hk); (try clear hi)) | ((with_reducible refine gate_dst (N := 4) rfl ?_); refine boxQ (N := 4) (cs := #[.string (⟨#[]⟩ : ByteArray), .int .i64 0]) (t := 67) ?_; intro gb337 hg w10 hbox hb; have n0_ := Aside0.mk (Qb BK332 hb); have n1_ := Aside0.mk (Qb BK333 hb); have n2_ := Aside0.mk (below_step Qh hb); have n3_ := Aside0.mk (hbox); have n4_ := Aside0.mk (Qs (w := w) hg); have n5_ := Aside0.mk (Qs (w := w) hg); have n6_ := Aside0.mk (Qn hg BK332); have n7_ := Aside0.mk (Qn hg BK332).symm; have n8_ := Aside0.mk (Qn hg BK333); have n9_ := Aside0.mk (Qn hg BK333).symm; clear BK332; clear BK333; clear HB; have BK332 := n0_; have BK333 := n1_; have HB := n2_; have BK337 := n3_; have GW337 := n4_; have GE337 := n5_; have NB332_337 := n6_; have NB337_332 := n7_; have NB333_337 := n8_; have NB337_333 := n9_; clear n0_ n1_ n2_ n3_ n4_ n5_ n6_ n7_ n8_ n9_; clear hb hbox hg; have hnb11 := NB337_332.out; have hnc11 := NB332_337.out; have hnb12 := NB337_333.out; have hnc12 := NB333_337.out; obtain ⟨hcz13_0, hcz13_1, hfz13_0, hfz13_1⟩ := Z2 BK337.out) | ((with_reducible refine gate_callee (f := 82) rfl ?_); refine goesL_ (some 14) rfl rfl Tryd.func82 (by kernel_rfl) rfl #[.agg #[.string t334, .int .i64 t335], .int .i64 91] rfl Qm ?_; (with_reducible refine (samphireref09_wrong.calls t334 t335 91 t338 t339 _ A4.out).mono ?_); rintro e w14 ⟨rfl, hb⟩; refine ⟨_, rfl, ?_⟩; have n0_ := Aside0.mk (blk_below (g := gb332) (o := .cells #[.string a0_0, .int .i64 a0_1] 67 (0, 0)) Qk hb); have n1_ := Aside0.mk (blk_below (g := gb333) (o := .cells #[.string (⟨#[]⟩ : ByteArray), .int .i64 0] 67 (0, 0)) Qk hb); have n2_ := Aside0.mk (blk_below (g := gb337) (o := .cells #[.string t334, .int .i64 t335] 67 (0, 0)) Qk hb); have n3_ := Aside0.mk (below_step Qh hb); clear BK332; clear BK333; clear BK337; clear HB; have BK332 := n0_; have BK333 := n1_; have BK337 := n2_; have HB := n3_; clear n0_ n1_ n2_ n3_; (try clear hb); (try clear hb2); (try clear hk); (try clear hi); obtain ⟨hcz15_0, hcz15_1, hfz15_0, hfz15_1⟩ := Z2 BK333.out))
    refine bodyPost_ret (results_ct rfl _ _ gb333 67 #[.string t338, .int .i64 t339] (0, 0) _ rfl Qk Tryd.underlying67 rfl (by kernel_rfl)) rfl ?_
    exact ⟨Qe, Qh⟩
  · rw [if_neg c3] at H
    have c3b0 : decide (1099511627775 < t336) = false := decide_eq_false c3
    clear c3
    simp only [Option.some.injEq, Prod.mk.injEq] at H
    obtain ⟨rfl, rfl, rfl⟩ := H
    go_enter Tryd.func54, Tryd.ntmps54
    go_wp2_with (first | ((with_reducible refine gate_dst (N := 1) rfl ?_); refine boxQ (N := 1) (cs := #[.string a0_0, .int .i64 a0_1]) (t := 67) ?_; intro gb332 hg w16 hbox hb; have n0_ := Aside0.mk (below_step Qh hb); have n1_ := Aside0.mk (hbox); have n2_ := Aside0.mk (Qs (w := w) hg); have n3_ := Aside0.mk (Qs (w := w) hg); clear HB; have HB := n0_; have BK332 := n1_; have GW332 := n2_; have GE332 := n3_; clear n0_ n1_ n2_ n3_; clear hb hbox hg) | ((with_reducible refine gate_dst (N := 2) rfl ?_); refine boxQ (N := 2) (cs := #[.string (⟨#[]⟩ : ByteArray), .int .i64 0]) (t := 67) ?_; intro gb333 hg w17 hbox hb; have n0_ := Aside0.mk (Qb BK332 hb); have n1_ := Aside0.mk (below_step Qh hb); have n2_ := Aside0.mk (hbox); have n3_ := Aside0.mk (Qs (w := w) hg); have n4_ := Aside0.mk (Qs (w := w) hg); have n5_ := Aside0.mk (Qn hg BK332); have n6_ := Aside0.mk (Qn hg BK332).symm; clear BK332; clear HB; have BK332 := n0_; have HB := n1_; have BK333 := n2_; have GW333 := n3_; have GE333 := n4_; have NB332_333 := n5_; have NB333_332 := n6_; clear n0_ n1_ n2_ n3_ n4_ n5_ n6_; clear hb hbox hg; have hnb18 := NB332_333.out; have hnc18 := NB333_332.out; obtain ⟨hcz19_0, hcz19_1, hfz19_0, hfz19_1⟩ := Z2 BK332.out) | ((with_reducible refine gate_callee (f := 81) rfl ?_); refine goesL_ (some 8) rfl rfl Tryd.func81 (by kernel_rfl) rfl #[.agg #[.string a0_0, .int .i64 a0_1], .int .i64 6] rfl Qm ?_; (with_reducible refine (samphireref09_number.calls k a0_0 a0_1 6 t334 t335 t336 _ A2.out).mono ?_); rintro e w20 ⟨rfl, hb⟩; refine ⟨_, rfl, ?_⟩; have n0_ := Aside0.mk (Qb BK332 hb); have n1_ := Aside0.mk (Qb BK333 hb); have n2_ := Aside0.mk (below_step Qh hb); clear BK332; clear BK333; clear HB; have BK332 := n0_; have BK333 := n1_; have HB := n2_; clear n0_ n1_ n2_; (try clear hb); (try clear hb2); (try clear hk); (try clear hi)) | ((with_reducible refine gate_dst (N := 4) rfl ?_); refine boxQ (N := 4) (cs := #[.string (⟨#[]⟩ : ByteArray), .int .i64 0]) (t := 67) ?_; intro gb337 hg w21 hbox hb; have n0_ := Aside0.mk (Qb BK332 hb); have n1_ := Aside0.mk (Qb BK333 hb); have n2_ := Aside0.mk (below_step Qh hb); have n3_ := Aside0.mk (hbox); have n4_ := Aside0.mk (Qs (w := w) hg); have n5_ := Aside0.mk (Qs (w := w) hg); have n6_ := Aside0.mk (Qn hg BK332); have n7_ := Aside0.mk (Qn hg BK332).symm; have n8_ := Aside0.mk (Qn hg BK333); have n9_ := Aside0.mk (Qn hg BK333).symm; clear BK332; clear BK333; clear HB; have BK332 := n0_; have BK333 := n1_; have HB := n2_; have BK337 := n3_; have GW337 := n4_; have GE337 := n5_; have NB332_337 := n6_; have NB337_332 := n7_; have NB333_337 := n8_; have NB337_333 := n9_; clear n0_ n1_ n2_ n3_ n4_ n5_ n6_ n7_ n8_ n9_; clear hb hbox hg; have hnb22 := NB337_332.out; have hnc22 := NB332_337.out; have hnb23 := NB337_333.out; have hnc23 := NB333_337.out; obtain ⟨hcz24_0, hcz24_1, hfz24_0, hfz24_1⟩ := Z2 BK337.out; obtain ⟨hcz25_0, hcz25_1, hfz25_0, hfz25_1⟩ := Z2 BK333.out))
    refine bodyPost_ret (results_ct rfl _ _ gb333 67 #[.string t334, .int .i64 t335] (0, 0) _ rfl Qk Tryd.underlying67 rfl (by kernel_rfl)) rfl ?_
    exact ⟨Qe, Qh⟩

/-! ### samphireref09_InStamp: function 53 -/
def samphireref09_InStamp.f (k : Nat) (a0_0 : ByteArray) (a0_1 : Int) : Option (ByteArray × Int × Int × Int) := (samphireref09_InNum.f k a0_0 a0_1).bind fun bt343 => ((samphireref09_number.f k bt343.1 bt343.2.1 1).bind fun bt347 => (if bt347.2.1 = 0 then (some (bt347.1, bt347.2.1, bt343.2.2, bt347.2.2)) else (some (bt347.1, bt347.2.1, 0, 0))))
theorem samphireref09_InStamp.mono : ∀ a0 a1 k, LeO (samphireref09_InStamp.f k a0 a1) (samphireref09_InStamp.f (k + 1) a0 a1) := by
  intro a0 a1 k
  unfold samphireref09_InStamp.f
  repeat' first
      | (with_reducible exact samphireref09_InNum.mono _ _ _)
      | (with_reducible exact samphireref09_number.mono _ _ _ _)
      | (with_reducible exact LeO.refl _)
      | (with_reducible exact LeO.none _)
      | (with_reducible refine LeO.ite ?_ ?_)
      | (with_reducible refine LeO.bind ?_ (fun _ => ?_))
      | exact samphireref09_InNum.mono _ _ _
      | exact samphireref09_number.mono _ _ _ _
      | exact LeO.none _
      | refine LeO.ite ?_ ?_
      | refine LeO.bind ?_ (fun _ => ?_)
set_option maxHeartbeats 8000000 in
set_option maxRecDepth 100000 in
theorem samphireref09_InStamp.calls (k : Nat) (a0_0 : ByteArray) (a0_1 : Int) (r1 : ByteArray) (r2 : Int) (r3 : Int) (r4 : Int) (w : World) (h : samphireref09_InStamp.f k a0_0 a0_1 = some (r1, r2, r3, r4)) :
    Calls Tryd.prog 53 #[.agg #[.string a0_0, .int .i64 a0_1]] w fun e w' => e = .returned (.tuple #[.agg #[.string r1, .int .i64 r2], .agg #[.int .i64 r3, .int .i64 r4]]) ∧ Below w.heap.size w w' := by
  have hu67 := Tryd.underlying67
  have hu23 := Tryd.underlying23
  have HB := Aside0.mk (Below.refl w.heap.size w)
  have H : ((samphireref09_InNum.f k a0_0 a0_1).bind fun bt343 => ((samphireref09_number.f k bt343.1 bt343.2.1 1).bind fun bt347 => (if bt347.2.1 = 0 then (some (bt347.1, bt347.2.1, bt343.2.2, bt347.2.2)) else (some (bt347.1, bt347.2.1, 0, 0))))) = some (r1, r2, r3, r4) := h
  clear h
  replace H := Option.bind_eq_some_iff.mp H
  obtain ⟨⟨t343, t344, t345⟩, A20, H⟩ := H
  replace H : ((samphireref09_number.f k t343 t344 1).bind fun bt347 => (if bt347.2.1 = 0 then (some (bt347.1, bt347.2.1, t345, bt347.2.2)) else (some (bt347.1, bt347.2.1, 0, 0)))) = some (r1, r2, r3, r4) := H
  have A2 := Aside0.mk A20
  clear A20
  replace H := Option.bind_eq_some_iff.mp H
  obtain ⟨⟨t347, t348, t349⟩, A30, H⟩ := H
  replace H : (if t348 = 0 then (some (t347, t348, t345, t349)) else (some (t347, t348, 0, 0))) = some (r1, r2, r3, r4) := H
  have A3 := Aside0.mk A30
  clear A30
  by_cases c4 : t348 = 0
  · rw [if_pos c4] at H
    have c4b0 : (t348 == 0) = true := beq_iff_eq.mpr c4
    have c4b1 : (t348 != 0) = false := bne_eq_false_iff_eq.mpr c4
    clear c4
    simp only [Option.some.injEq, Prod.mk.injEq] at H
    obtain ⟨rfl, rfl, rfl, rfl⟩ := H
    go_enter Tryd.func53, Tryd.ntmps53
    go_wp2_with (first | ((with_reducible refine gate_dst (N := 1) rfl ?_); refine boxQ (N := 1) (cs := #[.string a0_0, .int .i64 a0_1]) (t := 67) ?_; intro gb340 hg w5 hbox hb; have n0_ := Aside0.mk (below_step Qh hb); have n1_ := Aside0.mk (hbox); have n2_ := Aside0.mk (Qs (w := w) hg); have n3_ := Aside0.mk (Qs (w := w) hg); clear HB; have HB := n0_; have BK340 := n1_; have GW340 := n2_; have GE340 := n3_; clear n0_ n1_ n2_ n3_; clear hb hbox hg) | ((with_reducible refine gate_dst (N := 2) rfl ?_); refine boxQ (N := 2) (cs := #[.string (⟨#[]⟩ : ByteArray), .int .i64 0]) (t := 67) ?_; intro gb341 hg w6 hbox hb; have n0_ := Aside0.mk (Qb BK340 hb); have n1_ := Aside0.mk (below_step Qh hb); have n2_ := Aside0.mk (hbox); have n3_ := Aside0.mk (Qs (w := w) hg); have n4_ := Aside0.mk (Qs (w := w) hg); have n5_ := Aside0.mk (Qn hg BK340); have n6_ := Aside0.mk (Qn hg BK340).symm; clear BK340; clear HB; have BK340 := n0_; have HB := n1_; have BK341 := n2_; have GW341 := n3_; have GE341 := n4_; have NB340_341 := n5_; have NB341_340 := n6_; clear n0_ n1_ n2_ n3_ n4_ n5_ n6_; clear hb hbox hg) | ((with_reducible refine gate_dst (N := 3) rfl ?_); refine boxQ (N := 3) (cs := #[.int .i64 0, .int .i64 0]) (t := 23) ?_; intro gb342 hg w7 hbox hb; have n0_ := Aside0.mk (Qb BK340 hb); have n1_ := Aside0.mk (Qb BK341 hb); have n2_ := Aside0.mk (below_step Qh hb); have n3_ := Aside0.mk (hbox); have n4_ := Aside0.mk (Qs (w := w) hg); have n5_ := Aside0.mk (Qs (w := w) hg); have n6_ := Aside0.mk (Qn hg BK340); have n7_ := Aside0.mk (Qn hg BK340).symm; have n8_ := Aside0.mk (Qn hg BK341); have n9_ := Aside0.mk (Qn hg BK341).symm; clear BK340; clear BK341; clear HB; have BK340 := n0_; have BK341 := n1_; have HB := n2_; have BK342 := n3_; have GW342 := n4_; have GE342 := n5_; have NB340_342 := n6_; have NB342_340 := n7_; have NB341_342 := n8_; have NB342_341 := n9_; clear n0_ n1_ n2_ n3_ n4_ n5_ n6_ n7_ n8_ n9_; clear hb hbox hg; have hnb8 := NB340_341.out; have hnc8 := NB341_340.out; have hnb9 := NB340_342.out; have hnc9 := NB342_340.out; obtain ⟨hcz10_0, hcz10_1, hfz10_0, hfz10_1⟩ := Z2 BK340.out) | ((with_reducible refine gate_callee (f := 54) rfl ?_); refine goesL_ (some 10) rfl rfl Tryd.func54 (by kernel_rfl) rfl #[.agg #[.string a0_0, .int .i64 a0_1]] rfl Qm ?_; (with_reducible refine (samphireref09_InNum.calls k a0_0 a0_1 t343 t344 t345 _ A2.out).mono ?_); rintro e w11 ⟨rfl, hb⟩; refine ⟨_, rfl, ?_⟩; have n0_ := Aside0.mk (Qb BK340 hb); have n1_ := Aside0.mk (Qb BK341 hb); have n2_ := Aside0.mk (Qb BK342 hb); have n3_ := Aside0.mk (below_step Qh hb); clear BK340; clear BK341; clear BK342; clear HB; have BK340 := n0_; have BK341 := n1_; have BK342 := n2_; have HB := n3_; clear n0_ n1_ n2_ n3_; (try clear hb); (try clear hb2); (try clear hk); (try clear hi)) | ((with_reducible refine gate_dst (N := 4) rfl ?_); refine boxQ (N := 4) (cs := #[.string (⟨#[]⟩ : ByteArray), .int .i64 0]) (t := 67) ?_; intro gb346 hg w12 hbox hb; have n0_ := Aside0.mk (Qb BK340 hb); have n1_ := Aside0.mk (Qb BK341 hb); have n2_ := Aside0.mk (Qb BK342 hb); have n3_ := Aside0.mk (below_step Qh hb); have n4_ := Aside0.mk (hbox); have n5_ := Aside0.mk (Qs (w := w) hg); have n6_ := Aside0.mk (Qs (w := w) hg); have n7_ := Aside0.mk (Qn hg BK340); have n8_ := Aside0.mk (Qn hg BK340).symm; have n9_ := Aside0.mk (Qn hg BK341); have n10_ := Aside0.mk (Qn hg BK341).symm; have n11_ := Aside0.mk (Qn hg BK342); have n12_ := Aside0.mk (Qn hg BK342).symm; clear BK340; clear BK341; clear BK342; clear HB; have BK340 := n0_; have BK341 := n1_; have BK342 := n2_; have HB := n3_; have BK346 := n4_; have GW346 := n5_; have GE346 := n6_; have NB340_346 := n7_; have NB346_340 := n8_; have NB341_346 := n9_; have NB346_341 := n10_; have NB342_346 := n11_; have NB346_342 := n12_; clear n0_ n1_ n2_ n3_ n4_ n5_ n6_ n7_ n8_ n9_ n10_ n11_ n12_; clear hb hbox hg; have hnb13 := NB346_340.out; have hnc13 := NB340_346.out; have hnb14 := NB346_341.out; have hnc14 := NB341_346.out; have hnb15 := NB346_342.out; have hnc15 := NB342_346.out; obtain ⟨hcz16_0, hcz16_1, hfz16_0, hfz16_1⟩ := Z2 BK346.out) | ((with_reducible refine gate_callee (f := 81) rfl ?_); refine goesL_ (some 15) rfl rfl Tryd.func81 (by kernel_rfl) rfl #[.agg #[.string t343, .int .i64 t344], .int .i64 1] rfl Qm ?_; (with_reducible refine (samphireref09_number.calls k t343 t344 1 t347 t348 t349 _ A3.out).mono ?_); rintro e w17 ⟨rfl, hb⟩; refine ⟨_, rfl, ?_⟩; have n0_ := Aside0.mk (blk_below (g := gb340) (o := .cells #[.string a0_0, .int .i64 a0_1] 67 (0, 0)) Qk hb); have n1_ := Aside0.mk (blk_below (g := gb341) (o := .cells #[.string (⟨#[]⟩ : ByteArray), .int .i64 0] 67 (0, 0)) Qk hb); have n2_ := Aside0.mk (blk_below (g := gb342) (o := .cells #[.int .i64 0, .int .i64 0] 23 (0, 0)) Qk hb); have n3_ := Aside0.mk (blk_below (g := gb346) (o := .cells #[.string t343, .int .i64 t344] 67 (0, 0)) Qk hb); have n4_ := Aside0.mk (below_step Qh hb); clear BK340; clear BK341; clear BK342; clear BK346; clear HB; have BK340 := n0_; have BK341 := n1_; have BK342 := n2_; have BK346 := n3_; have HB := n4_; clear n0_ n1_ n2_ n3_ n4_; (try clear hb); (try clear hb2); (try clear hk); (try clear hi)) | ((with_reducible refine gate_dst (N := 6) rfl ?_); refine boxQ (N := 6) (cs := #[.string (⟨#[]⟩ : ByteArray), .int .i64 0]) (t := 67) ?_; intro gb350 hg w18 hbox hb; have n0_ := Aside0.mk (Qb BK340 hb); have n1_ := Aside0.mk (Qb BK341 hb); have n2_ := Aside0.mk (Qb BK342 hb); have n3_ := Aside0.mk (Qb BK346 hb); have n4_ := Aside0.mk (below_step Qh hb); have n5_ := Aside0.mk (hbox); have n6_ := Aside0.mk (Qs (w := w) hg); have n7_ := Aside0.mk (Qs (w := w) hg); have n8_ := Aside0.mk (Qn hg BK340); have n9_ := Aside0.mk (Qn hg BK340).symm; have n10_ := Aside0.mk (Qn hg BK341); have n11_ := Aside0.mk (Qn hg BK341).symm; have n12_ := Aside0.mk (Qn hg BK342); have n13_ := Aside0.mk (Qn hg BK342).symm; have n14_ := Aside0.mk (Qn hg BK346); have n15_ := Aside0.mk (Qn hg BK346).symm; clear BK340; clear BK341; clear BK342; clear BK346; clear HB; have BK340 := n0_; have BK341 := n1_; have BK342 := n2_; have BK346 := n3_; have HB := n4_; have BK350 := n5_; have GW350 := n6_; have GE350 := n7_; have NB340_350 := n8_; have NB350_340 := n9_; have NB341_350 := n10_; have NB350_341 := n11_; have NB342_350 := n12_; have NB350_342 := n13_; have NB346_350 := n14_; have NB350_346 := n15_; clear n0_ n1_ n2_ n3_ n4_ n5_ n6_ n7_ n8_ n9_ n10_ n11_ n12_ n13_ n14_ n15_; clear hb hbox hg; have hnb19 := NB350_340.out; have hnc19 := NB340_350.out; have hnb20 := NB350_341.out; have hnc20 := NB341_350.out; have hnb21 := NB350_342.out; have hnc21 := NB342_350.out; have hnb22 := NB350_346.out; have hnc22 := NB346_350.out; obtain ⟨hcz23_0, hcz23_1, hfz23_0, hfz23_1⟩ := Z2 BK350.out; have hnb24 := NB341_342.out; have hnc24 := NB342_341.out; obtain ⟨hcz25_0, hcz25_1, hfz25_0, hfz25_1⟩ := Z2 BK341.out; obtain ⟨hcz26_0, hcz26_1, hfz26_0, hfz26_1⟩ := Z2 BK342.out))
    refine bodyPost_ret (results_cc rfl _ _ gb341 gb342 67 23 #[.string t347, .int .i64 t348] #[.int .i64 t345, .int .i64 t349] (0, 0) (0, 0) _ _ rfl Qk Tryd.underlying67 rfl (by kernel_rfl) rfl Qk Tryd.underlying23 rfl (by kernel_rfl)) rfl ?_
    exact ⟨Qe, Qh⟩
  · rw [if_neg c4] at H
    have c4b0 : (t348 == 0) = false := beq_eq_false_iff_ne.mpr c4
    have c4b1 : (t348 != 0) = true := bne_iff_ne.mpr c4
    simp only [Option.some.injEq, Prod.mk.injEq] at H
    obtain ⟨rfl, rfl, rfl, rfl⟩ := H
    go_enter Tryd.func53, Tryd.ntmps53
    go_wp2_with (first | ((with_reducible refine gate_dst (N := 1) rfl ?_); refine boxQ (N := 1) (cs := #[.string a0_0, .int .i64 a0_1]) (t := 67) ?_; intro gb340 hg w27 hbox hb; have n0_ := Aside0.mk (below_step Qh hb); have n1_ := Aside0.mk (hbox); have n2_ := Aside0.mk (Qs (w := w) hg); have n3_ := Aside0.mk (Qs (w := w) hg); clear HB; have HB := n0_; have BK340 := n1_; have GW340 := n2_; have GE340 := n3_; clear n0_ n1_ n2_ n3_; clear hb hbox hg) | ((with_reducible refine gate_dst (N := 2) rfl ?_); refine boxQ (N := 2) (cs := #[.string (⟨#[]⟩ : ByteArray), .int .i64 0]) (t := 67) ?_; intro gb341 hg w28 hbox hb; have n0_ := Aside0.mk (Qb BK340 hb); have n1_ := Aside0.mk (below_step Qh hb); have n2_ := Aside0.mk (hbox); have n3_ := Aside0.mk (Qs (w := w) hg); have n4_ := Aside0.mk (Qs (w := w) hg); have n5_ := Aside0.mk (Qn hg BK340); have n6_ := Aside0.mk (Qn hg BK340).symm; clear BK340; clear HB; have BK340 := n0_; have HB := n1_; have BK341 := n2_; have GW341 := n3_; have GE341 := n4_; have NB340_341 := n5_; have NB341_340 := n6_; clear n0_ n1_ n2_ n3_ n4_ n5_ n6_; clear hb hbox hg) | ((with_reducible refine gate_dst (N := 3) rfl ?_); refine boxQ (N := 3) (cs := #[.int .i64 0, .int .i64 0]) (t := 23) ?_; intro gb342 hg w29 hbox hb; have n0_ := Aside0.mk (Qb BK340 hb); have n1_ := Aside0.mk (Qb BK341 hb); have n2_ := Aside0.mk (below_step Qh hb); have n3_ := Aside0.mk (hbox); have n4_ := Aside0.mk (Qs (w := w) hg); have n5_ := Aside0.mk (Qs (w := w) hg); have n6_ := Aside0.mk (Qn hg BK340); have n7_ := Aside0.mk (Qn hg BK340).symm; have n8_ := Aside0.mk (Qn hg BK341); have n9_ := Aside0.mk (Qn hg BK341).symm; clear BK340; clear BK341; clear HB; have BK340 := n0_; have BK341 := n1_; have HB := n2_; have BK342 := n3_; have GW342 := n4_; have GE342 := n5_; have NB340_342 := n6_; have NB342_340 := n7_; have NB341_342 := n8_; have NB342_341 := n9_; clear n0_ n1_ n2_ n3_ n4_ n5_ n6_ n7_ n8_ n9_; clear hb hbox hg; have hnb30 := NB340_341.out; have hnc30 := NB341_340.out; have hnb31 := NB340_342.out; have hnc31 := NB342_340.out; obtain ⟨hcz32_0, hcz32_1, hfz32_0, hfz32_1⟩ := Z2 BK340.out) | ((with_reducible refine gate_callee (f := 54) rfl ?_); refine goesL_ (some 10) rfl rfl Tryd.func54 (by kernel_rfl) rfl #[.agg #[.string a0_0, .int .i64 a0_1]] rfl Qm ?_; (with_reducible refine (samphireref09_InNum.calls k a0_0 a0_1 t343 t344 t345 _ A2.out).mono ?_); rintro e w33 ⟨rfl, hb⟩; refine ⟨_, rfl, ?_⟩; have n0_ := Aside0.mk (Qb BK340 hb); have n1_ := Aside0.mk (Qb BK341 hb); have n2_ := Aside0.mk (Qb BK342 hb); have n3_ := Aside0.mk (below_step Qh hb); clear BK340; clear BK341; clear BK342; clear HB; have BK340 := n0_; have BK341 := n1_; have BK342 := n2_; have HB := n3_; clear n0_ n1_ n2_ n3_; (try clear hb); (try clear hb2); (try clear hk); (try clear hi)) | ((with_reducible refine gate_dst (N := 4) rfl ?_); refine boxQ (N := 4) (cs := #[.string (⟨#[]⟩ : ByteArray), .int .i64 0]) (t := 67) ?_; intro gb346 hg w34 hbox hb; have n0_ := Aside0.mk (Qb BK340 hb); have n1_ := Aside0.mk (Qb BK341 hb); have n2_ := Aside0.mk (Qb BK342 hb); have n3_ := Aside0.mk (below_step Qh hb); have n4_ := Aside0.mk (hbox); have n5_ := Aside0.mk (Qs (w := w) hg); have n6_ := Aside0.mk (Qs (w := w) hg); have n7_ := Aside0.mk (Qn hg BK340); have n8_ := Aside0.mk (Qn hg BK340).symm; have n9_ := Aside0.mk (Qn hg BK341); have n10_ := Aside0.mk (Qn hg BK341).symm; have n11_ := Aside0.mk (Qn hg BK342); have n12_ := Aside0.mk (Qn hg BK342).symm; clear BK340; clear BK341; clear BK342; clear HB; have BK340 := n0_; have BK341 := n1_; have BK342 := n2_; have HB := n3_; have BK346 := n4_; have GW346 := n5_; have GE346 := n6_; have NB340_346 := n7_; have NB346_340 := n8_; have NB341_346 := n9_; have NB346_341 := n10_; have NB342_346 := n11_; have NB346_342 := n12_; clear n0_ n1_ n2_ n3_ n4_ n5_ n6_ n7_ n8_ n9_ n10_ n11_ n12_; clear hb hbox hg; have hnb35 := NB346_340.out; have hnc35 := NB340_346.out; have hnb36 := NB346_341.out; have hnc36 := NB341_346.out; have hnb37 := NB346_342.out; have hnc37 := NB342_346.out; obtain ⟨hcz38_0, hcz38_1, hfz38_0, hfz38_1⟩ := Z2 BK346.out) | ((with_reducible refine gate_callee (f := 81) rfl ?_); refine goesL_ (some 15) rfl rfl Tryd.func81 (by kernel_rfl) rfl #[.agg #[.string t343, .int .i64 t344], .int .i64 1] rfl Qm ?_; (with_reducible refine (samphireref09_number.calls k t343 t344 1 t347 t348 t349 _ A3.out).mono ?_); rintro e w39 ⟨rfl, hb⟩; refine ⟨_, rfl, ?_⟩; have n0_ := Aside0.mk (blk_below (g := gb340) (o := .cells #[.string a0_0, .int .i64 a0_1] 67 (0, 0)) Qk hb); have n1_ := Aside0.mk (blk_below (g := gb341) (o := .cells #[.string (⟨#[]⟩ : ByteArray), .int .i64 0] 67 (0, 0)) Qk hb); have n2_ := Aside0.mk (blk_below (g := gb342) (o := .cells #[.int .i64 0, .int .i64 0] 23 (0, 0)) Qk hb); have n3_ := Aside0.mk (blk_below (g := gb346) (o := .cells #[.string t343, .int .i64 t344] 67 (0, 0)) Qk hb); have n4_ := Aside0.mk (below_step Qh hb); clear BK340; clear BK341; clear BK342; clear BK346; clear HB; have BK340 := n0_; have BK341 := n1_; have BK342 := n2_; have BK346 := n3_; have HB := n4_; clear n0_ n1_ n2_ n3_ n4_; (try clear hb); (try clear hb2); (try clear hk); (try clear hi)) | ((with_reducible refine gate_dst (N := 6) rfl ?_); refine boxQ (N := 6) (cs := #[.string (⟨#[]⟩ : ByteArray), .int .i64 0]) (t := 67) ?_; intro gb350 hg w40 hbox hb; have n0_ := Aside0.mk (Qb BK340 hb); have n1_ := Aside0.mk (Qb BK341 hb); have n2_ := Aside0.mk (Qb BK342 hb); have n3_ := Aside0.mk (Qb BK346 hb); have n4_ := Aside0.mk (below_step Qh hb); have n5_ := Aside0.mk (hbox); have n6_ := Aside0.mk (Qs (w := w) hg); have n7_ := Aside0.mk (Qs (w := w) hg); have n8_ := Aside0.mk (Qn hg BK340); have n9_ := Aside0.mk (Qn hg BK340).symm; have n10_ := Aside0.mk (Qn hg BK341); have n11_ := Aside0.mk (Qn hg BK341).symm; have n12_ := Aside0.mk (Qn hg BK342); have n13_ := Aside0.mk (Qn hg BK342).symm; have n14_ := Aside0.mk (Qn hg BK346); have n15_ := Aside0.mk (Qn hg BK346).symm; clear BK340; clear BK341; clear BK342; clear BK346; clear HB; have BK340 := n0_; have BK341 := n1_; have BK342 := n2_; have BK346 := n3_; have HB := n4_; have BK350 := n5_; have GW350 := n6_; have GE350 := n7_; have NB340_350 := n8_; have NB350_340 := n9_; have NB341_350 := n10_; have NB350_341 := n11_; have NB342_350 := n12_; have NB350_342 := n13_; have NB346_350 := n14_; have NB350_346 := n15_; clear n0_ n1_ n2_ n3_ n4_ n5_ n6_ n7_ n8_ n9_ n10_ n11_ n12_ n13_ n14_ n15_; clear hb hbox hg; have hnb41 := NB350_340.out; have hnc41 := NB340_350.out; have hnb42 := NB350_341.out; have hnc42 := NB341_350.out; have hnb43 := NB350_342.out; have hnc43 := NB342_350.out; have hnb44 := NB350_346.out; have hnc44 := NB346_350.out; obtain ⟨hcz45_0, hcz45_1, hfz45_0, hfz45_1⟩ := Z2 BK350.out; have hnb46 := NB341_342.out; have hnc46 := NB342_341.out; obtain ⟨hcz47_0, hcz47_1, hfz47_0, hfz47_1⟩ := Z2 BK341.out; obtain ⟨hcz48_0, hcz48_1, hfz48_0, hfz48_1⟩ := Z2 BK342.out))
    refine bodyPost_ret (results_cc rfl _ _ gb341 gb342 67 23 #[.string t347, .int .i64 t348] #[.int .i64 0, .int .i64 0] (0, 0) (0, 0) _ _ rfl Qk Tryd.underlying67 rfl (by kernel_rfl) rfl Qk Tryd.underlying23 rfl (by kernel_rfl)) rfl ?_
    exact ⟨Qe, Qh⟩

/-! ### samphireref09_InText: function 55 -/
def samphireref09_InText.f (k : Nat) (a0_0 : ByteArray) (a0_1 : Int) (a1 : Int) : Option (ByteArray × Int × ByteArray) := (samphireref09_number.f k a0_0 a0_1 2).bind fun bt353 => (if bt353.2.1 = 0 then (if bt353.2.2 > a1 then ((samphireref09_wrong.f bt353.1 bt353.2.1 91).bind fun bt357 => (some (bt357.1, bt357.2, (⟨#[]⟩ : ByteArray)))) else (if bt353.2.2 > (bt353.1.size : Int) then ((samphireref09_wrong.f bt353.1 bt353.2.1 90).bind fun bt359 => (some (bt359.1, bt359.2, (⟨#[]⟩ : ByteArray)))) else (if 0 ≤ bt353.2.2 then (if bt353.2.2 ≤ (bt353.1.size : Int) then (some (bt353.1.extract (bt353.2.2 : Int).toNat bt353.1.size, bt353.2.1, bt353.1.extract 0 (bt353.2.2 : Int).toNat)) else (none)) else (none)))) else (some (bt353.1, bt353.2.1, (⟨#[]⟩ : ByteArray))))
theorem samphireref09_InText.mono : ∀ a0 a1 a2 k, LeO (samphireref09_InText.f k a0 a1 a2) (samphireref09_InText.f (k + 1) a0 a1 a2) := by
  intro a0 a1 a2 k
  unfold samphireref09_InText.f
  repeat' first
      | (with_reducible exact samphireref09_number.mono _ _ _ _)
      | (with_reducible exact LeO.refl _)
      | (with_reducible exact LeO.none _)
      | (with_reducible refine LeO.ite ?_ ?_)
      | (with_reducible refine LeO.bind ?_ (fun _ => ?_))
      | exact samphireref09_number.mono _ _ _ _
      | exact LeO.none _
      | refine LeO.ite ?_ ?_
      | refine LeO.bind ?_ (fun _ => ?_)
set_option maxHeartbeats 8000000 in
set_option maxRecDepth 100000 in
theorem samphireref09_InText.calls (k : Nat) (a0_0 : ByteArray) (a0_1 : Int) (a1 : Int) (r1 : ByteArray) (r2 : Int) (r3 : ByteArray) (w : World) (h : samphireref09_InText.f k a0_0 a0_1 a1 = some (r1, r2, r3)) :
    Calls Tryd.prog 55 #[.agg #[.string a0_0, .int .i64 a0_1], .int .i64 a1] w fun e w' => e = .returned (.tuple #[.agg #[.string r1, .int .i64 r2], .string r3]) ∧ Below w.heap.size w w' := by
  have hu67 := Tryd.underlying67
  have HB := Aside0.mk (Below.refl w.heap.size w)
  have H : ((samphireref09_number.f k a0_0 a0_1 2).bind fun bt353 => (if bt353.2.1 = 0 then (if bt353.2.2 > a1 then ((samphireref09_wrong.f bt353.1 bt353.2.1 91).bind fun bt357 => (some (bt357.1, bt357.2, (⟨#[]⟩ : ByteArray)))) else (if bt353.2.2 > (bt353.1.size : Int) then ((samphireref09_wrong.f bt353.1 bt353.2.1 90).bind fun bt359 => (some (bt359.1, bt359.2, (⟨#[]⟩ : ByteArray)))) else (if 0 ≤ bt353.2.2 then (if bt353.2.2 ≤ (bt353.1.size : Int) then (some (bt353.1.extract (bt353.2.2 : Int).toNat bt353.1.size, bt353.2.1, bt353.1.extract 0 (bt353.2.2 : Int).toNat)) else (none)) else (none)))) else (some (bt353.1, bt353.2.1, (⟨#[]⟩ : ByteArray))))) = some (r1, r2, r3) := h
  clear h
  replace H := Option.bind_eq_some_iff.mp H
  obtain ⟨⟨t353, t354, t355⟩, A30, H⟩ := H
  replace H : (if t354 = 0 then (if t355 > a1 then ((samphireref09_wrong.f t353 t354 91).bind fun bt357 => (some (bt357.1, bt357.2, (⟨#[]⟩ : ByteArray)))) else (if t355 > (t353.size : Int) then ((samphireref09_wrong.f t353 t354 90).bind fun bt359 => (some (bt359.1, bt359.2, (⟨#[]⟩ : ByteArray)))) else (if 0 ≤ t355 then (if t355 ≤ (t353.size : Int) then (some (t353.extract (t355 : Int).toNat t353.size, t354, t353.extract 0 (t355 : Int).toNat)) else (none)) else (none)))) else (some (t353, t354, (⟨#[]⟩ : ByteArray)))) = some (r1, r2, r3) := H
  have A3 := Aside0.mk A30
  clear A30
  by_cases c4 : t354 = 0
  · rw [if_pos c4] at H
    have c4b0 : (t354 == 0) = true := beq_iff_eq.mpr c4
    have c4b1 : (t354 != 0) = false := bne_eq_false_iff_eq.mpr c4
    clear c4
    by_cases c5 : t355 > a1
    · rw [if_pos c5] at H
      have c5b0 : decide (a1 < t355) = true := decide_eq_true c5
      clear c5
      replace H := Option.bind_eq_some_iff.mp H
      obtain ⟨⟨t357, t358⟩, A60, H⟩ := H
      replace H : (some (t357, t358, (⟨#[]⟩ : ByteArray))) = some (r1, r2, r3) := H
      have A6 := Aside0.mk A60
      clear A60
      simp only [Option.some.injEq, Prod.mk.injEq] at H
      obtain ⟨rfl, rfl, rfl⟩ := H
      go_enter Tryd.func55, Tryd.ntmps55
      go_wp2_with (first | ((with_reducible refine gate_dst (N := 2) rfl ?_); refine boxQ (N := 2) (cs := #[.string a0_0, .int .i64 a0_1]) (t := 67) ?_; intro gb351 hg w7 hbox hb; have n0_ := Aside0.mk (below_step Qh hb); have n1_ := Aside0.mk (hbox); have n2_ := Aside0.mk (Qs (w := w) hg); have n3_ := Aside0.mk (Qs (w := w) hg); clear HB; have HB := n0_; have BK351 := n1_; have GW351 := n2_; have GE351 := n3_; clear n0_ n1_ n2_ n3_; clear hb hbox hg) | ((with_reducible refine gate_dst (N := 4) rfl ?_); refine boxQ (N := 4) (cs := #[.string (⟨#[]⟩ : ByteArray), .int .i64 0]) (t := 67) ?_; intro gb352 hg w8 hbox hb; have n0_ := Aside0.mk (Qb BK351 hb); have n1_ := Aside0.mk (below_step Qh hb); have n2_ := Aside0.mk (hbox); have n3_ := Aside0.mk (Qs (w := w) hg); have n4_ := Aside0.mk (Qs (w := w) hg); have n5_ := Aside0.mk (Qn hg BK351); have n6_ := Aside0.mk (Qn hg BK351).symm; clear BK351; clear HB; have BK351 := n0_; have HB := n1_; have BK352 := n2_; have GW352 := n3_; have GE352 := n4_; have NB351_352 := n5_; have NB352_351 := n6_; clear n0_ n1_ n2_ n3_ n4_ n5_ n6_; clear hb hbox hg; have hnb9 := NB351_352.out; have hnc9 := NB352_351.out; obtain ⟨hcz10_0, hcz10_1, hfz10_0, hfz10_1⟩ := Z2 BK351.out) | ((with_reducible refine gate_callee (f := 81) rfl ?_); refine goesL_ (some 11) rfl rfl Tryd.func81 (by kernel_rfl) rfl #[.agg #[.string a0_0, .int .i64 a0_1], .int .i64 2] rfl Qm ?_; (with_reducible refine (samphireref09_number.calls k a0_0 a0_1 2 t353 t354 t355 _ A3.out).mono ?_); rintro e w11 ⟨rfl, hb⟩; refine ⟨_, rfl, ?_⟩; have n0_ := Aside0.mk (Qb BK351 hb); have n1_ := Aside0.mk (Qb BK352 hb); have n2_ := Aside0.mk (below_step Qh hb); clear BK351; clear BK352; clear HB; have BK351 := n0_; have BK352 := n1_; have HB := n2_; clear n0_ n1_ n2_; (try clear hb); (try clear hb2); (try clear hk); (try clear hi)) | ((with_reducible refine gate_dst (N := 6) rfl ?_); refine boxQ (N := 6) (cs := #[.string (⟨#[]⟩ : ByteArray), .int .i64 0]) (t := 67) ?_; intro gb356 hg w12 hbox hb; have n0_ := Aside0.mk (Qb BK351 hb); have n1_ := Aside0.mk (Qb BK352 hb); have n2_ := Aside0.mk (below_step Qh hb); have n3_ := Aside0.mk (hbox); have n4_ := Aside0.mk (Qs (w := w) hg); have n5_ := Aside0.mk (Qs (w := w) hg); have n6_ := Aside0.mk (Qn hg BK351); have n7_ := Aside0.mk (Qn hg BK351).symm; have n8_ := Aside0.mk (Qn hg BK352); have n9_ := Aside0.mk (Qn hg BK352).symm; clear BK351; clear BK352; clear HB; have BK351 := n0_; have BK352 := n1_; have HB := n2_; have BK356 := n3_; have GW356 := n4_; have GE356 := n5_; have NB351_356 := n6_; have NB356_351 := n7_; have NB352_356 := n8_; have NB356_352 := n9_; clear n0_ n1_ n2_ n3_ n4_ n5_ n6_ n7_ n8_ n9_; clear hb hbox hg; have hnb13 := NB356_351.out; have hnc13 := NB351_356.out; have hnb14 := NB356_352.out; have hnc14 := NB352_356.out; obtain ⟨hcz15_0, hcz15_1, hfz15_0, hfz15_1⟩ := Z2 BK356.out) | ((with_reducible refine gate_callee (f := 82) rfl ?_); refine goesL_ (some 22) rfl rfl Tryd.func82 (by kernel_rfl) rfl #[.agg #[.string t353, .int .i64 t354], .int .i64 91] rfl Qm ?_; (with_reducible refine (samphireref09_wrong.calls t353 t354 91 t357 t358 _ A6.out).mono ?_); rintro e w16 ⟨rfl, hb⟩; refine ⟨_, rfl, ?_⟩; have n0_ := Aside0.mk (blk_below (g := gb351) (o := .cells #[.string a0_0, .int .i64 a0_1] 67 (0, 0)) Qk hb); have n1_ := Aside0.mk (blk_below (g := gb352) (o := .cells #[.string (⟨#[]⟩ : ByteArray), .int .i64 0] 67 (0, 0)) Qk hb); have n2_ := Aside0.mk (blk_below (g := gb356) (o := .cells #[.string t353, .int .i64 t354] 67 (0, 0)) Qk hb); have n3_ := Aside0.mk (below_step Qh hb); clear BK351; clear BK352; clear BK356; clear HB; have BK351 := n0_; have BK352 := n1_; have BK356 := n2_; have HB := n3_; clear n0_ n1_ n2_ n3_; (try clear hb); (try clear hb2); (try clear hk); (try clear hi); obtain ⟨hcz17_0, hcz17_1, hfz17_0, hfz17_1⟩ := Z2 BK352.out))
      refine bodyPost_ret (results_ct rfl _ _ gb352 67 #[.string t357, .int .i64 t358] (0, 0) _ rfl Qk Tryd.underlying67 rfl (by kernel_rfl)) rfl ?_
      exact ⟨Qe, Qh⟩
    · rw [if_neg c5] at H
      have c5b0 : decide (a1 < t355) = false := decide_eq_false c5
      clear c5
      by_cases c18 : t355 > (t353.size : Int)
      · rw [if_pos c18] at H
        have c18b0 : decide ((t353.size : Int) < t355) = true := decide_eq_true c18
        clear c18
        replace H := Option.bind_eq_some_iff.mp H
        obtain ⟨⟨t359, t360⟩, A190, H⟩ := H
        replace H : (some (t359, t360, (⟨#[]⟩ : ByteArray))) = some (r1, r2, r3) := H
        have A19 := Aside0.mk A190
        clear A190
        simp only [Option.some.injEq, Prod.mk.injEq] at H
        obtain ⟨rfl, rfl, rfl⟩ := H
        go_enter Tryd.func55, Tryd.ntmps55
        go_wp2_with (first | ((with_reducible refine gate_dst (N := 2) rfl ?_); refine boxQ (N := 2) (cs := #[.string a0_0, .int .i64 a0_1]) (t := 67) ?_; intro gb351 hg w20 hbox hb; have n0_ := Aside0.mk (below_step Qh hb); have n1_ := Aside0.mk (hbox); have n2_ := Aside0.mk (Qs (w := w) hg); have n3_ := Aside0.mk (Qs (w := w) hg); clear HB; have HB := n0_; have BK351 := n1_; have GW351 := n2_; have GE351 := n3_; clear n0_ n1_ n2_ n3_; clear hb hbox hg) | ((with_reducible refine gate_dst (N := 4) rfl ?_); refine boxQ (N := 4) (cs := #[.string (⟨#[]⟩ : ByteArray), .int .i64 0]) (t := 67) ?_; intro gb352 hg w21 hbox hb; have n0_ := Aside0.mk (Qb BK351 hb); have n1_ := Aside0.mk (below_step Qh hb); have n2_ := Aside0.mk (hbox); have n3_ := Aside0.mk (Qs (w := w) hg); have n4_ := Aside0.mk (Qs (w := w) hg); have n5_ := Aside0.mk (Qn hg BK351); have n6_ := Aside0.mk (Qn hg BK351).symm; clear BK351; clear HB; have BK351 := n0_; have HB := n1_; have BK352 := n2_; have GW352 := n3_; have GE352 := n4_; have NB351_352 := n5_; have NB352_351 := n6_; clear n0_ n1_ n2_ n3_ n4_ n5_ n6_; clear hb hbox hg; have hnb22 := NB351_352.out; have hnc22 := NB352_351.out; obtain ⟨hcz23_0, hcz23_1, hfz23_0, hfz23_1⟩ := Z2 BK351.out) | ((with_reducible refine gate_callee (f := 81) rfl ?_); refine goesL_ (some 11) rfl rfl Tryd.func81 (by kernel_rfl) rfl #[.agg #[.string a0_0, .int .i64 a0_1], .int .i64 2] rfl Qm ?_; (with_reducible refine (samphireref09_number.calls k a0_0 a0_1 2 t353 t354 t355 _ A3.out).mono ?_); rintro e w24 ⟨rfl, hb⟩; refine ⟨_, rfl, ?_⟩; have n0_ := Aside0.mk (Qb BK351 hb); have n1_ := Aside0.mk (Qb BK352 hb); have n2_ := Aside0.mk (below_step Qh hb); clear BK351; clear BK352; clear HB; have BK351 := n0_; have BK352 := n1_; have HB := n2_; clear n0_ n1_ n2_; (try clear hb); (try clear hb2); (try clear hk); (try clear hi)) | ((with_reducible refine gate_dst (N := 6) rfl ?_); refine boxQ (N := 6) (cs := #[.string (⟨#[]⟩ : ByteArray), .int .i64 0]) (t := 67) ?_; intro gb356 hg w25 hbox hb; have n0_ := Aside0.mk (Qb BK351 hb); have n1_ := Aside0.mk (Qb BK352 hb); have n2_ := Aside0.mk (below_step Qh hb); have n3_ := Aside0.mk (hbox); have n4_ := Aside0.mk (Qs (w := w) hg); have n5_ := Aside0.mk (Qs (w := w) hg); have n6_ := Aside0.mk (Qn hg BK351); have n7_ := Aside0.mk (Qn hg BK351).symm; have n8_ := Aside0.mk (Qn hg BK352); have n9_ := Aside0.mk (Qn hg BK352).symm; clear BK351; clear BK352; clear HB; have BK351 := n0_; have BK352 := n1_; have HB := n2_; have BK356 := n3_; have GW356 := n4_; have GE356 := n5_; have NB351_356 := n6_; have NB356_351 := n7_; have NB352_356 := n8_; have NB356_352 := n9_; clear n0_ n1_ n2_ n3_ n4_ n5_ n6_ n7_ n8_ n9_; clear hb hbox hg; have hnb26 := NB356_351.out; have hnc26 := NB351_356.out; have hnb27 := NB356_352.out; have hnc27 := NB352_356.out; obtain ⟨hcz28_0, hcz28_1, hfz28_0, hfz28_1⟩ := Z2 BK356.out) | ((with_reducible refine gate_callee (f := 82) rfl ?_); refine goesL_ (some 29) rfl rfl Tryd.func82 (by kernel_rfl) rfl #[.agg #[.string t353, .int .i64 t354], .int .i64 90] rfl Qm ?_; (with_reducible refine (samphireref09_wrong.calls t353 t354 90 t359 t360 _ A19.out).mono ?_); rintro e w29 ⟨rfl, hb⟩; refine ⟨_, rfl, ?_⟩; have n0_ := Aside0.mk (blk_below (g := gb351) (o := .cells #[.string a0_0, .int .i64 a0_1] 67 (0, 0)) Qk hb); have n1_ := Aside0.mk (blk_below (g := gb352) (o := .cells #[.string (⟨#[]⟩ : ByteArray), .int .i64 0] 67 (0, 0)) Qk hb); have n2_ := Aside0.mk (blk_below (g := gb356) (o := .cells #[.string t353, .int .i64 t354] 67 (0, 0)) Qk hb); have n3_ := Aside0.mk (below_step Qh hb); clear BK351; clear BK352; clear BK356; clear HB; have BK351 := n0_; have BK352 := n1_; have BK356 := n2_; have HB := n3_; clear n0_ n1_ n2_ n3_; (try clear hb); (try clear hb2); (try clear hk); (try clear hi); obtain ⟨hcz30_0, hcz30_1, hfz30_0, hfz30_1⟩ := Z2 BK352.out))
        refine bodyPost_ret (results_ct rfl _ _ gb352 67 #[.string t359, .int .i64 t360] (0, 0) _ rfl Qk Tryd.underlying67 rfl (by kernel_rfl)) rfl ?_
        exact ⟨Qe, Qh⟩
      · rw [if_neg c18] at H
        have c18b0 : decide ((t353.size : Int) < t355) = false := decide_eq_false c18
        clear c18
        by_cases c31 : 0 ≤ t355
        · rw [if_pos c31] at H
          have c31b0 := eq_true c31
          have c31b1 : decide (0 ≤ t355) = true := decide_eq_true c31
          clear c31
          by_cases c32 : t355 ≤ (t353.size : Int)
          · rw [if_pos c32] at H
            have c32b0 := eq_true c32
            have c32b1 : decide (t355 ≤ (t353.size : Int)) = true := decide_eq_true c32
            clear c32
            have c33b0 := eq_true (of_decide_eq_true (by first | (with_reducible assumption) | assumption) : 0 ≤ t355)
            have c34b0 := eq_true (of_decide_eq_true (by first | (with_reducible assumption) | assumption) : t355 ≤ (t353.size : Int))
            simp only [Option.some.injEq, Prod.mk.injEq] at H
            obtain ⟨rfl, rfl, rfl⟩ := H
            go_enter Tryd.func55, Tryd.ntmps55
            go_wp2_with (first | ((with_reducible refine gate_dst (N := 2) rfl ?_); refine boxQ (N := 2) (cs := #[.string a0_0, .int .i64 a0_1]) (t := 67) ?_; intro gb351 hg w35 hbox hb; have n0_ := Aside0.mk (below_step Qh hb); have n1_ := Aside0.mk (hbox); have n2_ := Aside0.mk (Qs (w := w) hg); have n3_ := Aside0.mk (Qs (w := w) hg); clear HB; have HB := n0_; have BK351 := n1_; have GW351 := n2_; have GE351 := n3_; clear n0_ n1_ n2_ n3_; clear hb hbox hg) | ((with_reducible refine gate_dst (N := 4) rfl ?_); refine boxQ (N := 4) (cs := #[.string (⟨#[]⟩ : ByteArray), .int .i64 0]) (t := 67) ?_; intro gb352 hg w36 hbox hb; have n0_ := Aside0.mk (Qb BK351 hb); have n1_ := Aside0.mk (below_step Qh hb); have n2_ := Aside0.mk (hbox); have n3_ := Aside0.mk (Qs (w := w) hg); have n4_ := Aside0.mk (Qs (w := w) hg); have n5_ := Aside0.mk (Qn hg BK351); have n6_ := Aside0.mk (Qn hg BK351).symm; clear BK351; clear HB; have BK351 := n0_; have HB := n1_; have BK352 := n2_; have GW352 := n3_; have GE352 := n4_; have NB351_352 := n5_; have NB352_351 := n6_; clear n0_ n1_ n2_ n3_ n4_ n5_ n6_; clear hb hbox hg; have hnb37 := NB351_352.out; have hnc37 := NB352_351.out; obtain ⟨hcz38_0, hcz38_1, hfz38_0, hfz38_1⟩ := Z2 BK351.out) | ((with_reducible refine gate_callee (f := 81) rfl ?_); refine goesL_ (some 11) rfl rfl Tryd.func81 (by kernel_rfl) rfl #[.agg #[.string a0_0, .int .i64 a0_1], .int .i64 2] rfl Qm ?_; (with_reducible refine (samphireref09_number.calls k a0_0 a0_1 2 t353 t354 t355 _ A3.out).mono ?_); rintro e w39 ⟨rfl, hb⟩; refine ⟨_, rfl, ?_⟩; have n0_ := Aside0.mk (Qb BK351 hb); have n1_ := Aside0.mk (Qb BK352 hb); have n2_ := Aside0.mk (below_step Qh hb); clear BK351; clear BK352; clear HB; have BK351 := n0_; have BK352 := n1_; have HB := n2_; clear n0_ n1_ n2_; (try clear hb); (try clear hb2); (try clear hk); (try clear hi)) | ((with_reducible refine gate_dst (N := 6) rfl ?_); refine boxQ (N := 6) (cs := #[.string (⟨#[]⟩ : ByteArray), .int .i64 0]) (t := 67) ?_; intro gb356 hg w40 hbox hb; have n0_ := Aside0.mk (Qb BK351 hb); have n1_ := Aside0.mk (Qb BK352 hb); have n2_ := Aside0.mk (below_step Qh hb); have n3_ := Aside0.mk (hbox); have n4_ := Aside0.mk (Qs (w := w) hg); have n5_ := Aside0.mk (Qs (w := w) hg); have n6_ := Aside0.mk (Qn hg BK351); have n7_ := Aside0.mk (Qn hg BK351).symm; have n8_ := Aside0.mk (Qn hg BK352); have n9_ := Aside0.mk (Qn hg BK352).symm; clear BK351; clear BK352; clear HB; have BK351 := n0_; have BK352 := n1_; have HB := n2_; have BK356 := n3_; have GW356 := n4_; have GE356 := n5_; have NB351_356 := n6_; have NB356_351 := n7_; have NB352_356 := n8_; have NB356_352 := n9_; clear n0_ n1_ n2_ n3_ n4_ n5_ n6_ n7_ n8_ n9_; clear hb hbox hg; have hnb41 := NB356_351.out; have hnc41 := NB351_356.out; have hnb42 := NB356_352.out; have hnc42 := NB352_356.out; obtain ⟨hcz43_0, hcz43_1, hfz43_0, hfz43_1⟩ := Z2 BK356.out; obtain ⟨hcz44_0, hcz44_1, hfz44_0, hfz44_1⟩ := Z2 BK352.out))
            refine bodyPost_ret (results_ct rfl _ _ gb352 67 #[.string (t353.extract (t355 : Int).toNat t353.size), .int .i64 t354] (0, 0) _ rfl Qk Tryd.underlying67 rfl (by kernel_rfl)) rfl ?_
            exact ⟨Qe, Qh⟩
          · rw [if_neg c32] at H
            exact absurd H (by simp)
        · rw [if_neg c31] at H
          exact absurd H (by simp)
  · rw [if_neg c4] at H
    have c4b0 : (t354 == 0) = false := beq_eq_false_iff_ne.mpr c4
    have c4b1 : (t354 != 0) = true := bne_iff_ne.mpr c4
    simp only [Option.some.injEq, Prod.mk.injEq] at H
    obtain ⟨rfl, rfl, rfl⟩ := H
    go_enter Tryd.func55, Tryd.ntmps55
    go_wp2_with (first | ((with_reducible refine gate_dst (N := 2) rfl ?_); refine boxQ (N := 2) (cs := #[.string a0_0, .int .i64 a0_1]) (t := 67) ?_; intro gb351 hg w45 hbox hb; have n0_ := Aside0.mk (below_step Qh hb); have n1_ := Aside0.mk (hbox); have n2_ := Aside0.mk (Qs (w := w) hg); have n3_ := Aside0.mk (Qs (w := w) hg); clear HB; have HB := n0_; have BK351 := n1_; have GW351 := n2_; have GE351 := n3_; clear n0_ n1_ n2_ n3_; clear hb hbox hg) | ((with_reducible refine gate_dst (N := 4) rfl ?_); refine boxQ (N := 4) (cs := #[.string (⟨#[]⟩ : ByteArray), .int .i64 0]) (t := 67) ?_; intro gb352 hg w46 hbox hb; have n0_ := Aside0.mk (Qb BK351 hb); have n1_ := Aside0.mk (below_step Qh hb); have n2_ := Aside0.mk (hbox); have n3_ := Aside0.mk (Qs (w := w) hg); have n4_ := Aside0.mk (Qs (w := w) hg); have n5_ := Aside0.mk (Qn hg BK351); have n6_ := Aside0.mk (Qn hg BK351).symm; clear BK351; clear HB; have BK351 := n0_; have HB := n1_; have BK352 := n2_; have GW352 := n3_; have GE352 := n4_; have NB351_352 := n5_; have NB352_351 := n6_; clear n0_ n1_ n2_ n3_ n4_ n5_ n6_; clear hb hbox hg; have hnb47 := NB351_352.out; have hnc47 := NB352_351.out; obtain ⟨hcz48_0, hcz48_1, hfz48_0, hfz48_1⟩ := Z2 BK351.out) | ((with_reducible refine gate_callee (f := 81) rfl ?_); refine goesL_ (some 11) rfl rfl Tryd.func81 (by kernel_rfl) rfl #[.agg #[.string a0_0, .int .i64 a0_1], .int .i64 2] rfl Qm ?_; (with_reducible refine (samphireref09_number.calls k a0_0 a0_1 2 t353 t354 t355 _ A3.out).mono ?_); rintro e w49 ⟨rfl, hb⟩; refine ⟨_, rfl, ?_⟩; have n0_ := Aside0.mk (Qb BK351 hb); have n1_ := Aside0.mk (Qb BK352 hb); have n2_ := Aside0.mk (below_step Qh hb); clear BK351; clear BK352; clear HB; have BK351 := n0_; have BK352 := n1_; have HB := n2_; clear n0_ n1_ n2_; (try clear hb); (try clear hb2); (try clear hk); (try clear hi)) | ((with_reducible refine gate_dst (N := 6) rfl ?_); refine boxQ (N := 6) (cs := #[.string (⟨#[]⟩ : ByteArray), .int .i64 0]) (t := 67) ?_; intro gb356 hg w50 hbox hb; have n0_ := Aside0.mk (Qb BK351 hb); have n1_ := Aside0.mk (Qb BK352 hb); have n2_ := Aside0.mk (below_step Qh hb); have n3_ := Aside0.mk (hbox); have n4_ := Aside0.mk (Qs (w := w) hg); have n5_ := Aside0.mk (Qs (w := w) hg); have n6_ := Aside0.mk (Qn hg BK351); have n7_ := Aside0.mk (Qn hg BK351).symm; have n8_ := Aside0.mk (Qn hg BK352); have n9_ := Aside0.mk (Qn hg BK352).symm; clear BK351; clear BK352; clear HB; have BK351 := n0_; have BK352 := n1_; have HB := n2_; have BK356 := n3_; have GW356 := n4_; have GE356 := n5_; have NB351_356 := n6_; have NB356_351 := n7_; have NB352_356 := n8_; have NB356_352 := n9_; clear n0_ n1_ n2_ n3_ n4_ n5_ n6_ n7_ n8_ n9_; clear hb hbox hg; have hnb51 := NB356_351.out; have hnc51 := NB351_356.out; have hnb52 := NB356_352.out; have hnc52 := NB352_356.out; obtain ⟨hcz53_0, hcz53_1, hfz53_0, hfz53_1⟩ := Z2 BK356.out; obtain ⟨hcz54_0, hcz54_1, hfz54_0, hfz54_1⟩ := Z2 BK352.out))
    refine bodyPost_ret (results_ct rfl _ _ gb352 67 #[.string t353, .int .i64 t354] (0, 0) _ rfl Qk Tryd.underlying67 rfl (by kernel_rfl)) rfl ?_
    exact ⟨Qe, Qh⟩

/-! ### samphireref09_InByte: function 67 -/
def samphireref09_InByte.f (k : Nat) (a0_0 : ByteArray) (a0_1 : Int) : Option (ByteArray × Int × Int) := (samphireref09_number.f k a0_0 a0_1 1).bind fun bt363 => (some (bt363.1, bt363.2.1, bt363.2.2))
theorem samphireref09_InByte.mono : ∀ a0 a1 k, LeO (samphireref09_InByte.f k a0 a1) (samphireref09_InByte.f (k + 1) a0 a1) := by
  intro a0 a1 k
  unfold samphireref09_InByte.f
  repeat' first
      | (with_reducible exact samphireref09_number.mono _ _ _ _)
      | (with_reducible exact LeO.refl _)
      | (with_reducible exact LeO.none _)
      | (with_reducible refine LeO.ite ?_ ?_)
      | (with_reducible refine LeO.bind ?_ (fun _ => ?_))
      | exact samphireref09_number.mono _ _ _ _
      | exact LeO.none _
      | refine LeO.ite ?_ ?_
      | refine LeO.bind ?_ (fun _ => ?_)
set_option maxHeartbeats 8000000 in
set_option maxRecDepth 100000 in
theorem samphireref09_InByte.calls (k : Nat) (a0_0 : ByteArray) (a0_1 : Int) (r1 : ByteArray) (r2 : Int) (r3 : Int) (w : World) (h : samphireref09_InByte.f k a0_0 a0_1 = some (r1, r2, r3)) :
    Calls Tryd.prog 67 #[.agg #[.string a0_0, .int .i64 a0_1]] w fun e w' => e = .returned (.tuple #[.agg #[.string r1, .int .i64 r2], .int .i64 r3]) ∧ Below w.heap.size w w' := by
  have hu67 := Tryd.underlying67
  have HB := Aside0.mk (Below.refl w.heap.size w)
  have H : ((samphireref09_number.f k a0_0 a0_1 1).bind fun bt363 => (some (bt363.1, bt363.2.1, bt363.2.2))) = some (r1, r2, r3) := h
  clear h
  replace H := Option.bind_eq_some_iff.mp H
  obtain ⟨⟨t363, t364, t365⟩, A20, H⟩ := H
  replace H : (some (t363, t364, t365)) = some (r1, r2, r3) := H
  have A2 := Aside0.mk A20
  clear A20
  simp only [Option.some.injEq, Prod.mk.injEq] at H
  obtain ⟨rfl, rfl, rfl⟩ := H
  go_enter Tryd.func67, Tryd.ntmps67
  go_wp2_with (first | ((with_reducible refine gate_dst (N := 1) rfl ?_); refine boxQ (N := 1) (cs := #[.string a0_0, .int .i64 a0_1]) (t := 67) ?_; intro gb361 hg w3 hbox hb; have n0_ := Aside0.mk (below_step Qh hb); have n1_ := Aside0.mk (hbox); have n2_ := Aside0.mk (Qs (w := w) hg); have n3_ := Aside0.mk (Qs (w := w) hg); clear HB; have HB := n0_; have BK361 := n1_; have GW361 := n2_; have GE361 := n3_; clear n0_ n1_ n2_ n3_; clear hb hbox hg) | ((with_reducible refine gate_dst (N := 2) rfl ?_); refine boxQ (N := 2) (cs := #[.string (⟨#[]⟩ : ByteArray), .int .i64 0]) (t := 67) ?_; intro gb362 hg w4 hbox hb; have n0_ := Aside0.mk (Qb BK361 hb); have n1_ := Aside0.mk (below_step Qh hb); have n2_ := Aside0.mk (hbox); have n3_ := Aside0.mk (Qs (w := w) hg); have n4_ := Aside0.mk (Qs (w := w) hg); have n5_ := Aside0.mk (Qn hg BK361); have n6_ := Aside0.mk (Qn hg BK361).symm; clear BK361; clear HB; have BK361 := n0_; have HB := n1_; have BK362 := n2_; have GW362 := n3_; have GE362 := n4_; have NB361_362 := n5_; have NB362_361 := n6_; clear n0_ n1_ n2_ n3_ n4_ n5_ n6_; clear hb hbox hg; have hnb5 := NB361_362.out; have hnc5 := NB362_361.out; obtain ⟨hcz6_0, hcz6_1, hfz6_0, hfz6_1⟩ := Z2 BK361.out) | ((with_reducible refine gate_callee (f := 81) rfl ?_); refine goesL_ (some 5) rfl rfl Tryd.func81 (by kernel_rfl) rfl #[.agg #[.string a0_0, .int .i64 a0_1], .int .i64 1] rfl Qm ?_; (with_reducible refine (samphireref09_number.calls k a0_0 a0_1 1 t363 t364 t365 _ A2.out).mono ?_); rintro e w7 ⟨rfl, hb⟩; refine ⟨_, rfl, ?_⟩; have n0_ := Aside0.mk (Qb BK361 hb); have n1_ := Aside0.mk (Qb BK362 hb); have n2_ := Aside0.mk (below_step Qh hb); clear BK361; clear BK362; clear HB; have BK361 := n0_; have BK362 := n1_; have HB := n2_; clear n0_ n1_ n2_; (try clear hb); (try clear hb2); (try clear hk); (try clear hi); obtain ⟨hcz8_0, hcz8_1, hfz8_0, hfz8_1⟩ := Z2 BK362.out))
  refine bodyPost_ret (results_ct rfl _ _ gb362 67 #[.string t363, .int .i64 t364] (0, 0) _ rfl Qk Tryd.underlying67 rfl (by kernel_rfl)) rfl ?_
  exact ⟨Qe, Qh⟩

/-! ### samphireref13_takeOp: function 32 -/
def samphireref13_takeOp.f (k : Nat) (a0_0 : ByteArray) (a0_1 : Int) : Option (ByteArray × Int × Int × Int × Int × Int × Int × Int × Int × ByteArray × ByteArray) := (samphireref09_InByte.f k a0_0 a0_1).bind fun bt370 => ((samphireref09_InStamp.f k bt370.1 bt370.2.1).bind fun bt373 => ((samphireref09_InStamp.f k bt373.1 bt373.2.1).bind fun bt377 => ((samphireref09_InStamp.f k bt377.1 bt377.2.1).bind fun bt381 => ((samphireref09_InText.f k bt381.1 bt381.2.1 1024).bind fun bt385 => ((samphireref09_InText.f k bt385.1 bt385.2.1 1024).bind fun bt388 => (some (bt388.1, bt388.2.1, bt370.2.2, bt373.2.2.1, bt373.2.2.2, bt377.2.2.1, bt377.2.2.2, bt381.2.2.1, bt381.2.2.2, bt385.2.2, bt388.2.2)))))))
theorem samphireref13_takeOp.mono : ∀ a0 a1 k, LeO (samphireref13_takeOp.f k a0 a1) (samphireref13_takeOp.f (k + 1) a0 a1) := by
  intro a0 a1 k
  unfold samphireref13_takeOp.f
  repeat' first
      | (with_reducible exact samphireref09_InByte.mono _ _ _)
      | (with_reducible exact samphireref09_InStamp.mono _ _ _)
      | (with_reducible exact samphireref09_InText.mono _ _ _ _)
      | (with_reducible exact LeO.refl _)
      | (with_reducible exact LeO.none _)
      | (with_reducible refine LeO.ite ?_ ?_)
      | (with_reducible refine LeO.bind ?_ (fun _ => ?_))
      | exact samphireref09_InByte.mono _ _ _
      | exact samphireref09_InStamp.mono _ _ _
      | exact samphireref09_InText.mono _ _ _ _
      | exact LeO.none _
      | refine LeO.ite ?_ ?_
      | refine LeO.bind ?_ (fun _ => ?_)
set_option maxHeartbeats 8000000 in
set_option maxRecDepth 100000 in
theorem samphireref13_takeOp.calls (k : Nat) (a0_0 : ByteArray) (a0_1 : Int) (r1 : ByteArray) (r2 : Int) (r3 : Int) (r4 : Int) (r5 : Int) (r6 : Int) (r7 : Int) (r8 : Int) (r9 : Int) (r10 : ByteArray) (r11 : ByteArray) (w : World) (h : samphireref13_takeOp.f k a0_0 a0_1 = some (r1, r2, r3, r4, r5, r6, r7, r8, r9, r10, r11)) :
    Calls Tryd.prog 32 #[.agg #[.string a0_0, .int .i64 a0_1]] w fun e w' => e = .returned (.tuple #[.agg #[.string r1, .int .i64 r2], .agg #[.int .i64 r3, .int .i64 r4, .int .i64 r5, .int .i64 r6, .int .i64 r7, .int .i64 r8, .int .i64 r9, .string r10, .string r11]]) ∧ Below w.heap.size w w' := by
  have hu67 := Tryd.underlying67
  have hu25 := Tryd.underlying25
  have hu23 := Tryd.underlying23
  have HB := Aside0.mk (Below.refl w.heap.size w)
  have H : ((samphireref09_InByte.f k a0_0 a0_1).bind fun bt370 => ((samphireref09_InStamp.f k bt370.1 bt370.2.1).bind fun bt373 => ((samphireref09_InStamp.f k bt373.1 bt373.2.1).bind fun bt377 => ((samphireref09_InStamp.f k bt377.1 bt377.2.1).bind fun bt381 => ((samphireref09_InText.f k bt381.1 bt381.2.1 1024).bind fun bt385 => ((samphireref09_InText.f k bt385.1 bt385.2.1 1024).bind fun bt388 => (some (bt388.1, bt388.2.1, bt370.2.2, bt373.2.2.1, bt373.2.2.2, bt377.2.2.1, bt377.2.2.2, bt381.2.2.1, bt381.2.2.2, bt385.2.2, bt388.2.2)))))))) = some (r1, r2, r3, r4, r5, r6, r7, r8, r9, r10, r11) := h
  clear h
  replace H := Option.bind_eq_some_iff.mp H
  obtain ⟨⟨t370, t371, t372⟩, A20, H⟩ := H
  replace H : ((samphireref09_InStamp.f k t370 t371).bind fun bt373 => ((samphireref09_InStamp.f k bt373.1 bt373.2.1).bind fun bt377 => ((samphireref09_InStamp.f k bt377.1 bt377.2.1).bind fun bt381 => ((samphireref09_InText.f k bt381.1 bt381.2.1 1024).bind fun bt385 => ((samphireref09_InText.f k bt385.1 bt385.2.1 1024).bind fun bt388 => (some (bt388.1, bt388.2.1, t372, bt373.2.2.1, bt373.2.2.2, bt377.2.2.1, bt377.2.2.2, bt381.2.2.1, bt381.2.2.2, bt385.2.2, bt388.2.2))))))) = some (r1, r2, r3, r4, r5, r6, r7, r8, r9, r10, r11) := H
  have A2 := Aside0.mk A20
  clear A20
  replace H := Option.bind_eq_some_iff.mp H
  obtain ⟨⟨t373, t374, t375, t376⟩, A30, H⟩ := H
  replace H : ((samphireref09_InStamp.f k t373 t374).bind fun bt377 => ((samphireref09_InStamp.f k bt377.1 bt377.2.1).bind fun bt381 => ((samphireref09_InText.f k bt381.1 bt381.2.1 1024).bind fun bt385 => ((samphireref09_InText.f k bt385.1 bt385.2.1 1024).bind fun bt388 => (some (bt388.1, bt388.2.1, t372, t375, t376, bt377.2.2.1, bt377.2.2.2, bt381.2.2.1, bt381.2.2.2, bt385.2.2, bt388.2.2)))))) = some (r1, r2, r3, r4, r5, r6, r7, r8, r9, r10, r11) := H
  have A3 := Aside0.mk A30
  clear A30
  replace H := Option.bind_eq_some_iff.mp H
  obtain ⟨⟨t377, t378, t379, t380⟩, A40, H⟩ := H
  replace H : ((samphireref09_InStamp.f k t377 t378).bind fun bt381 => ((samphireref09_InText.f k bt381.1 bt381.2.1 1024).bind fun bt385 => ((samphireref09_InText.f k bt385.1 bt385.2.1 1024).bind fun bt388 => (some (bt388.1, bt388.2.1, t372, t375, t376, t379, t380, bt381.2.2.1, bt381.2.2.2, bt385.2.2, bt388.2.2))))) = some (r1, r2, r3, r4, r5, r6, r7, r8, r9, r10, r11) := H
  have A4 := Aside0.mk A40
  clear A40
  replace H := Option.bind_eq_some_iff.mp H
  obtain ⟨⟨t381, t382, t383, t384⟩, A50, H⟩ := H
  replace H : ((samphireref09_InText.f k t381 t382 1024).bind fun bt385 => ((samphireref09_InText.f k bt385.1 bt385.2.1 1024).bind fun bt388 => (some (bt388.1, bt388.2.1, t372, t375, t376, t379, t380, t383, t384, bt385.2.2, bt388.2.2)))) = some (r1, r2, r3, r4, r5, r6, r7, r8, r9, r10, r11) := H
  have A5 := Aside0.mk A50
  clear A50
  replace H := Option.bind_eq_some_iff.mp H
  obtain ⟨⟨t385, t386, t387⟩, A60, H⟩ := H
  replace H : ((samphireref09_InText.f k t385 t386 1024).bind fun bt388 => (some (bt388.1, bt388.2.1, t372, t375, t376, t379, t380, t383, t384, t387, bt388.2.2))) = some (r1, r2, r3, r4, r5, r6, r7, r8, r9, r10, r11) := H
  have A6 := Aside0.mk A60
  clear A60
  replace H := Option.bind_eq_some_iff.mp H
  obtain ⟨⟨t388, t389, t390⟩, A70, H⟩ := H
  replace H : (some (t388, t389, t372, t375, t376, t379, t380, t383, t384, t387, t390)) = some (r1, r2, r3, r4, r5, r6, r7, r8, r9, r10, r11) := H
  have A7 := Aside0.mk A70
  clear A70
  simp only [Option.some.injEq, Prod.mk.injEq] at H
  obtain ⟨rfl, rfl, rfl, rfl, rfl, rfl, rfl, rfl, rfl, rfl, rfl⟩ := H
  go_enter Tryd.func32, Tryd.ntmps32
  try go_wp2_with (first | ((with_reducible refine gate_dst (N := 1) rfl ?_); refine boxQ (N := 1) (cs := #[.string a0_0, .int .i64 a0_1]) (t := 67) ?_; intro gb366 hg w8 hbox hb; have n0_ := Aside0.mk (below_step Qh hb); have n1_ := Aside0.mk (hbox); have n2_ := Aside0.mk (Qs (w := w) hg); have n3_ := Aside0.mk (Qs (w := w) hg); clear HB; have HB := n0_; have BK366 := n1_; have GW366 := n2_; have GE366 := n3_; clear n0_ n1_ n2_ n3_; clear hb hbox hg) | ((with_reducible refine gate_dst (N := 2) rfl ?_); refine boxQ (N := 2) (cs := #[.string (⟨#[]⟩ : ByteArray), .int .i64 0]) (t := 67) ?_; intro gb367 hg w9 hbox hb; have n0_ := Aside0.mk (Qb BK366 hb); have n1_ := Aside0.mk (below_step Qh hb); have n2_ := Aside0.mk (hbox); have n3_ := Aside0.mk (Qs (w := w) hg); have n4_ := Aside0.mk (Qs (w := w) hg); have n5_ := Aside0.mk (Qn hg BK366); have n6_ := Aside0.mk (Qn hg BK366).symm; clear BK366; clear HB; have BK366 := n0_; have HB := n1_; have BK367 := n2_; have GW367 := n3_; have GE367 := n4_; have NB366_367 := n5_; have NB367_366 := n6_; clear n0_ n1_ n2_ n3_ n4_ n5_ n6_; clear hb hbox hg) | ((with_reducible refine gate_dst (N := 3) rfl ?_); refine boxQ (N := 3) (cs := #[.int .i64 0, .int .i64 0, .int .i64 0, .int .i64 0, .int .i64 0, .int .i64 0, .int .i64 0, .string (⟨#[]⟩ : ByteArray), .string (⟨#[]⟩ : ByteArray)]) (t := 25) ?_; intro gb368 hg w10 hbox hb; have n0_ := Aside0.mk (Qb BK366 hb); have n1_ := Aside0.mk (Qb BK367 hb); have n2_ := Aside0.mk (below_step Qh hb); have n3_ := Aside0.mk (hbox); have n4_ := Aside0.mk (Qs (w := w) hg); have n5_ := Aside0.mk (Qs (w := w) hg); have n6_ := Aside0.mk (Qn hg BK366); have n7_ := Aside0.mk (Qn hg BK366).symm; have n8_ := Aside0.mk (Qn hg BK367); have n9_ := Aside0.mk (Qn hg BK367).symm; clear BK366; clear BK367; clear HB; have BK366 := n0_; have BK367 := n1_; have HB := n2_; have BK368 := n3_; have GW368 := n4_; have GE368 := n5_; have NB366_368 := n6_; have NB368_366 := n7_; have NB367_368 := n8_; have NB368_367 := n9_; clear n0_ n1_ n2_ n3_ n4_ n5_ n6_ n7_ n8_ n9_; clear hb hbox hg) | ((with_reducible refine gate_dst (N := 4) rfl ?_); refine boxQ (N := 4) (cs := #[.int .i64 0, .int .i64 0, .int .i64 0, .int .i64 0, .int .i64 0, .int .i64 0, .int .i64 0, .string (⟨#[]⟩ : ByteArray), .string (⟨#[]⟩ : ByteArray)]) (t := 25) ?_; intro gb369 hg w11 hbox hb; have n0_ := Aside0.mk (Qb BK366 hb); have n1_ := Aside0.mk (Qb BK367 hb); have n2_ := Aside0.mk (Qb BK368 hb); have n3_ := Aside0.mk (below_step Qh hb); have n4_ := Aside0.mk (hbox); have n5_ := Aside0.mk (Qs (w := w) hg); have n6_ := Aside0.mk (Qs (w := w) hg); have n7_ := Aside0.mk (Qn hg BK366); have n8_ := Aside0.mk (Qn hg BK366).symm; have n9_ := Aside0.mk (Qn hg BK367); have n10_ := Aside0.mk (Qn hg BK367).symm; have n11_ := Aside0.mk (Qn hg BK368); have n12_ := Aside0.mk (Qn hg BK368).symm; clear BK366; clear BK367; clear BK368; clear HB; have BK366 := n0_; have BK367 := n1_; have BK368 := n2_; have HB := n3_; have BK369 := n4_; have GW369 := n5_; have GE369 := n6_; have NB366_369 := n7_; have NB369_366 := n8_; have NB367_369 := n9_; have NB369_367 := n10_; have NB368_369 := n11_; have NB369_368 := n12_; clear n0_ n1_ n2_ n3_ n4_ n5_ n6_ n7_ n8_ n9_ n10_ n11_ n12_; clear hb hbox hg; have hnb12 := NB369_366.out; have hnc12 := NB366_369.out; have hnb13 := NB369_367.out; have hnc13 := NB367_369.out; have hnb14 := NB369_368.out; have hnc14 := NB368_369.out; obtain ⟨hcz15_0, hcz15_1, hcz15_2, hcz15_3, hcz15_4, hcz15_5, hcz15_6, hcz15_7, hcz15_8, hfz15_0, hfz15_1, hfz15_2, hfz15_3, hfz15_4, hfz15_5, hfz15_6, hfz15_7, hfz15_8⟩ := Z9 BK369.out; have hnb16 := NB366_367.out; have hnc16 := NB367_366.out; have hnb17 := NB366_368.out; have hnc17 := NB368_366.out; obtain ⟨hcz18_0, hcz18_1, hfz18_0, hfz18_1⟩ := Z2 BK366.out) | ((with_reducible refine gate_callee (f := 67) rfl ?_); refine goesL_ (some 8) rfl rfl Tryd.func67 (by kernel_rfl) rfl #[.agg #[.string a0_0, .int .i64 a0_1]] rfl Qm ?_; (with_reducible refine (samphireref09_InByte.calls k a0_0 a0_1 t370 t371 t372 _ A2.out).mono ?_); rintro e w19 ⟨rfl, hb⟩; refine ⟨_, rfl, ?_⟩; have n0_ := Aside0.mk (blk_below (g := gb366) (o := .cells #[.string a0_0, .int .i64 a0_1] 67 (0, 0)) Qk hb); have n1_ := Aside0.mk (blk_below (g := gb367) (o := .cells #[.string (⟨#[]⟩ : ByteArray), .int .i64 0] 67 (0, 0)) Qk hb); have n2_ := Aside0.mk (blk_below (g := gb368) (o := .cells #[.int .i64 0, .int .i64 0, .int .i64 0, .int .i64 0, .int .i64 0, .int .i64 0, .int .i64 0, .string (⟨#[]⟩ : ByteArray), .string (⟨#[]⟩ : ByteArray)] 25 (0, 0)) Qk hb); have n3_ := Aside0.mk (blk_below (g := gb369) (o := .cells #[.int .i64 0, .int .i64 0, .int .i64 0, .int .i64 0, .int .i64 0, .int .i64 0, .int .i64 0, .string (⟨#[]⟩ : ByteArray), .string (⟨#[]⟩ : ByteArray)] 25 (0, 0)) Qk hb); have n4_ := Aside0.mk (below_step Qh hb); clear BK366; clear BK367; clear BK368; clear BK369; clear HB; have BK366 := n0_; have BK367 := n1_; have BK368 := n2_; have BK369 := n3_; have HB := n4_; clear n0_ n1_ n2_ n3_ n4_; (try clear hb); (try clear hb2); (try clear hk); (try clear hi); obtain ⟨hcz20_0, hcz20_1, hfz20_0, hfz20_1⟩ := Z2 BK366.out; obtain ⟨hcz21_0, hcz21_1, hcz21_2, hcz21_3, hcz21_4, hcz21_5, hcz21_6, hcz21_7, hcz21_8, hfz21_0, hfz21_1, hfz21_2, hfz21_3, hfz21_4, hfz21_5, hfz21_6, hfz21_7, hfz21_8⟩ := Z9 BK369.out) | ((with_reducible refine gate_callee (f := 53) rfl ?_); refine goesL_ (some 14) rfl rfl Tryd.func53 (by kernel_rfl) rfl #[.agg #[.string t370, .int .i64 t371]] rfl Qm ?_; (with_reducible refine (samphireref09_InStamp.calls k t370 t371 t373 t374 t375 t376 _ A3.out).mono ?_); rintro e w22 ⟨rfl, hb⟩; refine ⟨_, rfl, ?_⟩; have n0_ := Aside0.mk (blk_below (g := gb366) (o := .cells #[.string t370, .int .i64 t371] 67 (0, 0)) Qk hb); have n1_ := Aside0.mk (blk_below (g := gb367) (o := .cells #[.string (⟨#[]⟩ : ByteArray), .int .i64 0] 67 (0, 0)) Qk hb); have n2_ := Aside0.mk (blk_below (g := gb368) (o := .cells #[.int .i64 0, .int .i64 0, .int .i64 0, .int .i64 0, .int .i64 0, .int .i64 0, .int .i64 0, .string (⟨#[]⟩ : ByteArray), .string (⟨#[]⟩ : ByteArray)] 25 (0, 0)) Qk hb); have n3_ := Aside0.mk (blk_below (g := gb369) (o := .cells #[.int .i64 t372, .int .i64 0, .int .i64 0, .int .i64 0, .int .i64 0, .int .i64 0, .int .i64 0, .string (⟨#[]⟩ : ByteArray), .string (⟨#[]⟩ : ByteArray)] 25 (0, 0)) Qk hb); have n4_ := Aside0.mk (below_step Qh hb); clear BK366; clear BK367; clear BK368; clear BK369; clear HB; have BK366 := n0_; have BK367 := n1_; have BK368 := n2_; have BK369 := n3_; have HB := n4_; clear n0_ n1_ n2_ n3_ n4_; (try clear hb); (try clear hb2); (try clear hk); (try clear hi); obtain ⟨hcz23_0, hcz23_1, hfz23_0, hfz23_1⟩ := Z2 BK366.out; obtain ⟨hcz24_0, hcz24_1, hcz24_2, hcz24_3, hcz24_4, hcz24_5, hcz24_6, hcz24_7, hcz24_8, hfz24_0, hfz24_1, hfz24_2, hfz24_3, hfz24_4, hfz24_5, hfz24_6, hfz24_7, hfz24_8⟩ := Z9 BK369.out) | ((with_reducible refine gate_callee (f := 53) rfl ?_); refine goesL_ (some 20) rfl rfl Tryd.func53 (by kernel_rfl) rfl #[.agg #[.string t373, .int .i64 t374]] rfl Qm ?_; (with_reducible refine (samphireref09_InStamp.calls k t373 t374 t377 t378 t379 t380 _ A4.out).mono ?_); rintro e w25 ⟨rfl, hb⟩; refine ⟨_, rfl, ?_⟩; have n0_ := Aside0.mk (blk_below (g := gb366) (o := .cells #[.string t373, .int .i64 t374] 67 (0, 0)) Qk hb); have n1_ := Aside0.mk (blk_below (g := gb367) (o := .cells #[.string (⟨#[]⟩ : ByteArray), .int .i64 0] 67 (0, 0)) Qk hb); have n2_ := Aside0.mk (blk_below (g := gb368) (o := .cells #[.int .i64 0, .int .i64 0, .int .i64 0, .int .i64 0, .int .i64 0, .int .i64 0, .int .i64 0, .string (⟨#[]⟩ : ByteArray), .string (⟨#[]⟩ : ByteArray)] 25 (0, 0)) Qk hb); have n3_ := Aside0.mk (blk_below (g := gb369) (o := .cells #[.int .i64 t372, .int .i64 t375, .int .i64 t376, .int .i64 0, .int .i64 0, .int .i64 0, .int .i64 0, .string (⟨#[]⟩ : ByteArray), .string (⟨#[]⟩ : ByteArray)] 25 (0, 0)) Qk hb); have n4_ := Aside0.mk (below_step Qh hb); clear BK366; clear BK367; clear BK368; clear BK369; clear HB; have BK366 := n0_; have BK367 := n1_; have BK368 := n2_; have BK369 := n3_; have HB := n4_; clear n0_ n1_ n2_ n3_ n4_; (try clear hb); (try clear hb2); (try clear hk); (try clear hi); obtain ⟨hcz26_0, hcz26_1, hfz26_0, hfz26_1⟩ := Z2 BK366.out; obtain ⟨hcz27_0, hcz27_1, hcz27_2, hcz27_3, hcz27_4, hcz27_5, hcz27_6, hcz27_7, hcz27_8, hfz27_0, hfz27_1, hfz27_2, hfz27_3, hfz27_4, hfz27_5, hfz27_6, hfz27_7, hfz27_8⟩ := Z9 BK369.out) | ((with_reducible refine gate_callee (f := 53) rfl ?_); refine goesL_ (some 26) rfl rfl Tryd.func53 (by kernel_rfl) rfl #[.agg #[.string t377, .int .i64 t378]] rfl Qm ?_; (with_reducible refine (samphireref09_InStamp.calls k t377 t378 t381 t382 t383 t384 _ A5.out).mono ?_); rintro e w28 ⟨rfl, hb⟩; refine ⟨_, rfl, ?_⟩; have n0_ := Aside0.mk (blk_below (g := gb366) (o := .cells #[.string t377, .int .i64 t378] 67 (0, 0)) Qk hb); have n1_ := Aside0.mk (blk_below (g := gb367) (o := .cells #[.string (⟨#[]⟩ : ByteArray), .int .i64 0] 67 (0, 0)) Qk hb); have n2_ := Aside0.mk (blk_below (g := gb368) (o := .cells #[.int .i64 0, .int .i64 0, .int .i64 0, .int .i64 0, .int .i64 0, .int .i64 0, .int .i64 0, .string (⟨#[]⟩ : ByteArray), .string (⟨#[]⟩ : ByteArray)] 25 (0, 0)) Qk hb); have n3_ := Aside0.mk (blk_below (g := gb369) (o := .cells #[.int .i64 t372, .int .i64 t375, .int .i64 t376, .int .i64 t379, .int .i64 t380, .int .i64 0, .int .i64 0, .string (⟨#[]⟩ : ByteArray), .string (⟨#[]⟩ : ByteArray)] 25 (0, 0)) Qk hb); have n4_ := Aside0.mk (below_step Qh hb); clear BK366; clear BK367; clear BK368; clear BK369; clear HB; have BK366 := n0_; have BK367 := n1_; have BK368 := n2_; have BK369 := n3_; have HB := n4_; clear n0_ n1_ n2_ n3_ n4_; (try clear hb); (try clear hb2); (try clear hk); (try clear hi); obtain ⟨hcz29_0, hcz29_1, hfz29_0, hfz29_1⟩ := Z2 BK366.out; obtain ⟨hcz30_0, hcz30_1, hcz30_2, hcz30_3, hcz30_4, hcz30_5, hcz30_6, hcz30_7, hcz30_8, hfz30_0, hfz30_1, hfz30_2, hfz30_3, hfz30_4, hfz30_5, hfz30_6, hfz30_7, hfz30_8⟩ := Z9 BK369.out) | ((with_reducible refine gate_callee (f := 55) rfl ?_); refine goesL_ (some 32) rfl rfl Tryd.func55 (by kernel_rfl) rfl #[.agg #[.string t381, .int .i64 t382], .int .i64 1024] rfl Qm ?_; (with_reducible refine (samphireref09_InText.calls k t381 t382 1024 t385 t386 t387 _ A6.out).mono ?_); rintro e w31 ⟨rfl, hb⟩; refine ⟨_, rfl, ?_⟩; have n0_ := Aside0.mk (blk_below (g := gb366) (o := .cells #[.string t381, .int .i64 t382] 67 (0, 0)) Qk hb); have n1_ := Aside0.mk (blk_below (g := gb367) (o := .cells #[.string (⟨#[]⟩ : ByteArray), .int .i64 0] 67 (0, 0)) Qk hb); have n2_ := Aside0.mk (blk_below (g := gb368) (o := .cells #[.int .i64 0, .int .i64 0, .int .i64 0, .int .i64 0, .int .i64 0, .int .i64 0, .int .i64 0, .string (⟨#[]⟩ : ByteArray), .string (⟨#[]⟩ : ByteArray)] 25 (0, 0)) Qk hb); have n3_ := Aside0.mk (blk_below (g := gb369) (o := .cells #[.int .i64 t372, .int .i64 t375, .int .i64 t376, .int .i64 t379, .int .i64 t380, .int .i64 t383, .int .i64 t384, .string (⟨#[]⟩ : ByteArray), .string (⟨#[]⟩ : ByteArray)] 25 (0, 0)) Qk hb); have n4_ := Aside0.mk (below_step Qh hb); clear BK366; clear BK367; clear BK368; clear BK369; clear HB; have BK366 := n0_; have BK367 := n1_; have BK368 := n2_; have BK369 := n3_; have HB := n4_; clear n0_ n1_ n2_ n3_ n4_; (try clear hb); (try clear hb2); (try clear hk); (try clear hi); obtain ⟨hcz32_0, hcz32_1, hfz32_0, hfz32_1⟩ := Z2 BK366.out; obtain ⟨hcz33_0, hcz33_1, hcz33_2, hcz33_3, hcz33_4, hcz33_5, hcz33_6, hcz33_7, hcz33_8, hfz33_0, hfz33_1, hfz33_2, hfz33_3, hfz33_4, hfz33_5, hfz33_6, hfz33_7, hfz33_8⟩ := Z9 BK369.out) | ((with_reducible refine gate_callee (f := 55) rfl ?_); refine goesL_ (some 38) rfl rfl Tryd.func55 (by kernel_rfl) rfl #[.agg #[.string t385, .int .i64 t386], .int .i64 1024] rfl Qm ?_; (with_reducible refine (samphireref09_InText.calls k t385 t386 1024 t388 t389 t390 _ A7.out).mono ?_); rintro e w34 ⟨rfl, hb⟩; refine ⟨_, rfl, ?_⟩; have n0_ := Aside0.mk (blk_below (g := gb366) (o := .cells #[.string t385, .int .i64 t386] 67 (0, 0)) Qk hb); have n1_ := Aside0.mk (blk_below (g := gb367) (o := .cells #[.string (⟨#[]⟩ : ByteArray), .int .i64 0] 67 (0, 0)) Qk hb); have n2_ := Aside0.mk (blk_below (g := gb368) (o := .cells #[.int .i64 0, .int .i64 0, .int .i64 0, .int .i64 0, .int .i64 0, .int .i64 0, .int .i64 0, .string (⟨#[]⟩ : ByteArray), .string (⟨#[]⟩ : ByteArray)] 25 (0, 0)) Qk hb); have n3_ := Aside0.mk (blk_below (g := gb369) (o := .cells #[.int .i64 t372, .int .i64 t375, .int .i64 t376, .int .i64 t379, .int .i64 t380, .int .i64 t383, .int .i64 t384, .string t387, .string (⟨#[]⟩ : ByteArray)] 25 (0, 0)) Qk hb); have n4_ := Aside0.mk (below_step Qh hb); clear BK366; clear BK367; clear BK368; clear BK369; clear HB; have BK366 := n0_; have BK367 := n1_; have BK368 := n2_; have BK369 := n3_; have HB := n4_; clear n0_ n1_ n2_ n3_ n4_; (try clear hb); (try clear hb2); (try clear hk); (try clear hi); obtain ⟨hcz35_0, hcz35_1, hfz35_0, hfz35_1⟩ := Z2 BK366.out; obtain ⟨hcz36_0, hcz36_1, hcz36_2, hcz36_3, hcz36_4, hcz36_5, hcz36_6, hcz36_7, hcz36_8, hfz36_0, hfz36_1, hfz36_2, hfz36_3, hfz36_4, hfz36_5, hfz36_6, hfz36_7, hfz36_8⟩ := Z9 BK369.out))
  have n0_ : Aside0 ((((w34.setCell ⟨gb366, 0, none⟩ (.string t388)).setCell ⟨gb366, 1, none⟩ (.int .i64 t389)).setCell ⟨gb369, 8, none⟩ (.string t390)).heap[gb366]? = some (.cells #[.string t388, .int .i64 t389] 67 (0, 0))) := ⟨Qk⟩
  have n1_ : Aside0 ((((w34.setCell ⟨gb366, 0, none⟩ (.string t388)).setCell ⟨gb366, 1, none⟩ (.int .i64 t389)).setCell ⟨gb369, 8, none⟩ (.string t390)).heap[gb367]? = some (.cells #[.string (⟨#[]⟩ : ByteArray), .int .i64 0] 67 (0, 0))) := ⟨Qk⟩
  have n2_ : Aside0 ((((w34.setCell ⟨gb366, 0, none⟩ (.string t388)).setCell ⟨gb366, 1, none⟩ (.int .i64 t389)).setCell ⟨gb369, 8, none⟩ (.string t390)).heap[gb368]? = some (.cells #[.int .i64 0, .int .i64 0, .int .i64 0, .int .i64 0, .int .i64 0, .int .i64 0, .int .i64 0, .string (⟨#[]⟩ : ByteArray), .string (⟨#[]⟩ : ByteArray)] 25 (0, 0))) := ⟨Qk⟩
  have n3_ : Aside0 ((((w34.setCell ⟨gb366, 0, none⟩ (.string t388)).setCell ⟨gb366, 1, none⟩ (.int .i64 t389)).setCell ⟨gb369, 8, none⟩ (.string t390)).heap[gb369]? = some (.cells #[.int .i64 t372, .int .i64 t375, .int .i64 t376, .int .i64 t379, .int .i64 t380, .int .i64 t383, .int .i64 t384, .string t387, .string t390] 25 (0, 0))) := ⟨Qk⟩
  have n4_ : Aside0 (Below w.heap.size w (((w34.setCell ⟨gb366, 0, none⟩ (.string t388)).setCell ⟨gb366, 1, none⟩ (.int .i64 t389)).setCell ⟨gb369, 8, none⟩ (.string t390))) := ⟨Qh⟩
  (try clear BK366)
  (try clear BK367)
  (try clear BK368)
  (try clear BK369)
  (try clear HB)
  generalize (((w34.setCell ⟨gb366, 0, none⟩ (.string t388)).setCell ⟨gb366, 1, none⟩ (.int .i64 t389)).setCell ⟨gb369, 8, none⟩ (.string t390)) = w37 at n0_ n1_ n2_ n3_ n4_ ⊢
  have BK366 := n0_
  have BK367 := n1_
  have BK368 := n2_
  have BK369 := n3_
  have HB := n4_
  clear n0_ n1_ n2_ n3_ n4_
  have n0_ := Aside0.mk (blk_drew BK366.out)
  have n1_ := Aside0.mk (blk_drew BK367.out)
  have n2_ := Aside0.mk (blk_drew BK368.out)
  have n3_ := Aside0.mk (blk_drew BK369.out)
  have n4_ := Aside0.mk (below_drew1 HB.out)
  clear BK366
  clear BK367
  clear BK368
  clear BK369
  clear HB
  have BK366 := n0_
  have BK367 := n1_
  have BK368 := n2_
  have BK369 := n3_
  have HB := n4_
  clear n0_ n1_ n2_ n3_ n4_
  refine start_ (n := 4) (S := fun w' => w'.cell? ⟨gb366, 0, none⟩ = some (.string t388) ∧ w'.cell? ⟨gb366, 1, none⟩ = some (.int .i64 t389) ∧ w'.cell? ⟨gb369, 0, none⟩ = some (.int .i64 t372) ∧ w'.cell? ⟨gb369, 1, none⟩ = some (.int .i64 t375) ∧ w'.cell? ⟨gb369, 2, none⟩ = some (.int .i64 t376) ∧ w'.cell? ⟨gb369, 3, none⟩ = some (.int .i64 t379) ∧ w'.cell? ⟨gb369, 4, none⟩ = some (.int .i64 t380) ∧ w'.cell? ⟨gb369, 5, none⟩ = some (.int .i64 t383) ∧ w'.cell? ⟨gb369, 6, none⟩ = some (.int .i64 t384) ∧ w'.cell? ⟨gb369, 7, none⟩ = some (.string t387) ∧ w'.cell? ⟨gb369, 8, none⟩ = some (.string t390)) (ds := []) #[false, false, false, false] (by kernel_rfl) rfl rfl ⟨(blk_cell BK366.out 0).trans rfl, (blk_cell BK366.out 1).trans rfl, (blk_cell BK369.out 0).trans rfl, (blk_cell BK369.out 1).trans rfl, (blk_cell BK369.out 2).trans rfl, (blk_cell BK369.out 3).trans rfl, (blk_cell BK369.out 4).trans rfl, (blk_cell BK369.out 5).trans rfl, (blk_cell BK369.out 6).trans rfl, (blk_cell BK369.out 7).trans rfl, (blk_cell BK369.out 8).trans rfl⟩ (fun hHeld => ?_)
  generalize w37.drew = w38 at BK366 BK367 BK368 BK369 HB hHeld ⊢
  refine take_ (i := 0) (N := some 42) (v := ?_) (a' := ?_) #[true, false, false, false] rfl rfl (by kernel_rfl) (fun _ _ _ h => h) (Or.inl ⟨by rfl, ?_⟩) hHeld ?_ ?_
  rotate_left
  · rintro w' ⟨s0, s1, s2, s3, s4, s5, s6, s7, s8, s9, s10⟩
    go_simp
    with_reducible rfl
  rotate_left
  · simp only [Act.put, List.setIfInBounds_toArray, List.set_cons_zero, List.set_cons_succ, i64_w, i32_w]
    rfl
  refine take_ (i := 1) (N := some 43) (v := ?_) (a' := ?_) #[true, true, false, false] rfl rfl (by kernel_rfl) (fun _ _ _ h => h) (Or.inl ⟨by rfl, ?_⟩) hHeld ?_ ?_
  rotate_left
  · rintro w' ⟨s0, s1, s2, s3, s4, s5, s6, s7, s8, s9, s10⟩
    go_simp
    with_reducible rfl
  rotate_left
  · simp only [Act.put, List.setIfInBounds_toArray, List.set_cons_zero, List.set_cons_succ, i64_w, i32_w]
    rfl
  refine one_ (i := 2) (N := none) #[true, true, true, false] rfl rfl (by kernel_rfl) (by decide) (fun K hK => ?_)
  have hs39 : w38.cell? ⟨gb367, 0, none⟩ = some (.string (⟨#[]⟩ : ByteArray)) := (blk_cell BK367.out 0).trans rfl
  have hfs39 := blk_frozen BK367.out 0
  have hns39_0 := NB366_367.out
  have hns39_2 := NB368_367.out
  have hns39_3 := NB369_367.out
  have hms39_0 := NB367_366.out
  have hms39_2 := NB367_368.out
  have hms39_3 := NB367_369.out
  have hs40 : w38.cell? ⟨gb367, 1, none⟩ = some (.int .i64 0) := (blk_cell BK367.out 1).trans rfl
  have hfs40 := blk_frozen BK367.out 1
  have hns40_0 := NB366_367.out
  have hns40_2 := NB368_367.out
  have hns40_3 := NB369_367.out
  have hms40_0 := NB367_366.out
  have hms40_2 := NB367_368.out
  have hms40_3 := NB367_369.out
  refine skip_ (w1 := ?_) (by rfl) rfl ?_ ?_
  rotate_left
  · go_simp
    rfl
  refine hK.out _ _ ⟨((cell_far (p := ⟨gb367, _, none⟩) NB366_367.out _).trans (((cell_far (p := ⟨gb367, _, none⟩) NB366_367.out _).trans (hHeld.1)))), ((cell_far (p := ⟨gb367, _, none⟩) NB366_367.out _).trans (((cell_far (p := ⟨gb367, _, none⟩) NB366_367.out _).trans (hHeld.2.1)))), ((cell_far (p := ⟨gb367, _, none⟩) NB369_367.out _).trans (((cell_far (p := ⟨gb367, _, none⟩) NB369_367.out _).trans (hHeld.2.2.1)))), ((cell_far (p := ⟨gb367, _, none⟩) NB369_367.out _).trans (((cell_far (p := ⟨gb367, _, none⟩) NB369_367.out _).trans (hHeld.2.2.2.1)))), ((cell_far (p := ⟨gb367, _, none⟩) NB369_367.out _).trans (((cell_far (p := ⟨gb367, _, none⟩) NB369_367.out _).trans (hHeld.2.2.2.2.1)))), ((cell_far (p := ⟨gb367, _, none⟩) NB369_367.out _).trans (((cell_far (p := ⟨gb367, _, none⟩) NB369_367.out _).trans (hHeld.2.2.2.2.2.1)))), ((cell_far (p := ⟨gb367, _, none⟩) NB369_367.out _).trans (((cell_far (p := ⟨gb367, _, none⟩) NB369_367.out _).trans (hHeld.2.2.2.2.2.2.1)))), ((cell_far (p := ⟨gb367, _, none⟩) NB369_367.out _).trans (((cell_far (p := ⟨gb367, _, none⟩) NB369_367.out _).trans (hHeld.2.2.2.2.2.2.2.1)))), ((cell_far (p := ⟨gb367, _, none⟩) NB369_367.out _).trans (((cell_far (p := ⟨gb367, _, none⟩) NB369_367.out _).trans (hHeld.2.2.2.2.2.2.2.2.1)))), ((cell_far (p := ⟨gb367, _, none⟩) NB369_367.out _).trans (((cell_far (p := ⟨gb367, _, none⟩) NB369_367.out _).trans (hHeld.2.2.2.2.2.2.2.2.2.1)))), ((cell_far (p := ⟨gb367, _, none⟩) NB369_367.out _).trans (((cell_far (p := ⟨gb367, _, none⟩) NB369_367.out _).trans (hHeld.2.2.2.2.2.2.2.2.2.2))))⟩ (fun hHeld => ?_)
  clear hK K
  refine one_ (i := 3) (N := none) #[true, true, true, true] rfl rfl (by kernel_rfl) (by decide) (fun K hK => ?_)
  have hs41 : w38.cell? ⟨gb368, 0, none⟩ = some (.int .i64 0) := (blk_cell BK368.out 0).trans rfl
  have hfs41 := blk_frozen BK368.out 0
  have hns41_0 := NB366_368.out
  have hns41_1 := NB367_368.out
  have hns41_3 := NB369_368.out
  have hms41_0 := NB368_366.out
  have hms41_1 := NB368_367.out
  have hms41_3 := NB368_369.out
  have hs42 : w38.cell? ⟨gb368, 1, none⟩ = some (.int .i64 0) := (blk_cell BK368.out 1).trans rfl
  have hfs42 := blk_frozen BK368.out 1
  have hns42_0 := NB366_368.out
  have hns42_1 := NB367_368.out
  have hns42_3 := NB369_368.out
  have hms42_0 := NB368_366.out
  have hms42_1 := NB368_367.out
  have hms42_3 := NB368_369.out
  have hs43 : w38.cell? ⟨gb368, 2, none⟩ = some (.int .i64 0) := (blk_cell BK368.out 2).trans rfl
  have hfs43 := blk_frozen BK368.out 2
  have hns43_0 := NB366_368.out
  have hns43_1 := NB367_368.out
  have hns43_3 := NB369_368.out
  have hms43_0 := NB368_366.out
  have hms43_1 := NB368_367.out
  have hms43_3 := NB368_369.out
  have hs44 : w38.cell? ⟨gb368, 3, none⟩ = some (.int .i64 0) := (blk_cell BK368.out 3).trans rfl
  have hfs44 := blk_frozen BK368.out 3
  have hns44_0 := NB366_368.out
  have hns44_1 := NB367_368.out
  have hns44_3 := NB369_368.out
  have hms44_0 := NB368_366.out
  have hms44_1 := NB368_367.out
  have hms44_3 := NB368_369.out
  have hs45 : w38.cell? ⟨gb368, 4, none⟩ = some (.int .i64 0) := (blk_cell BK368.out 4).trans rfl
  have hfs45 := blk_frozen BK368.out 4
  have hns45_0 := NB366_368.out
  have hns45_1 := NB367_368.out
  have hns45_3 := NB369_368.out
  have hms45_0 := NB368_366.out
  have hms45_1 := NB368_367.out
  have hms45_3 := NB368_369.out
  have hs46 : w38.cell? ⟨gb368, 5, none⟩ = some (.int .i64 0) := (blk_cell BK368.out 5).trans rfl
  have hfs46 := blk_frozen BK368.out 5
  have hns46_0 := NB366_368.out
  have hns46_1 := NB367_368.out
  have hns46_3 := NB369_368.out
  have hms46_0 := NB368_366.out
  have hms46_1 := NB368_367.out
  have hms46_3 := NB368_369.out
  have hs47 : w38.cell? ⟨gb368, 6, none⟩ = some (.int .i64 0) := (blk_cell BK368.out 6).trans rfl
  have hfs47 := blk_frozen BK368.out 6
  have hns47_0 := NB366_368.out
  have hns47_1 := NB367_368.out
  have hns47_3 := NB369_368.out
  have hms47_0 := NB368_366.out
  have hms47_1 := NB368_367.out
  have hms47_3 := NB368_369.out
  have hs48 : w38.cell? ⟨gb368, 7, none⟩ = some (.string (⟨#[]⟩ : ByteArray)) := (blk_cell BK368.out 7).trans rfl
  have hfs48 := blk_frozen BK368.out 7
  have hns48_0 := NB366_368.out
  have hns48_1 := NB367_368.out
  have hns48_3 := NB369_368.out
  have hms48_0 := NB368_366.out
  have hms48_1 := NB368_367.out
  have hms48_3 := NB368_369.out
  have hs49 : w38.cell? ⟨gb368, 8, none⟩ = some (.string (⟨#[]⟩ : ByteArray)) := (blk_cell BK368.out 8).trans rfl
  have hfs49 := blk_frozen BK368.out 8
  have hns49_0 := NB366_368.out
  have hns49_1 := NB367_368.out
  have hns49_3 := NB369_368.out
  have hms49_0 := NB368_366.out
  have hms49_1 := NB368_367.out
  have hms49_3 := NB368_369.out
  refine skip_ (w1 := ?_) (by rfl) rfl ?_ ?_
  rotate_left
  · go_simp
    rfl
  refine hK.out _ _ ⟨((cell_far (p := ⟨gb368, _, none⟩) NB366_368.out _).trans (((cell_far (p := ⟨gb368, _, none⟩) NB366_368.out _).trans (((cell_far (p := ⟨gb368, _, none⟩) NB366_368.out _).trans (((cell_far (p := ⟨gb368, _, none⟩) NB366_368.out _).trans (((cell_far (p := ⟨gb368, _, none⟩) NB366_368.out _).trans (((cell_far (p := ⟨gb368, _, none⟩) NB366_368.out _).trans (((cell_far (p := ⟨gb368, _, none⟩) NB366_368.out _).trans (((cell_far (p := ⟨gb368, _, none⟩) NB366_368.out _).trans (((cell_far (p := ⟨gb368, _, none⟩) NB366_368.out _).trans (hHeld.1)))))))))))))))))), ((cell_far (p := ⟨gb368, _, none⟩) NB366_368.out _).trans (((cell_far (p := ⟨gb368, _, none⟩) NB366_368.out _).trans (((cell_far (p := ⟨gb368, _, none⟩) NB366_368.out _).trans (((cell_far (p := ⟨gb368, _, none⟩) NB366_368.out _).trans (((cell_far (p := ⟨gb368, _, none⟩) NB366_368.out _).trans (((cell_far (p := ⟨gb368, _, none⟩) NB366_368.out _).trans (((cell_far (p := ⟨gb368, _, none⟩) NB366_368.out _).trans (((cell_far (p := ⟨gb368, _, none⟩) NB366_368.out _).trans (((cell_far (p := ⟨gb368, _, none⟩) NB366_368.out _).trans (hHeld.2.1)))))))))))))))))), ((cell_far (p := ⟨gb368, _, none⟩) NB369_368.out _).trans (((cell_far (p := ⟨gb368, _, none⟩) NB369_368.out _).trans (((cell_far (p := ⟨gb368, _, none⟩) NB369_368.out _).trans (((cell_far (p := ⟨gb368, _, none⟩) NB369_368.out _).trans (((cell_far (p := ⟨gb368, _, none⟩) NB369_368.out _).trans (((cell_far (p := ⟨gb368, _, none⟩) NB369_368.out _).trans (((cell_far (p := ⟨gb368, _, none⟩) NB369_368.out _).trans (((cell_far (p := ⟨gb368, _, none⟩) NB369_368.out _).trans (((cell_far (p := ⟨gb368, _, none⟩) NB369_368.out _).trans (hHeld.2.2.1)))))))))))))))))), ((cell_far (p := ⟨gb368, _, none⟩) NB369_368.out _).trans (((cell_far (p := ⟨gb368, _, none⟩) NB369_368.out _).trans (((cell_far (p := ⟨gb368, _, none⟩) NB369_368.out _).trans (((cell_far (p := ⟨gb368, _, none⟩) NB369_368.out _).trans (((cell_far (p := ⟨gb368, _, none⟩) NB369_368.out _).trans (((cell_far (p := ⟨gb368, _, none⟩) NB369_368.out _).trans (((cell_far (p := ⟨gb368, _, none⟩) NB369_368.out _).trans (((cell_far (p := ⟨gb368, _, none⟩) NB369_368.out _).trans (((cell_far (p := ⟨gb368, _, none⟩) NB369_368.out _).trans (hHeld.2.2.2.1)))))))))))))))))), ((cell_far (p := ⟨gb368, _, none⟩) NB369_368.out _).trans (((cell_far (p := ⟨gb368, _, none⟩) NB369_368.out _).trans (((cell_far (p := ⟨gb368, _, none⟩) NB369_368.out _).trans (((cell_far (p := ⟨gb368, _, none⟩) NB369_368.out _).trans (((cell_far (p := ⟨gb368, _, none⟩) NB369_368.out _).trans (((cell_far (p := ⟨gb368, _, none⟩) NB369_368.out _).trans (((cell_far (p := ⟨gb368, _, none⟩) NB369_368.out _).trans (((cell_far (p := ⟨gb368, _, none⟩) NB369_368.out _).trans (((cell_far (p := ⟨gb368, _, none⟩) NB369_368.out _).trans (hHeld.2.2.2.2.1)))))))))))))))))), ((cell_far (p := ⟨gb368, _, none⟩) NB369_368.out _).trans (((cell_far (p := ⟨gb368, _, none⟩) NB369_368.out _).trans (((cell_far (p := ⟨gb368, _, none⟩) NB369_368.out _).trans (((cell_far (p := ⟨gb368, _, none⟩) NB369_368.out _).trans (((cell_far (p := ⟨gb368, _, none⟩) NB369_368.out _).trans (((cell_far (p := ⟨gb368, _, none⟩) NB369_368.out _).trans (((cell_far (p := ⟨gb368, _, none⟩) NB369_368.out _).trans (((cell_far (p := ⟨gb368, _, none⟩) NB369_368.out _).trans (((cell_far (p := ⟨gb368, _, none⟩) NB369_368.out _).trans (hHeld.2.2.2.2.2.1)))))))))))))))))), ((cell_far (p := ⟨gb368, _, none⟩) NB369_368.out _).trans (((cell_far (p := ⟨gb368, _, none⟩) NB369_368.out _).trans (((cell_far (p := ⟨gb368, _, none⟩) NB369_368.out _).trans (((cell_far (p := ⟨gb368, _, none⟩) NB369_368.out _).trans (((cell_far (p := ⟨gb368, _, none⟩) NB369_368.out _).trans (((cell_far (p := ⟨gb368, _, none⟩) NB369_368.out _).trans (((cell_far (p := ⟨gb368, _, none⟩) NB369_368.out _).trans (((cell_far (p := ⟨gb368, _, none⟩) NB369_368.out _).trans (((cell_far (p := ⟨gb368, _, none⟩) NB369_368.out _).trans (hHeld.2.2.2.2.2.2.1)))))))))))))))))), ((cell_far (p := ⟨gb368, _, none⟩) NB369_368.out _).trans (((cell_far (p := ⟨gb368, _, none⟩) NB369_368.out _).trans (((cell_far (p := ⟨gb368, _, none⟩) NB369_368.out _).trans (((cell_far (p := ⟨gb368, _, none⟩) NB369_368.out _).trans (((cell_far (p := ⟨gb368, _, none⟩) NB369_368.out _).trans (((cell_far (p := ⟨gb368, _, none⟩) NB369_368.out _).trans (((cell_far (p := ⟨gb368, _, none⟩) NB369_368.out _).trans (((cell_far (p := ⟨gb368, _, none⟩) NB369_368.out _).trans (((cell_far (p := ⟨gb368, _, none⟩) NB369_368.out _).trans (hHeld.2.2.2.2.2.2.2.1)))))))))))))))))), ((cell_far (p := ⟨gb368, _, none⟩) NB369_368.out _).trans (((cell_far (p := ⟨gb368, _, none⟩) NB369_368.out _).trans (((cell_far (p := ⟨gb368, _, none⟩) NB369_368.out _).trans (((cell_far (p := ⟨gb368, _, none⟩) NB369_368.out _).trans (((cell_far (p := ⟨gb368, _, none⟩) NB369_368.out _).trans (((cell_far (p := ⟨gb368, _, none⟩) NB369_368.out _).trans (((cell_far (p := ⟨gb368, _, none⟩) NB369_368.out _).trans (((cell_far (p := ⟨gb368, _, none⟩) NB369_368.out _).trans (((cell_far (p := ⟨gb368, _, none⟩) NB369_368.out _).trans (hHeld.2.2.2.2.2.2.2.2.1)))))))))))))))))), ((cell_far (p := ⟨gb368, _, none⟩) NB369_368.out _).trans (((cell_far (p := ⟨gb368, _, none⟩) NB369_368.out _).trans (((cell_far (p := ⟨gb368, _, none⟩) NB369_368.out _).trans (((cell_far (p := ⟨gb368, _, none⟩) NB369_368.out _).trans (((cell_far (p := ⟨gb368, _, none⟩) NB369_368.out _).trans (((cell_far (p := ⟨gb368, _, none⟩) NB369_368.out _).trans (((cell_far (p := ⟨gb368, _, none⟩) NB369_368.out _).trans (((cell_far (p := ⟨gb368, _, none⟩) NB369_368.out _).trans (((cell_far (p := ⟨gb368, _, none⟩) NB369_368.out _).trans (hHeld.2.2.2.2.2.2.2.2.2.1)))))))))))))))))), ((cell_far (p := ⟨gb368, _, none⟩) NB369_368.out _).trans (((cell_far (p := ⟨gb368, _, none⟩) NB369_368.out _).trans (((cell_far (p := ⟨gb368, _, none⟩) NB369_368.out _).trans (((cell_far (p := ⟨gb368, _, none⟩) NB369_368.out _).trans (((cell_far (p := ⟨gb368, _, none⟩) NB369_368.out _).trans (((cell_far (p := ⟨gb368, _, none⟩) NB369_368.out _).trans (((cell_far (p := ⟨gb368, _, none⟩) NB369_368.out _).trans (((cell_far (p := ⟨gb368, _, none⟩) NB369_368.out _).trans (((cell_far (p := ⟨gb368, _, none⟩) NB369_368.out _).trans (hHeld.2.2.2.2.2.2.2.2.2.2))))))))))))))))))⟩ (fun hHeld => ?_)
  clear hK K
  refine done_ (by kernel_rfl) ?_
  try go_wp2
  refine bodyPost_ret (results_cc rfl _ _ gb367 gb368 67 25 #[.string t388, .int .i64 t389] #[.int .i64 t372, .int .i64 t375, .int .i64 t376, .int .i64 t379, .int .i64 t380, .int .i64 t383, .int .i64 t384, .string t387, .string t390] (0, 0) (0, 0) _ _ rfl Qk Tryd.underlying67 rfl (by kernel_rfl) rfl Qk Tryd.underlying25 rfl (by kernel_rfl)) rfl ?_
  exact ⟨Qe, Qh⟩

/-! ### samphireref09_InDone: function 33 -/
def samphireref09_InDone.f (a0_0 : ByteArray) (a0_1 : Int) : Option (Int) := if a0_1 = 0 then (if a0_0.toList = ([] : List UInt8) then (some a0_1) else (some 91)) else (some a0_1)
set_option maxHeartbeats 8000000 in
set_option maxRecDepth 100000 in
theorem samphireref09_InDone.calls (a0_0 : ByteArray) (a0_1 : Int) (r : Int) (w : World) (h : samphireref09_InDone.f a0_0 a0_1 = some r) :
    Calls Tryd.prog 33 #[.agg #[.string a0_0, .int .i64 a0_1]] w fun e w' => e = .returned (.int .i64 r) ∧ Below w.heap.size w w' := by
  have hu67 := Tryd.underlying67
  have HB := Aside0.mk (Below.refl w.heap.size w)
  have H : (if a0_1 = 0 then (if a0_0.toList = ([] : List UInt8) then (some a0_1) else (some 91)) else (some a0_1)) = some r := h
  clear h
  by_cases c2 : a0_1 = 0
  · rw [if_pos c2] at H
    have c2b0 : (a0_1 == 0) = true := beq_iff_eq.mpr c2
    have c2b1 : (a0_1 != 0) = false := bne_eq_false_iff_eq.mpr c2
    clear c2
    by_cases c3 : a0_0.toList = ([] : List UInt8)
    · rw [if_pos c3] at H
      have c3b0 : (a0_0.toList == ([] : List UInt8)) = true := beq_iff_eq.mpr c3
      have c3b1 : (a0_0.toList != ([] : List UInt8)) = false := bne_eq_false_iff_eq.mpr c3
      clear c3
      obtain rfl := Option.some.inj H
      go_enter Tryd.func33, Tryd.ntmps33
      go_wp2_with (first | ((with_reducible refine gate_dst (N := 1) rfl ?_); refine boxQ (N := 1) (cs := #[.string a0_0, .int .i64 a0_1]) (t := 67) ?_; intro gb391 hg w4 hbox hb; have n0_ := Aside0.mk (below_step Qh hb); have n1_ := Aside0.mk (hbox); have n2_ := Aside0.mk (Qs (w := w) hg); have n3_ := Aside0.mk (Qs (w := w) hg); clear HB; have HB := n0_; have BK391 := n1_; have GW391 := n2_; have GE391 := n3_; clear n0_ n1_ n2_ n3_; clear hb hbox hg; obtain ⟨hcz5_0, hcz5_1, hfz5_0, hfz5_1⟩ := Z2 BK391.out))
      go_ret
      exact ⟨Qe, Qh⟩
    · rw [if_neg c3] at H
      have c3b0 : (a0_0.toList == ([] : List UInt8)) = false := beq_eq_false_iff_ne.mpr c3
      have c3b1 : (a0_0.toList != ([] : List UInt8)) = true := bne_iff_ne.mpr c3
      obtain rfl := Option.some.inj H
      go_enter Tryd.func33, Tryd.ntmps33
      go_wp2_with (first | ((with_reducible refine gate_dst (N := 1) rfl ?_); refine boxQ (N := 1) (cs := #[.string a0_0, .int .i64 a0_1]) (t := 67) ?_; intro gb391 hg w6 hbox hb; have n0_ := Aside0.mk (below_step Qh hb); have n1_ := Aside0.mk (hbox); have n2_ := Aside0.mk (Qs (w := w) hg); have n3_ := Aside0.mk (Qs (w := w) hg); clear HB; have HB := n0_; have BK391 := n1_; have GW391 := n2_; have GE391 := n3_; clear n0_ n1_ n2_ n3_; clear hb hbox hg; obtain ⟨hcz7_0, hcz7_1, hfz7_0, hfz7_1⟩ := Z2 BK391.out))
      go_ret
      exact ⟨Qe, Qh⟩
  · rw [if_neg c2] at H
    have c2b0 : (a0_1 == 0) = false := beq_eq_false_iff_ne.mpr c2
    have c2b1 : (a0_1 != 0) = true := bne_iff_ne.mpr c2
    obtain rfl := Option.some.inj H
    go_enter Tryd.func33, Tryd.ntmps33
    go_wp2_with (first | ((with_reducible refine gate_dst (N := 1) rfl ?_); refine boxQ (N := 1) (cs := #[.string a0_0, .int .i64 a0_1]) (t := 67) ?_; intro gb391 hg w8 hbox hb; have n0_ := Aside0.mk (below_step Qh hb); have n1_ := Aside0.mk (hbox); have n2_ := Aside0.mk (Qs (w := w) hg); have n3_ := Aside0.mk (Qs (w := w) hg); clear HB; have HB := n0_; have BK391 := n1_; have GW391 := n2_; have GE391 := n3_; clear n0_ n1_ n2_ n3_; clear hb hbox hg; obtain ⟨hcz9_0, hcz9_1, hfz9_0, hfz9_1⟩ := Z2 BK391.out))
    go_ret
    exact ⟨Qe, Qh⟩

end Go.Proofs.YtmogpfhhmekbiaaDoor.S
