/- Functions of the translation as plain Lean functions, and that each call comes to what they say: for every argument. Written by a program of this session's own; Lean checks it. -/
import Derived.Test.YtmogpfhhmekbiaaDoorSx0
import Derived.Test.YtmogpfhhmekbiaaDoorQa
import Derived.Test.YtmogpfhhmekbiaaDoorSx1
import Derived.Test.YtmogpfhhmekbiaaDoorSx6
import Derived.Test.YtmogpfhhmekbiaaDoorSx8
namespace Go.Proofs.YtmogpfhhmekbiaaDoor.S
open Go.RowKit Go.Proofs.YtmogpfhhmekbiaaDoorW.PrintWords Go.Proofs.YtmogpfhhmekbiaaDoorW.PrintLast
set_option linter.unusedVariables false
set_option linter.unusedSimpArgs false

attribute [local go_sem high] eqA23
/-! ### samphireref11_May: function 26 -/
def samphireref11_May.j0 : Nat → Bool → Int → Int → Int → Int → Int → Int → Int → ByteArray → ByteArray → Option (Bool)
  | 0, _, _, _, _, _, _, _, _, _, _ => none
  | k + 1, x13, x266000, x266001, x266002, x266003, x266004, x266005, x266006, x266007, x266008 => if x13 = true then (some false) else (if x266000 = 1 then (if (x266003 == x266001 && (x266004 == x266002)) = true then ((samphireref11_parent.f x266005 x266006).bind fun t268 => (if t268 = true then ((samphireref08_Check.f k x266007).bind fun t269 => (if t269 = 0 then (some (x266008.toList == ([] : List UInt8))) else (some false))) else (some false))) else (some false)) else (if x266000 = 2 then ((samphireref11_parent.f x266005 x266006).bind fun t270 => (if t270 = true then (if x266007.toList = ([] : List UInt8) then (some (x266008.toList == ([] : List UInt8))) else (some false)) else (some false))) else (if x266000 = 3 then (if (x266005 == 0 && (x266006 == 0)) = true then ((samphireref08_Check.f k x266007).bind fun t271 => (if t271 = 0 then (some (x266008.toList == ([] : List UInt8))) else (some false))) else (some false)) else (if x266000 = 4 then (if (x266005 == 0 && (x266006 == 0)) = true then (if x266007.toList = ([] : List UInt8) then (some (decide ((x266008.size : Int) ≤ 64))) else (some false)) else (some false)) else (if x266000 = 5 then (if (x266005 == 0 && (x266006 == 0)) = true then (if x266007.toList = ([] : List UInt8) then (some (x266008.toList == ([] : List UInt8))) else (some false)) else (some false)) else (some false))))))
def samphireref11_May.f (k : Nat) (a0_0 : Int) (a0_1 : Int) (a0_2 : Int) (a0_3 : Int) (a0_4 : Int) (a0_5 : Int) (a0_6 : Int) (a0_7 : ByteArray) (a0_8 : ByteArray) : Option (Bool) := (samphireref10_May.f a0_1 a0_2).bind fun t266 => (if t266 = true then ((samphireref10_May.f a0_3 a0_4).bind fun t267 => (samphireref11_May.j0 k (!t267) a0_0 a0_1 a0_2 a0_3 a0_4 a0_5 a0_6 a0_7 a0_8)) else (samphireref11_May.j0 k true a0_0 a0_1 a0_2 a0_3 a0_4 a0_5 a0_6 a0_7 a0_8))
theorem samphireref11_May.mono_l : ∀ k, (∀ y0 y1 y2 y3 y4 y5 y6 y7 y8 y9, LeO (samphireref11_May.j0 k y0 y1 y2 y3 y4 y5 y6 y7 y8 y9) (samphireref11_May.j0 (k + 1) y0 y1 y2 y3 y4 y5 y6 y7 y8 y9))
  | 0 => fun _ _ _ _ _ _ _ _ _ _ r h => by simp [samphireref11_May.j0] at h
  | k + 1 => by
    have ih0 := samphireref11_May.mono_l k
    · intro y0 y1 y2 y3 y4 y5 y6 y7 y8 y9
      unfold samphireref11_May.j0
      repeat' first
      | (with_reducible exact ih0 _ _ _ _ _ _ _ _ _ _)
      | (with_reducible exact samphireref08_Check.mono _ _)
      | (with_reducible exact LeO.refl _)
      | (with_reducible exact LeO.none _)
      | (with_reducible refine LeO.ite ?_ ?_)
      | (with_reducible refine LeO.bind ?_ (fun _ => ?_))
      | exact ih0 _ _ _ _ _ _ _ _ _ _
      | exact samphireref08_Check.mono _ _
      | exact LeO.none _
      | refine LeO.ite ?_ ?_
      | refine LeO.bind ?_ (fun _ => ?_)
theorem samphireref11_May.mono : ∀ a0 a1 a2 a3 a4 a5 a6 a7 a8 k, LeO (samphireref11_May.f k a0 a1 a2 a3 a4 a5 a6 a7 a8) (samphireref11_May.f (k + 1) a0 a1 a2 a3 a4 a5 a6 a7 a8) := by
  intro a0 a1 a2 a3 a4 a5 a6 a7 a8 k
  have ih0 := samphireref11_May.mono_l k
  unfold samphireref11_May.f
  repeat' first
      | (with_reducible exact ih0 _ _ _ _ _ _ _ _ _ _)
      | (with_reducible exact samphireref08_Check.mono _ _)
      | (with_reducible exact LeO.refl _)
      | (with_reducible exact LeO.none _)
      | (with_reducible refine LeO.ite ?_ ?_)
      | (with_reducible refine LeO.bind ?_ (fun _ => ?_))
      | exact ih0 _ _ _ _ _ _ _ _ _ _
      | exact samphireref08_Check.mono _ _
      | exact LeO.none _
      | refine LeO.ite ?_ ?_
      | refine LeO.bind ?_ (fun _ => ?_)
set_option maxHeartbeats 8000000 in
set_option maxRecDepth 100000 in
theorem samphireref11_May.calls (k : Nat) (a0_0 : Int) (a0_1 : Int) (a0_2 : Int) (a0_3 : Int) (a0_4 : Int) (a0_5 : Int) (a0_6 : Int) (a0_7 : ByteArray) (a0_8 : ByteArray) (r : Bool) (w : World) (h : samphireref11_May.f k a0_0 a0_1 a0_2 a0_3 a0_4 a0_5 a0_6 a0_7 a0_8 = some r) :
    Calls Tryd.prog 26 #[.agg #[.int .i64 a0_0, .int .i64 a0_1, .int .i64 a0_2, .int .i64 a0_3, .int .i64 a0_4, .int .i64 a0_5, .int .i64 a0_6, .string a0_7, .string a0_8]] w fun e w' => e = .returned (.bool r) ∧ Below w.heap.size w w' := by
  have hu25 := Tryd.underlying25
  have hu23 := Tryd.underlying23
  have HB := Aside0.mk (Below.refl w.heap.size w)
  have H : ((samphireref10_May.f a0_1 a0_2).bind fun t266 => (if t266 = true then ((samphireref10_May.f a0_3 a0_4).bind fun t267 => (samphireref11_May.j0 k (!t267) a0_0 a0_1 a0_2 a0_3 a0_4 a0_5 a0_6 a0_7 a0_8)) else (samphireref11_May.j0 k true a0_0 a0_1 a0_2 a0_3 a0_4 a0_5 a0_6 a0_7 a0_8))) = some r := h
  clear h
  have HC2 := Aside0.mk H
  clear H
  go_enter Tryd.func26, Tryd.ntmps26
  go_upto_region 1 with (first | ((with_reducible refine gate_dst (N := 1) rfl ?_); (try (refine gate_guard (by rfl) ?_; dsimp only)); refine boxQ (N := 1) (cs := #[.int .i64 a0_0, .int .i64 a0_1, .int .i64 a0_2, .int .i64 a0_3, .int .i64 a0_4, .int .i64 a0_5, .int .i64 a0_6, .string a0_7, .string a0_8]) (t := 25) ?_; intro gb265 hg w3 hbox hb; have n0_ := Aside0.mk (below_step Qh hb); have n1_ := Aside0.mk (hbox); have n2_ := Aside0.mk (Qs (w := w) hg); have n3_ := Aside0.mk (Qs (w := w) hg); clear HB; have HB := n0_; have BK265 := n1_; have GW265 := n2_; have GE265 := n3_; clear n0_ n1_ n2_ n3_; clear hb hbox hg))
  (try simp only [Act.put, List.setIfInBounds_toArray, List.set_cons_zero, List.set_cons_succ])
  go_cut [13] (fun v13 wc => ∃ (kq : Nat) (x13_1 : Bool), v13 = .bool x13_1 ∧ Aside0 (samphireref11_May.j0 kq x13_1 a0_0 a0_1 a0_2 a0_3 a0_4 a0_5 a0_6 a0_7 a0_8 = some r) ∧ Aside0 (kq ≤ k) ∧ Aside0 (wc.heap[gb265]? = some (.cells #[.int .i64 a0_0, .int .i64 a0_1, .int .i64 a0_2, .int .i64 a0_3, .int .i64 a0_4, .int .i64 a0_5, .int .i64 a0_6, .string a0_7, .string a0_8] 25 (0, 0))) ∧ Aside0 (Below w.heap.size w wc))
  case first =>
    have H := HC2.out
    clear HC2
    replace H := Option.bind_eq_some_iff.mp H
    obtain ⟨t266, A40, H⟩ := H
    replace H : (if t266 = true then ((samphireref10_May.f a0_3 a0_4).bind fun t267 => (samphireref11_May.j0 k (!t267) a0_0 a0_1 a0_2 a0_3 a0_4 a0_5 a0_6 a0_7 a0_8)) else (samphireref11_May.j0 k true a0_0 a0_1 a0_2 a0_3 a0_4 a0_5 a0_6 a0_7 a0_8)) = some r := H
    have A4 := Aside0.mk A40
    clear A40
    by_cases c5 : t266 = true
    · subst c5
      have H1 : ((samphireref10_May.f a0_3 a0_4).bind fun t267 => (samphireref11_May.j0 k (!t267) a0_0 a0_1 a0_2 a0_3 a0_4 a0_5 a0_6 a0_7 a0_8)) = some r := by rw [if_pos rfl] at H; exact H
      clear H
      have H := H1
      clear H1
      replace H := Option.bind_eq_some_iff.mp H
      obtain ⟨t267, A60, H⟩ := H
      replace H : (samphireref11_May.j0 k (!t267) a0_0 a0_1 a0_2 a0_3 a0_4 a0_5 a0_6 a0_7 a0_8) = some r := H
      have A6 := Aside0.mk A60
      clear A60
      have H' := Aside0.mk H
      clear H
      obtain ⟨hcz7_0, hcz7_1, hcz7_2, hcz7_3, hcz7_4, hcz7_5, hcz7_6, hcz7_7, hcz7_8, hfz7_0, hfz7_1, hfz7_2, hfz7_3, hfz7_4, hfz7_5, hfz7_6, hfz7_7, hfz7_8⟩ := Z9 BK265.out
      go_wp2_with (first | ((with_reducible refine gate_callee (f := 57) rfl ?_); refine goesL_ (some 6) rfl rfl Tryd.func57 (by kernel_rfl) rfl #[.agg #[.int .i64 a0_1, .int .i64 a0_2]] rfl Qm ?_; (with_reducible refine (samphireref10_May.calls a0_1 a0_2 true _ A4.out).mono ?_); rintro e w8 ⟨rfl, hb⟩; refine ⟨_, rfl, ?_⟩; have n0_ := Aside0.mk (Qb BK265 hb); have n1_ := Aside0.mk (below_step Qh hb); clear BK265; clear HB; have BK265 := n0_; have HB := n1_; clear n0_ n1_; (try clear hb); (try clear hb2); (try clear hk); (try clear hi); obtain ⟨hcz9_0, hcz9_1, hcz9_2, hcz9_3, hcz9_4, hcz9_5, hcz9_6, hcz9_7, hcz9_8, hfz9_0, hfz9_1, hfz9_2, hfz9_3, hfz9_4, hfz9_5, hfz9_6, hfz9_7, hfz9_8⟩ := Z9 BK265.out) | (go_at_call 57; (with_reducible refine (samphireref10_May.calls a0_3 a0_4 t267 _ A6.out).mono ?_); rintro e w10 ⟨rfl, hb⟩; have n0_ := Aside0.mk (Qb BK265 hb); have n1_ := Aside0.mk (below_step Qh hb); clear BK265; clear HB; have BK265 := n0_; have HB := n1_; clear n0_ n1_; (try clear hb); (try clear hb2); (try clear hk); (try clear hi)))
      go_meet
      case rel => exact ⟨_, (!t267), (by first | rfl | (simp; done) | (simp [*]; done)), H', ⟨by first | omega | exact Nat.le_refl _⟩, ⟨Qk⟩, ⟨Qh⟩⟩
    · replace c5 := Bool.eq_false_iff.mpr c5
      subst c5
      have H1 : (samphireref11_May.j0 k true a0_0 a0_1 a0_2 a0_3 a0_4 a0_5 a0_6 a0_7 a0_8) = some r := by rw [if_neg (show ¬ (false = true) by decide)] at H; exact H
      clear H
      have H := H1
      clear H1
      have H' := Aside0.mk H
      clear H
      obtain ⟨hcz11_0, hcz11_1, hcz11_2, hcz11_3, hcz11_4, hcz11_5, hcz11_6, hcz11_7, hcz11_8, hfz11_0, hfz11_1, hfz11_2, hfz11_3, hfz11_4, hfz11_5, hfz11_6, hfz11_7, hfz11_8⟩ := Z9 BK265.out
      go_wp2_with (first | ((with_reducible refine gate_callee (f := 57) rfl ?_); refine goesL_ (some 6) rfl rfl Tryd.func57 (by kernel_rfl) rfl #[.agg #[.int .i64 a0_1, .int .i64 a0_2]] rfl Qm ?_; (with_reducible refine (samphireref10_May.calls a0_1 a0_2 false _ A4.out).mono ?_); rintro e w12 ⟨rfl, hb⟩; refine ⟨_, rfl, ?_⟩; have n0_ := Aside0.mk (Qb BK265 hb); have n1_ := Aside0.mk (below_step Qh hb); clear BK265; clear HB; have BK265 := n0_; have HB := n1_; clear n0_ n1_; (try clear hb); (try clear hb2); (try clear hk); (try clear hi)))
      go_meet
      case rel => exact ⟨_, (true), (by first | rfl | (simp; done) | (simp [*]; done)), H', ⟨by first | omega | exact Nat.le_refl _⟩, ⟨Qk⟩, ⟨Qh⟩⟩
  case rest =>
    clear HC2
    try clear c2
    try clear p2
    try clear c5
    try clear hcz11_0 hcz11_1 hcz11_2 hcz11_3 hcz11_4 hcz11_5 hcz11_6 hcz11_7 hcz11_8
    try clear hcz7_0 hcz7_1 hcz7_2 hcz7_3 hcz7_4 hcz7_5 hcz7_6 hcz7_7 hcz7_8
    try clear hcz9_0 hcz9_1 hcz9_2 hcz9_3 hcz9_4 hcz9_5 hcz9_6 hcz9_7 hcz9_8
    try clear hfz11_0 hfz11_1 hfz11_2 hfz11_3 hfz11_4 hfz11_5 hfz11_6 hfz11_7 hfz11_8
    try clear hfz7_0 hfz7_1 hfz7_2 hfz7_3 hfz7_4 hfz7_5 hfz7_6 hfz7_7 hfz7_8
    try clear hfz9_0 hfz9_1 hfz9_2 hfz9_3 hfz9_4 hfz9_5 hfz9_6 hfz9_7 hfz9_8
    obtain ⟨kq, x13_1, rfl, HA, HJ1, BK265, HB⟩ := hcut
    cases kq with
    | zero => exact absurd HA.out (by simp [samphireref11_May.j0])
    | succ kj1 =>
      have H := HA.out
      clear HA
      simp only [samphireref11_May.j0] at H
      by_cases c13 : x13_1 = true
      · subst c13
        have H1 : (some false) = some r := by rw [if_pos rfl] at H; exact H
        clear H
        have H := H1
        clear H1
        obtain rfl := Option.some.inj H
        go_wp2
        go_ret
        exact ⟨Qe, Qh⟩
      · replace c13 := Bool.eq_false_iff.mpr c13
        subst c13
        have H1 : (if a0_0 = 1 then (if (a0_3 == a0_1 && (a0_4 == a0_2)) = true then ((samphireref11_parent.f a0_5 a0_6).bind fun t268 => (if t268 = true then ((samphireref08_Check.f kj1 a0_7).bind fun t269 => (if t269 = 0 then (some (a0_8.toList == ([] : List UInt8))) else (some false))) else (some false))) else (some false)) else (if a0_0 = 2 then ((samphireref11_parent.f a0_5 a0_6).bind fun t270 => (if t270 = true then (if a0_7.toList = ([] : List UInt8) then (some (a0_8.toList == ([] : List UInt8))) else (some false)) else (some false))) else (if a0_0 = 3 then (if (a0_5 == 0 && (a0_6 == 0)) = true then ((samphireref08_Check.f kj1 a0_7).bind fun t271 => (if t271 = 0 then (some (a0_8.toList == ([] : List UInt8))) else (some false))) else (some false)) else (if a0_0 = 4 then (if (a0_5 == 0 && (a0_6 == 0)) = true then (if a0_7.toList = ([] : List UInt8) then (some (decide ((a0_8.size : Int) ≤ 64))) else (some false)) else (some false)) else (if a0_0 = 5 then (if (a0_5 == 0 && (a0_6 == 0)) = true then (if a0_7.toList = ([] : List UInt8) then (some (a0_8.toList == ([] : List UInt8))) else (some false)) else (some false)) else (some false)))))) = some r := by rw [if_neg (show ¬ (false = true) by decide)] at H; exact H
        clear H
        have H := H1
        clear H1
        by_cases c14 : a0_0 = 1
        · rw [if_pos c14] at H
          have c14b0 : (a0_0 == 1) = true := beq_iff_eq.mpr c14
          have c14b1 : (a0_0 != 1) = false := bne_eq_false_iff_eq.mpr c14
          clear c14
          by_cases c15 : (a0_3 == a0_1 && (a0_4 == a0_2)) = true
          · rw [if_pos c15] at H
            have c15b0 : (a0_3 == a0_1 && (a0_4 == a0_2)) = true := c15
            (try (have c15b1 : decide (a0_3 = a0_1 && (a0_4 == a0_2)) = true := by simpa using c15))
            (try (have c15b2 : (a0_3 == a0_1 && (a0_4 == a0_2)) = true := by simpa using c15))
            clear c15
            replace H := Option.bind_eq_some_iff.mp H
            obtain ⟨t268, A160, H⟩ := H
            replace H : (if t268 = true then ((samphireref08_Check.f kj1 a0_7).bind fun t269 => (if t269 = 0 then (some (a0_8.toList == ([] : List UInt8))) else (some false))) else (some false)) = some r := H
            have A16 := Aside0.mk A160
            clear A160
            by_cases c17 : t268 = true
            · subst c17
              have H1 : ((samphireref08_Check.f kj1 a0_7).bind fun t269 => (if t269 = 0 then (some (a0_8.toList == ([] : List UInt8))) else (some false))) = some r := by rw [if_pos rfl] at H; exact H
              clear H
              have H := H1
              clear H1
              replace H := Option.bind_eq_some_iff.mp H
              obtain ⟨t269, A180, H⟩ := H
              replace H : (if t269 = 0 then (some (a0_8.toList == ([] : List UInt8))) else (some false)) = some r := H
              have A18 := Aside0.mk A180
              clear A180
              by_cases c19 : t269 = 0
              · rw [if_pos c19] at H
                have c19b0 : (t269 == 0) = true := beq_iff_eq.mpr c19
                have c19b1 : (t269 != 0) = false := bne_eq_false_iff_eq.mpr c19
                clear c19
                obtain rfl := Option.some.inj H
                obtain ⟨hcz20_0, hcz20_1, hcz20_2, hcz20_3, hcz20_4, hcz20_5, hcz20_6, hcz20_7, hcz20_8, hfz20_0, hfz20_1, hfz20_2, hfz20_3, hfz20_4, hfz20_5, hfz20_6, hfz20_7, hfz20_8⟩ := Z9 BK265.out
                go_wp2_with (first | (go_at_call 63; (with_reducible refine (samphireref11_parent.calls a0_5 a0_6 true _ A16.out).mono ?_); rintro e w21 ⟨rfl, hb⟩; have n0_ := Aside0.mk (Qb BK265 hb); have n1_ := Aside0.mk (below_step Qh hb); clear BK265; clear HB; have BK265 := n0_; have HB := n1_; clear n0_ n1_; (try clear hb); (try clear hb2); (try clear hk); (try clear hi); obtain ⟨hcz22_0, hcz22_1, hcz22_2, hcz22_3, hcz22_4, hcz22_5, hcz22_6, hcz22_7, hcz22_8, hfz22_0, hfz22_1, hfz22_2, hfz22_3, hfz22_4, hfz22_5, hfz22_6, hfz22_7, hfz22_8⟩ := Z9 BK265.out) | (go_at_call 64; (with_reducible refine (samphireref08_Check.calls kj1 a0_7 t269 _ A18.out).mono ?_); rintro e w' ⟨rfl, ⟨nd, rfl⟩⟩))
                go_ret
                exact ⟨Qe, Qh⟩
              · rw [if_neg c19] at H
                have c19b0 : (t269 == 0) = false := beq_eq_false_iff_ne.mpr c19
                have c19b1 : (t269 != 0) = true := bne_iff_ne.mpr c19
                obtain rfl := Option.some.inj H
                obtain ⟨hcz23_0, hcz23_1, hcz23_2, hcz23_3, hcz23_4, hcz23_5, hcz23_6, hcz23_7, hcz23_8, hfz23_0, hfz23_1, hfz23_2, hfz23_3, hfz23_4, hfz23_5, hfz23_6, hfz23_7, hfz23_8⟩ := Z9 BK265.out
                go_wp2_with (first | (go_at_call 63; (with_reducible refine (samphireref11_parent.calls a0_5 a0_6 true _ A16.out).mono ?_); rintro e w24 ⟨rfl, hb⟩; have n0_ := Aside0.mk (Qb BK265 hb); have n1_ := Aside0.mk (below_step Qh hb); clear BK265; clear HB; have BK265 := n0_; have HB := n1_; clear n0_ n1_; (try clear hb); (try clear hb2); (try clear hk); (try clear hi); obtain ⟨hcz25_0, hcz25_1, hcz25_2, hcz25_3, hcz25_4, hcz25_5, hcz25_6, hcz25_7, hcz25_8, hfz25_0, hfz25_1, hfz25_2, hfz25_3, hfz25_4, hfz25_5, hfz25_6, hfz25_7, hfz25_8⟩ := Z9 BK265.out) | (go_at_call 64; (with_reducible refine (samphireref08_Check.calls kj1 a0_7 t269 _ A18.out).mono ?_); rintro e w' ⟨rfl, ⟨nd, rfl⟩⟩))
                go_ret
                exact ⟨Qe, Qh⟩
            · replace c17 := Bool.eq_false_iff.mpr c17
              subst c17
              have H1 : (some false) = some r := by rw [if_neg (show ¬ (false = true) by decide)] at H; exact H
              clear H
              have H := H1
              clear H1
              obtain rfl := Option.some.inj H
              obtain ⟨hcz26_0, hcz26_1, hcz26_2, hcz26_3, hcz26_4, hcz26_5, hcz26_6, hcz26_7, hcz26_8, hfz26_0, hfz26_1, hfz26_2, hfz26_3, hfz26_4, hfz26_5, hfz26_6, hfz26_7, hfz26_8⟩ := Z9 BK265.out
              go_wp2_with (first | (go_at_call 63; (with_reducible refine (samphireref11_parent.calls a0_5 a0_6 false _ A16.out).mono ?_); rintro e w27 ⟨rfl, hb⟩; have n0_ := Aside0.mk (Qb BK265 hb); have n1_ := Aside0.mk (below_step Qh hb); clear BK265; clear HB; have BK265 := n0_; have HB := n1_; clear n0_ n1_; (try clear hb); (try clear hb2); (try clear hk); (try clear hi)))
              go_ret
              exact ⟨Qe, Qh⟩
          · rw [if_neg c15] at H
            have c15b0 : (a0_3 == a0_1 && (a0_4 == a0_2)) = false := by simpa using c15
            (try (have c15b1 : decide (a0_3 = a0_1 && (a0_4 == a0_2)) = false := by simpa using c15))
            (try (have c15b2 : (a0_3 == a0_1 && (a0_4 == a0_2)) = false := by simpa using c15))
            (try (have c15b3 : ¬ (a0_3 = a0_1 && (a0_4 == a0_2)) := by simpa using c15))
            clear c15
            obtain rfl := Option.some.inj H
            obtain ⟨hcz28_0, hcz28_1, hcz28_2, hcz28_3, hcz28_4, hcz28_5, hcz28_6, hcz28_7, hcz28_8, hfz28_0, hfz28_1, hfz28_2, hfz28_3, hfz28_4, hfz28_5, hfz28_6, hfz28_7, hfz28_8⟩ := Z9 BK265.out
            go_wp2
            go_ret
            exact ⟨Qe, Qh⟩
        · rw [if_neg c14] at H
          have c14b0 : (a0_0 == 1) = false := beq_eq_false_iff_ne.mpr c14
          have c14b1 : (a0_0 != 1) = true := bne_iff_ne.mpr c14
          by_cases c29 : a0_0 = 2
          · rw [if_pos c29] at H
            have c29b0 : (a0_0 == 2) = true := beq_iff_eq.mpr c29
            have c29b1 : (a0_0 != 2) = false := bne_eq_false_iff_eq.mpr c29
            clear c29
            replace H := Option.bind_eq_some_iff.mp H
            obtain ⟨t270, A300, H⟩ := H
            replace H : (if t270 = true then (if a0_7.toList = ([] : List UInt8) then (some (a0_8.toList == ([] : List UInt8))) else (some false)) else (some false)) = some r := H
            have A30 := Aside0.mk A300
            clear A300
            by_cases c31 : t270 = true
            · subst c31
              have H1 : (if a0_7.toList = ([] : List UInt8) then (some (a0_8.toList == ([] : List UInt8))) else (some false)) = some r := by rw [if_pos rfl] at H; exact H
              clear H
              have H := H1
              clear H1
              by_cases c32 : a0_7.toList = ([] : List UInt8)
              · rw [if_pos c32] at H
                have c32b0 : (a0_7.toList == ([] : List UInt8)) = true := beq_iff_eq.mpr c32
                have c32b1 : (a0_7.toList != ([] : List UInt8)) = false := bne_eq_false_iff_eq.mpr c32
                clear c32
                obtain rfl := Option.some.inj H
                obtain ⟨hcz33_0, hcz33_1, hcz33_2, hcz33_3, hcz33_4, hcz33_5, hcz33_6, hcz33_7, hcz33_8, hfz33_0, hfz33_1, hfz33_2, hfz33_3, hfz33_4, hfz33_5, hfz33_6, hfz33_7, hfz33_8⟩ := Z9 BK265.out
                go_wp2_with (first | ((with_reducible refine gate_callee (f := 63) rfl ?_); refine goesL_ (some 47) rfl rfl Tryd.func63 (by kernel_rfl) rfl #[.agg #[.int .i64 a0_5, .int .i64 a0_6]] rfl Qm ?_; (with_reducible refine (samphireref11_parent.calls a0_5 a0_6 true _ A30.out).mono ?_); rintro e w34 ⟨rfl, hb⟩; refine ⟨_, rfl, ?_⟩; have n0_ := Aside0.mk (Qb BK265 hb); have n1_ := Aside0.mk (below_step Qh hb); clear BK265; clear HB; have BK265 := n0_; have HB := n1_; clear n0_ n1_; (try clear hb); (try clear hb2); (try clear hk); (try clear hi); obtain ⟨hcz35_0, hcz35_1, hcz35_2, hcz35_3, hcz35_4, hcz35_5, hcz35_6, hcz35_7, hcz35_8, hfz35_0, hfz35_1, hfz35_2, hfz35_3, hfz35_4, hfz35_5, hfz35_6, hfz35_7, hfz35_8⟩ := Z9 BK265.out))
                go_ret
                exact ⟨Qe, Qh⟩
              · rw [if_neg c32] at H
                have c32b0 : (a0_7.toList == ([] : List UInt8)) = false := beq_eq_false_iff_ne.mpr c32
                have c32b1 : (a0_7.toList != ([] : List UInt8)) = true := bne_iff_ne.mpr c32
                obtain rfl := Option.some.inj H
                obtain ⟨hcz36_0, hcz36_1, hcz36_2, hcz36_3, hcz36_4, hcz36_5, hcz36_6, hcz36_7, hcz36_8, hfz36_0, hfz36_1, hfz36_2, hfz36_3, hfz36_4, hfz36_5, hfz36_6, hfz36_7, hfz36_8⟩ := Z9 BK265.out
                go_wp2_with (first | ((with_reducible refine gate_callee (f := 63) rfl ?_); refine goesL_ (some 47) rfl rfl Tryd.func63 (by kernel_rfl) rfl #[.agg #[.int .i64 a0_5, .int .i64 a0_6]] rfl Qm ?_; (with_reducible refine (samphireref11_parent.calls a0_5 a0_6 true _ A30.out).mono ?_); rintro e w37 ⟨rfl, hb⟩; refine ⟨_, rfl, ?_⟩; have n0_ := Aside0.mk (Qb BK265 hb); have n1_ := Aside0.mk (below_step Qh hb); clear BK265; clear HB; have BK265 := n0_; have HB := n1_; clear n0_ n1_; (try clear hb); (try clear hb2); (try clear hk); (try clear hi); obtain ⟨hcz38_0, hcz38_1, hcz38_2, hcz38_3, hcz38_4, hcz38_5, hcz38_6, hcz38_7, hcz38_8, hfz38_0, hfz38_1, hfz38_2, hfz38_3, hfz38_4, hfz38_5, hfz38_6, hfz38_7, hfz38_8⟩ := Z9 BK265.out))
                go_ret
                exact ⟨Qe, Qh⟩
            · replace c31 := Bool.eq_false_iff.mpr c31
              subst c31
              have H1 : (some false) = some r := by rw [if_neg (show ¬ (false = true) by decide)] at H; exact H
              clear H
              have H := H1
              clear H1
              obtain rfl := Option.some.inj H
              obtain ⟨hcz39_0, hcz39_1, hcz39_2, hcz39_3, hcz39_4, hcz39_5, hcz39_6, hcz39_7, hcz39_8, hfz39_0, hfz39_1, hfz39_2, hfz39_3, hfz39_4, hfz39_5, hfz39_6, hfz39_7, hfz39_8⟩ := Z9 BK265.out
              go_wp2_with (first | ((with_reducible refine gate_callee (f := 63) rfl ?_); refine goesL_ (some 47) rfl rfl Tryd.func63 (by kernel_rfl) rfl #[.agg #[.int .i64 a0_5, .int .i64 a0_6]] rfl Qm ?_; (with_reducible refine (samphireref11_parent.calls a0_5 a0_6 false _ A30.out).mono ?_); rintro e w40 ⟨rfl, hb⟩; refine ⟨_, rfl, ?_⟩; have n0_ := Aside0.mk (Qb BK265 hb); have n1_ := Aside0.mk (below_step Qh hb); clear BK265; clear HB; have BK265 := n0_; have HB := n1_; clear n0_ n1_; (try clear hb); (try clear hb2); (try clear hk); (try clear hi)))
              go_ret
              exact ⟨Qe, Qh⟩
          · rw [if_neg c29] at H
            have c29b0 : (a0_0 == 2) = false := beq_eq_false_iff_ne.mpr c29
            have c29b1 : (a0_0 != 2) = true := bne_iff_ne.mpr c29
            by_cases c41 : a0_0 = 3
            · rw [if_pos c41] at H
              have c41b0 : (a0_0 == 3) = true := beq_iff_eq.mpr c41
              have c41b1 : (a0_0 != 3) = false := bne_eq_false_iff_eq.mpr c41
              clear c41
              by_cases c42 : (a0_5 == 0 && (a0_6 == 0)) = true
              · rw [if_pos c42] at H
                have c42b0 : (a0_5 == 0 && (a0_6 == 0)) = true := c42
                (try (have c42b1 : decide (a0_5 = 0 && (a0_6 == 0)) = true := by simpa using c42))
                (try (have c42b2 : (a0_5 == 0 && (a0_6 == 0)) = true := by simpa using c42))
                clear c42
                replace H := Option.bind_eq_some_iff.mp H
                obtain ⟨t271, A430, H⟩ := H
                replace H : (if t271 = 0 then (some (a0_8.toList == ([] : List UInt8))) else (some false)) = some r := H
                have A43 := Aside0.mk A430
                clear A430
                by_cases c44 : t271 = 0
                · rw [if_pos c44] at H
                  have c44b0 : (t271 == 0) = true := beq_iff_eq.mpr c44
                  have c44b1 : (t271 != 0) = false := bne_eq_false_iff_eq.mpr c44
                  clear c44
                  obtain rfl := Option.some.inj H
                  obtain ⟨hcz45_0, hcz45_1, hcz45_2, hcz45_3, hcz45_4, hcz45_5, hcz45_6, hcz45_7, hcz45_8, hfz45_0, hfz45_1, hfz45_2, hfz45_3, hfz45_4, hfz45_5, hfz45_6, hfz45_7, hfz45_8⟩ := Z9 BK265.out
                  go_wp2_with (first | (go_at_call 64; (with_reducible refine (samphireref08_Check.calls kj1 a0_7 t271 _ A43.out).mono ?_); rintro e w' ⟨rfl, ⟨nd, rfl⟩⟩))
                  go_ret
                  exact ⟨Qe, Qh⟩
                · rw [if_neg c44] at H
                  have c44b0 : (t271 == 0) = false := beq_eq_false_iff_ne.mpr c44
                  have c44b1 : (t271 != 0) = true := bne_iff_ne.mpr c44
                  obtain rfl := Option.some.inj H
                  obtain ⟨hcz46_0, hcz46_1, hcz46_2, hcz46_3, hcz46_4, hcz46_5, hcz46_6, hcz46_7, hcz46_8, hfz46_0, hfz46_1, hfz46_2, hfz46_3, hfz46_4, hfz46_5, hfz46_6, hfz46_7, hfz46_8⟩ := Z9 BK265.out
                  go_wp2_with (first | (go_at_call 64; (with_reducible refine (samphireref08_Check.calls kj1 a0_7 t271 _ A43.out).mono ?_); rintro e w' ⟨rfl, ⟨nd, rfl⟩⟩))
                  go_ret
                  exact ⟨Qe, Qh⟩
              · rw [if_neg c42] at H
                have c42b0 : (a0_5 == 0 && (a0_6 == 0)) = false := by simpa using c42
                (try (have c42b1 : decide (a0_5 = 0 && (a0_6 == 0)) = false := by simpa using c42))
                (try (have c42b2 : (a0_5 == 0 && (a0_6 == 0)) = false := by simpa using c42))
                (try (have c42b3 : ¬ (a0_5 = 0 && (a0_6 == 0)) := by simpa using c42))
                clear c42
                obtain rfl := Option.some.inj H
                obtain ⟨hcz47_0, hcz47_1, hcz47_2, hcz47_3, hcz47_4, hcz47_5, hcz47_6, hcz47_7, hcz47_8, hfz47_0, hfz47_1, hfz47_2, hfz47_3, hfz47_4, hfz47_5, hfz47_6, hfz47_7, hfz47_8⟩ := Z9 BK265.out
                go_wp2
                go_ret
                exact ⟨Qe, Qh⟩
            · rw [if_neg c41] at H
              have c41b0 : (a0_0 == 3) = false := beq_eq_false_iff_ne.mpr c41
              have c41b1 : (a0_0 != 3) = true := bne_iff_ne.mpr c41
              by_cases c48 : a0_0 = 4
              · rw [if_pos c48] at H
                have c48b0 : (a0_0 == 4) = true := beq_iff_eq.mpr c48
                have c48b1 : (a0_0 != 4) = false := bne_eq_false_iff_eq.mpr c48
                clear c48
                by_cases c49 : (a0_5 == 0 && (a0_6 == 0)) = true
                · rw [if_pos c49] at H
                  have c49b0 : (a0_5 == 0 && (a0_6 == 0)) = true := c49
                  (try (have c49b1 : decide (a0_5 = 0 && (a0_6 == 0)) = true := by simpa using c49))
                  (try (have c49b2 : (a0_5 == 0 && (a0_6 == 0)) = true := by simpa using c49))
                  clear c49
                  by_cases c50 : a0_7.toList = ([] : List UInt8)
                  · rw [if_pos c50] at H
                    have c50b0 : (a0_7.toList == ([] : List UInt8)) = true := beq_iff_eq.mpr c50
                    have c50b1 : (a0_7.toList != ([] : List UInt8)) = false := bne_eq_false_iff_eq.mpr c50
                    clear c50
                    obtain rfl := Option.some.inj H
                    obtain ⟨hcz51_0, hcz51_1, hcz51_2, hcz51_3, hcz51_4, hcz51_5, hcz51_6, hcz51_7, hcz51_8, hfz51_0, hfz51_1, hfz51_2, hfz51_3, hfz51_4, hfz51_5, hfz51_6, hfz51_7, hfz51_8⟩ := Z9 BK265.out
                    go_wp2
                    go_ret
                    exact ⟨Qe, Qh⟩
                  · rw [if_neg c50] at H
                    have c50b0 : (a0_7.toList == ([] : List UInt8)) = false := beq_eq_false_iff_ne.mpr c50
                    have c50b1 : (a0_7.toList != ([] : List UInt8)) = true := bne_iff_ne.mpr c50
                    obtain rfl := Option.some.inj H
                    obtain ⟨hcz52_0, hcz52_1, hcz52_2, hcz52_3, hcz52_4, hcz52_5, hcz52_6, hcz52_7, hcz52_8, hfz52_0, hfz52_1, hfz52_2, hfz52_3, hfz52_4, hfz52_5, hfz52_6, hfz52_7, hfz52_8⟩ := Z9 BK265.out
                    go_wp2
                    go_ret
                    exact ⟨Qe, Qh⟩
                · rw [if_neg c49] at H
                  have c49b0 : (a0_5 == 0 && (a0_6 == 0)) = false := by simpa using c49
                  (try (have c49b1 : decide (a0_5 = 0 && (a0_6 == 0)) = false := by simpa using c49))
                  (try (have c49b2 : (a0_5 == 0 && (a0_6 == 0)) = false := by simpa using c49))
                  (try (have c49b3 : ¬ (a0_5 = 0 && (a0_6 == 0)) := by simpa using c49))
                  clear c49
                  obtain rfl := Option.some.inj H
                  obtain ⟨hcz53_0, hcz53_1, hcz53_2, hcz53_3, hcz53_4, hcz53_5, hcz53_6, hcz53_7, hcz53_8, hfz53_0, hfz53_1, hfz53_2, hfz53_3, hfz53_4, hfz53_5, hfz53_6, hfz53_7, hfz53_8⟩ := Z9 BK265.out
                  go_wp2
                  go_ret
                  exact ⟨Qe, Qh⟩
              · rw [if_neg c48] at H
                have c48b0 : (a0_0 == 4) = false := beq_eq_false_iff_ne.mpr c48
                have c48b1 : (a0_0 != 4) = true := bne_iff_ne.mpr c48
                by_cases c54 : a0_0 = 5
                · rw [if_pos c54] at H
                  have c54b0 : (a0_0 == 5) = true := beq_iff_eq.mpr c54
                  have c54b1 : (a0_0 != 5) = false := bne_eq_false_iff_eq.mpr c54
                  clear c54
                  by_cases c55 : (a0_5 == 0 && (a0_6 == 0)) = true
                  · rw [if_pos c55] at H
                    have c55b0 : (a0_5 == 0 && (a0_6 == 0)) = true := c55
                    (try (have c55b1 : decide (a0_5 = 0 && (a0_6 == 0)) = true := by simpa using c55))
                    (try (have c55b2 : (a0_5 == 0 && (a0_6 == 0)) = true := by simpa using c55))
                    clear c55
                    by_cases c56 : a0_7.toList = ([] : List UInt8)
                    · rw [if_pos c56] at H
                      have c56b0 : (a0_7.toList == ([] : List UInt8)) = true := beq_iff_eq.mpr c56
                      have c56b1 : (a0_7.toList != ([] : List UInt8)) = false := bne_eq_false_iff_eq.mpr c56
                      clear c56
                      obtain rfl := Option.some.inj H
                      obtain ⟨hcz57_0, hcz57_1, hcz57_2, hcz57_3, hcz57_4, hcz57_5, hcz57_6, hcz57_7, hcz57_8, hfz57_0, hfz57_1, hfz57_2, hfz57_3, hfz57_4, hfz57_5, hfz57_6, hfz57_7, hfz57_8⟩ := Z9 BK265.out
                      go_wp2
                      go_ret
                      exact ⟨Qe, Qh⟩
                    · rw [if_neg c56] at H
                      have c56b0 : (a0_7.toList == ([] : List UInt8)) = false := beq_eq_false_iff_ne.mpr c56
                      have c56b1 : (a0_7.toList != ([] : List UInt8)) = true := bne_iff_ne.mpr c56
                      obtain rfl := Option.some.inj H
                      obtain ⟨hcz58_0, hcz58_1, hcz58_2, hcz58_3, hcz58_4, hcz58_5, hcz58_6, hcz58_7, hcz58_8, hfz58_0, hfz58_1, hfz58_2, hfz58_3, hfz58_4, hfz58_5, hfz58_6, hfz58_7, hfz58_8⟩ := Z9 BK265.out
                      go_wp2
                      go_ret
                      exact ⟨Qe, Qh⟩
                  · rw [if_neg c55] at H
                    have c55b0 : (a0_5 == 0 && (a0_6 == 0)) = false := by simpa using c55
                    (try (have c55b1 : decide (a0_5 = 0 && (a0_6 == 0)) = false := by simpa using c55))
                    (try (have c55b2 : (a0_5 == 0 && (a0_6 == 0)) = false := by simpa using c55))
                    (try (have c55b3 : ¬ (a0_5 = 0 && (a0_6 == 0)) := by simpa using c55))
                    clear c55
                    obtain rfl := Option.some.inj H
                    obtain ⟨hcz59_0, hcz59_1, hcz59_2, hcz59_3, hcz59_4, hcz59_5, hcz59_6, hcz59_7, hcz59_8, hfz59_0, hfz59_1, hfz59_2, hfz59_3, hfz59_4, hfz59_5, hfz59_6, hfz59_7, hfz59_8⟩ := Z9 BK265.out
                    go_wp2
                    go_ret
                    exact ⟨Qe, Qh⟩
                · rw [if_neg c54] at H
                  have c54b0 : (a0_0 == 5) = false := beq_eq_false_iff_ne.mpr c54
                  have c54b1 : (a0_0 != 5) = true := bne_iff_ne.mpr c54
                  obtain rfl := Option.some.inj H
                  obtain ⟨hcz60_0, hcz60_1, hcz60_2, hcz60_3, hcz60_4, hcz60_5, hcz60_6, hcz60_7, hcz60_8, hfz60_0, hfz60_1, hfz60_2, hfz60_3, hfz60_4, hfz60_5, hfz60_6, hfz60_7, hfz60_8⟩ := Z9 BK265.out
                  go_wp2
                  go_ret
                  exact ⟨Qe, Qh⟩

/-! ### samphireref09_Done: function 27 -/
def samphireref09_Done.f (a0_0 : ByteArray) (a0_1 : Bool) : Option (ByteArray × Int) := if a0_1 = true then (some ((⟨#[]⟩ : ByteArray), 1)) else (some (a0_0, 0))
set_option maxHeartbeats 8000000 in
set_option maxRecDepth 100000 in
theorem samphireref09_Done.calls (a0_0 : ByteArray) (a0_1 : Bool) (r1 : ByteArray) (r2 : Int) (w : World) (h : samphireref09_Done.f a0_0 a0_1 = some (r1, r2)) :
    Calls Tryd.prog 27 #[.agg #[.string a0_0, .bool a0_1]] w fun e w' => e = .returned (.tuple #[.string r1, .int .i64 r2]) ∧ Below w.heap.size w w' := by
  have hu60 := Tryd.underlying60
  have HB := Aside0.mk (Below.refl w.heap.size w)
  have H : (if a0_1 = true then (some ((⟨#[]⟩ : ByteArray), 1)) else (some (a0_0, 0))) = some (r1, r2) := h
  clear h
  by_cases c2 : a0_1 = true
  · subst c2
    have H1 : (some ((⟨#[]⟩ : ByteArray), 1)) = some (r1, r2) := by rw [if_pos rfl] at H; exact H
    clear H
    have H := H1
    clear H1
    simp only [Option.some.injEq, Prod.mk.injEq] at H
    obtain ⟨rfl, rfl⟩ := H
    go_enter Tryd.func27, Tryd.ntmps27
    go_wp2_with (first | ((with_reducible refine gate_dst (N := 1) rfl ?_); refine boxQ (N := 1) (cs := #[.string a0_0, .bool true]) (t := 60) ?_; intro gb272 hg w3 hbox hb; have n0_ := Aside0.mk (below_step Qh hb); have n1_ := Aside0.mk (hbox); have n2_ := Aside0.mk (Qs (w := w) hg); have n3_ := Aside0.mk (Qs (w := w) hg); clear HB; have HB := n0_; have BK272 := n1_; have GW272 := n2_; have GE272 := n3_; clear n0_ n1_ n2_ n3_; clear hb hbox hg; obtain ⟨hcz4_0, hcz4_1, hfz4_0, hfz4_1⟩ := Z2 BK272.out))
    go_ret2
    exact ⟨Qe, Qh⟩
  · replace c2 := Bool.eq_false_iff.mpr c2
    subst c2
    have H1 : (some (a0_0, 0)) = some (r1, r2) := by rw [if_neg (show ¬ (false = true) by decide)] at H; exact H
    clear H
    have H := H1
    clear H1
    simp only [Option.some.injEq, Prod.mk.injEq] at H
    obtain ⟨rfl, rfl⟩ := H
    go_enter Tryd.func27, Tryd.ntmps27
    go_wp2_with (first | ((with_reducible refine gate_dst (N := 1) rfl ?_); refine boxQ (N := 1) (cs := #[.string a0_0, .bool false]) (t := 60) ?_; intro gb272 hg w5 hbox hb; have n0_ := Aside0.mk (below_step Qh hb); have n1_ := Aside0.mk (hbox); have n2_ := Aside0.mk (Qs (w := w) hg); have n3_ := Aside0.mk (Qs (w := w) hg); clear HB; have HB := n0_; have BK272 := n1_; have GW272 := n2_; have GE272 := n3_; clear n0_ n1_ n2_ n3_; clear hb hbox hg; obtain ⟨hcz6_0, hcz6_1, hfz6_0, hfz6_1⟩ := Z2 BK272.out))
    go_ret2
    exact ⟨Qe, Qh⟩

/-! ### samphireref09_with: function 75 -/
def samphireref09_with.f (a0_0 : ByteArray) (a0_1 : Bool) (a1 : ByteArray) (a2 : Bool) : Option (ByteArray × Bool) := if a2 = true then (if a0_1 = true then (some (a0_0, true)) else (if (wrap64 ((a0_0.size : Int) + (a1.size : Int))) > 65536 then (some (a0_0, true)) else (if a0_0.size + a1.size ≤ 9223372036854775807 then (some (a0_0 ++ a1, a0_1)) else (none)))) else (some (a0_0, true))
set_option maxHeartbeats 8000000 in
set_option maxRecDepth 100000 in
theorem samphireref09_with.calls (a0_0 : ByteArray) (a0_1 : Bool) (a1 : ByteArray) (a2 : Bool) (r1 : ByteArray) (r2 : Bool) (w : World) (h : samphireref09_with.f a0_0 a0_1 a1 a2 = some (r1, r2)) :
    Calls Tryd.prog 75 #[.agg #[.string a0_0, .bool a0_1], .string a1, .bool a2] w fun e w' => e = .returned (.agg #[.string r1, .bool r2]) ∧ Below w.heap.size w w' := by
  have hu60 := Tryd.underlying60
  have HB := Aside0.mk (Below.refl w.heap.size w)
  have H : (if a2 = true then (if a0_1 = true then (some (a0_0, true)) else (if (wrap64 ((a0_0.size : Int) + (a1.size : Int))) > 65536 then (some (a0_0, true)) else (if a0_0.size + a1.size ≤ 9223372036854775807 then (some (a0_0 ++ a1, a0_1)) else (none)))) else (some (a0_0, true))) = some (r1, r2) := h
  clear h
  by_cases c4 : a2 = true
  · subst c4
    have H1 : (if a0_1 = true then (some (a0_0, true)) else (if (wrap64 ((a0_0.size : Int) + (a1.size : Int))) > 65536 then (some (a0_0, true)) else (if a0_0.size + a1.size ≤ 9223372036854775807 then (some (a0_0 ++ a1, a0_1)) else (none)))) = some (r1, r2) := by rw [if_pos rfl] at H; exact H
    clear H
    have H := H1
    clear H1
    by_cases c5 : a0_1 = true
    · subst c5
      have H1 : (some (a0_0, true)) = some (r1, r2) := by rw [if_pos rfl] at H; exact H
      clear H
      have H := H1
      clear H1
      simp only [Option.some.injEq, Prod.mk.injEq] at H
      obtain ⟨rfl, rfl⟩ := H
      go_enter Tryd.func75, Tryd.ntmps75
      go_wp2_with (first | ((with_reducible refine gate_dst (N := 3) rfl ?_); (try (refine gate_guard (by rfl) ?_; dsimp only)); refine boxQ (N := 3) (cs := #[.string a0_0, .bool true]) (t := 60) ?_; intro gb273 hg w6 hbox hb; have n0_ := Aside0.mk (below_step Qh hb); have n1_ := Aside0.mk (hbox); have n2_ := Aside0.mk (Qs (w := w) hg); have n3_ := Aside0.mk (Qs (w := w) hg); clear HB; have HB := n0_; have BK273 := n1_; have GW273 := n2_; have GE273 := n3_; clear n0_ n1_ n2_ n3_; clear hb hbox hg) | ((with_reducible refine gate_dst (N := 6) rfl ?_); (try (refine gate_guard (by rfl) ?_; dsimp only)); refine boxQ (N := 6) (cs := #[.string (⟨#[]⟩ : ByteArray), .bool false]) (t := 60) ?_; intro gb274 hg w7 hbox hb; have n0_ := Aside0.mk (Qb BK273 hb); have n1_ := Aside0.mk (below_step Qh hb); have n2_ := Aside0.mk (hbox); have n3_ := Aside0.mk (Qs (w := w) hg); have n4_ := Aside0.mk (Qs (w := w) hg); have n5_ := Aside0.mk (Qn hg BK273); have n6_ := Aside0.mk (Qn hg BK273).symm; clear BK273; clear HB; have BK273 := n0_; have HB := n1_; have BK274 := n2_; have GW274 := n3_; have GE274 := n4_; have NB273_274 := n5_; have NB274_273 := n6_; clear n0_ n1_ n2_ n3_ n4_ n5_ n6_; clear hb hbox hg; have hnb8 := NB273_274.out; have hnc8 := NB274_273.out; obtain ⟨hcz9_0, hcz9_1, hfz9_0, hfz9_1⟩ := Z2 BK273.out; obtain ⟨hcz10_0, hcz10_1, hfz10_0, hfz10_1⟩ := Z2 BK274.out))
      refine bodyPost_ret (results_cell_row rfl _ _ gb274 60 #[.string a0_0, .bool true] (0, 0) _ rfl Qk Tryd.underlying60 rfl (by kernel_rfl)) rfl ?_
      exact ⟨Qe, Qh⟩
    · replace c5 := Bool.eq_false_iff.mpr c5
      subst c5
      have H1 : (if (wrap64 ((a0_0.size : Int) + (a1.size : Int))) > 65536 then (some (a0_0, true)) else (if a0_0.size + a1.size ≤ 9223372036854775807 then (some (a0_0 ++ a1, false)) else (none))) = some (r1, r2) := by rw [if_neg (show ¬ (false = true) by decide)] at H; exact H
      clear H
      have H := H1
      clear H1
      by_cases c11 : (wrap64 ((a0_0.size : Int) + (a1.size : Int))) > 65536
      · rw [if_pos c11] at H
        have c11b0 : decide (65536 < (wrap64 ((a0_0.size : Int) + (a1.size : Int)))) = true := decide_eq_true c11
        clear c11
        simp only [Option.some.injEq, Prod.mk.injEq] at H
        obtain ⟨rfl, rfl⟩ := H
        go_enter Tryd.func75, Tryd.ntmps75
        go_wp2_with (first | ((with_reducible refine gate_dst (N := 3) rfl ?_); (try (refine gate_guard (by rfl) ?_; dsimp only)); refine boxQ (N := 3) (cs := #[.string a0_0, .bool false]) (t := 60) ?_; intro gb273 hg w12 hbox hb; have n0_ := Aside0.mk (below_step Qh hb); have n1_ := Aside0.mk (hbox); have n2_ := Aside0.mk (Qs (w := w) hg); have n3_ := Aside0.mk (Qs (w := w) hg); clear HB; have HB := n0_; have BK273 := n1_; have GW273 := n2_; have GE273 := n3_; clear n0_ n1_ n2_ n3_; clear hb hbox hg) | ((with_reducible refine gate_dst (N := 6) rfl ?_); (try (refine gate_guard (by rfl) ?_; dsimp only)); refine boxQ (N := 6) (cs := #[.string (⟨#[]⟩ : ByteArray), .bool false]) (t := 60) ?_; intro gb274 hg w13 hbox hb; have n0_ := Aside0.mk (Qb BK273 hb); have n1_ := Aside0.mk (below_step Qh hb); have n2_ := Aside0.mk (hbox); have n3_ := Aside0.mk (Qs (w := w) hg); have n4_ := Aside0.mk (Qs (w := w) hg); have n5_ := Aside0.mk (Qn hg BK273); have n6_ := Aside0.mk (Qn hg BK273).symm; clear BK273; clear HB; have BK273 := n0_; have HB := n1_; have BK274 := n2_; have GW274 := n3_; have GE274 := n4_; have NB273_274 := n5_; have NB274_273 := n6_; clear n0_ n1_ n2_ n3_ n4_ n5_ n6_; clear hb hbox hg; have hnb14 := NB273_274.out; have hnc14 := NB274_273.out; obtain ⟨hcz15_0, hcz15_1, hfz15_0, hfz15_1⟩ := Z2 BK273.out; obtain ⟨hcz16_0, hcz16_1, hfz16_0, hfz16_1⟩ := Z2 BK274.out))
        refine bodyPost_ret (results_cell_row rfl _ _ gb274 60 #[.string a0_0, .bool true] (0, 0) _ rfl Qk Tryd.underlying60 rfl (by kernel_rfl)) rfl ?_
        exact ⟨Qe, Qh⟩
      · rw [if_neg c11] at H
        have c11b0 : decide (65536 < (wrap64 ((a0_0.size : Int) + (a1.size : Int)))) = false := decide_eq_false c11
        clear c11
        by_cases c17 : a0_0.size + a1.size ≤ 9223372036854775807
        · rw [if_pos c17] at H
          have c17b0 := eq_true c17
          have c17b1 : decide (a0_0.size + a1.size ≤ 9223372036854775807) = true := decide_eq_true c17
          try have c17b2 : (9223372036854775807 < a0_0.size + a1.size) = False := eq_false (Nat.not_lt.2 c17)
          have c11b1 : decide (65536 < (a0_0.size : Int) + (a1.size : Int)) = false := by
            have h_ := of_decide_eq_false c11b0
            rw [show wrap64 ((a0_0.size : Int) + (a1.size : Int)) = (a0_0.size : Int) + (a1.size : Int) by unfold wrap64; omega] at h_
            exact decide_eq_false h_
          simp only [Option.some.injEq, Prod.mk.injEq] at H
          obtain ⟨rfl, rfl⟩ := H
          go_enter Tryd.func75, Tryd.ntmps75
          go_wp2_with (first | ((with_reducible refine gate_dst (N := 3) rfl ?_); (try (refine gate_guard (by rfl) ?_; dsimp only)); refine boxQ (N := 3) (cs := #[.string a0_0, .bool false]) (t := 60) ?_; intro gb273 hg w18 hbox hb; have n0_ := Aside0.mk (below_step Qh hb); have n1_ := Aside0.mk (hbox); have n2_ := Aside0.mk (Qs (w := w) hg); have n3_ := Aside0.mk (Qs (w := w) hg); clear HB; have HB := n0_; have BK273 := n1_; have GW273 := n2_; have GE273 := n3_; clear n0_ n1_ n2_ n3_; clear hb hbox hg) | ((with_reducible refine gate_dst (N := 6) rfl ?_); (try (refine gate_guard (by rfl) ?_; dsimp only)); refine boxQ (N := 6) (cs := #[.string (⟨#[]⟩ : ByteArray), .bool false]) (t := 60) ?_; intro gb274 hg w19 hbox hb; have n0_ := Aside0.mk (Qb BK273 hb); have n1_ := Aside0.mk (below_step Qh hb); have n2_ := Aside0.mk (hbox); have n3_ := Aside0.mk (Qs (w := w) hg); have n4_ := Aside0.mk (Qs (w := w) hg); have n5_ := Aside0.mk (Qn hg BK273); have n6_ := Aside0.mk (Qn hg BK273).symm; clear BK273; clear HB; have BK273 := n0_; have HB := n1_; have BK274 := n2_; have GW274 := n3_; have GE274 := n4_; have NB273_274 := n5_; have NB274_273 := n6_; clear n0_ n1_ n2_ n3_ n4_ n5_ n6_; clear hb hbox hg; have hnb20 := NB273_274.out; have hnc20 := NB274_273.out; obtain ⟨hcz21_0, hcz21_1, hfz21_0, hfz21_1⟩ := Z2 BK273.out; obtain ⟨hcz22_0, hcz22_1, hfz22_0, hfz22_1⟩ := Z2 BK274.out))
          refine bodyPost_ret (results_cell_row rfl _ _ gb274 60 #[.string (a0_0 ++ a1), .bool false] (0, 0) _ rfl Qk Tryd.underlying60 rfl (by kernel_rfl)) rfl ?_
          exact ⟨Qe, Qh⟩
        · rw [if_neg c17] at H
          exact absurd H (by simp)
  · replace c4 := Bool.eq_false_iff.mpr c4
    subst c4
    have H1 : (some (a0_0, true)) = some (r1, r2) := by rw [if_neg (show ¬ (false = true) by decide)] at H; exact H
    clear H
    have H := H1
    clear H1
    simp only [Option.some.injEq, Prod.mk.injEq] at H
    obtain ⟨rfl, rfl⟩ := H
    go_enter Tryd.func75, Tryd.ntmps75
    go_wp2_with (first | ((with_reducible refine gate_dst (N := 3) rfl ?_); (try (refine gate_guard (by rfl) ?_; dsimp only)); refine boxQ (N := 3) (cs := #[.string a0_0, .bool a0_1]) (t := 60) ?_; intro gb273 hg w23 hbox hb; have n0_ := Aside0.mk (below_step Qh hb); have n1_ := Aside0.mk (hbox); have n2_ := Aside0.mk (Qs (w := w) hg); have n3_ := Aside0.mk (Qs (w := w) hg); clear HB; have HB := n0_; have BK273 := n1_; have GW273 := n2_; have GE273 := n3_; clear n0_ n1_ n2_ n3_; clear hb hbox hg) | ((with_reducible refine gate_dst (N := 6) rfl ?_); (try (refine gate_guard (by rfl) ?_; dsimp only)); refine boxQ (N := 6) (cs := #[.string (⟨#[]⟩ : ByteArray), .bool false]) (t := 60) ?_; intro gb274 hg w24 hbox hb; have n0_ := Aside0.mk (Qb BK273 hb); have n1_ := Aside0.mk (below_step Qh hb); have n2_ := Aside0.mk (hbox); have n3_ := Aside0.mk (Qs (w := w) hg); have n4_ := Aside0.mk (Qs (w := w) hg); have n5_ := Aside0.mk (Qn hg BK273); have n6_ := Aside0.mk (Qn hg BK273).symm; clear BK273; clear HB; have BK273 := n0_; have HB := n1_; have BK274 := n2_; have GW274 := n3_; have GE274 := n4_; have NB273_274 := n5_; have NB274_273 := n6_; clear n0_ n1_ n2_ n3_ n4_ n5_ n6_; clear hb hbox hg; have hnb25 := NB273_274.out; have hnc25 := NB274_273.out; obtain ⟨hcz26_0, hcz26_1, hfz26_0, hfz26_1⟩ := Z2 BK273.out; obtain ⟨hcz27_0, hcz27_1, hfz27_0, hfz27_1⟩ := Z2 BK274.out))
    refine bodyPost_ret (results_cell_row rfl _ _ gb274 60 #[.string a0_0, .bool true] (0, 0) _ rfl Qk Tryd.underlying60 rfl (by kernel_rfl)) rfl ?_
    exact ⟨Qe, Qh⟩

end Go.Proofs.YtmogpfhhmekbiaaDoor.S
