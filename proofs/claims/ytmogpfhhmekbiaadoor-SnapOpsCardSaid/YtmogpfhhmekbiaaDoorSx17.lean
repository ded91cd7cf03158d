/- Functions of the translation as plain Lean functions, and that each call comes to what they say: for every argument. Written by a program of this session's own; Lean checks it. -/
import Derived.Test.YtmogpfhhmekbiaaDoorSx0
import Derived.Test.YtmogpfhhmekbiaaDoorQa
import Derived.Test.YtmogpfhhmekbiaaDoorSx2
import Derived.Test.YtmogpfhhmekbiaaDoorSx4
import Derived.Test.YtmogpfhhmekbiaaDoorSx12
import Derived.Test.YtmogpfhhmekbiaaDoorSx14
import Derived.Test.YtmogpfhhmekbiaaDoorSx16
import Derived.Test.YtmogpfhhmekbiaaDoorHd
import Derived.Test.YtmogpfhhmekbiaaDoorHe
namespace Go.Proofs.YtmogpfhhmekbiaaDoor.S
open Go.RowKit Go.Proofs.YtmogpfhhmekbiaaDoorW.PrintWords Go.Proofs.YtmogpfhhmekbiaaDoorW.PrintLast
set_option linter.unusedVariables false
set_option linter.unusedSimpArgs false

attribute [local go_sem high] eqA25
/-! ### samphirelaw13_SnapOps: function 3 -/
mutual
def samphirelaw13_SnapOps.j0 : Nat → ByteArray → Bool → Int → Int → Int → Int → Int → Int → Int → ByteArray → ByteArray → Option (Bool)
  | 0, _, _, _, _, _, _, _, _, _, _, _ => none
  | k + 1, x1, x24, x409000, x409001, x409002, x409003, x409004, x409005, x409006, x409007, x409008 => if x24 = true then ((samphirelaw13_awake.f).bind fun t410 => (some t410)) else ((snap_PutOp.f k x409000 x409001 x409002 x409003 x409004 x409005 x409006 x409007 x409008).bind fun bt411 => ((samphireref13_PutOp.f k x409000 x409001 x409002 x409003 x409004 x409005 x409006 x409007 x409008).bind fun bt413 => ((snap_TakeOp.f k x1).bind fun bt415 => ((samphireref13_TakeOp.f k x1).bind fun bt426 => (if bt411.1.toList = bt413.1.toList then (if bt411.2 = bt413.2 then (if (!(bt415.1 == bt426.1) || ((!(bt415.2.1 == bt426.2.1) || (!(bt415.2.2.1 == bt426.2.2.1))) || ((!(bt415.2.2.2.1 == bt426.2.2.2.1) || (!(bt415.2.2.2.2.1 == bt426.2.2.2.2.1))) || ((!(bt415.2.2.2.2.2.1 == bt426.2.2.2.2.2.1) || (!(bt415.2.2.2.2.2.2.1 == bt426.2.2.2.2.2.2.1))) || (!(bt415.2.2.2.2.2.2.2.1.toList == bt426.2.2.2.2.2.2.2.1.toList) || (!(bt415.2.2.2.2.2.2.2.2.1.toList == bt426.2.2.2.2.2.2.2.2.1.toList))))))) = true then (samphirelaw13_SnapOps.j1 k x1 bt411.1 bt411.2 bt415.2.2.2.2.2.2.2.2.2 true x409000 x409001 x409002 x409003 x409004 x409005 x409006 x409007 x409008 bt415.1 bt415.2.1 bt415.2.2.1 bt415.2.2.2.1 bt415.2.2.2.2.1 bt415.2.2.2.2.2.1 bt415.2.2.2.2.2.2.1 bt415.2.2.2.2.2.2.2.1 bt415.2.2.2.2.2.2.2.2.1) else (samphirelaw13_SnapOps.j1 k x1 bt411.1 bt411.2 bt415.2.2.2.2.2.2.2.2.2 (bt415.2.2.2.2.2.2.2.2.2 != bt426.2.2.2.2.2.2.2.2.2) x409000 x409001 x409002 x409003 x409004 x409005 x409006 x409007 x409008 bt415.1 bt415.2.1 bt415.2.2.1 bt415.2.2.2.1 bt415.2.2.2.2.1 bt415.2.2.2.2.2.1 bt415.2.2.2.2.2.2.1 bt415.2.2.2.2.2.2.2.1 bt415.2.2.2.2.2.2.2.2.1)) else (samphirelaw13_SnapOps.j1 k x1 bt411.1 bt411.2 bt415.2.2.2.2.2.2.2.2.2 true x409000 x409001 x409002 x409003 x409004 x409005 x409006 x409007 x409008 bt415.1 bt415.2.1 bt415.2.2.1 bt415.2.2.2.1 bt415.2.2.2.2.1 bt415.2.2.2.2.2.1 bt415.2.2.2.2.2.2.1 bt415.2.2.2.2.2.2.2.1 bt415.2.2.2.2.2.2.2.2.1)) else (samphirelaw13_SnapOps.j1 k x1 bt411.1 bt411.2 bt415.2.2.2.2.2.2.2.2.2 true x409000 x409001 x409002 x409003 x409004 x409005 x409006 x409007 x409008 bt415.1 bt415.2.1 bt415.2.2.1 bt415.2.2.2.1 bt415.2.2.2.2.1 bt415.2.2.2.2.2.1 bt415.2.2.2.2.2.2.1 bt415.2.2.2.2.2.2.2.1 bt415.2.2.2.2.2.2.2.2.1))))))
def samphirelaw13_SnapOps.j1 : Nat → ByteArray → ByteArray → Int → Int → Bool → Int → Int → Int → Int → Int → Int → Int → ByteArray → ByteArray → Int → Int → Int → Int → Int → Int → Int → ByteArray → ByteArray → Option (Bool)
  | 0, _, _, _, _, _, _, _, _, _, _, _, _, _, _, _, _, _, _, _, _, _, _, _ => none
  | k + 1, x1, x5, x6, x10, x63, x409000, x409001, x409002, x409003, x409004, x409005, x409006, x409007, x409008, x426000, x426001, x426002, x426003, x426004, x426005, x426006, x426007, x426008 => if x63 = true then (some false) else (if x6 = 0 then ((snap_TakeOp.f k x5).bind fun bt437 => (if (!(bt437.1 == x409000) || ((!(bt437.2.1 == x409001) || (!(bt437.2.2.1 == x409002))) || ((!(bt437.2.2.2.1 == x409003) || (!(bt437.2.2.2.2.1 == x409004))) || ((!(bt437.2.2.2.2.2.1 == x409005) || (!(bt437.2.2.2.2.2.2.1 == x409006))) || (!(bt437.2.2.2.2.2.2.2.1.toList == x409007.toList) || (!(bt437.2.2.2.2.2.2.2.2.1.toList == x409008.toList))))))) = true then (some false) else (if bt437.2.2.2.2.2.2.2.2.2 = 0 then (samphirelaw13_SnapOps.j2 k x1 x10 x426000 x426001 x426002 x426003 x426004 x426005 x426006 x426007 x426008) else (some false)))) else (samphirelaw13_SnapOps.j2 k x1 x10 x426000 x426001 x426002 x426003 x426004 x426005 x426006 x426007 x426008))
def samphirelaw13_SnapOps.j2 : Nat → ByteArray → Int → Int → Int → Int → Int → Int → Int → Int → ByteArray → ByteArray → Option (Bool)
  | 0, _, _, _, _, _, _, _, _, _, _, _ => none
  | k + 1, x1, x10, x426000, x426001, x426002, x426003, x426004, x426005, x426006, x426007, x426008 => if x10 = 0 then ((snap_PutOp.f k x426000 x426001 x426002 x426003 x426004 x426005 x426006 x426007 x426008).bind fun bt448 => (if bt448.1.toList = x1.toList then (if bt448.2 = 0 then ((samphirelaw13_awake.f).bind fun t450 => (some t450)) else (some false)) else (some false))) else ((samphirelaw13_awake.f).bind fun t451 => (some t451))
end
def samphirelaw13_SnapOps.f (k : Nat) (a0_0 : Int) (a0_1 : Int) (a0_2 : Int) (a0_3 : Int) (a0_4 : Int) (a0_5 : Int) (a0_6 : Int) (a0_7 : ByteArray) (a0_8 : ByteArray) (a1 : ByteArray) : Option (Bool) := (samphireref11_Light.f a0_0 a0_1 a0_2 a0_3 a0_4 a0_5 a0_6 a0_7 a0_8).bind fun t409 => (if t409 = true then (samphirelaw13_SnapOps.j0 k a1 (decide ((a1.size : Int) > 512)) a0_0 a0_1 a0_2 a0_3 a0_4 a0_5 a0_6 a0_7 a0_8) else (samphirelaw13_SnapOps.j0 k a1 true a0_0 a0_1 a0_2 a0_3 a0_4 a0_5 a0_6 a0_7 a0_8))
theorem samphirelaw13_SnapOps.mono_l : ∀ k, (∀ y0 y1 y2 y3 y4 y5 y6 y7 y8 y9 y10, LeO (samphirelaw13_SnapOps.j0 k y0 y1 y2 y3 y4 y5 y6 y7 y8 y9 y10) (samphirelaw13_SnapOps.j0 (k + 1) y0 y1 y2 y3 y4 y5 y6 y7 y8 y9 y10)) ∧ (∀ y0 y1 y2 y3 y4 y5 y6 y7 y8 y9 y10 y11 y12 y13 y14 y15 y16 y17 y18 y19 y20 y21 y22, LeO (samphirelaw13_SnapOps.j1 k y0 y1 y2 y3 y4 y5 y6 y7 y8 y9 y10 y11 y12 y13 y14 y15 y16 y17 y18 y19 y20 y21 y22) (samphirelaw13_SnapOps.j1 (k + 1) y0 y1 y2 y3 y4 y5 y6 y7 y8 y9 y10 y11 y12 y13 y14 y15 y16 y17 y18 y19 y20 y21 y22)) ∧ (∀ y0 y1 y2 y3 y4 y5 y6 y7 y8 y9 y10, LeO (samphirelaw13_SnapOps.j2 k y0 y1 y2 y3 y4 y5 y6 y7 y8 y9 y10) (samphirelaw13_SnapOps.j2 (k + 1) y0 y1 y2 y3 y4 y5 y6 y7 y8 y9 y10))
  | 0 => ⟨fun _ _ _ _ _ _ _ _ _ _ _ r h => by simp [samphirelaw13_SnapOps.j0] at h, fun _ _ _ _ _ _ _ _ _ _ _ _ _ _ _ _ _ _ _ _ _ _ _ r h => by simp [samphirelaw13_SnapOps.j1] at h, fun _ _ _ _ _ _ _ _ _ _ _ r h => by simp [samphirelaw13_SnapOps.j2] at h⟩
  | k + 1 => by
    obtain ⟨ih0, ih1, ih2⟩ := samphirelaw13_SnapOps.mono_l k
    refine ⟨?_, ?_, ?_⟩
    · intro y0 y1 y2 y3 y4 y5 y6 y7 y8 y9 y10
      unfold samphirelaw13_SnapOps.j0
      repeat' first
      | (with_reducible exact ih0 _ _ _ _ _ _ _ _ _ _ _)
      | (with_reducible exact ih1 _ _ _ _ _ _ _ _ _ _ _ _ _ _ _ _ _ _ _ _ _ _ _)
      | (with_reducible exact ih2 _ _ _ _ _ _ _ _ _ _ _)
      | (with_reducible exact samphireref13_PutOp.mono _ _ _ _ _ _ _ _ _ _)
      | (with_reducible exact samphireref13_TakeOp.mono _ _)
      | (with_reducible exact snap_PutOp.mono _ _ _ _ _ _ _ _ _ _)
      | (with_reducible exact snap_TakeOp.mono _ _)
      | (with_reducible exact LeO.refl _)
      | (with_reducible exact LeO.none _)
      | (with_reducible refine LeO.ite ?_ ?_)
      | (with_reducible refine LeO.bind ?_ (fun _ => ?_))
      | exact ih0 _ _ _ _ _ _ _ _ _ _ _
      | exact ih1 _ _ _ _ _ _ _ _ _ _ _ _ _ _ _ _ _ _ _ _ _ _ _
      | exact ih2 _ _ _ _ _ _ _ _ _ _ _
      | exact samphireref13_PutOp.mono _ _ _ _ _ _ _ _ _ _
      | exact samphireref13_TakeOp.mono _ _
      | exact snap_PutOp.mono _ _ _ _ _ _ _ _ _ _
      | exact snap_TakeOp.mono _ _
      | exact LeO.none _
      | refine LeO.ite ?_ ?_
      | refine LeO.bind ?_ (fun _ => ?_)
    · intro y0 y1 y2 y3 y4 y5 y6 y7 y8 y9 y10 y11 y12 y13 y14 y15 y16 y17 y18 y19 y20 y21 y22
      unfold samphirelaw13_SnapOps.j1
      repeat' first
      | (with_reducible exact ih0 _ _ _ _ _ _ _ _ _ _ _)
      | (with_reducible exact ih1 _ _ _ _ _ _ _ _ _ _ _ _ _ _ _ _ _ _ _ _ _ _ _)
      | (with_reducible exact ih2 _ _ _ _ _ _ _ _ _ _ _)
      | (with_reducible exact samphireref13_PutOp.mono _ _ _ _ _ _ _ _ _ _)
      | (with_reducible exact samphireref13_TakeOp.mono _ _)
      | (with_reducible exact snap_PutOp.mono _ _ _ _ _ _ _ _ _ _)
      | (with_reducible exact snap_TakeOp.mono _ _)
      | (with_reducible exact LeO.refl _)
      | (with_reducible exact LeO.none _)
      | (with_reducible refine LeO.ite ?_ ?_)
      | (with_reducible refine LeO.bind ?_ (fun _ => ?_))
      | exact ih0 _ _ _ _ _ _ _ _ _ _ _
      | exact ih1 _ _ _ _ _ _ _ _ _ _ _ _ _ _ _ _ _ _ _ _ _ _ _
      | exact ih2 _ _ _ _ _ _ _ _ _ _ _
      | exact samphireref13_PutOp.mono _ _ _ _ _ _ _ _ _ _
      | exact samphireref13_TakeOp.mono _ _
      | exact snap_PutOp.mono _ _ _ _ _ _ _ _ _ _
      | exact snap_TakeOp.mono _ _
      | exact LeO.none _
      | refine LeO.ite ?_ ?_
      | refine LeO.bind ?_ (fun _ => ?_)
    · intro y0 y1 y2 y3 y4 y5 y6 y7 y8 y9 y10
      unfold samphirelaw13_SnapOps.j2
      repeat' first
      | (with_reducible exact ih0 _ _ _ _ _ _ _ _ _ _ _)
      | (with_reducible exact ih1 _ _ _ _ _ _ _ _ _ _ _ _ _ _ _ _ _ _ _ _ _ _ _)
      | (with_reducible exact ih2 _ _ _ _ _ _ _ _ _ _ _)
      | (with_reducible exact samphireref13_PutOp.mono _ _ _ _ _ _ _ _ _ _)
      | (with_reducible exact samphireref13_TakeOp.mono _ _)
      | (with_reducible exact snap_PutOp.mono _ _ _ _ _ _ _ _ _ _)
      | (with_reducible exact snap_TakeOp.mono _ _)
      | (with_reducible exact LeO.refl _)
      | (with_reducible exact LeO.none _)
      | (with_reducible refine LeO.ite ?_ ?_)
      | (with_reducible refine LeO.bind ?_ (fun _ => ?_))
      | exact ih0 _ _ _ _ _ _ _ _ _ _ _
      | exact ih1 _ _ _ _ _ _ _ _ _ _ _ _ _ _ _ _ _ _ _ _ _ _ _
      | exact ih2 _ _ _ _ _ _ _ _ _ _ _
      | exact samphireref13_PutOp.mono _ _ _ _ _ _ _ _ _ _
      | exact samphireref13_TakeOp.mono _ _
      | exact snap_PutOp.mono _ _ _ _ _ _ _ _ _ _
      | exact snap_TakeOp.mono _ _
      | exact LeO.none _
      | refine LeO.ite ?_ ?_
      | refine LeO.bind ?_ (fun _ => ?_)
theorem samphirelaw13_SnapOps.mono : ∀ a0 a1 a2 a3 a4 a5 a6 a7 a8 a9 k, LeO (samphirelaw13_SnapOps.f k a0 a1 a2 a3 a4 a5 a6 a7 a8 a9) (samphirelaw13_SnapOps.f (k + 1) a0 a1 a2 a3 a4 a5 a6 a7 a8 a9) := by
  intro a0 a1 a2 a3 a4 a5 a6 a7 a8 a9 k
  obtain ⟨ih0, ih1, ih2⟩ := samphirelaw13_SnapOps.mono_l k
  unfold samphirelaw13_SnapOps.f
  repeat' first
      | (with_reducible exact ih0 _ _ _ _ _ _ _ _ _ _ _)
      | (with_reducible exact ih1 _ _ _ _ _ _ _ _ _ _ _ _ _ _ _ _ _ _ _ _ _ _ _)
      | (with_reducible exact ih2 _ _ _ _ _ _ _ _ _ _ _)
      | (with_reducible exact samphireref13_PutOp.mono _ _ _ _ _ _ _ _ _ _)
      | (with_reducible exact samphireref13_TakeOp.mono _ _)
      | (with_reducible exact snap_PutOp.mono _ _ _ _ _ _ _ _ _ _)
      | (with_reducible exact snap_TakeOp.mono _ _)
      | (with_reducible exact LeO.refl _)
      | (with_reducible exact LeO.none _)
      | (with_reducible refine LeO.ite ?_ ?_)
      | (with_reducible refine LeO.bind ?_ (fun _ => ?_))
      | exact ih0 _ _ _ _ _ _ _ _ _ _ _
      | exact ih1 _ _ _ _ _ _ _ _ _ _ _ _ _ _ _ _ _ _ _ _ _ _ _
      | exact ih2 _ _ _ _ _ _ _ _ _ _ _
      | exact samphireref13_PutOp.mono _ _ _ _ _ _ _ _ _ _
      | exact samphireref13_TakeOp.mono _ _
      | exact snap_PutOp.mono _ _ _ _ _ _ _ _ _ _
      | exact snap_TakeOp.mono _ _
      | exact LeO.none _
      | refine LeO.ite ?_ ?_
      | refine LeO.bind ?_ (fun _ => ?_)
set_option maxHeartbeats 8000000 in
set_option maxRecDepth 100000 in
theorem samphirelaw13_SnapOps.calls (k : Nat) (a0_0 : Int) (a0_1 : Int) (a0_2 : Int) (a0_3 : Int) (a0_4 : Int) (a0_5 : Int) (a0_6 : Int) (a0_7 : ByteArray) (a0_8 : ByteArray) (a1 : ByteArray) (r : Bool) (w : World) (h : samphirelaw13_SnapOps.f k a0_0 a0_1 a0_2 a0_3 a0_4 a0_5 a0_6 a0_7 a0_8 a1 = some r) (hL : Laid w) :
    Calls Tryd.prog 3 #[.agg #[.int .i64 a0_0, .int .i64 a0_1, .int .i64 a0_2, .int .i64 a0_3, .int .i64 a0_4, .int .i64 a0_5, .int .i64 a0_6, .string a0_7, .string a0_8], .string a1] w fun e w' => e = .returned (.bool r) ∧ Below w.heap.size w w' := by
  have hu25 := Tryd.underlying25
  have HB := Aside0.mk (Below.refl w.heap.size w)
  have H : ((samphireref11_Light.f a0_0 a0_1 a0_2 a0_3 a0_4 a0_5 a0_6 a0_7 a0_8).bind fun t409 => (if t409 = true then (samphirelaw13_SnapOps.j0 k a1 (decide ((a1.size : Int) > 512)) a0_0 a0_1 a0_2 a0_3 a0_4 a0_5 a0_6 a0_7 a0_8) else (samphirelaw13_SnapOps.j0 k a1 true a0_0 a0_1 a0_2 a0_3 a0_4 a0_5 a0_6 a0_7 a0_8))) = some r := h
  clear h
  have HC3 := Aside0.mk H
  clear H
  go_enter Tryd.func3, Tryd.ntmps3
  go_upto_region 1 with (first | ((with_reducible refine gate_dst (N := 2) rfl ?_); (try (refine gate_guard (by rfl) ?_; dsimp only)); refine boxQ (N := 2) (cs := #[.int .i64 a0_0, .int .i64 a0_1, .int .i64 a0_2, .int .i64 a0_3, .int .i64 a0_4, .int .i64 a0_5, .int .i64 a0_6, .string a0_7, .string a0_8]) (t := 25) ?_; intro gb408 hg w4 hbox hb; have n0_ := Aside0.mk (below_step Qh hb); have n1_ := Aside0.mk (hbox); have n2_ := Aside0.mk (Qs (w := w) hg); have n3_ := Aside0.mk (Qs (w := w) hg); clear HB; have HB := n0_; have BK408 := n1_; have GW408 := n2_; have GE408 := n3_; clear n0_ n1_ n2_ n3_; clear hb hbox hg))
  (try simp only [Act.put, List.setIfInBounds_toArray, List.set_cons_zero, List.set_cons_succ])
  go_cut [24] (fun v24 wc => ∃ (kq : Nat) (x24_2 : Bool), v24 = .bool x24_2 ∧ Aside0 (samphirelaw13_SnapOps.j0 kq a1 x24_2 a0_0 a0_1 a0_2 a0_3 a0_4 a0_5 a0_6 a0_7 a0_8 = some r) ∧ Aside0 (kq ≤ k) ∧ Aside0 (wc.heap[gb408]? = some (.cells #[.int .i64 a0_0, .int .i64 a0_1, .int .i64 a0_2, .int .i64 a0_3, .int .i64 a0_4, .int .i64 a0_5, .int .i64 a0_6, .string a0_7, .string a0_8] 25 (0, 0))) ∧ Aside0 (Below w.heap.size w wc))
  case first =>
    have H := HC3.out
    clear HC3
    replace H := Option.bind_eq_some_iff.mp H
    obtain ⟨t409, A50, H⟩ := H
    replace H : (if t409 = true then (samphirelaw13_SnapOps.j0 k a1 (decide ((a1.size : Int) > 512)) a0_0 a0_1 a0_2 a0_3 a0_4 a0_5 a0_6 a0_7 a0_8) else (samphirelaw13_SnapOps.j0 k a1 true a0_0 a0_1 a0_2 a0_3 a0_4 a0_5 a0_6 a0_7 a0_8)) = some r := H
    have A5 := Aside0.mk A50
    clear A50
    by_cases c6 : t409 = true
    · subst c6
      have H1 : (samphirelaw13_SnapOps.j0 k a1 (decide ((a1.size : Int) > 512)) a0_0 a0_1 a0_2 a0_3 a0_4 a0_5 a0_6 a0_7 a0_8) = some r := by rw [if_pos rfl] at H; exact H
      clear H
      have H := H1
      clear H1
      have H' := Aside0.mk H
      clear H
      obtain ⟨hcz7_0, hcz7_1, hcz7_2, hcz7_3, hcz7_4, hcz7_5, hcz7_6, hcz7_7, hcz7_8, hfz7_0, hfz7_1, hfz7_2, hfz7_3, hfz7_4, hfz7_5, hfz7_6, hfz7_7, hfz7_8⟩ := Z9 BK408.out
      go_wp2_with (first | ((with_reducible refine gate_callee (f := 8) rfl ?_); refine goesL_ (some 18) rfl rfl Tryd.func8 (by kernel_rfl) rfl #[.agg #[.int .i64 a0_0, .int .i64 a0_1, .int .i64 a0_2, .int .i64 a0_3, .int .i64 a0_4, .int .i64 a0_5, .int .i64 a0_6, .string a0_7, .string a0_8]] rfl Qm ?_; (with_reducible refine (samphireref11_Light.calls a0_0 a0_1 a0_2 a0_3 a0_4 a0_5 a0_6 a0_7 a0_8 true _ A5.out).mono ?_); rintro e w8 ⟨rfl, hb⟩; refine ⟨_, rfl, ?_⟩; have n0_ := Aside0.mk (Qb BK408 hb); have n1_ := Aside0.mk (below_step Qh hb); clear BK408; clear HB; have BK408 := n0_; have HB := n1_; clear n0_ n1_; (try clear hb); (try clear hb2); (try clear hk); (try clear hi)))
      go_meet
      case rel => exact ⟨_, (decide ((a1.size : Int) > 512)), (by first | rfl | (simp; done) | (simp [*]; done)), H', ⟨by first | omega | exact Nat.le_refl _⟩, ⟨Qk⟩, ⟨Qh⟩⟩
    · replace c6 := Bool.eq_false_iff.mpr c6
      subst c6
      have H1 : (samphirelaw13_SnapOps.j0 k a1 true a0_0 a0_1 a0_2 a0_3 a0_4 a0_5 a0_6 a0_7 a0_8) = some r := by rw [if_neg (show ¬ (false = true) by decide)] at H; exact H
      clear H
      have H := H1
      clear H1
      have H' := Aside0.mk H
      clear H
      obtain ⟨hcz9_0, hcz9_1, hcz9_2, hcz9_3, hcz9_4, hcz9_5, hcz9_6, hcz9_7, hcz9_8, hfz9_0, hfz9_1, hfz9_2, hfz9_3, hfz9_4, hfz9_5, hfz9_6, hfz9_7, hfz9_8⟩ := Z9 BK408.out
      go_wp2_with (first | ((with_reducible refine gate_callee (f := 8) rfl ?_); refine goesL_ (some 18) rfl rfl Tryd.func8 (by kernel_rfl) rfl #[.agg #[.int .i64 a0_0, .int .i64 a0_1, .int .i64 a0_2, .int .i64 a0_3, .int .i64 a0_4, .int .i64 a0_5, .int .i64 a0_6, .string a0_7, .string a0_8]] rfl Qm ?_; (with_reducible refine (samphireref11_Light.calls a0_0 a0_1 a0_2 a0_3 a0_4 a0_5 a0_6 a0_7 a0_8 false _ A5.out).mono ?_); rintro e w10 ⟨rfl, hb⟩; refine ⟨_, rfl, ?_⟩; have n0_ := Aside0.mk (Qb BK408 hb); have n1_ := Aside0.mk (below_step Qh hb); clear BK408; clear HB; have BK408 := n0_; have HB := n1_; clear n0_ n1_; (try clear hb); (try clear hb2); (try clear hk); (try clear hi)))
      go_meet
      case rel => exact ⟨_, (true), (by first | rfl | (simp; done) | (simp [*]; done)), H', ⟨by first | omega | exact Nat.le_refl _⟩, ⟨Qk⟩, ⟨Qh⟩⟩
  case rest =>
    clear HC3
    try clear p2
    try clear c3
    try clear c6
    try clear c8
    try clear hcz7_0 hcz7_1 hcz7_2 hcz7_3 hcz7_4 hcz7_5 hcz7_6 hcz7_7 hcz7_8
    try clear hcz9_0 hcz9_1 hcz9_2 hcz9_3 hcz9_4 hcz9_5 hcz9_6 hcz9_7 hcz9_8
    try clear hfz7_0 hfz7_1 hfz7_2 hfz7_3 hfz7_4 hfz7_5 hfz7_6 hfz7_7 hfz7_8
    try clear hfz9_0 hfz9_1 hfz9_2 hfz9_3 hfz9_4 hfz9_5 hfz9_6 hfz9_7 hfz9_8
    obtain ⟨kq, x24_2, rfl, HA, HJ2, BK408, HB⟩ := hcut
    cases kq with
    | zero => exact absurd HA.out (by simp [samphirelaw13_SnapOps.j0])
    | succ kj2 =>
      have H := HA.out
      clear HA
      simp only [samphirelaw13_SnapOps.j0] at H
      by_cases c11 : x24_2 = true
      · subst c11
        have H1 : ((samphirelaw13_awake.f).bind fun t410 => (some t410)) = some r := by rw [if_pos rfl] at H; exact H
        clear H
        have H := H1
        clear H1
        replace H := Option.bind_eq_some_iff.mp H
        obtain ⟨t410, A120, H⟩ := H
        replace H : (some t410) = some r := H
        have A12 := Aside0.mk A120
        clear A120
        obtain rfl := Option.some.inj H
        go_wp2_with (first | ((with_reducible refine gate_callee (f := 9) rfl ?_); refine goesL_ (some 25) rfl rfl Tryd.func9 (by kernel_rfl) rfl #[] rfl Qm ?_; (with_reducible refine (samphirelaw13_awake.calls  t410 _ A12.out (by first | assumption | exact Laid.below (by assumption) (by repeat (first | (with_reducible first | exact Aside0.out (by assumption) | apply below_alloc | apply pw_below_drewN | apply below_drew1 | refine below_set ?_ (Aside0.out (by assumption))) | exact Aside0.out (by assumption))))).mono ?_); rintro e w13 ⟨rfl, hb⟩; refine ⟨_, rfl, ?_⟩; have n0_ := Aside0.mk (Qb BK408 hb); have n1_ := Aside0.mk (below_step Qh hb); clear BK408; clear HB; have BK408 := n0_; have HB := n1_; clear n0_ n1_; (try clear hb); (try clear hb2); (try clear hk); (try clear hi)))
        go_ret
        exact ⟨Qe, Qh⟩
      · replace c11 := Bool.eq_false_iff.mpr c11
        subst c11
        have H1 : ((snap_PutOp.f kj2 a0_0 a0_1 a0_2 a0_3 a0_4 a0_5 a0_6 a0_7 a0_8).bind fun bt411 => ((samphireref13_PutOp.f kj2 a0_0 a0_1 a0_2 a0_3 a0_4 a0_5 a0_6 a0_7 a0_8).bind fun bt413 => ((snap_TakeOp.f kj2 a1).bind fun bt415 => ((samphireref13_TakeOp.f kj2 a1).bind fun bt426 => (if bt411.1.toList = bt413.1.toList then (if bt411.2 = bt413.2 then (if (!(bt415.1 == bt426.1) || ((!(bt415.2.1 == bt426.2.1) || (!(bt415.2.2.1 == bt426.2.2.1))) || ((!(bt415.2.2.2.1 == bt426.2.2.2.1) || (!(bt415.2.2.2.2.1 == bt426.2.2.2.2.1))) || ((!(bt415.2.2.2.2.2.1 == bt426.2.2.2.2.2.1) || (!(bt415.2.2.2.2.2.2.1 == bt426.2.2.2.2.2.2.1))) || (!(bt415.2.2.2.2.2.2.2.1.toList == bt426.2.2.2.2.2.2.2.1.toList) || (!(bt415.2.2.2.2.2.2.2.2.1.toList == bt426.2.2.2.2.2.2.2.2.1.toList))))))) = true then (samphirelaw13_SnapOps.j1 kj2 a1 bt411.1 bt411.2 bt415.2.2.2.2.2.2.2.2.2 true a0_0 a0_1 a0_2 a0_3 a0_4 a0_5 a0_6 a0_7 a0_8 bt415.1 bt415.2.1 bt415.2.2.1 bt415.2.2.2.1 bt415.2.2.2.2.1 bt415.2.2.2.2.2.1 bt415.2.2.2.2.2.2.1 bt415.2.2.2.2.2.2.2.1 bt415.2.2.2.2.2.2.2.2.1) else (samphirelaw13_SnapOps.j1 kj2 a1 bt411.1 bt411.2 bt415.2.2.2.2.2.2.2.2.2 (bt415.2.2.2.2.2.2.2.2.2 != bt426.2.2.2.2.2.2.2.2.2) a0_0 a0_1 a0_2 a0_3 a0_4 a0_5 a0_6 a0_7 a0_8 bt415.1 bt415.2.1 bt415.2.2.1 bt415.2.2.2.1 bt415.2.2.2.2.1 bt415.2.2.2.2.2.1 bt415.2.2.2.2.2.2.1 bt415.2.2.2.2.2.2.2.1 bt415.2.2.2.2.2.2.2.2.1)) else (samphirelaw13_SnapOps.j1 kj2 a1 bt411.1 bt411.2 bt415.2.2.2.2.2.2.2.2.2 true a0_0 a0_1 a0_2 a0_3 a0_4 a0_5 a0_6 a0_7 a0_8 bt415.1 bt415.2.1 bt415.2.2.1 bt415.2.2.2.1 bt415.2.2.2.2.1 bt415.2.2.2.2.2.1 bt415.2.2.2.2.2.2.1 bt415.2.2.2.2.2.2.2.1 bt415.2.2.2.2.2.2.2.2.1)) else (samphirelaw13_SnapOps.j1 kj2 a1 bt411.1 bt411.2 bt415.2.2.2.2.2.2.2.2.2 true a0_0 a0_1 a0_2 a0_3 a0_4 a0_5 a0_6 a0_7 a0_8 bt415.1 bt415.2.1 bt415.2.2.1 bt415.2.2.2.1 bt415.2.2.2.2.1 bt415.2.2.2.2.2.1 bt415.2.2.2.2.2.2.1 bt415.2.2.2.2.2.2.2.1 bt415.2.2.2.2.2.2.2.2.1)))))) = some r := by rw [if_neg (show ¬ (false = true) by decide)] at H; exact H
        clear H
        have H := H1
        clear H1
        replace H := Option.bind_eq_some_iff.mp H
        obtain ⟨⟨t411, t412⟩, A140, H⟩ := H
        replace H : ((samphireref13_PutOp.f kj2 a0_0 a0_1 a0_2 a0_3 a0_4 a0_5 a0_6 a0_7 a0_8).bind fun bt413 => ((snap_TakeOp.f kj2 a1).bind fun bt415 => ((samphireref13_TakeOp.f kj2 a1).bind fun bt426 => (if t411.toList = bt413.1.toList then (if t412 = bt413.2 then (if (!(bt415.1 == bt426.1) || ((!(bt415.2.1 == bt426.2.1) || (!(bt415.2.2.1 == bt426.2.2.1))) || ((!(bt415.2.2.2.1 == bt426.2.2.2.1) || (!(bt415.2.2.2.2.1 == bt426.2.2.2.2.1))) || ((!(bt415.2.2.2.2.2.1 == bt426.2.2.2.2.2.1) || (!(bt415.2.2.2.2.2.2.1 == bt426.2.2.2.2.2.2.1))) || (!(bt415.2.2.2.2.2.2.2.1.toList == bt426.2.2.2.2.2.2.2.1.toList) || (!(bt415.2.2.2.2.2.2.2.2.1.toList == bt426.2.2.2.2.2.2.2.2.1.toList))))))) = true then (samphirelaw13_SnapOps.j1 kj2 a1 t411 t412 bt415.2.2.2.2.2.2.2.2.2 true a0_0 a0_1 a0_2 a0_3 a0_4 a0_5 a0_6 a0_7 a0_8 bt415.1 bt415.2.1 bt415.2.2.1 bt415.2.2.2.1 bt415.2.2.2.2.1 bt415.2.2.2.2.2.1 bt415.2.2.2.2.2.2.1 bt415.2.2.2.2.2.2.2.1 bt415.2.2.2.2.2.2.2.2.1) else (samphirelaw13_SnapOps.j1 kj2 a1 t411 t412 bt415.2.2.2.2.2.2.2.2.2 (bt415.2.2.2.2.2.2.2.2.2 != bt426.2.2.2.2.2.2.2.2.2) a0_0 a0_1 a0_2 a0_3 a0_4 a0_5 a0_6 a0_7 a0_8 bt415.1 bt415.2.1 bt415.2.2.1 bt415.2.2.2.1 bt415.2.2.2.2.1 bt415.2.2.2.2.2.1 bt415.2.2.2.2.2.2.1 bt415.2.2.2.2.2.2.2.1 bt415.2.2.2.2.2.2.2.2.1)) else (samphirelaw13_SnapOps.j1 kj2 a1 t411 t412 bt415.2.2.2.2.2.2.2.2.2 true a0_0 a0_1 a0_2 a0_3 a0_4 a0_5 a0_6 a0_7 a0_8 bt415.1 bt415.2.1 bt415.2.2.1 bt415.2.2.2.1 bt415.2.2.2.2.1 bt415.2.2.2.2.2.1 bt415.2.2.2.2.2.2.1 bt415.2.2.2.2.2.2.2.1 bt415.2.2.2.2.2.2.2.2.1)) else (samphirelaw13_SnapOps.j1 kj2 a1 t411 t412 bt415.2.2.2.2.2.2.2.2.2 true a0_0 a0_1 a0_2 a0_3 a0_4 a0_5 a0_6 a0_7 a0_8 bt415.1 bt415.2.1 bt415.2.2.1 bt415.2.2.2.1 bt415.2.2.2.2.1 bt415.2.2.2.2.2.1 bt415.2.2.2.2.2.2.1 bt415.2.2.2.2.2.2.2.1 bt415.2.2.2.2.2.2.2.2.1))))) = some r := H
        have A14 := Aside0.mk A140
        clear A140
        replace H := Option.bind_eq_some_iff.mp H
        obtain ⟨⟨t413, t414⟩, A150, H⟩ := H
        replace H : ((snap_TakeOp.f kj2 a1).bind fun bt415 => ((samphireref13_TakeOp.f kj2 a1).bind fun bt426 => (if t411.toList = t413.toList then (if t412 = t414 then (if (!(bt415.1 == bt426.1) || ((!(bt415.2.1 == bt426.2.1) || (!(bt415.2.2.1 == bt426.2.2.1))) || ((!(bt415.2.2.2.1 == bt426.2.2.2.1) || (!(bt415.2.2.2.2.1 == bt426.2.2.2.2.1))) || ((!(bt415.2.2.2.2.2.1 == bt426.2.2.2.2.2.1) || (!(bt415.2.2.2.2.2.2.1 == bt426.2.2.2.2.2.2.1))) || (!(bt415.2.2.2.2.2.2.2.1.toList == bt426.2.2.2.2.2.2.2.1.toList) || (!(bt415.2.2.2.2.2.2.2.2.1.toList == bt426.2.2.2.2.2.2.2.2.1.toList))))))) = true then (samphirelaw13_SnapOps.j1 kj2 a1 t411 t412 bt415.2.2.2.2.2.2.2.2.2 true a0_0 a0_1 a0_2 a0_3 a0_4 a0_5 a0_6 a0_7 a0_8 bt415.1 bt415.2.1 bt415.2.2.1 bt415.2.2.2.1 bt415.2.2.2.2.1 bt415.2.2.2.2.2.1 bt415.2.2.2.2.2.2.1 bt415.2.2.2.2.2.2.2.1 bt415.2.2.2.2.2.2.2.2.1) else (samphirelaw13_SnapOps.j1 kj2 a1 t411 t412 bt415.2.2.2.2.2.2.2.2.2 (bt415.2.2.2.2.2.2.2.2.2 != bt426.2.2.2.2.2.2.2.2.2) a0_0 a0_1 a0_2 a0_3 a0_4 a0_5 a0_6 a0_7 a0_8 bt415.1 bt415.2.1 bt415.2.2.1 bt415.2.2.2.1 bt415.2.2.2.2.1 bt415.2.2.2.2.2.1 bt415.2.2.2.2.2.2.1 bt415.2.2.2.2.2.2.2.1 bt415.2.2.2.2.2.2.2.2.1)) else (samphirelaw13_SnapOps.j1 kj2 a1 t411 t412 bt415.2.2.2.2.2.2.2.2.2 true a0_0 a0_1 a0_2 a0_3 a0_4 a0_5 a0_6 a0_7 a0_8 bt415.1 bt415.2.1 bt415.2.2.1 bt415.2.2.2.1 bt415.2.2.2.2.1 bt415.2.2.2.2.2.1 bt415.2.2.2.2.2.2.1 bt415.2.2.2.2.2.2.2.1 bt415.2.2.2.2.2.2.2.2.1)) else (samphirelaw13_SnapOps.j1 kj2 a1 t411 t412 bt415.2.2.2.2.2.2.2.2.2 true a0_0 a0_1 a0_2 a0_3 a0_4 a0_5 a0_6 a0_7 a0_8 bt415.1 bt415.2.1 bt415.2.2.1 bt415.2.2.2.1 bt415.2.2.2.2.1 bt415.2.2.2.2.2.1 bt415.2.2.2.2.2.2.1 bt415.2.2.2.2.2.2.2.1 bt415.2.2.2.2.2.2.2.2.1)))) = some r := H
        have A15 := Aside0.mk A150
        clear A150
        replace H := Option.bind_eq_some_iff.mp H
        obtain ⟨⟨t415, t416, t417, t418, t419, t420, t421, t422, t423, t424⟩, A160, H⟩ := H
        replace H : ((samphireref13_TakeOp.f kj2 a1).bind fun bt426 => (if t411.toList = t413.toList then (if t412 = t414 then (if (!(t415 == bt426.1) || ((!(t416 == bt426.2.1) || (!(t417 == bt426.2.2.1))) || ((!(t418 == bt426.2.2.2.1) || (!(t419 == bt426.2.2.2.2.1))) || ((!(t420 == bt426.2.2.2.2.2.1) || (!(t421 == bt426.2.2.2.2.2.2.1))) || (!(t422.toList == bt426.2.2.2.2.2.2.2.1.toList) || (!(t423.toList == bt426.2.2.2.2.2.2.2.2.1.toList))))))) = true then (samphirelaw13_SnapOps.j1 kj2 a1 t411 t412 t424 true a0_0 a0_1 a0_2 a0_3 a0_4 a0_5 a0_6 a0_7 a0_8 t415 t416 t417 t418 t419 t420 t421 t422 t423) else (samphirelaw13_SnapOps.j1 kj2 a1 t411 t412 t424 (t424 != bt426.2.2.2.2.2.2.2.2.2) a0_0 a0_1 a0_2 a0_3 a0_4 a0_5 a0_6 a0_7 a0_8 t415 t416 t417 t418 t419 t420 t421 t422 t423)) else (samphirelaw13_SnapOps.j1 kj2 a1 t411 t412 t424 true a0_0 a0_1 a0_2 a0_3 a0_4 a0_5 a0_6 a0_7 a0_8 t415 t416 t417 t418 t419 t420 t421 t422 t423)) else (samphirelaw13_SnapOps.j1 kj2 a1 t411 t412 t424 true a0_0 a0_1 a0_2 a0_3 a0_4 a0_5 a0_6 a0_7 a0_8 t415 t416 t417 t418 t419 t420 t421 t422 t423))) = some r := H
        have A16 := Aside0.mk A160
        clear A160
        replace H := Option.bind_eq_some_iff.mp H
        obtain ⟨⟨t426, t427, t428, t429, t430, t431, t432, t433, t434, t435⟩, A170, H⟩ := H
        replace H : (if t411.toList = t413.toList then (if t412 = t414 then (if (!(t415 == t426) || ((!(t416 == t427) || (!(t417 == t428))) || ((!(t418 == t429) || (!(t419 == t430))) || ((!(t420 == t431) || (!(t421 == t432))) || (!(t422.toList == t433.toList) || (!(t423.toList == t434.toList))))))) = true then (samphirelaw13_SnapOps.j1 kj2 a1 t411 t412 t424 true a0_0 a0_1 a0_2 a0_3 a0_4 a0_5 a0_6 a0_7 a0_8 t415 t416 t417 t418 t419 t420 t421 t422 t423) else (samphirelaw13_SnapOps.j1 kj2 a1 t411 t412 t424 (t424 != t435) a0_0 a0_1 a0_2 a0_3 a0_4 a0_5 a0_6 a0_7 a0_8 t415 t416 t417 t418 t419 t420 t421 t422 t423)) else (samphirelaw13_SnapOps.j1 kj2 a1 t411 t412 t424 true a0_0 a0_1 a0_2 a0_3 a0_4 a0_5 a0_6 a0_7 a0_8 t415 t416 t417 t418 t419 t420 t421 t422 t423)) else (samphirelaw13_SnapOps.j1 kj2 a1 t411 t412 t424 true a0_0 a0_1 a0_2 a0_3 a0_4 a0_5 a0_6 a0_7 a0_8 t415 t416 t417 t418 t419 t420 t421 t422 t423)) = some r := H
        have A17 := Aside0.mk A170
        clear A170
        have HC18 := Aside0.mk H
        clear H
        obtain ⟨hcz19_0, hcz19_1, hcz19_2, hcz19_3, hcz19_4, hcz19_5, hcz19_6, hcz19_7, hcz19_8, hfz19_0, hfz19_1, hfz19_2, hfz19_3, hfz19_4, hfz19_5, hfz19_6, hfz19_7, hfz19_8⟩ := Z9 BK408.out
        go_upto_region 7 with (first | ((with_reducible refine gate_callee (f := 10) rfl ?_); refine goesL_ (some 28) rfl rfl Tryd.func10 (by kernel_rfl) rfl #[.agg #[.int .i64 a0_0, .int .i64 a0_1, .int .i64 a0_2, .int .i64 a0_3, .int .i64 a0_4, .int .i64 a0_5, .int .i64 a0_6, .string a0_7, .string a0_8]] rfl Qm ?_; (with_reducible refine (snap_PutOp.calls kj2 a0_0 a0_1 a0_2 a0_3 a0_4 a0_5 a0_6 a0_7 a0_8 t411 t412 _ A14.out (by first | assumption | exact Laid.below (by assumption) (by repeat (first | (with_reducible first | exact Aside0.out (by assumption) | apply below_alloc | apply pw_below_drewN | apply below_drew1 | refine below_set ?_ (Aside0.out (by assumption))) | exact Aside0.out (by assumption))))).mono ?_); rintro e w20 ⟨rfl, hb⟩; refine ⟨_, rfl, ?_⟩; have n0_ := Aside0.mk (Qb BK408 hb); have n1_ := Aside0.mk (below_step Qh hb); clear BK408; clear HB; have BK408 := n0_; have HB := n1_; clear n0_ n1_; (try clear hb); (try clear hb2); (try clear hk); (try clear hi); obtain ⟨hcz21_0, hcz21_1, hcz21_2, hcz21_3, hcz21_4, hcz21_5, hcz21_6, hcz21_7, hcz21_8, hfz21_0, hfz21_1, hfz21_2, hfz21_3, hfz21_4, hfz21_5, hfz21_6, hfz21_7, hfz21_8⟩ := Z9 BK408.out) | ((with_reducible refine gate_callee (f := 11) rfl ?_); refine goesL_ (some 33) rfl rfl Tryd.func11 (by kernel_rfl) rfl #[.agg #[.int .i64 a0_0, .int .i64 a0_1, .int .i64 a0_2, .int .i64 a0_3, .int .i64 a0_4, .int .i64 a0_5, .int .i64 a0_6, .string a0_7, .string a0_8]] rfl Qm ?_; (with_reducible refine (samphireref13_PutOp.calls kj2 a0_0 a0_1 a0_2 a0_3 a0_4 a0_5 a0_6 a0_7 a0_8 t413 t414 _ A15.out).mono ?_); rintro e w22 ⟨rfl, hb⟩; refine ⟨_, rfl, ?_⟩; have n0_ := Aside0.mk (Qb BK408 hb); have n1_ := Aside0.mk (below_step Qh hb); clear BK408; clear HB; have BK408 := n0_; have HB := n1_; clear n0_ n1_; (try clear hb); (try clear hb2); (try clear hk); (try clear hi)) | ((with_reducible refine gate_callee (f := 12) rfl ?_); refine goesL_ (some 38) rfl rfl Tryd.func12 (by kernel_rfl) rfl #[.string a1] rfl Qm ?_; (with_reducible refine (snap_TakeOp.calls kj2 a1 t415 t416 t417 t418 t419 t420 t421 t422 t423 t424 _ A16.out (by first | assumption | exact Laid.below (by assumption) (by repeat (first | (with_reducible first | exact Aside0.out (by assumption) | apply below_alloc | apply pw_below_drewN | apply below_drew1 | refine below_set ?_ (Aside0.out (by assumption))) | exact Aside0.out (by assumption))))).mono ?_); rintro e w23 ⟨rfl, hb⟩; refine ⟨_, rfl, ?_⟩; have n0_ := Aside0.mk (Qb BK408 hb); have n1_ := Aside0.mk (below_step Qh hb); clear BK408; clear HB; have BK408 := n0_; have HB := n1_; clear n0_ n1_; (try clear hb); (try clear hb2); (try clear hk); (try clear hi)) | ((with_reducible refine gate_dst (N := 9) rfl ?_); (try (refine gate_guard (by rfl) ?_; dsimp only)); refine boxQ (N := 9) (cs := #[.int .i64 0, .int .i64 0, .int .i64 0, .int .i64 0, .int .i64 0, .int .i64 0, .int .i64 0, .string (⟨#[]⟩ : ByteArray), .string (⟨#[]⟩ : ByteArray)]) (t := 25) ?_; intro gb425 hg w24 hbox hb; have n0_ := Aside0.mk (Qb BK408 hb); have n1_ := Aside0.mk (below_step Qh hb); have n2_ := Aside0.mk (hbox); have n3_ := Aside0.mk (Qs (w := w) hg); have n4_ := Aside0.mk (Qs (w := w) hg); have n5_ := Aside0.mk (Qn hg BK408); have n6_ := Aside0.mk (Qn hg BK408).symm; clear BK408; clear HB; have BK408 := n0_; have HB := n1_; have BK425 := n2_; have GW425 := n3_; have GE425 := n4_; have NB408_425 := n5_; have NB425_408 := n6_; clear n0_ n1_ n2_ n3_ n4_ n5_ n6_; clear hb hbox hg; have hnb25 := NB425_408.out; have hnc25 := NB408_425.out; obtain ⟨hcz26_0, hcz26_1, hcz26_2, hcz26_3, hcz26_4, hcz26_5, hcz26_6, hcz26_7, hcz26_8, hfz26_0, hfz26_1, hfz26_2, hfz26_3, hfz26_4, hfz26_5, hfz26_6, hfz26_7, hfz26_8⟩ := Z9 BK425.out) | ((with_reducible refine gate_callee (f := 13) rfl ?_); refine goesL_ (some 43) rfl rfl Tryd.func13 (by kernel_rfl) rfl #[.string a1] rfl Qm ?_; (with_reducible refine (samphireref13_TakeOp.calls kj2 a1 t426 t427 t428 t429 t430 t431 t432 t433 t434 t435 _ A17.out).mono ?_); rintro e w27 ⟨rfl, hb⟩; refine ⟨_, rfl, ?_⟩; have n0_ := Aside0.mk (blk_below (g := gb408) (o := .cells #[.int .i64 a0_0, .int .i64 a0_1, .int .i64 a0_2, .int .i64 a0_3, .int .i64 a0_4, .int .i64 a0_5, .int .i64 a0_6, .string a0_7, .string a0_8] 25 (0, 0)) Qk hb); have n1_ := Aside0.mk (blk_below (g := gb425) (o := .cells #[.int .i64 t415, .int .i64 t416, .int .i64 t417, .int .i64 t418, .int .i64 t419, .int .i64 t420, .int .i64 t421, .string t422, .string t423] 25 (0, 0)) Qk hb); have n2_ := Aside0.mk (below_step Qh hb); clear BK408; clear BK425; clear HB; have BK408 := n0_; have BK425 := n1_; have HB := n2_; clear n0_ n1_ n2_; (try clear hb); (try clear hb2); (try clear hk); (try clear hi)) | ((with_reducible refine gate_dst (N := 11) rfl ?_); (try (refine gate_guard (by rfl) ?_; dsimp only)); refine boxQ (N := 11) (cs := #[.int .i64 0, .int .i64 0, .int .i64 0, .int .i64 0, .int .i64 0, .int .i64 0, .int .i64 0, .string (⟨#[]⟩ : ByteArray), .string (⟨#[]⟩ : ByteArray)]) (t := 25) ?_; intro gb436 hg w28 hbox hb; have n0_ := Aside0.mk (Qb BK408 hb); have n1_ := Aside0.mk (Qb BK425 hb); have n2_ := Aside0.mk (below_step Qh hb); have n3_ := Aside0.mk (hbox); have n4_ := Aside0.mk (Qs (w := w) hg); have n5_ := Aside0.mk (Qs (w := w) hg); have n6_ := Aside0.mk (Qn hg BK408); have n7_ := Aside0.mk (Qn hg BK408).symm; have n8_ := Aside0.mk (Qn hg BK425); have n9_ := Aside0.mk (Qn hg BK425).symm; clear BK408; clear BK425; clear HB; have BK408 := n0_; have BK425 := n1_; have HB := n2_; have BK436 := n3_; have GW436 := n4_; have GE436 := n5_; have NB408_436 := n6_; have NB436_408 := n7_; have NB425_436 := n8_; have NB436_425 := n9_; clear n0_ n1_ n2_ n3_ n4_ n5_ n6_ n7_ n8_ n9_; clear hb hbox hg; have hnb29 := NB436_408.out; have hnc29 := NB408_436.out; have hnb30 := NB436_425.out; have hnc30 := NB425_436.out; obtain ⟨hcz31_0, hcz31_1, hcz31_2, hcz31_3, hcz31_4, hcz31_5, hcz31_6, hcz31_7, hcz31_8, hfz31_0, hfz31_1, hfz31_2, hfz31_3, hfz31_4, hfz31_5, hfz31_6, hfz31_7, hfz31_8⟩ := Z9 BK436.out))
        (try simp only [Act.put, List.setIfInBounds_toArray, List.set_cons_zero, List.set_cons_succ])
        go_cut [63] (fun v63 wc => ∃ (kq : Nat) (x63_17 : Bool), v63 = .bool x63_17 ∧ Aside0 (samphirelaw13_SnapOps.j1 kq a1 t411 t412 t424 x63_17 a0_0 a0_1 a0_2 a0_3 a0_4 a0_5 a0_6 a0_7 a0_8 t415 t416 t417 t418 t419 t420 t421 t422 t423 = some r) ∧ Aside0 (kq ≤ kj2) ∧ Aside0 (wc.heap[gb408]? = some (.cells #[.int .i64 a0_0, .int .i64 a0_1, .int .i64 a0_2, .int .i64 a0_3, .int .i64 a0_4, .int .i64 a0_5, .int .i64 a0_6, .string a0_7, .string a0_8] 25 (0, 0))) ∧ Aside0 (wc.heap[gb425]? = some (.cells #[.int .i64 t415, .int .i64 t416, .int .i64 t417, .int .i64 t418, .int .i64 t419, .int .i64 t420, .int .i64 t421, .string t422, .string t423] 25 (0, 0))) ∧ Aside0 (wc.heap[gb436]? = some (.cells #[.int .i64 t426, .int .i64 t427, .int .i64 t428, .int .i64 t429, .int .i64 t430, .int .i64 t431, .int .i64 t432, .string t433, .string t434] 25 (0, 0))) ∧ Aside0 (Below w.heap.size w wc))
        case first =>
          have H := HC18.out
          clear HC18
          by_cases c32 : t411.toList = t413.toList
          · rw [if_pos c32] at H
            have c32b0 : (t411.toList == t413.toList) = true := beq_iff_eq.mpr c32
            have c32b1 : (t411.toList != t413.toList) = false := bne_eq_false_iff_eq.mpr c32
            clear c32
            (first | rw [c32b0] | (simp only [i64_w, i32_w]; rw [c32b0]) | skip)
            by_cases c33 : t412 = t414
            · rw [if_pos c33] at H
              have c33b0 : (t412 == t414) = true := beq_iff_eq.mpr c33
              have c33b1 : (t412 != t414) = false := bne_eq_false_iff_eq.mpr c33
              clear c33
              by_cases c34 : (!(t415 == t426) || ((!(t416 == t427) || (!(t417 == t428))) || ((!(t418 == t429) || (!(t419 == t430))) || ((!(t420 == t431) || (!(t421 == t432))) || (!(t422.toList == t433.toList) || (!(t423.toList == t434.toList))))))) = true
              · rw [if_pos c34] at H
                have c34b0 : (!(t415 == t426) || ((!(t416 == t427) || (!(t417 == t428))) || ((!(t418 == t429) || (!(t419 == t430))) || ((!(t420 == t431) || (!(t421 == t432))) || (!(t422.toList == t433.toList) || (!(t423.toList == t434.toList))))))) = true := c34
                clear c34
                have H' := Aside0.mk H
                clear H
                have hnb35 := NB425_408.out
                have hnc35 := NB408_425.out
                have hnb36 := NB425_436.out
                have hnc36 := NB436_425.out
                obtain ⟨hcz37_0, hcz37_1, hcz37_2, hcz37_3, hcz37_4, hcz37_5, hcz37_6, hcz37_7, hcz37_8, hfz37_0, hfz37_1, hfz37_2, hfz37_3, hfz37_4, hfz37_5, hfz37_6, hfz37_7, hfz37_8⟩ := Z9 BK425.out
                have hnb38 := NB436_408.out
                have hnc38 := NB408_436.out
                obtain ⟨hcz39_0, hcz39_1, hcz39_2, hcz39_3, hcz39_4, hcz39_5, hcz39_6, hcz39_7, hcz39_8, hfz39_0, hfz39_1, hfz39_2, hfz39_3, hfz39_4, hfz39_5, hfz39_6, hfz39_7, hfz39_8⟩ := Z9 BK436.out
                go_wp2
                go_meet
                case rel => exact ⟨_, (true), (by first | rfl | (simp; done) | (simp [*]; done)), H', ⟨by have := HJ2.out; first | omega | exact Nat.le_refl _⟩, ⟨Qk⟩, ⟨Qk⟩, ⟨Qk⟩, ⟨Qh⟩⟩
              · rw [if_neg c34] at H
                have c34b0 : (!(t415 == t426) || ((!(t416 == t427) || (!(t417 == t428))) || ((!(t418 == t429) || (!(t419 == t430))) || ((!(t420 == t431) || (!(t421 == t432))) || (!(t422.toList == t433.toList) || (!(t423.toList == t434.toList))))))) = false := by simpa using c34
                clear c34
                have H' := Aside0.mk H
                clear H
                have hnb40 := NB425_408.out
                have hnc40 := NB408_425.out
                have hnb41 := NB425_436.out
                have hnc41 := NB436_425.out
                obtain ⟨hcz42_0, hcz42_1, hcz42_2, hcz42_3, hcz42_4, hcz42_5, hcz42_6, hcz42_7, hcz42_8, hfz42_0, hfz42_1, hfz42_2, hfz42_3, hfz42_4, hfz42_5, hfz42_6, hfz42_7, hfz42_8⟩ := Z9 BK425.out
                have hnb43 := NB436_408.out
                have hnc43 := NB408_436.out
                obtain ⟨hcz44_0, hcz44_1, hcz44_2, hcz44_3, hcz44_4, hcz44_5, hcz44_6, hcz44_7, hcz44_8, hfz44_0, hfz44_1, hfz44_2, hfz44_3, hfz44_4, hfz44_5, hfz44_6, hfz44_7, hfz44_8⟩ := Z9 BK436.out
                go_wp2
                go_meet
                case rel => exact ⟨_, ((t424 != t435)), (by first | rfl | (simp; done) | (simp [*]; done)), H', ⟨by have := HJ2.out; first | omega | exact Nat.le_refl _⟩, ⟨Qk⟩, ⟨Qk⟩, ⟨Qk⟩, ⟨Qh⟩⟩
            · rw [if_neg c33] at H
              have c33b0 : (t412 == t414) = false := beq_eq_false_iff_ne.mpr c33
              have c33b1 : (t412 != t414) = true := bne_iff_ne.mpr c33
              have H' := Aside0.mk H
              clear H
              go_wp2
              go_meet
              case rel => exact ⟨_, (true), (by first | rfl | (simp; done) | (simp [*]; done)), H', ⟨by have := HJ2.out; first | omega | exact Nat.le_refl _⟩, ⟨Qk⟩, ⟨Qk⟩, ⟨Qk⟩, ⟨Qh⟩⟩
          · rw [if_neg c32] at H
            have c32b0 : (t411.toList == t413.toList) = false := beq_eq_false_iff_ne.mpr c32
            have c32b1 : (t411.toList != t413.toList) = true := bne_iff_ne.mpr c32
            (first | rw [c32b0] | (simp only [i64_w, i32_w]; rw [c32b0]) | skip)
            have H' := Aside0.mk H
            clear H
            go_wp2
            go_meet
            case rel => exact ⟨_, (true), (by first | rfl | (simp; done) | (simp [*]; done)), H', ⟨by have := HJ2.out; first | omega | exact Nat.le_refl _⟩, ⟨Qk⟩, ⟨Qk⟩, ⟨Qk⟩, ⟨Qh⟩⟩
        case rest =>
          clear HC18
          try clear c1
          try clear c2
          try clear p2
          try clear c3
          try clear c4
          try clear c6
          try clear c8
          try clear c9
          try clear c10
          try clear c11
          try clear c12
          try clear c13
          try clear c25
          try clear c29
          try clear c30
          try clear c32
          try clear c32b0
          try clear c32b1
          try clear c33
          try clear c33b0
          try clear c33b1
          try clear c34
          try clear c34b0
          try clear c35
          try clear c36
          try clear c38
          try clear c40
          try clear c41
          try clear c43
          try clear hcz19_0 hcz19_1 hcz19_2 hcz19_3 hcz19_4 hcz19_5 hcz19_6 hcz19_7 hcz19_8
          try clear hcz21_0 hcz21_1 hcz21_2 hcz21_3 hcz21_4 hcz21_5 hcz21_6 hcz21_7 hcz21_8
          try clear hcz26_0 hcz26_1 hcz26_2 hcz26_3 hcz26_4 hcz26_5 hcz26_6 hcz26_7 hcz26_8
          try clear hcz31_0 hcz31_1 hcz31_2 hcz31_3 hcz31_4 hcz31_5 hcz31_6 hcz31_7 hcz31_8
          try clear hcz37_0 hcz37_1 hcz37_2 hcz37_3 hcz37_4 hcz37_5 hcz37_6 hcz37_7 hcz37_8
          try clear hcz39_0 hcz39_1 hcz39_2 hcz39_3 hcz39_4 hcz39_5 hcz39_6 hcz39_7 hcz39_8
          try clear hcz42_0 hcz42_1 hcz42_2 hcz42_3 hcz42_4 hcz42_5 hcz42_6 hcz42_7 hcz42_8
          try clear hcz44_0 hcz44_1 hcz44_2 hcz44_3 hcz44_4 hcz44_5 hcz44_6 hcz44_7 hcz44_8
          try clear hcz7_0 hcz7_1 hcz7_2 hcz7_3 hcz7_4 hcz7_5 hcz7_6 hcz7_7 hcz7_8
          try clear hcz9_0 hcz9_1 hcz9_2 hcz9_3 hcz9_4 hcz9_5 hcz9_6 hcz9_7 hcz9_8
          try clear hfz19_0 hfz19_1 hfz19_2 hfz19_3 hfz19_4 hfz19_5 hfz19_6 hfz19_7 hfz19_8
          try clear hfz21_0 hfz21_1 hfz21_2 hfz21_3 hfz21_4 hfz21_5 hfz21_6 hfz21_7 hfz21_8
          try clear hfz26_0 hfz26_1 hfz26_2 hfz26_3 hfz26_4 hfz26_5 hfz26_6 hfz26_7 hfz26_8
          try clear hfz31_0 hfz31_1 hfz31_2 hfz31_3 hfz31_4 hfz31_5 hfz31_6 hfz31_7 hfz31_8
          try clear hfz37_0 hfz37_1 hfz37_2 hfz37_3 hfz37_4 hfz37_5 hfz37_6 hfz37_7 hfz37_8
          try clear hfz39_0 hfz39_1 hfz39_2 hfz39_3 hfz39_4 hfz39_5 hfz39_6 hfz39_7 hfz39_8
          try clear hfz42_0 hfz42_1 hfz42_2 hfz42_3 hfz42_4 hfz42_5 hfz42_6 hfz42_7 hfz42_8
          try clear hfz44_0 hfz44_1 hfz44_2 hfz44_3 hfz44_4 hfz44_5 hfz44_6 hfz44_7 hfz44_8
          try clear hfz7_0 hfz7_1 hfz7_2 hfz7_3 hfz7_4 hfz7_5 hfz7_6 hfz7_7 hfz7_8
          try clear hfz9_0 hfz9_1 hfz9_2 hfz9_3 hfz9_4 hfz9_5 hfz9_6 hfz9_7 hfz9_8
          try clear p2
          obtain ⟨kq, x63_17, rfl, HA, HJ17, BK408, BK425, BK436, HB⟩ := hcut
          cases kq with
          | zero => exact absurd HA.out (by simp [samphirelaw13_SnapOps.j1])
          | succ kj17 =>
            have H := HA.out
            clear HA
            simp only [samphirelaw13_SnapOps.j1] at H
            by_cases c45 : x63_17 = true
            · subst c45
              have H1 : (some false) = some r := by rw [if_pos rfl] at H; exact H
              clear H
              have H := H1
              clear H1
              obtain rfl := Option.some.inj H
              go_wp2
              go_ret
              exact ⟨Qe, Qh⟩
            · replace c45 := Bool.eq_false_iff.mpr c45
              subst c45
              have H1 : (if t412 = 0 then ((snap_TakeOp.f kj17 t411).bind fun bt437 => (if (!(bt437.1 == a0_0) || ((!(bt437.2.1 == a0_1) || (!(bt437.2.2.1 == a0_2))) || ((!(bt437.2.2.2.1 == a0_3) || (!(bt437.2.2.2.2.1 == a0_4))) || ((!(bt437.2.2.2.2.2.1 == a0_5) || (!(bt437.2.2.2.2.2.2.1 == a0_6))) || (!(bt437.2.2.2.2.2.2.2.1.toList == a0_7.toList) || (!(bt437.2.2.2.2.2.2.2.2.1.toList == a0_8.toList))))))) = true then (some false) else (if bt437.2.2.2.2.2.2.2.2.2 = 0 then (samphirelaw13_SnapOps.j2 kj17 a1 t424 t415 t416 t417 t418 t419 t420 t421 t422 t423) else (some false)))) else (samphirelaw13_SnapOps.j2 kj17 a1 t424 t415 t416 t417 t418 t419 t420 t421 t422 t423)) = some r := by rw [if_neg (show ¬ (false = true) by decide)] at H; exact H
              clear H
              have H := H1
              clear H1
              have HC46 := Aside0.mk H
              clear H
              go_upto_if 65 with (fail)
              go_cut [] (fun wc => ∃ (kq : Nat), Aside0 (samphirelaw13_SnapOps.j2 kq a1 t424 t415 t416 t417 t418 t419 t420 t421 t422 t423 = some r) ∧ Aside0 (kq ≤ kj17) ∧ Aside0 (wc.heap[gb408]? = some (.cells #[.int .i64 a0_0, .int .i64 a0_1, .int .i64 a0_2, .int .i64 a0_3, .int .i64 a0_4, .int .i64 a0_5, .int .i64 a0_6, .string a0_7, .string a0_8] 25 (0, 0))) ∧ Aside0 (wc.heap[gb425]? = some (.cells #[.int .i64 t415, .int .i64 t416, .int .i64 t417, .int .i64 t418, .int .i64 t419, .int .i64 t420, .int .i64 t421, .string t422, .string t423] 25 (0, 0))) ∧ Aside0 (wc.heap[gb436]? = some (.cells #[.int .i64 t426, .int .i64 t427, .int .i64 t428, .int .i64 t429, .int .i64 t430, .int .i64 t431, .int .i64 t432, .string t433, .string t434] 25 (0, 0))) ∧ Aside0 (Below w.heap.size w wc))
              case first =>
                have H := HC46.out
                clear HC46
                by_cases c47 : t412 = 0
                · rw [if_pos c47] at H
                  have c47b0 : (t412 == 0) = true := beq_iff_eq.mpr c47
                  have c47b1 : (t412 != 0) = false := bne_eq_false_iff_eq.mpr c47
                  clear c47
                  (first | rw [c47b0] | (simp only [i64_w, i32_w]; rw [c47b0]) | skip)
                  replace H := Option.bind_eq_some_iff.mp H
                  obtain ⟨⟨t437, t438, t439, t440, t441, t442, t443, t444, t445, t446⟩, A480, H⟩ := H
                  replace H : (if (!(t437 == a0_0) || ((!(t438 == a0_1) || (!(t439 == a0_2))) || ((!(t440 == a0_3) || (!(t441 == a0_4))) || ((!(t442 == a0_5) || (!(t443 == a0_6))) || (!(t444.toList == a0_7.toList) || (!(t445.toList == a0_8.toList))))))) = true then (some false) else (if t446 = 0 then (samphirelaw13_SnapOps.j2 kj17 a1 t424 t415 t416 t417 t418 t419 t420 t421 t422 t423) else (some false))) = some r := H
                  have A48 := Aside0.mk A480
                  clear A480
                  by_cases c49 : (!(t437 == a0_0) || ((!(t438 == a0_1) || (!(t439 == a0_2))) || ((!(t440 == a0_3) || (!(t441 == a0_4))) || ((!(t442 == a0_5) || (!(t443 == a0_6))) || (!(t444.toList == a0_7.toList) || (!(t445.toList == a0_8.toList))))))) = true
                  · rw [if_pos c49] at H
                    have c49b0 : (!(t437 == a0_0) || ((!(t438 == a0_1) || (!(t439 == a0_2))) || ((!(t440 == a0_3) || (!(t441 == a0_4))) || ((!(t442 == a0_5) || (!(t443 == a0_6))) || (!(t444.toList == a0_7.toList) || (!(t445.toList == a0_8.toList))))))) = true := c49
                    clear c49
                    obtain rfl := Option.some.inj H
                    go_wp2_with (first | ((with_reducible refine gate_callee (f := 12) rfl ?_); refine goesL_ (some 68) rfl rfl Tryd.func12 (by kernel_rfl) rfl #[.string t411] rfl Qm ?_; (with_reducible refine (snap_TakeOp.calls kj17 t411 t437 t438 t439 t440 t441 t442 t443 t444 t445 t446 _ A48.out (by first | assumption | exact Laid.below (by assumption) (by repeat (first | (with_reducible first | exact Aside0.out (by assumption) | apply below_alloc | apply pw_below_drewN | apply below_drew1 | refine below_set ?_ (Aside0.out (by assumption))) | exact Aside0.out (by assumption))))).mono ?_); rintro e w50 ⟨rfl, hb⟩; refine ⟨_, rfl, ?_⟩; have n0_ := Aside0.mk (Qb BK408 hb); have n1_ := Aside0.mk (Qb BK425 hb); have n2_ := Aside0.mk (Qb BK436 hb); have n3_ := Aside0.mk (below_step Qh hb); clear BK408; clear BK425; clear BK436; clear HB; have BK408 := n0_; have BK425 := n1_; have BK436 := n2_; have HB := n3_; clear n0_ n1_ n2_ n3_; (try clear hb); (try clear hb2); (try clear hk); (try clear hi)) | ((with_reducible refine gate_dst (N := 13) rfl ?_); (try (refine gate_guard (by rfl) ?_; dsimp only)); refine boxQ (N := 13) (cs := #[.int .i64 0, .int .i64 0, .int .i64 0, .int .i64 0, .int .i64 0, .int .i64 0, .int .i64 0, .string (⟨#[]⟩ : ByteArray), .string (⟨#[]⟩ : ByteArray)]) (t := 25) ?_; intro gb447 hg w51 hbox hb; have n0_ := Aside0.mk (Qb BK408 hb); have n1_ := Aside0.mk (Qb BK425 hb); have n2_ := Aside0.mk (Qb BK436 hb); have n3_ := Aside0.mk (below_step Qh hb); have n4_ := Aside0.mk (hbox); have n5_ := Aside0.mk (Qs (w := w) hg); have n6_ := Aside0.mk (Qs (w := w) hg); have n7_ := Aside0.mk (Qn hg BK408); have n8_ := Aside0.mk (Qn hg BK408).symm; have n9_ := Aside0.mk (Qn hg BK425); have n10_ := Aside0.mk (Qn hg BK425).symm; have n11_ := Aside0.mk (Qn hg BK436); have n12_ := Aside0.mk (Qn hg BK436).symm; clear BK408; clear BK425; clear BK436; clear HB; have BK408 := n0_; have BK425 := n1_; have BK436 := n2_; have HB := n3_; have BK447 := n4_; have GW447 := n5_; have GE447 := n6_; have NB408_447 := n7_; have NB447_408 := n8_; have NB425_447 := n9_; have NB447_425 := n10_; have NB436_447 := n11_; have NB447_436 := n12_; clear n0_ n1_ n2_ n3_ n4_ n5_ n6_ n7_ n8_ n9_ n10_ n11_ n12_; clear hb hbox hg; have hnb52 := NB447_408.out; have hnc52 := NB408_447.out; have hnb53 := NB447_425.out; have hnc53 := NB425_447.out; have hnb54 := NB447_436.out; have hnc54 := NB436_447.out; obtain ⟨hcz55_0, hcz55_1, hcz55_2, hcz55_3, hcz55_4, hcz55_5, hcz55_6, hcz55_7, hcz55_8, hfz55_0, hfz55_1, hfz55_2, hfz55_3, hfz55_4, hfz55_5, hfz55_6, hfz55_7, hfz55_8⟩ := Z9 BK447.out; have hnb56 := NB408_425.out; have hnc56 := NB425_408.out; have hnb57 := NB408_436.out; have hnc57 := NB436_408.out; obtain ⟨hcz58_0, hcz58_1, hcz58_2, hcz58_3, hcz58_4, hcz58_5, hcz58_6, hcz58_7, hcz58_8, hfz58_0, hfz58_1, hfz58_2, hfz58_3, hfz58_4, hfz58_5, hfz58_6, hfz58_7, hfz58_8⟩ := Z9 BK408.out))
                    go_ret
                    exact ⟨Qe, Qh⟩
                  · rw [if_neg c49] at H
                    have c49b0 : (!(t437 == a0_0) || ((!(t438 == a0_1) || (!(t439 == a0_2))) || ((!(t440 == a0_3) || (!(t441 == a0_4))) || ((!(t442 == a0_5) || (!(t443 == a0_6))) || (!(t444.toList == a0_7.toList) || (!(t445.toList == a0_8.toList))))))) = false := by simpa using c49
                    clear c49
                    by_cases c59 : t446 = 0
                    · rw [if_pos c59] at H
                      have c59b0 : (t446 == 0) = true := beq_iff_eq.mpr c59
                      have c59b1 : (t446 != 0) = false := bne_eq_false_iff_eq.mpr c59
                      clear c59
                      have H' := Aside0.mk H
                      clear H
                      go_wp2_with (first | ((with_reducible refine gate_callee (f := 12) rfl ?_); refine goesL_ (some 68) rfl rfl Tryd.func12 (by kernel_rfl) rfl #[.string t411] rfl Qm ?_; (with_reducible refine (snap_TakeOp.calls kj17 t411 t437 t438 t439 t440 t441 t442 t443 t444 t445 t446 _ A48.out (by first | assumption | exact Laid.below (by assumption) (by repeat (first | (with_reducible first | exact Aside0.out (by assumption) | apply below_alloc | apply pw_below_drewN | apply below_drew1 | refine below_set ?_ (Aside0.out (by assumption))) | exact Aside0.out (by assumption))))).mono ?_); rintro e w60 ⟨rfl, hb⟩; refine ⟨_, rfl, ?_⟩; have n0_ := Aside0.mk (Qb BK408 hb); have n1_ := Aside0.mk (Qb BK425 hb); have n2_ := Aside0.mk (Qb BK436 hb); have n3_ := Aside0.mk (below_step Qh hb); clear BK408; clear BK425; clear BK436; clear HB; have BK408 := n0_; have BK425 := n1_; have BK436 := n2_; have HB := n3_; clear n0_ n1_ n2_ n3_; (try clear hb); (try clear hb2); (try clear hk); (try clear hi)) | ((with_reducible refine gate_dst (N := 13) rfl ?_); (try (refine gate_guard (by rfl) ?_; dsimp only)); refine boxQ (N := 13) (cs := #[.int .i64 0, .int .i64 0, .int .i64 0, .int .i64 0, .int .i64 0, .int .i64 0, .int .i64 0, .string (⟨#[]⟩ : ByteArray), .string (⟨#[]⟩ : ByteArray)]) (t := 25) ?_; intro gb447 hg w61 hbox hb; have n0_ := Aside0.mk (Qb BK408 hb); have n1_ := Aside0.mk (Qb BK425 hb); have n2_ := Aside0.mk (Qb BK436 hb); have n3_ := Aside0.mk (below_step Qh hb); have n4_ := Aside0.mk (hbox); have n5_ := Aside0.mk (Qs (w := w) hg); have n6_ := Aside0.mk (Qs (w := w) hg); have n7_ := Aside0.mk (Qn hg BK408); have n8_ := Aside0.mk (Qn hg BK408).symm; have n9_ := Aside0.mk (Qn hg BK425); have n10_ := Aside0.mk (Qn hg BK425).symm; have n11_ := Aside0.mk (Qn hg BK436); have n12_ := Aside0.mk (Qn hg BK436).symm; clear BK408; clear BK425; clear BK436; clear HB; have BK408 := n0_; have BK425 := n1_; have BK436 := n2_; have HB := n3_; have BK447 := n4_; have GW447 := n5_; have GE447 := n6_; have NB408_447 := n7_; have NB447_408 := n8_; have NB425_447 := n9_; have NB447_425 := n10_; have NB436_447 := n11_; have NB447_436 := n12_; clear n0_ n1_ n2_ n3_ n4_ n5_ n6_ n7_ n8_ n9_ n10_ n11_ n12_; clear hb hbox hg; have hnb62 := NB447_408.out; have hnc62 := NB408_447.out; have hnb63 := NB447_425.out; have hnc63 := NB425_447.out; have hnb64 := NB447_436.out; have hnc64 := NB436_447.out; obtain ⟨hcz65_0, hcz65_1, hcz65_2, hcz65_3, hcz65_4, hcz65_5, hcz65_6, hcz65_7, hcz65_8, hfz65_0, hfz65_1, hfz65_2, hfz65_3, hfz65_4, hfz65_5, hfz65_6, hfz65_7, hfz65_8⟩ := Z9 BK447.out; have hnb66 := NB408_425.out; have hnc66 := NB425_408.out; have hnb67 := NB408_436.out; have hnc67 := NB436_408.out; obtain ⟨hcz68_0, hcz68_1, hcz68_2, hcz68_3, hcz68_4, hcz68_5, hcz68_6, hcz68_7, hcz68_8, hfz68_0, hfz68_1, hfz68_2, hfz68_3, hfz68_4, hfz68_5, hfz68_6, hfz68_7, hfz68_8⟩ := Z9 BK408.out))
                      go_meet
                      case rel => exact ⟨_, H', ⟨by have := HJ2.out; have := HJ17.out; first | omega | exact Nat.le_refl _⟩, ⟨Qk⟩, ⟨Qk⟩, ⟨Qk⟩, ⟨Qh⟩⟩
                    · rw [if_neg c59] at H
                      have c59b0 : (t446 == 0) = false := beq_eq_false_iff_ne.mpr c59
                      have c59b1 : (t446 != 0) = true := bne_iff_ne.mpr c59
                      obtain rfl := Option.some.inj H
                      go_wp2_with (first | ((with_reducible refine gate_callee (f := 12) rfl ?_); refine goesL_ (some 68) rfl rfl Tryd.func12 (by kernel_rfl) rfl #[.string t411] rfl Qm ?_; (with_reducible refine (snap_TakeOp.calls kj17 t411 t437 t438 t439 t440 t441 t442 t443 t444 t445 t446 _ A48.out (by first | assumption | exact Laid.below (by assumption) (by repeat (first | (with_reducible first | exact Aside0.out (by assumption) | apply below_alloc | apply pw_below_drewN | apply below_drew1 | refine below_set ?_ (Aside0.out (by assumption))) | exact Aside0.out (by assumption))))).mono ?_); rintro e w69 ⟨rfl, hb⟩; refine ⟨_, rfl, ?_⟩; have n0_ := Aside0.mk (Qb BK408 hb); have n1_ := Aside0.mk (Qb BK425 hb); have n2_ := Aside0.mk (Qb BK436 hb); have n3_ := Aside0.mk (below_step Qh hb); clear BK408; clear BK425; clear BK436; clear HB; have BK408 := n0_; have BK425 := n1_; have BK436 := n2_; have HB := n3_; clear n0_ n1_ n2_ n3_; (try clear hb); (try clear hb2); (try clear hk); (try clear hi)) | ((with_reducible refine gate_dst (N := 13) rfl ?_); (try (refine gate_guard (by rfl) ?_; dsimp only)); refine boxQ (N := 13) (cs := #[.int .i64 0, .int .i64 0, .int .i64 0, .int .i64 0, .int .i64 0, .int .i64 0, .int .i64 0, .string (⟨#[]⟩ : ByteArray), .string (⟨#[]⟩ : ByteArray)]) (t := 25) ?_; intro gb447 hg w70 hbox hb; have n0_ := Aside0.mk (Qb BK408 hb); have n1_ := Aside0.mk (Qb BK425 hb); have n2_ := Aside0.mk (Qb BK436 hb); have n3_ := Aside0.mk (below_step Qh hb); have n4_ := Aside0.mk (hbox); have n5_ := Aside0.mk (Qs (w := w) hg); have n6_ := Aside0.mk (Qs (w := w) hg); have n7_ := Aside0.mk (Qn hg BK408); have n8_ := Aside0.mk (Qn hg BK408).symm; have n9_ := Aside0.mk (Qn hg BK425); have n10_ := Aside0.mk (Qn hg BK425).symm; have n11_ := Aside0.mk (Qn hg BK436); have n12_ := Aside0.mk (Qn hg BK436).symm; clear BK408; clear BK425; clear BK436; clear HB; have BK408 := n0_; have BK425 := n1_; have BK436 := n2_; have HB := n3_; have BK447 := n4_; have GW447 := n5_; have GE447 := n6_; have NB408_447 := n7_; have NB447_408 := n8_; have NB425_447 := n9_; have NB447_425 := n10_; have NB436_447 := n11_; have NB447_436 := n12_; clear n0_ n1_ n2_ n3_ n4_ n5_ n6_ n7_ n8_ n9_ n10_ n11_ n12_; clear hb hbox hg; have hnb71 := NB447_408.out; have hnc71 := NB408_447.out; have hnb72 := NB447_425.out; have hnc72 := NB425_447.out; have hnb73 := NB447_436.out; have hnc73 := NB436_447.out; obtain ⟨hcz74_0, hcz74_1, hcz74_2, hcz74_3, hcz74_4, hcz74_5, hcz74_6, hcz74_7, hcz74_8, hfz74_0, hfz74_1, hfz74_2, hfz74_3, hfz74_4, hfz74_5, hfz74_6, hfz74_7, hfz74_8⟩ := Z9 BK447.out; have hnb75 := NB408_425.out; have hnc75 := NB425_408.out; have hnb76 := NB408_436.out; have hnc76 := NB436_408.out; obtain ⟨hcz77_0, hcz77_1, hcz77_2, hcz77_3, hcz77_4, hcz77_5, hcz77_6, hcz77_7, hcz77_8, hfz77_0, hfz77_1, hfz77_2, hfz77_3, hfz77_4, hfz77_5, hfz77_6, hfz77_7, hfz77_8⟩ := Z9 BK408.out))
                      go_ret
                      exact ⟨Qe, Qh⟩
                · rw [if_neg c47] at H
                  have c47b0 : (t412 == 0) = false := beq_eq_false_iff_ne.mpr c47
                  have c47b1 : (t412 != 0) = true := bne_iff_ne.mpr c47
                  (first | rw [c47b0] | (simp only [i64_w, i32_w]; rw [c47b0]) | skip)
                  have H' := Aside0.mk H
                  clear H
                  go_wp2
                  go_meet
                  case rel => exact ⟨_, H', ⟨by have := HJ2.out; have := HJ17.out; first | omega | exact Nat.le_refl _⟩, ⟨Qk⟩, ⟨Qk⟩, ⟨Qk⟩, ⟨Qh⟩⟩
              case rest =>
                clear HC46
                try clear c1
                try clear c2
                try clear p2
                try clear c3
                try clear c4
                try clear c5
                try clear c6
                try clear c7
                try clear c8
                try clear c9
                try clear c10
                try clear c11
                try clear c12
                try clear c13
                try clear c25
                try clear c29
                try clear c30
                try clear c32
                try clear c32b0
                try clear c32b1
                try clear c33
                try clear c33b0
                try clear c33b1
                try clear c34
                try clear c34b0
                try clear c35
                try clear c36
                try clear c38
                try clear c40
                try clear c41
                try clear c43
                try clear c45
                try clear c47
                try clear c47b0
                try clear c47b1
                try clear c49
                try clear c49b0
                try clear c52
                try clear c53
                try clear c54
                try clear c56
                try clear c57
                try clear c59
                try clear c59b0
                try clear c59b1
                try clear c62
                try clear c63
                try clear c64
                try clear c66
                try clear c67
                try clear c71
                try clear c72
                try clear c73
                try clear c75
                try clear c76
                try clear hcz19_0 hcz19_1 hcz19_2 hcz19_3 hcz19_4 hcz19_5 hcz19_6 hcz19_7 hcz19_8
                try clear hcz21_0 hcz21_1 hcz21_2 hcz21_3 hcz21_4 hcz21_5 hcz21_6 hcz21_7 hcz21_8
                try clear hcz26_0 hcz26_1 hcz26_2 hcz26_3 hcz26_4 hcz26_5 hcz26_6 hcz26_7 hcz26_8
                try clear hcz31_0 hcz31_1 hcz31_2 hcz31_3 hcz31_4 hcz31_5 hcz31_6 hcz31_7 hcz31_8
                try clear hcz37_0 hcz37_1 hcz37_2 hcz37_3 hcz37_4 hcz37_5 hcz37_6 hcz37_7 hcz37_8
                try clear hcz39_0 hcz39_1 hcz39_2 hcz39_3 hcz39_4 hcz39_5 hcz39_6 hcz39_7 hcz39_8
                try clear hcz42_0 hcz42_1 hcz42_2 hcz42_3 hcz42_4 hcz42_5 hcz42_6 hcz42_7 hcz42_8
                try clear hcz44_0 hcz44_1 hcz44_2 hcz44_3 hcz44_4 hcz44_5 hcz44_6 hcz44_7 hcz44_8
                try clear hcz55_0 hcz55_1 hcz55_2 hcz55_3 hcz55_4 hcz55_5 hcz55_6 hcz55_7 hcz55_8
                try clear hcz58_0 hcz58_1 hcz58_2 hcz58_3 hcz58_4 hcz58_5 hcz58_6 hcz58_7 hcz58_8
                try clear hcz65_0 hcz65_1 hcz65_2 hcz65_3 hcz65_4 hcz65_5 hcz65_6 hcz65_7 hcz65_8
                try clear hcz68_0 hcz68_1 hcz68_2 hcz68_3 hcz68_4 hcz68_5 hcz68_6 hcz68_7 hcz68_8
                try clear hcz74_0 hcz74_1 hcz74_2 hcz74_3 hcz74_4 hcz74_5 hcz74_6 hcz74_7 hcz74_8
                try clear hcz77_0 hcz77_1 hcz77_2 hcz77_3 hcz77_4 hcz77_5 hcz77_6 hcz77_7 hcz77_8
                try clear hcz7_0 hcz7_1 hcz7_2 hcz7_3 hcz7_4 hcz7_5 hcz7_6 hcz7_7 hcz7_8
                try clear hcz9_0 hcz9_1 hcz9_2 hcz9_3 hcz9_4 hcz9_5 hcz9_6 hcz9_7 hcz9_8
                try clear hfz19_0 hfz19_1 hfz19_2 hfz19_3 hfz19_4 hfz19_5 hfz19_6 hfz19_7 hfz19_8
                try clear hfz21_0 hfz21_1 hfz21_2 hfz21_3 hfz21_4 hfz21_5 hfz21_6 hfz21_7 hfz21_8
                try clear hfz26_0 hfz26_1 hfz26_2 hfz26_3 hfz26_4 hfz26_5 hfz26_6 hfz26_7 hfz26_8
                try clear hfz31_0 hfz31_1 hfz31_2 hfz31_3 hfz31_4 hfz31_5 hfz31_6 hfz31_7 hfz31_8
                try clear hfz37_0 hfz37_1 hfz37_2 hfz37_3 hfz37_4 hfz37_5 hfz37_6 hfz37_7 hfz37_8
                try clear hfz39_0 hfz39_1 hfz39_2 hfz39_3 hfz39_4 hfz39_5 hfz39_6 hfz39_7 hfz39_8
                try clear hfz42_0 hfz42_1 hfz42_2 hfz42_3 hfz42_4 hfz42_5 hfz42_6 hfz42_7 hfz42_8
                try clear hfz44_0 hfz44_1 hfz44_2 hfz44_3 hfz44_4 hfz44_5 hfz44_6 hfz44_7 hfz44_8
                try clear hfz55_0 hfz55_1 hfz55_2 hfz55_3 hfz55_4 hfz55_5 hfz55_6 hfz55_7 hfz55_8
                try clear hfz58_0 hfz58_1 hfz58_2 hfz58_3 hfz58_4 hfz58_5 hfz58_6 hfz58_7 hfz58_8
                try clear hfz65_0 hfz65_1 hfz65_2 hfz65_3 hfz65_4 hfz65_5 hfz65_6 hfz65_7 hfz65_8
                try clear hfz68_0 hfz68_1 hfz68_2 hfz68_3 hfz68_4 hfz68_5 hfz68_6 hfz68_7 hfz68_8
                try clear hfz74_0 hfz74_1 hfz74_2 hfz74_3 hfz74_4 hfz74_5 hfz74_6 hfz74_7 hfz74_8
                try clear hfz77_0 hfz77_1 hfz77_2 hfz77_3 hfz77_4 hfz77_5 hfz77_6 hfz77_7 hfz77_8
                try clear hfz7_0 hfz7_1 hfz7_2 hfz7_3 hfz7_4 hfz7_5 hfz7_6 hfz7_7 hfz7_8
                try clear hfz9_0 hfz9_1 hfz9_2 hfz9_3 hfz9_4 hfz9_5 hfz9_6 hfz9_7 hfz9_8
                try clear p2
                obtain ⟨kq, HA, HJ45, BK408, BK425, BK436, HB⟩ := hcut
                cases kq with
                | zero => exact absurd HA.out (by simp [samphirelaw13_SnapOps.j2])
                | succ kj45 =>
                  have H := HA.out
                  clear HA
                  simp only [samphirelaw13_SnapOps.j2] at H
                  by_cases c78 : t424 = 0
                  · rw [if_pos c78] at H
                    have c78b0 : (t424 == 0) = true := beq_iff_eq.mpr c78
                    have c78b1 : (t424 != 0) = false := bne_eq_false_iff_eq.mpr c78
                    clear c78
                    replace H := Option.bind_eq_some_iff.mp H
                    obtain ⟨⟨t448, t449⟩, A790, H⟩ := H
                    replace H : (if t448.toList = a1.toList then (if t449 = 0 then ((samphirelaw13_awake.f).bind fun t450 => (some t450)) else (some false)) else (some false)) = some r := H
                    have A79 := Aside0.mk A790
                    clear A790
                    by_cases c80 : t448.toList = a1.toList
                    · rw [if_pos c80] at H
                      have c80b0 : (t448.toList == a1.toList) = true := beq_iff_eq.mpr c80
                      have c80b1 : (t448.toList != a1.toList) = false := bne_eq_false_iff_eq.mpr c80
                      clear c80
                      by_cases c81 : t449 = 0
                      · rw [if_pos c81] at H
                        have c81b0 : (t449 == 0) = true := beq_iff_eq.mpr c81
                        have c81b1 : (t449 != 0) = false := bne_eq_false_iff_eq.mpr c81
                        clear c81
                        replace H := Option.bind_eq_some_iff.mp H
                        obtain ⟨t450, A820, H⟩ := H
                        replace H : (some t450) = some r := H
                        have A82 := Aside0.mk A820
                        clear A820
                        obtain rfl := Option.some.inj H
                        have hnb83 := NB425_408.out
                        have hnc83 := NB408_425.out
                        have hnb84 := NB425_436.out
                        have hnc84 := NB436_425.out
                        obtain ⟨hcz85_0, hcz85_1, hcz85_2, hcz85_3, hcz85_4, hcz85_5, hcz85_6, hcz85_7, hcz85_8, hfz85_0, hfz85_1, hfz85_2, hfz85_3, hfz85_4, hfz85_5, hfz85_6, hfz85_7, hfz85_8⟩ := Z9 BK425.out
                        go_wp2_with (first | ((with_reducible refine gate_callee (f := 10) rfl ?_); refine goesL_ (some 82) rfl rfl Tryd.func10 (by kernel_rfl) rfl #[.agg #[.int .i64 t415, .int .i64 t416, .int .i64 t417, .int .i64 t418, .int .i64 t419, .int .i64 t420, .int .i64 t421, .string t422, .string t423]] rfl Qm ?_; (with_reducible refine (snap_PutOp.calls kj45 t415 t416 t417 t418 t419 t420 t421 t422 t423 t448 t449 _ A79.out (by first | assumption | exact Laid.below (by assumption) (by repeat (first | (with_reducible first | exact Aside0.out (by assumption) | apply below_alloc | apply pw_below_drewN | apply below_drew1 | refine below_set ?_ (Aside0.out (by assumption))) | exact Aside0.out (by assumption))))).mono ?_); rintro e w86 ⟨rfl, hb⟩; refine ⟨_, rfl, ?_⟩; have n0_ := Aside0.mk (Qb BK408 hb); have n1_ := Aside0.mk (Qb BK425 hb); have n2_ := Aside0.mk (Qb BK436 hb); have n3_ := Aside0.mk (below_step Qh hb); clear BK408; clear BK425; clear BK436; clear HB; have BK408 := n0_; have BK425 := n1_; have BK436 := n2_; have HB := n3_; clear n0_ n1_ n2_ n3_; (try clear hb); (try clear hb2); (try clear hk); (try clear hi)) | ((with_reducible refine gate_callee (f := 9) rfl ?_); refine goesL_ (some 92) rfl rfl Tryd.func9 (by kernel_rfl) rfl #[] rfl Qm ?_; (with_reducible refine (samphirelaw13_awake.calls  t450 _ A82.out (by first | assumption | exact Laid.below (by assumption) (by repeat (first | (with_reducible first | exact Aside0.out (by assumption) | apply below_alloc | apply pw_below_drewN | apply below_drew1 | refine below_set ?_ (Aside0.out (by assumption))) | exact Aside0.out (by assumption))))).mono ?_); rintro e w87 ⟨rfl, hb⟩; refine ⟨_, rfl, ?_⟩; have n0_ := Aside0.mk (Qb BK408 hb); have n1_ := Aside0.mk (Qb BK425 hb); have n2_ := Aside0.mk (Qb BK436 hb); have n3_ := Aside0.mk (below_step Qh hb); clear BK408; clear BK425; clear BK436; clear HB; have BK408 := n0_; have BK425 := n1_; have BK436 := n2_; have HB := n3_; clear n0_ n1_ n2_ n3_; (try clear hb); (try clear hb2); (try clear hk); (try clear hi)))
                        go_ret
                        exact ⟨Qe, Qh⟩
                      · rw [if_neg c81] at H
                        have c81b0 : (t449 == 0) = false := beq_eq_false_iff_ne.mpr c81
                        have c81b1 : (t449 != 0) = true := bne_iff_ne.mpr c81
                        obtain rfl := Option.some.inj H
                        have hnb88 := NB425_408.out
                        have hnc88 := NB408_425.out
                        have hnb89 := NB425_436.out
                        have hnc89 := NB436_425.out
                        obtain ⟨hcz90_0, hcz90_1, hcz90_2, hcz90_3, hcz90_4, hcz90_5, hcz90_6, hcz90_7, hcz90_8, hfz90_0, hfz90_1, hfz90_2, hfz90_3, hfz90_4, hfz90_5, hfz90_6, hfz90_7, hfz90_8⟩ := Z9 BK425.out
                        go_wp2_with (first | ((with_reducible refine gate_callee (f := 10) rfl ?_); refine goesL_ (some 82) rfl rfl Tryd.func10 (by kernel_rfl) rfl #[.agg #[.int .i64 t415, .int .i64 t416, .int .i64 t417, .int .i64 t418, .int .i64 t419, .int .i64 t420, .int .i64 t421, .string t422, .string t423]] rfl Qm ?_; (with_reducible refine (snap_PutOp.calls kj45 t415 t416 t417 t418 t419 t420 t421 t422 t423 t448 t449 _ A79.out (by first | assumption | exact Laid.below (by assumption) (by repeat (first | (with_reducible first | exact Aside0.out (by assumption) | apply below_alloc | apply pw_below_drewN | apply below_drew1 | refine below_set ?_ (Aside0.out (by assumption))) | exact Aside0.out (by assumption))))).mono ?_); rintro e w91 ⟨rfl, hb⟩; refine ⟨_, rfl, ?_⟩; have n0_ := Aside0.mk (Qb BK408 hb); have n1_ := Aside0.mk (Qb BK425 hb); have n2_ := Aside0.mk (Qb BK436 hb); have n3_ := Aside0.mk (below_step Qh hb); clear BK408; clear BK425; clear BK436; clear HB; have BK408 := n0_; have BK425 := n1_; have BK436 := n2_; have HB := n3_; clear n0_ n1_ n2_ n3_; (try clear hb); (try clear hb2); (try clear hk); (try clear hi)))
                        go_ret
                        exact ⟨Qe, Qh⟩
                    · rw [if_neg c80] at H
                      have c80b0 : (t448.toList == a1.toList) = false := beq_eq_false_iff_ne.mpr c80
                      have c80b1 : (t448.toList != a1.toList) = true := bne_iff_ne.mpr c80
                      obtain rfl := Option.some.inj H
                      have hnb92 := NB425_408.out
                      have hnc92 := NB408_425.out
                      have hnb93 := NB425_436.out
                      have hnc93 := NB436_425.out
                      obtain ⟨hcz94_0, hcz94_1, hcz94_2, hcz94_3, hcz94_4, hcz94_5, hcz94_6, hcz94_7, hcz94_8, hfz94_0, hfz94_1, hfz94_2, hfz94_3, hfz94_4, hfz94_5, hfz94_6, hfz94_7, hfz94_8⟩ := Z9 BK425.out
                      go_wp2_with (first | ((with_reducible refine gate_callee (f := 10) rfl ?_); refine goesL_ (some 82) rfl rfl Tryd.func10 (by kernel_rfl) rfl #[.agg #[.int .i64 t415, .int .i64 t416, .int .i64 t417, .int .i64 t418, .int .i64 t419, .int .i64 t420, .int .i64 t421, .string t422, .string t423]] rfl Qm ?_; (with_reducible refine (snap_PutOp.calls kj45 t415 t416 t417 t418 t419 t420 t421 t422 t423 t448 t449 _ A79.out (by first | assumption | exact Laid.below (by assumption) (by repeat (first | (with_reducible first | exact Aside0.out (by assumption) | apply below_alloc | apply pw_below_drewN | apply below_drew1 | refine below_set ?_ (Aside0.out (by assumption))) | exact Aside0.out (by assumption))))).mono ?_); rintro e w95 ⟨rfl, hb⟩; refine ⟨_, rfl, ?_⟩; have n0_ := Aside0.mk (Qb BK408 hb); have n1_ := Aside0.mk (Qb BK425 hb); have n2_ := Aside0.mk (Qb BK436 hb); have n3_ := Aside0.mk (below_step Qh hb); clear BK408; clear BK425; clear BK436; clear HB; have BK408 := n0_; have BK425 := n1_; have BK436 := n2_; have HB := n3_; clear n0_ n1_ n2_ n3_; (try clear hb); (try clear hb2); (try clear hk); (try clear hi)))
                      go_ret
                      exact ⟨Qe, Qh⟩
                  · rw [if_neg c78] at H
                    have c78b0 : (t424 == 0) = false := beq_eq_false_iff_ne.mpr c78
                    have c78b1 : (t424 != 0) = true := bne_iff_ne.mpr c78
                    replace H := Option.bind_eq_some_iff.mp H
                    obtain ⟨t451, A960, H⟩ := H
                    replace H : (some t451) = some r := H
                    have A96 := Aside0.mk A960
                    clear A960
                    obtain rfl := Option.some.inj H
                    go_wp2_with (first | ((with_reducible refine gate_callee (f := 9) rfl ?_); refine goesL_ (some 92) rfl rfl Tryd.func9 (by kernel_rfl) rfl #[] rfl Qm ?_; (with_reducible refine (samphirelaw13_awake.calls  t451 _ A96.out (by first | assumption | exact Laid.below (by assumption) (by repeat (first | (with_reducible first | exact Aside0.out (by assumption) | apply below_alloc | apply pw_below_drewN | apply below_drew1 | refine below_set ?_ (Aside0.out (by assumption))) | exact Aside0.out (by assumption))))).mono ?_); rintro e w97 ⟨rfl, hb⟩; refine ⟨_, rfl, ?_⟩; have n0_ := Aside0.mk (Qb BK408 hb); have n1_ := Aside0.mk (Qb BK425 hb); have n2_ := Aside0.mk (Qb BK436 hb); have n3_ := Aside0.mk (below_step Qh hb); clear BK408; clear BK425; clear BK436; clear HB; have BK408 := n0_; have BK425 := n1_; have BK436 := n2_; have HB := n3_; clear n0_ n1_ n2_ n3_; (try clear hb); (try clear hb2); (try clear hk); (try clear hi)))
                    go_ret
                    exact ⟨Qe, Qh⟩

end Go.Proofs.YtmogpfhhmekbiaaDoor.S
