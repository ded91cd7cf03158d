/- Functions of the translation as plain Lean functions, and that each call comes to what they say: for every argument. Written by a program of this session's own; Lean checks it. -/
import Derived.Test.YtlfgdaiegefjiaaDoorQc
import Derived.Test.YtlfgdaiegefjiaaDoorSA
import Derived.Test.YtlfgdaiegefjiaaDoorQa
import Derived.Test.YtlfgdaiegefjiaaDoorSx5
namespace Go.Proofs.YtlfgdaiegefjiaaDoor.S
open Go.RowKit Go.Proofs.YtlfgdaiegefjiaaDoorW.PrintWords Go.Proofs.YtlfgdaiegefjiaaDoorW.PrintLast
set_option linter.unusedVariables false
set_option linter.unusedSimpArgs false
attribute [local go_sem high] eqA23
/-! ### samphireref13_Same: function 18 -/
def samphireref13_Same.f (k : Nat) (l0_0 : List (S72)) (l0_1 : List (S25)) (a0_2 : Int) (a0_3 : Int) (l1_0 : List (S72)) (l1_1 : List (S25)) (a1_2 : Int) (a1_3 : Int) : Option (Bool) := (samphireref11_SameNodes.f k l0_0 l1_0).bind fun t251 => (if t251 = true then ((samphireref11_SameOps.f k l0_1 l1_1).bind fun t252 => (if t252 = true then (some (a0_2 == a1_2 && (a0_3 == a1_3))) else (some false))) else (some false))
set_option maxHeartbeats 8000000 in
set_option maxRecDepth 100000 in
theorem samphireref13_Same.calls (k : Nat) (A0_0 : Option Addr) (c0_0 : Nat) (l0_0 : List (S72)) (A0_1 : Option Addr) (c0_1 : Nat) (l0_1 : List (S25)) (a0_2 : Int) (a0_3 : Int) (A1_0 : Option Addr) (c1_0 : Nat) (l1_0 : List (S72)) (A1_1 : Option Addr) (c1_1 : Nat) (l1_1 : List (S25)) (a1_2 : Int) (a1_3 : Int) (r : Bool) (w : World) (hr0_0 : Kd.C k72 w A0_0 l0_0.length l0_0) (hc0_0 : l0_0.length ≤ c0_0) (hr0_1 : Kd.C k25 w A0_1 l0_1.length l0_1) (hc0_1 : l0_1.length ≤ c0_1) (hr1_0 : Kd.C k72 w A1_0 l1_0.length l1_0) (hc1_0 : l1_0.length ≤ c1_0) (hr1_1 : Kd.C k25 w A1_1 l1_1.length l1_1) (hc1_1 : l1_1.length ≤ c1_1) (h : samphireref13_Same.f k l0_0 l0_1 a0_2 a0_3 l1_0 l1_1 a1_2 a1_3 = some r) :
 Calls Tryd.prog 18 #[.agg #[.slice A0_0 l0_0.length c0_0, .slice A0_1 l0_1.length c0_1, .int .i64 a0_2, .int .i64 a0_3], .agg #[.slice A1_0 l1_0.length c1_0, .slice A1_1 l1_1.length c1_1, .int .i64 a1_2, .int .i64 a1_3]] w fun e w' => e = .returned (.bool r) ∧ Below w.heap.size w w' := by
 have hu37 := Tryd.underlying37
 have hu23 := Tryd.underlying23
 have HR0_0 := Aside0.mk hr0_0
 have HC0_0 := Aside0.mk hc0_0
 clear hr0_0 hc0_0
 have HR0_1 := Aside0.mk hr0_1
 have HC0_1 := Aside0.mk hc0_1
 clear hr0_1 hc0_1
 have HR1_0 := Aside0.mk hr1_0
 have HC1_0 := Aside0.mk hc1_0
 clear hr1_0 hc1_0
 have HR1_1 := Aside0.mk hr1_1
 have HC1_1 := Aside0.mk hc1_1
 clear hr1_1 hc1_1
 have HB := Aside0.mk (Below.refl w.heap.size w)
 have H : ((samphireref11_SameNodes.f k l0_0 l1_0).bind fun t251 => (if t251 = true then ((samphireref11_SameOps.f k l0_1 l1_1).bind fun t252 => (if t252 = true then (some (a0_2 == a1_2 && (a0_3 == a1_3))) else (some false))) else (some false))) = some r := h
 clear h
 replace H := Option.bind_eq_some_iff.mp H
 obtain ⟨t251, A30, H⟩ := H
 replace H : (if t251 = true then ((samphireref11_SameOps.f k l0_1 l1_1).bind fun t252 => (if t252 = true then (some (a0_2 == a1_2 && (a0_3 == a1_3))) else (some false))) else (some false)) = some r := H
 have A3 := Aside0.mk A30
 clear A30
 by_cases c4 : t251 = true
 · subst c4
   have H1 : ((samphireref11_SameOps.f k l0_1 l1_1).bind fun t252 => (if t252 = true then (some (a0_2 == a1_2 && (a0_3 == a1_3))) else (some false))) = some r := by rw [if_pos rfl] at H; exact H
   clear H
   have H := H1
   clear H1
   replace H := Option.bind_eq_some_iff.mp H
   obtain ⟨t252, A50, H⟩ := H
   replace H : (if t252 = true then (some (a0_2 == a1_2 && (a0_3 == a1_3))) else (some false)) = some r := H
   have A5 := Aside0.mk A50
   clear A50
   by_cases c6 : t252 = true
   · subst c6
     have H1 : (some (a0_2 == a1_2 && (a0_3 == a1_3))) = some r := by rw [if_pos rfl] at H; exact H
     clear H
     have H := H1
     clear H1
     obtain rfl := Option.some.inj H
     go_enter Tryd.func18, Tryd.ntmps18
     go_wp2_with (first | ((with_reducible refine gate_dst (N := 2) rfl ?_); refine boxQ (N := 2) (cs := #[.slice A0_0 l0_0.length c0_0, .slice A0_1 l0_1.length c0_1, .int .i64 a0_2, .int .i64 a0_3]) (t := 37) ?_; intro gb249 hg w7 hbox hb; have BK249 := Aside0.mk hbox; have GW249 := Qt w hg; have GE249 := GW249; replace HB := Qy hb; clear hb hbox hg) | ((with_reducible refine gate_dst (N := 3) rfl ?_); refine boxQ (N := 3) (cs := #[.slice A1_0 l1_0.length c1_0, .slice A1_1 l1_1.length c1_1, .int .i64 a1_2, .int .i64 a1_3]) (t := 37) ?_; intro gb250 hg w8 hbox hb; have BK250 := Aside0.mk hbox; have GW250 := Qt w hg; have GE250 := GW250; have NB249_250 := Qo hg BK249; have NB250_249 := Qp hg BK249; replace BK249 := Qv BK249 hb; replace HB := Qy hb; clear hb hbox hg; have hnb9 := NB249_250.out; have hnc9 := NB250_249.out; obtain ⟨y10_0, y10_1, y10_2, y10_3, v10_0, v10_1, v10_2, v10_3⟩ := Z4 BK249.out; obtain ⟨y11_0, y11_1, y11_2, y11_3, v11_0, v11_1, v11_2, v11_3⟩ := Z4 BK250.out) | ((with_reducible refine gate_callee (f := 51) rfl ?_); refine gL 9 Tryd.func51 #[.slice A0_0 l0_0.length c0_0, .slice A1_0 l1_0.length c1_0] ?_; (with_reducible refine (samphireref11_SameNodes.calls k _ _ l0_0 _ _ l1_0 true _ ?side1 ?side2 ?side3 ?side4 A3.out).mono ?_); (case side1 => repeat (first | exact (Kd.C_below HR0_0.out HB.out) | (with_reducible refine Kd.C_alloc ?_ _) | (with_reducible refine Kd.C_drewN ?_ _) | (with_reducible refine Kd.C_drew ?_))); (case side2 => exact HC0_0.out); (case side3 => repeat (first | exact (Kd.C_below HR1_0.out HB.out) | (with_reducible refine Kd.C_alloc ?_ _) | (with_reducible refine Kd.C_drewN ?_ _) | (with_reducible refine Kd.C_drew ?_))); (case side4 => exact HC1_0.out); rintro e w' ⟨rfl, ⟨nd, rfl⟩⟩; refine ⟨_, rfl, ?_⟩) | (go_at_call 52; (with_reducible refine (samphireref11_SameOps.calls k _ _ l0_1 _ _ l1_1 true _ ?side1 ?side2 ?side3 ?side4 A5.out).mono ?_); (case side1 => repeat (first | exact (Kd.C_below HR0_1.out Qh) | (with_reducible refine Kd.C_alloc ?_ _) | (with_reducible refine Kd.C_drewN ?_ _) | (with_reducible refine Kd.C_drew ?_))); (case side2 => exact HC0_1.out); (case side3 => repeat (first | exact (Kd.C_below HR1_1.out Qh) | (with_reducible refine Kd.C_alloc ?_ _) | (with_reducible refine Kd.C_drewN ?_ _) | (with_reducible refine Kd.C_drew ?_))); (case side4 => exact HC1_1.out); rintro e w' ⟨rfl, ⟨nd, rfl⟩⟩))
     go_ret
     exact ⟨Qe, Qh⟩
   · replace c6 := Bool.eq_false_iff.mpr c6
     subst c6
     have H1 : (some false) = some r := by rw [if_neg (show ¬ (false = true) by decide)] at H; exact H
     clear H
     have H := H1
     clear H1
     obtain rfl := Option.some.inj H
     go_enter Tryd.func18, Tryd.ntmps18
     go_wp2_with (first | ((with_reducible refine gate_dst (N := 2) rfl ?_); refine boxQ (N := 2) (cs := #[.slice A0_0 l0_0.length c0_0, .slice A0_1 l0_1.length c0_1, .int .i64 a0_2, .int .i64 a0_3]) (t := 37) ?_; intro gb249 hg w12 hbox hb; have BK249 := Aside0.mk hbox; have GW249 := Qt w hg; have GE249 := GW249; replace HB := Qy hb; clear hb hbox hg) | ((with_reducible refine gate_dst (N := 3) rfl ?_); refine boxQ (N := 3) (cs := #[.slice A1_0 l1_0.length c1_0, .slice A1_1 l1_1.length c1_1, .int .i64 a1_2, .int .i64 a1_3]) (t := 37) ?_; intro gb250 hg w13 hbox hb; have BK250 := Aside0.mk hbox; have GW250 := Qt w hg; have GE250 := GW250; have NB249_250 := Qo hg BK249; have NB250_249 := Qp hg BK249; replace BK249 := Qv BK249 hb; replace HB := Qy hb; clear hb hbox hg; have hnb14 := NB249_250.out; have hnc14 := NB250_249.out; obtain ⟨y15_0, y15_1, y15_2, y15_3, v15_0, v15_1, v15_2, v15_3⟩ := Z4 BK249.out; obtain ⟨y16_0, y16_1, y16_2, y16_3, v16_0, v16_1, v16_2, v16_3⟩ := Z4 BK250.out) | ((with_reducible refine gate_callee (f := 51) rfl ?_); refine gL 9 Tryd.func51 #[.slice A0_0 l0_0.length c0_0, .slice A1_0 l1_0.length c1_0] ?_; (with_reducible refine (samphireref11_SameNodes.calls k _ _ l0_0 _ _ l1_0 true _ ?side1 ?side2 ?side3 ?side4 A3.out).mono ?_); (case side1 => repeat (first | exact (Kd.C_below HR0_0.out HB.out) | (with_reducible refine Kd.C_alloc ?_ _) | (with_reducible refine Kd.C_drewN ?_ _) | (with_reducible refine Kd.C_drew ?_))); (case side2 => exact HC0_0.out); (case side3 => repeat (first | exact (Kd.C_below HR1_0.out HB.out) | (with_reducible refine Kd.C_alloc ?_ _) | (with_reducible refine Kd.C_drewN ?_ _) | (with_reducible refine Kd.C_drew ?_))); (case side4 => exact HC1_0.out); rintro e w' ⟨rfl, ⟨nd, rfl⟩⟩; refine ⟨_, rfl, ?_⟩) | (go_at_call 52; (with_reducible refine (samphireref11_SameOps.calls k _ _ l0_1 _ _ l1_1 false _ ?side1 ?side2 ?side3 ?side4 A5.out).mono ?_); (case side1 => repeat (first | exact (Kd.C_below HR0_1.out Qh) | (with_reducible refine Kd.C_alloc ?_ _) | (with_reducible refine Kd.C_drewN ?_ _) | (with_reducible refine Kd.C_drew ?_))); (case side2 => exact HC0_1.out); (case side3 => repeat (first | exact (Kd.C_below HR1_1.out Qh) | (with_reducible refine Kd.C_alloc ?_ _) | (with_reducible refine Kd.C_drewN ?_ _) | (with_reducible refine Kd.C_drew ?_))); (case side4 => exact HC1_1.out); rintro e w' ⟨rfl, ⟨nd, rfl⟩⟩))
     go_ret
     exact ⟨Qe, Qh⟩
 · replace c4 := Bool.eq_false_iff.mpr c4
   subst c4
   have H1 : (some false) = some r := by rw [if_neg (show ¬ (false = true) by decide)] at H; exact H
   clear H
   have H := H1
   clear H1
   obtain rfl := Option.some.inj H
   go_enter Tryd.func18, Tryd.ntmps18
   go_wp2_with (first | ((with_reducible refine gate_dst (N := 2) rfl ?_); refine boxQ (N := 2) (cs := #[.slice A0_0 l0_0.length c0_0, .slice A0_1 l0_1.length c0_1, .int .i64 a0_2, .int .i64 a0_3]) (t := 37) ?_; intro gb249 hg w17 hbox hb; have BK249 := Aside0.mk hbox; have GW249 := Qt w hg; have GE249 := GW249; replace HB := Qy hb; clear hb hbox hg) | ((with_reducible refine gate_dst (N := 3) rfl ?_); refine boxQ (N := 3) (cs := #[.slice A1_0 l1_0.length c1_0, .slice A1_1 l1_1.length c1_1, .int .i64 a1_2, .int .i64 a1_3]) (t := 37) ?_; intro gb250 hg w18 hbox hb; have BK250 := Aside0.mk hbox; have GW250 := Qt w hg; have GE250 := GW250; have NB249_250 := Qo hg BK249; have NB250_249 := Qp hg BK249; replace BK249 := Qv BK249 hb; replace HB := Qy hb; clear hb hbox hg; have hnb19 := NB249_250.out; have hnc19 := NB250_249.out; obtain ⟨y20_0, y20_1, y20_2, y20_3, v20_0, v20_1, v20_2, v20_3⟩ := Z4 BK249.out; obtain ⟨y21_0, y21_1, y21_2, y21_3, v21_0, v21_1, v21_2, v21_3⟩ := Z4 BK250.out) | ((with_reducible refine gate_callee (f := 51) rfl ?_); refine gL 9 Tryd.func51 #[.slice A0_0 l0_0.length c0_0, .slice A1_0 l1_0.length c1_0] ?_; (with_reducible refine (samphireref11_SameNodes.calls k _ _ l0_0 _ _ l1_0 false _ ?side1 ?side2 ?side3 ?side4 A3.out).mono ?_); (case side1 => repeat (first | exact (Kd.C_below HR0_0.out HB.out) | (with_reducible refine Kd.C_alloc ?_ _) | (with_reducible refine Kd.C_drewN ?_ _) | (with_reducible refine Kd.C_drew ?_))); (case side2 => exact HC0_0.out); (case side3 => repeat (first | exact (Kd.C_below HR1_0.out HB.out) | (with_reducible refine Kd.C_alloc ?_ _) | (with_reducible refine Kd.C_drewN ?_ _) | (with_reducible refine Kd.C_drew ?_))); (case side4 => exact HC1_0.out); rintro e w' ⟨rfl, ⟨nd, rfl⟩⟩; refine ⟨_, rfl, ?_⟩))
   go_ret
   exact ⟨Qe, Qh⟩
/-! ### samphireref11_Light: function 8 -/
def samphireref11_Light.f (a0_0 : Int) (a0_1 : Int) (a0_2 : Int) (a0_3 : Int) (a0_4 : Int) (a0_5 : Int) (a0_6 : Int) (a0_7 : ByteArray) (a0_8 : ByteArray) : Option (Bool) := if (a0_7.size : Int) ≤ 200 then (some (decide ((a0_8.size : Int) ≤ 200))) else (some false)
set_option maxHeartbeats 8000000 in
set_option maxRecDepth 100000 in
theorem samphireref11_Light.calls (a0_0 : Int) (a0_1 : Int) (a0_2 : Int) (a0_3 : Int) (a0_4 : Int) (a0_5 : Int) (a0_6 : Int) (a0_7 : ByteArray) (a0_8 : ByteArray) (r : Bool) (w : World) (h : samphireref11_Light.f a0_0 a0_1 a0_2 a0_3 a0_4 a0_5 a0_6 a0_7 a0_8 = some r) :
 Calls Tryd.prog 8 #[.agg #[.int .i64 a0_0, .int .i64 a0_1, .int .i64 a0_2, .int .i64 a0_3, .int .i64 a0_4, .int .i64 a0_5, .int .i64 a0_6, .string a0_7, .string a0_8]] w fun e w' => e = .returned (.bool r) ∧ Below w.heap.size w w' := by
 have hu25 := Tryd.underlying25
 have HB := Aside0.mk (Below.refl w.heap.size w)
 have H : (if (a0_7.size : Int) ≤ 200 then (some (decide ((a0_8.size : Int) ≤ 200))) else (some false)) = some r := h
 clear h
 by_cases c2 : (a0_7.size : Int) ≤ 200
 · rw [if_pos c2] at H
   have c2b0 : decide ((a0_7.size : Int) ≤ 200) = true := decide_eq_true c2
   have c2b1 : decide (a0_7.size ≤ 200) = true := decide_eq_true (by omega)
   clear c2
   obtain rfl := Option.some.inj H
   go_enter Tryd.func8, Tryd.ntmps8
   go_wp2_with (first | ((with_reducible refine gate_dst (N := 1) rfl ?_); (try (refine gate_guard (by rfl) ?_; dsimp only)); refine boxQ (N := 1) (cs := #[.int .i64 a0_0, .int .i64 a0_1, .int .i64 a0_2, .int .i64 a0_3, .int .i64 a0_4, .int .i64 a0_5, .int .i64 a0_6, .string a0_7, .string a0_8]) (t := 25) ?_; intro gb253 hg w3 hbox hb; have BK253 := Aside0.mk hbox; have GW253 := Qt w hg; have GE253 := GW253; replace HB := Qy hb; clear hb hbox hg; obtain ⟨y4_0, y4_1, y4_2, y4_3, y4_4, y4_5, y4_6, y4_7, y4_8, v4_0, v4_1, v4_2, v4_3, v4_4, v4_5, v4_6, v4_7, v4_8⟩ := Z9 BK253.out))
   go_ret
   exact ⟨Qe, Qh⟩
 · rw [if_neg c2] at H
   have c2b0 : decide ((a0_7.size : Int) ≤ 200) = false := decide_eq_false c2
   have c2b1 : decide (a0_7.size ≤ 200) = false := decide_eq_false (by omega)
   clear c2
   obtain rfl := Option.some.inj H
   go_enter Tryd.func8, Tryd.ntmps8
   go_wp2_with (first | ((with_reducible refine gate_dst (N := 1) rfl ?_); (try (refine gate_guard (by rfl) ?_; dsimp only)); refine boxQ (N := 1) (cs := #[.int .i64 a0_0, .int .i64 a0_1, .int .i64 a0_2, .int .i64 a0_3, .int .i64 a0_4, .int .i64 a0_5, .int .i64 a0_6, .string a0_7, .string a0_8]) (t := 25) ?_; intro gb253 hg w5 hbox hb; have BK253 := Aside0.mk hbox; have GW253 := Qt w hg; have GE253 := GW253; replace HB := Qy hb; clear hb hbox hg; obtain ⟨y6_0, y6_1, y6_2, y6_3, y6_4, y6_5, y6_6, y6_7, y6_8, v6_0, v6_1, v6_2, v6_3, v6_4, v6_5, v6_6, v6_7, v6_8⟩ := Z9 BK253.out))
   go_ret
   exact ⟨Qe, Qh⟩
/-! ### samphirelaw13_light: function 14 -/
mutual
def samphirelaw13_light.j0 : Nat → Bool → List (S72) → List (S25) → Int → Int → Option (Bool)
 | 0, _, _, _, _, _ => none
 | k + 1, x14, x255000, x255001, x255002, x255003 => if x14 = true then (some false) else (samphirelaw13_light.l0 k 0 x255000 x255001 x255002 x255003)
def samphirelaw13_light.l0 : Nat → Int → List (S72) → List (S25) → Int → Int → Option (Bool)
 | 0, _, _, _, _, _ => none
 | k + 1, x3, x255000, x255001, x255002, x255003 => if x3 < (x255000.length : Int) then (if 0 ≤ x3 then (if (((rd_T72 x255000 x3).f2).size : Int) > 200 then (some false) else (if (((rd_T72 x255000 x3).f3).size : Int) > 200 then (some false) else (samphirelaw13_light.l0 k (wrap64 (x3 + 1)) x255000 x255001 x255002 x255003))) else (none)) else (samphirelaw13_light.l1 k 0 x255000 x255001 x255002 x255003)
def samphirelaw13_light.l1 : Nat → Int → List (S72) → List (S25) → Int → Int → Option (Bool)
 | 0, _, _, _, _, _ => none
 | k + 1, x4, x255000, x255001, x255002, x255003 => if x4 < (x255001.length : Int) then (if 0 ≤ x4 then ((samphireref11_Light.f ((rd_T25 x255001 x4).f0) ((rd_T25 x255001 x4).f1.f0) ((rd_T25 x255001 x4).f1.f1) ((rd_T25 x255001 x4).f2.f0) ((rd_T25 x255001 x4).f2.f1) ((rd_T25 x255001 x4).f3.f0) ((rd_T25 x255001 x4).f3.f1) ((rd_T25 x255001 x4).f4) ((rd_T25 x255001 x4).f5)).bind fun t258 => (if t258 = true then (samphirelaw13_light.l1 k (wrap64 (x4 + 1)) x255000 x255001 x255002 x255003) else (some false))) else (none)) else (some true)
end
def samphirelaw13_light.f (k : Nat) (l0_0 : List (S72)) (l0_1 : List (S25)) (a0_2 : Int) (a0_3 : Int) : Option (Bool) := if (l0_0.length : Int) > 30 then (samphirelaw13_light.j0 k true l0_0 l0_1 a0_2 a0_3) else (samphirelaw13_light.j0 k (decide ((l0_1.length : Int) > 30)) l0_0 l0_1 a0_2 a0_3)
set_option maxHeartbeats 8000000 in
set_option maxRecDepth 100000 in
theorem samphirelaw13_light.calls (k : Nat) (A0_0 : Option Addr) (c0_0 : Nat) (l0_0 : List (S72)) (A0_1 : Option Addr) (c0_1 : Nat) (l0_1 : List (S25)) (a0_2 : Int) (a0_3 : Int) (r : Bool) (w : World) (hr0_0 : Kd.C k72 w A0_0 l0_0.length l0_0) (hc0_0 : l0_0.length ≤ c0_0) (hr0_1 : Kd.C k25 w A0_1 l0_1.length l0_1) (hc0_1 : l0_1.length ≤ c0_1) (h : samphirelaw13_light.f k l0_0 l0_1 a0_2 a0_3 = some r) :
 Calls Tryd.prog 14 #[.agg #[.slice A0_0 l0_0.length c0_0, .slice A0_1 l0_1.length c0_1, .int .i64 a0_2, .int .i64 a0_3]] w fun e w' => e = .returned (.bool r) ∧ Below w.heap.size w w' := by
 have hu37 := Tryd.underlying37
 have hu25 := Tryd.underlying25
 have HR0_0 := Aside0.mk hr0_0
 have HC0_0 := Aside0.mk hc0_0
 clear hr0_0 hc0_0
 have HR0_1 := Aside0.mk hr0_1
 have HC0_1 := Aside0.mk hc0_1
 clear hr0_1 hc0_1
 have HB := Aside0.mk (Below.refl w.heap.size w)
 have H : (if (l0_0.length : Int) > 30 then (samphirelaw13_light.j0 k true l0_0 l0_1 a0_2 a0_3) else (samphirelaw13_light.j0 k (decide ((l0_1.length : Int) > 30)) l0_0 l0_1 a0_2 a0_3)) = some r := h
 clear h
 have HC2 := Aside0.mk H
 clear H
 go_enter Tryd.func14, Tryd.ntmps14
 go_upto_region 1 with (first | ((with_reducible refine gate_dst (N := 1) rfl ?_); (try (refine gate_guard (by rfl) ?_; dsimp only)); refine boxQ (N := 1) (cs := #[.slice A0_0 l0_0.length c0_0, .slice A0_1 l0_1.length c0_1, .int .i64 a0_2, .int .i64 a0_3]) (t := 37) ?_; intro gb254 hg w3 hbox hb; have BK254 := Aside0.mk hbox; have GW254 := Qt w hg; have GE254 := GW254; replace HB := Qy hb; clear hb hbox hg))
 (try simp only [Act.put, List.setIfInBounds_toArray, List.set_cons_zero, List.set_cons_succ])
 go_cut [14] (fun v14 wc => ∃ (kq : Nat) (x14_1 : Bool), v14 = .bool x14_1 ∧ Aside0 (samphirelaw13_light.j0 kq x14_1 l0_0 l0_1 a0_2 a0_3 = some r) ∧ Aside0 (kq ≤ k) ∧ Aside0 (wc.heap[gb254]? = some (.cells #[(.slice A0_0 l0_0.length c0_0), (.slice A0_1 l0_1.length c0_1), .int .i64 a0_2, .int .i64 a0_3] 37 (0, 0))) ∧ Aside0 (Below w.heap.size w wc))
 case first =>
  have H := HC2.out
  clear HC2
  by_cases c4 : (l0_0.length : Int) > 30
  · rw [if_pos c4] at H
    have c4b0 : decide (30 < (l0_0.length : Int)) = true := decide_eq_true c4
    have c4b1 : decide (30 < l0_0.length) = true := decide_eq_true (by omega)
    clear c4
    (first | rw [c4b0] | (simp only [i64_w, i32_w]; rw [c4b0]) | skip)
    have H' := Aside0.mk H
    clear H
    obtain ⟨y5_0, y5_1, y5_2, y5_3, v5_0, v5_1, v5_2, v5_3⟩ := Z4 BK254.out
    go_wp2
    go_meet
    case rel => exact ⟨_, (true), (by first | rfl | (simp; done) | (simp [*]; done)), H', ⟨by first | omega | exact Nat.le_refl _⟩, ⟨Qk⟩, ⟨Qh⟩⟩
  · rw [if_neg c4] at H
    have c4b0 : decide (30 < (l0_0.length : Int)) = false := decide_eq_false c4
    have c4b1 : decide (30 < l0_0.length) = false := decide_eq_false (by omega)
    clear c4
    (first | rw [c4b0] | (simp only [i64_w, i32_w]; rw [c4b0]) | skip)
    have H' := Aside0.mk H
    clear H
    obtain ⟨y6_0, y6_1, y6_2, y6_3, v6_0, v6_1, v6_2, v6_3⟩ := Z4 BK254.out
    go_wp2
    go_meet
    case rel => exact ⟨_, (decide ((l0_1.length : Int) > 30)), (by first | rfl | (simp; done) | (simp [*]; done)), H', ⟨by first | omega | exact Nat.le_refl _⟩, ⟨Qk⟩, ⟨Qh⟩⟩
 case rest =>
  clear HC2
  try clear c1
  try clear p2
  try clear c4
  try clear c4b0
  try clear c4b1
  try clear y5_0 y5_1 y5_2 y5_3
  try clear y6_0 y6_1 y6_2 y6_3
  try clear v5_0 v5_1 v5_2 v5_3
  try clear v6_0 v6_1 v6_2 v6_3
  obtain ⟨kq, x14_1, rfl, HA, HJ1, BK254, HB⟩ := hcut
  cases kq with
  | zero => exact absurd HA.out (by simp [samphirelaw13_light.j0])
  | succ kj1 =>
   have H := HA.out
   clear HA
   simp only [samphirelaw13_light.j0] at H
   by_cases c7 : x14_1 = true
   · subst c7
     have H1 : (some false) = some r := by rw [if_pos rfl] at H; exact H
     clear H
     have H := H1
     clear H1
     obtain rfl := Option.some.inj H
     go_wp2
     go_ret
     exact ⟨Qe, Qh⟩
   · replace c7 := Bool.eq_false_iff.mpr c7
     subst c7
     have H1 : (samphirelaw13_light.l0 kj1 0 l0_0 l0_1 a0_2 a0_3) = some r := by rw [if_neg (show ¬ (false = true) by decide)] at H; exact H
     clear H
     have H := H1
     clear H1
     have H' := Aside0.mk H
     clear H
     go_wp2
     go_loopg [3] kj1 (fun kq v3 w' => ∃ (x3_2 : Int), v3 = .int .i64 x3_2 ∧ Aside0 (samphirelaw13_light.l0 kq x3_2 l0_0 l0_1 a0_2 a0_3 = some r) ∧ Aside0 (kq ≤ kj1) ∧ Aside0 (w'.heap[gb254]? = some (.cells #[(.slice A0_0 l0_0.length c0_0), (.slice A0_1 l0_1.length c0_1), .int .i64 a0_2, .int .i64 a0_3] 37 (0, 0))) ∧ Aside0 (Below w.heap.size w w'))
     case atStart => exact ⟨(0), (by first | rfl | (simp; done) | (simp [*]; done)), H', ⟨Nat.le_refl _⟩, ⟨Qk⟩, ⟨Qh⟩⟩
     case round =>
      clear H'
      try clear c1
      try clear p2
      try clear c4
      try clear c4b0
      try clear c4b1
      try clear c7
      try clear y5_0 y5_1 y5_2 y5_3
      try clear y6_0 y6_1 y6_2 y6_3
      try clear v5_0 v5_1 v5_2 v5_3
      try clear v6_0 v6_1 v6_2 v6_3
      try clear p2
      obtain ⟨x3_2, rfl, HA, HK2, BK254, HB⟩ := hrel
      cases gk with
      | zero => exact absurd HA.out (by simp [samphirelaw13_light.l0])
      | succ k2 =>
       have H := HA.out
       clear HA
       simp only [samphirelaw13_light.l0] at H
       by_cases c8 : x3_2 < (l0_0.length : Int)
       · rw [if_pos c8] at H
         have c8b0 : decide (x3_2 < (l0_0.length : Int)) = true := decide_eq_true c8
         clear c8
         by_cases c9 : 0 ≤ x3_2
         · rw [if_pos c9] at H
           have c9b0 : decide (0 ≤ x3_2) = true := decide_eq_true c9
           clear c9
           by_cases c10 : (((rd_T72 l0_0 x3_2).f2).size : Int) > 200
           · rw [if_pos c10] at H
             have c10b0 : decide (200 < (((rd_T72 l0_0 x3_2).f2).size : Int)) = true := decide_eq_true c10
             have c10b1 : decide (200 < ((rd_T72 l0_0 x3_2).f2).size) = true := decide_eq_true (by omega)
             clear c10
             obtain rfl := Option.some.inj H
             obtain ⟨y11_0, y11_1, y11_2, y11_3, v11_0, v11_1, v11_2, v11_3⟩ := Z4 BK254.out
             have p255 : 0 ≤ (x3_2 : Int) := of_decide_eq_true (by first | (with_reducible assumption) | assumption)
             have q255 : x3_2 < (l0_0.length : Int) := of_decide_eq_true (by first | (with_reducible assumption) | assumption)
             obtain ⟨ad255, e255, hx255_0, hx255_1, hx255_2, hx255_3, hx255_4, hx255_5⟩ := at_T72 HR0_0.out x3_2 p255 q255
             cases e255
             replace hx255_0 := (HB.out.cell (World.block_lt_of_cell? w _ hx255_0)).trans hx255_0
             replace hx255_1 := (HB.out.cell (World.block_lt_of_cell? w _ hx255_1)).trans hx255_1
             replace hx255_2 := (HB.out.cell (World.block_lt_of_cell? w _ hx255_2)).trans hx255_2
             replace hx255_3 := (HB.out.cell (World.block_lt_of_cell? w _ hx255_3)).trans hx255_3
             replace hx255_4 := (HB.out.cell (World.block_lt_of_cell? w _ hx255_4)).trans hx255_4
             replace hx255_5 := (HB.out.cell (World.block_lt_of_cell? w _ hx255_5)).trans hx255_5
             replace p255 := eq_true p255
             replace q255 := eq_true q255
             go_wp2
             go_ret
             exact ⟨Qe, Qh⟩
           · rw [if_neg c10] at H
             have c10b0 : decide (200 < (((rd_T72 l0_0 x3_2).f2).size : Int)) = false := decide_eq_false c10
             have c10b1 : decide (200 < ((rd_T72 l0_0 x3_2).f2).size) = false := decide_eq_false (by omega)
             clear c10
             by_cases c12 : (((rd_T72 l0_0 x3_2).f3).size : Int) > 200
             · rw [if_pos c12] at H
               have c12b0 : decide (200 < (((rd_T72 l0_0 x3_2).f3).size : Int)) = true := decide_eq_true c12
               have c12b1 : decide (200 < ((rd_T72 l0_0 x3_2).f3).size) = true := decide_eq_true (by omega)
               clear c12
               obtain rfl := Option.some.inj H
               obtain ⟨y13_0, y13_1, y13_2, y13_3, v13_0, v13_1, v13_2, v13_3⟩ := Z4 BK254.out
               have p255 : 0 ≤ (x3_2 : Int) := of_decide_eq_true (by first | (with_reducible assumption) | assumption)
               have q255 : x3_2 < (l0_0.length : Int) := of_decide_eq_true (by first | (with_reducible assumption) | assumption)
               obtain ⟨ad255, e255, hx255_0, hx255_1, hx255_2, hx255_3, hx255_4, hx255_5⟩ := at_T72 HR0_0.out x3_2 p255 q255
               cases e255
               replace hx255_0 := (HB.out.cell (World.block_lt_of_cell? w _ hx255_0)).trans hx255_0
               replace hx255_1 := (HB.out.cell (World.block_lt_of_cell? w _ hx255_1)).trans hx255_1
               replace hx255_2 := (HB.out.cell (World.block_lt_of_cell? w _ hx255_2)).trans hx255_2
               replace hx255_3 := (HB.out.cell (World.block_lt_of_cell? w _ hx255_3)).trans hx255_3
               replace hx255_4 := (HB.out.cell (World.block_lt_of_cell? w _ hx255_4)).trans hx255_4
               replace hx255_5 := (HB.out.cell (World.block_lt_of_cell? w _ hx255_5)).trans hx255_5
               replace p255 := eq_true p255
               replace q255 := eq_true q255
               have p256 : 0 ≤ (x3_2 : Int) := of_decide_eq_true (by first | (with_reducible assumption) | assumption)
               have q256 : x3_2 < (l0_0.length : Int) := of_decide_eq_true (by first | (with_reducible assumption) | assumption)
               obtain ⟨ad256, e256, hx256_0, hx256_1, hx256_2, hx256_3, hx256_4, hx256_5⟩ := at_T72 HR0_0.out x3_2 p256 q256
               obtain rfl : ad255 = ad256 := (by injection e256)
               replace hx256_0 := (HB.out.cell (World.block_lt_of_cell? w _ hx256_0)).trans hx256_0
               replace hx256_1 := (HB.out.cell (World.block_lt_of_cell? w _ hx256_1)).trans hx256_1
               replace hx256_2 := (HB.out.cell (World.block_lt_of_cell? w _ hx256_2)).trans hx256_2
               replace hx256_3 := (HB.out.cell (World.block_lt_of_cell? w _ hx256_3)).trans hx256_3
               replace hx256_4 := (HB.out.cell (World.block_lt_of_cell? w _ hx256_4)).trans hx256_4
               replace hx256_5 := (HB.out.cell (World.block_lt_of_cell? w _ hx256_5)).trans hx256_5
               replace p256 := eq_true p256
               replace q256 := eq_true q256
               go_wp2
               go_ret
               exact ⟨Qe, Qh⟩
             · rw [if_neg c12] at H
               have c12b0 : decide (200 < (((rd_T72 l0_0 x3_2).f3).size : Int)) = false := decide_eq_false c12
               have c12b1 : decide (200 < ((rd_T72 l0_0 x3_2).f3).size) = false := decide_eq_false (by omega)
               clear c12
               have H' := Aside0.mk H
               clear H
               obtain ⟨y14_0, y14_1, y14_2, y14_3, v14_0, v14_1, v14_2, v14_3⟩ := Z4 BK254.out
               have p255 : 0 ≤ (x3_2 : Int) := of_decide_eq_true (by first | (with_reducible assumption) | assumption)
               have q255 : x3_2 < (l0_0.length : Int) := of_decide_eq_true (by first | (with_reducible assumption) | assumption)
               obtain ⟨ad255, e255, hx255_0, hx255_1, hx255_2, hx255_3, hx255_4, hx255_5⟩ := at_T72 HR0_0.out x3_2 p255 q255
               cases e255
               replace hx255_0 := (HB.out.cell (World.block_lt_of_cell? w _ hx255_0)).trans hx255_0
               replace hx255_1 := (HB.out.cell (World.block_lt_of_cell? w _ hx255_1)).trans hx255_1
               replace hx255_2 := (HB.out.cell (World.block_lt_of_cell? w _ hx255_2)).trans hx255_2
               replace hx255_3 := (HB.out.cell (World.block_lt_of_cell? w _ hx255_3)).trans hx255_3
               replace hx255_4 := (HB.out.cell (World.block_lt_of_cell? w _ hx255_4)).trans hx255_4
               replace hx255_5 := (HB.out.cell (World.block_lt_of_cell? w _ hx255_5)).trans hx255_5
               replace p255 := eq_true p255
               replace q255 := eq_true q255
               have p256 : 0 ≤ (x3_2 : Int) := of_decide_eq_true (by first | (with_reducible assumption) | assumption)
               have q256 : x3_2 < (l0_0.length : Int) := of_decide_eq_true (by first | (with_reducible assumption) | assumption)
               obtain ⟨ad256, e256, hx256_0, hx256_1, hx256_2, hx256_3, hx256_4, hx256_5⟩ := at_T72 HR0_0.out x3_2 p256 q256
               obtain rfl : ad255 = ad256 := (by injection e256)
               replace hx256_0 := (HB.out.cell (World.block_lt_of_cell? w _ hx256_0)).trans hx256_0
               replace hx256_1 := (HB.out.cell (World.block_lt_of_cell? w _ hx256_1)).trans hx256_1
               replace hx256_2 := (HB.out.cell (World.block_lt_of_cell? w _ hx256_2)).trans hx256_2
               replace hx256_3 := (HB.out.cell (World.block_lt_of_cell? w _ hx256_3)).trans hx256_3
               replace hx256_4 := (HB.out.cell (World.block_lt_of_cell? w _ hx256_4)).trans hx256_4
               replace hx256_5 := (HB.out.cell (World.block_lt_of_cell? w _ hx256_5)).trans hx256_5
               replace p256 := eq_true p256
               replace q256 := eq_true q256
               go_wp2
               go_roundg k2
               case measure => have := HJ1.out; have := HK2.out; omega
               case rel => exact ⟨(wrap64 (x3_2 + 1)), (by first | rfl | (simp; done) | (simp [*]; done)), H', ⟨by have := HJ1.out; have := HK2.out; omega⟩, ⟨Qk⟩, ⟨Qh⟩⟩
         · rw [if_neg c9] at H
           exact absurd H (by simp)
       · rw [if_neg c8] at H
         have c8b0 : decide (x3_2 < (l0_0.length : Int)) = false := decide_eq_false c8
         clear c8
         have H' := Aside0.mk H
         clear H
         obtain ⟨y15_0, y15_1, y15_2, y15_3, v15_0, v15_1, v15_2, v15_3⟩ := Z4 BK254.out
         go_wp2
         go_loopg [4] k2 (fun kq v4 w' => ∃ (x4_3 : Int), v4 = .int .i64 x4_3 ∧ Aside0 (samphirelaw13_light.l1 kq x4_3 l0_0 l0_1 a0_2 a0_3 = some r) ∧ Aside0 (kq ≤ k2) ∧ Aside0 (w'.heap[gb254]? = some (.cells #[(.slice A0_0 l0_0.length c0_0), (.slice A0_1 l0_1.length c0_1), .int .i64 a0_2, .int .i64 a0_3] 37 (0, 0))) ∧ Aside0 (Below w.heap.size w w'))
         case atStart => exact ⟨(0), (by first | rfl | (simp; done) | (simp [*]; done)), H', ⟨Nat.le_refl _⟩, ⟨Qk⟩, ⟨Qh⟩⟩
         case round =>
          clear H'
          try clear c1
          try clear p2
          try clear q2
          try clear hx2
          try clear c4
          try clear c4b0
          try clear c4b1
          try clear p6
          try clear c7
          try clear c8
          try clear c8b0
          try clear c9
          try clear c9b0
          try clear c10
          try clear c10b0
          try clear c10b1
          try clear c12
          try clear c12b0
          try clear c12b1
          try clear c14
          try clear y11_0 y11_1 y11_2 y11_3
          try clear y13_0 y13_1 y13_2 y13_3
          try clear y14_0 y14_1 y14_2 y14_3
          try clear y15_0 y15_1 y15_2 y15_3
          try clear y5_0 y5_1 y5_2 y5_3
          try clear y6_0 y6_1 y6_2 y6_3
          try clear v11_0 v11_1 v11_2 v11_3
          try clear v13_0 v13_1 v13_2 v13_3
          try clear v14_0 v14_1 v14_2 v14_3
          try clear v15_0 v15_1 v15_2 v15_3
          try clear v5_0 v5_1 v5_2 v5_3
          try clear v6_0 v6_1 v6_2 v6_3
          try clear hx255_0
          try clear hx255_1
          try clear hx255_2
          try clear hx255_3
          try clear hx255_4
          try clear hx255_5
          try clear hx256_0
          try clear hx256_1
          try clear hx256_2
          try clear hx256_3
          try clear hx256_4
          try clear hx256_5
          try clear p2
          try clear p255
          try clear p256
          try clear q255
          try clear q256
          obtain ⟨x4_3, rfl, HA, HK3, BK254, HB⟩ := hrel
          cases gk with
          | zero => exact absurd HA.out (by simp [samphirelaw13_light.l1])
          | succ k3 =>
           have H := HA.out
           clear HA
           simp only [samphirelaw13_light.l1] at H
           by_cases c16 : x4_3 < (l0_1.length : Int)
           · rw [if_pos c16] at H
             have c16b0 : decide (x4_3 < (l0_1.length : Int)) = true := decide_eq_true c16
             clear c16
             by_cases c17 : 0 ≤ x4_3
             · rw [if_pos c17] at H
               have c17b0 : decide (0 ≤ x4_3) = true := decide_eq_true c17
               clear c17
               replace H := Option.bind_eq_some_iff.mp H
               obtain ⟨t258, A180, H⟩ := H
               replace H : (if t258 = true then (samphirelaw13_light.l1 k3 (wrap64 (x4_3 + 1)) l0_0 l0_1 a0_2 a0_3) else (some false)) = some r := H
               have A18 := Aside0.mk A180
               clear A180
               by_cases c19 : t258 = true
               · subst c19
                 have H1 : (samphirelaw13_light.l1 k3 (wrap64 (x4_3 + 1)) l0_0 l0_1 a0_2 a0_3) = some r := by rw [if_pos rfl] at H; exact H
                 clear H
                 have H := H1
                 clear H1
                 have H' := Aside0.mk H
                 clear H
                 obtain ⟨y20_0, y20_1, y20_2, y20_3, v20_0, v20_1, v20_2, v20_3⟩ := Z4 BK254.out
                 have p257 : 0 ≤ (x4_3 : Int) := of_decide_eq_true (by first | (with_reducible assumption) | assumption)
                 have q257 : x4_3 < (l0_1.length : Int) := of_decide_eq_true (by first | (with_reducible assumption) | assumption)
                 obtain ⟨ad257, e257, hx257_0, hx257_1, hx257_2, hx257_3, hx257_4, hx257_5, hx257_6, hx257_7, hx257_8⟩ := at_T25 HR0_1.out x4_3 p257 q257
                 cases e257
                 replace hx257_0 := (HB.out.cell (World.block_lt_of_cell? w _ hx257_0)).trans hx257_0
                 replace hx257_1 := (HB.out.cell (World.block_lt_of_cell? w _ hx257_1)).trans hx257_1
                 replace hx257_2 := (HB.out.cell (World.block_lt_of_cell? w _ hx257_2)).trans hx257_2
                 replace hx257_3 := (HB.out.cell (World.block_lt_of_cell? w _ hx257_3)).trans hx257_3
                 replace hx257_4 := (HB.out.cell (World.block_lt_of_cell? w _ hx257_4)).trans hx257_4
                 replace hx257_5 := (HB.out.cell (World.block_lt_of_cell? w _ hx257_5)).trans hx257_5
                 replace hx257_6 := (HB.out.cell (World.block_lt_of_cell? w _ hx257_6)).trans hx257_6
                 replace hx257_7 := (HB.out.cell (World.block_lt_of_cell? w _ hx257_7)).trans hx257_7
                 replace hx257_8 := (HB.out.cell (World.block_lt_of_cell? w _ hx257_8)).trans hx257_8
                 replace p257 := eq_true p257
                 replace q257 := eq_true q257
                 go_wp2_with (first | ((with_reducible refine gate_callee (f := 8) rfl ?_); refine gL 52 Tryd.func8 #[.agg #[.int .i64 ((rd_T25 l0_1 x4_3).f0), .int .i64 ((rd_T25 l0_1 x4_3).f1.f0), .int .i64 ((rd_T25 l0_1 x4_3).f1.f1), .int .i64 ((rd_T25 l0_1 x4_3).f2.f0), .int .i64 ((rd_T25 l0_1 x4_3).f2.f1), .int .i64 ((rd_T25 l0_1 x4_3).f3.f0), .int .i64 ((rd_T25 l0_1 x4_3).f3.f1), .string ((rd_T25 l0_1 x4_3).f4), .string ((rd_T25 l0_1 x4_3).f5)]] ?_; (with_reducible refine (samphireref11_Light.calls ((rd_T25 l0_1 x4_3).f0) ((rd_T25 l0_1 x4_3).f1.f0) ((rd_T25 l0_1 x4_3).f1.f1) ((rd_T25 l0_1 x4_3).f2.f0) ((rd_T25 l0_1 x4_3).f2.f1) ((rd_T25 l0_1 x4_3).f3.f0) ((rd_T25 l0_1 x4_3).f3.f1) ((rd_T25 l0_1 x4_3).f4) ((rd_T25 l0_1 x4_3).f5) true _ A18.out).mono ?_); rintro e w21 ⟨rfl, hb⟩; refine ⟨_, rfl, ?_⟩; replace BK254 := Qv BK254 hb; replace HB := Qy hb; (try clear hb); (try clear hb2); (try clear hk); (try clear hi)))
                 go_roundg k3
                 case measure => have := HJ1.out; have := HK2.out; have := HK3.out; omega
                 case rel => exact ⟨(wrap64 (x4_3 + 1)), (by first | rfl | (simp; done) | (simp [*]; done)), H', ⟨by have := HJ1.out; have := HK2.out; have := HK3.out; omega⟩, ⟨Qk⟩, ⟨Qh⟩⟩
               · replace c19 := Bool.eq_false_iff.mpr c19
                 subst c19
                 have H1 : (some false) = some r := by rw [if_neg (show ¬ (false = true) by decide)] at H; exact H
                 clear H
                 have H := H1
                 clear H1
                 obtain rfl := Option.some.inj H
                 obtain ⟨y22_0, y22_1, y22_2, y22_3, v22_0, v22_1, v22_2, v22_3⟩ := Z4 BK254.out
                 have p257 : 0 ≤ (x4_3 : Int) := of_decide_eq_true (by first | (with_reducible assumption) | assumption)
                 have q257 : x4_3 < (l0_1.length : Int) := of_decide_eq_true (by first | (with_reducible assumption) | assumption)
                 obtain ⟨ad257, e257, hx257_0, hx257_1, hx257_2, hx257_3, hx257_4, hx257_5, hx257_6, hx257_7, hx257_8⟩ := at_T25 HR0_1.out x4_3 p257 q257
                 cases e257
                 replace hx257_0 := (HB.out.cell (World.block_lt_of_cell? w _ hx257_0)).trans hx257_0
                 replace hx257_1 := (HB.out.cell (World.block_lt_of_cell? w _ hx257_1)).trans hx257_1
                 replace hx257_2 := (HB.out.cell (World.block_lt_of_cell? w _ hx257_2)).trans hx257_2
                 replace hx257_3 := (HB.out.cell (World.block_lt_of_cell? w _ hx257_3)).trans hx257_3
                 replace hx257_4 := (HB.out.cell (World.block_lt_of_cell? w _ hx257_4)).trans hx257_4
                 replace hx257_5 := (HB.out.cell (World.block_lt_of_cell? w _ hx257_5)).trans hx257_5
                 replace hx257_6 := (HB.out.cell (World.block_lt_of_cell? w _ hx257_6)).trans hx257_6
                 replace hx257_7 := (HB.out.cell (World.block_lt_of_cell? w _ hx257_7)).trans hx257_7
                 replace hx257_8 := (HB.out.cell (World.block_lt_of_cell? w _ hx257_8)).trans hx257_8
                 replace p257 := eq_true p257
                 replace q257 := eq_true q257
                 go_wp2_with (first | ((with_reducible refine gate_callee (f := 8) rfl ?_); refine gL 52 Tryd.func8 #[.agg #[.int .i64 ((rd_T25 l0_1 x4_3).f0), .int .i64 ((rd_T25 l0_1 x4_3).f1.f0), .int .i64 ((rd_T25 l0_1 x4_3).f1.f1), .int .i64 ((rd_T25 l0_1 x4_3).f2.f0), .int .i64 ((rd_T25 l0_1 x4_3).f2.f1), .int .i64 ((rd_T25 l0_1 x4_3).f3.f0), .int .i64 ((rd_T25 l0_1 x4_3).f3.f1), .string ((rd_T25 l0_1 x4_3).f4), .string ((rd_T25 l0_1 x4_3).f5)]] ?_; (with_reducible refine (samphireref11_Light.calls ((rd_T25 l0_1 x4_3).f0) ((rd_T25 l0_1 x4_3).f1.f0) ((rd_T25 l0_1 x4_3).f1.f1) ((rd_T25 l0_1 x4_3).f2.f0) ((rd_T25 l0_1 x4_3).f2.f1) ((rd_T25 l0_1 x4_3).f3.f0) ((rd_T25 l0_1 x4_3).f3.f1) ((rd_T25 l0_1 x4_3).f4) ((rd_T25 l0_1 x4_3).f5) false _ A18.out).mono ?_); rintro e w23 ⟨rfl, hb⟩; refine ⟨_, rfl, ?_⟩; replace BK254 := Qv BK254 hb; replace HB := Qy hb; (try clear hb); (try clear hb2); (try clear hk); (try clear hi)))
                 go_ret
                 exact ⟨Qe, Qh⟩
             · rw [if_neg c17] at H
               exact absurd H (by simp)
           · rw [if_neg c16] at H
             have c16b0 : decide (x4_3 < (l0_1.length : Int)) = false := decide_eq_false c16
             clear c16
             obtain rfl := Option.some.inj H
             obtain ⟨y24_0, y24_1, y24_2, y24_3, v24_0, v24_1, v24_2, v24_3⟩ := Z4 BK254.out
             go_wp2
             go_ret
             exact ⟨Qe, Qh⟩
/-! ### samphireref09_Done: function 27 -/
def samphireref09_Done.f (a0_0 : ByteArray) (a0_1 : Bool) : Option (ByteArray × Int) := if a0_1 = true then (some ((⟨#[]⟩ : ByteArray), 1)) else (some (a0_0, 0))
set_option maxHeartbeats 8000000 in
set_option maxRecDepth 100000 in
theorem samphireref09_Done.calls (a0_0 : ByteArray) (a0_1 : Bool) (r1 : ByteArray) (r2 : Int) (w : World) (h : samphireref09_Done.f a0_0 a0_1 = some (r1, r2)) :
 Calls Tryd.prog 27 #[.agg #[.string a0_0, .bool a0_1]] w fun e w' => e = .returned (.tuple #[.string r1, .int .i64 r2]) ∧ Below w.heap.size w w' := by
 have hu60 := Tryd.underlying60
 have HB := Aside0.mk (Below.refl w.heap.size w)
 have H : (if a0_1 = true then (some ((⟨#[]⟩ : ByteArray), 1)) else (some (a0_0, 0))) = some (r1, r2) := h
 clear h
 by_cases c2 : a0_1 = true
 · subst c2
   have H1 : (some ((⟨#[]⟩ : ByteArray), 1)) = some (r1, r2) := by rw [if_pos rfl] at H; exact H
   clear H
   have H := H1
   clear H1
   simp only [Option.some.injEq, Prod.mk.injEq] at H
   obtain ⟨rfl, rfl⟩ := H
   go_enter Tryd.func27, Tryd.ntmps27
   go_wp2_with (first | ((with_reducible refine gate_dst (N := 1) rfl ?_); refine boxQ (N := 1) (cs := #[.string a0_0, .bool true]) (t := 60) ?_; intro gb259 hg w3 hbox hb; have BK259 := Aside0.mk hbox; have GW259 := Qt w hg; have GE259 := GW259; replace HB := Qy hb; clear hb hbox hg; obtain ⟨y4_0, y4_1, v4_0, v4_1⟩ := Z2 BK259.out))
   go_ret2
   exact ⟨Qe, Qh⟩
 · replace c2 := Bool.eq_false_iff.mpr c2
   subst c2
   have H1 : (some (a0_0, 0)) = some (r1, r2) := by rw [if_neg (show ¬ (false = true) by decide)] at H; exact H
   clear H
   have H := H1
   clear H1
   simp only [Option.some.injEq, Prod.mk.injEq] at H
   obtain ⟨rfl, rfl⟩ := H
   go_enter Tryd.func27, Tryd.ntmps27
   go_wp2_with (first | ((with_reducible refine gate_dst (N := 1) rfl ?_); refine boxQ (N := 1) (cs := #[.string a0_0, .bool false]) (t := 60) ?_; intro gb259 hg w5 hbox hb; have BK259 := Aside0.mk hbox; have GW259 := Qt w hg; have GE259 := GW259; replace HB := Qy hb; clear hb hbox hg; obtain ⟨y6_0, y6_1, v6_0, v6_1⟩ := Z2 BK259.out))
   go_ret2
   exact ⟨Qe, Qh⟩
/-! ### samphireref09_with: function 75 -/
def samphireref09_with.f (a0_0 : ByteArray) (a0_1 : Bool) (a1 : ByteArray) (a2 : Bool) : Option (ByteArray × Bool) := if a2 = true then (if a0_1 = true then (some (a0_0, true)) else (if (wrap64 ((a0_0.size : Int) + (a1.size : Int))) > 65536 then (some (a0_0, true)) else (if a0_0.size + a1.size ≤ 9223372036854775807 then (some (a0_0 ++ a1, a0_1)) else (none)))) else (some (a0_0, true))
set_option maxHeartbeats 8000000 in
set_option maxRecDepth 100000 in
theorem samphireref09_with.calls (a0_0 : ByteArray) (a0_1 : Bool) (a1 : ByteArray) (a2 : Bool) (r1 : ByteArray) (r2 : Bool) (w : World) (h : samphireref09_with.f a0_0 a0_1 a1 a2 = some (r1, r2)) :
 Calls Tryd.prog 75 #[.agg #[.string a0_0, .bool a0_1], .string a1, .bool a2] w fun e w' => e = .returned (.agg #[.string r1, .bool r2]) ∧ Below w.heap.size w w' := by
 have hu60 := Tryd.underlying60
 have HB := Aside0.mk (Below.refl w.heap.size w)
 have H : (if a2 = true then (if a0_1 = true then (some (a0_0, true)) else (if (wrap64 ((a0_0.size : Int) + (a1.size : Int))) > 65536 then (some (a0_0, true)) else (if a0_0.size + a1.size ≤ 9223372036854775807 then (some (a0_0 ++ a1, a0_1)) else (none)))) else (some (a0_0, true))) = some (r1, r2) := h
 clear h
 by_cases c4 : a2 = true
 · subst c4
   have H1 : (if a0_1 = true then (some (a0_0, true)) else (if (wrap64 ((a0_0.size : Int) + (a1.size : Int))) > 65536 then (some (a0_0, true)) else (if a0_0.size + a1.size ≤ 9223372036854775807 then (some (a0_0 ++ a1, a0_1)) else (none)))) = some (r1, r2) := by rw [if_pos rfl] at H; exact H
   clear H
   have H := H1
   clear H1
   by_cases c5 : a0_1 = true
   · subst c5
     have H1 : (some (a0_0, true)) = some (r1, r2) := by rw [if_pos rfl] at H; exact H
     clear H
     have H := H1
     clear H1
     simp only [Option.some.injEq, Prod.mk.injEq] at H
     obtain ⟨rfl, rfl⟩ := H
     go_enter Tryd.func75, Tryd.ntmps75
     go_wp2_with (first | ((with_reducible refine gate_dst (N := 3) rfl ?_); (try (refine gate_guard (by rfl) ?_; dsimp only)); refine boxQ (N := 3) (cs := #[.string a0_0, .bool true]) (t := 60) ?_; intro gb260 hg w6 hbox hb; have BK260 := Aside0.mk hbox; have GW260 := Qt w hg; have GE260 := GW260; replace HB := Qy hb; clear hb hbox hg) | ((with_reducible refine gate_dst (N := 6) rfl ?_); (try (refine gate_guard (by rfl) ?_; dsimp only)); refine boxQ (N := 6) (cs := #[.string (⟨#[]⟩ : ByteArray), .bool false]) (t := 60) ?_; intro gb261 hg w7 hbox hb; have BK261 := Aside0.mk hbox; have GW261 := Qt w hg; have GE261 := GW261; have NB260_261 := Qo hg BK260; have NB261_260 := Qp hg BK260; replace BK260 := Qv BK260 hb; replace HB := Qy hb; clear hb hbox hg; have hnb8 := NB260_261.out; have hnc8 := NB261_260.out; obtain ⟨y9_0, y9_1, v9_0, v9_1⟩ := Z2 BK260.out; obtain ⟨y10_0, y10_1, v10_0, v10_1⟩ := Z2 BK261.out))
     refine bodyPost_ret (results_cell_row rfl _ _ gb261 60 #[.string a0_0, .bool true] (0, 0) _ rfl Qk Tryd.underlying60 rfl (by kernel_rfl)) rfl ?_
     exact ⟨Qe, Qh⟩
   · replace c5 := Bool.eq_false_iff.mpr c5
     subst c5
     have H1 : (if (wrap64 ((a0_0.size : Int) + (a1.size : Int))) > 65536 then (some (a0_0, true)) else (if a0_0.size + a1.size ≤ 9223372036854775807 then (some (a0_0 ++ a1, false)) else (none))) = some (r1, r2) := by rw [if_neg (show ¬ (false = true) by decide)] at H; exact H
     clear H
     have H := H1
     clear H1
     by_cases c11 : (wrap64 ((a0_0.size : Int) + (a1.size : Int))) > 65536
     · rw [if_pos c11] at H
       have c11b0 : decide (65536 < (wrap64 ((a0_0.size : Int) + (a1.size : Int)))) = true := decide_eq_true c11
       clear c11
       simp only [Option.some.injEq, Prod.mk.injEq] at H
       obtain ⟨rfl, rfl⟩ := H
       go_enter Tryd.func75, Tryd.ntmps75
       go_wp2_with (first | ((with_reducible refine gate_dst (N := 3) rfl ?_); (try (refine gate_guard (by rfl) ?_; dsimp only)); refine boxQ (N := 3) (cs := #[.string a0_0, .bool false]) (t := 60) ?_; intro gb260 hg w12 hbox hb; have BK260 := Aside0.mk hbox; have GW260 := Qt w hg; have GE260 := GW260; replace HB := Qy hb; clear hb hbox hg) | ((with_reducible refine gate_dst (N := 6) rfl ?_); (try (refine gate_guard (by rfl) ?_; dsimp only)); refine boxQ (N := 6) (cs := #[.string (⟨#[]⟩ : ByteArray), .bool false]) (t := 60) ?_; intro gb261 hg w13 hbox hb; have BK261 := Aside0.mk hbox; have GW261 := Qt w hg; have GE261 := GW261; have NB260_261 := Qo hg BK260; have NB261_260 := Qp hg BK260; replace BK260 := Qv BK260 hb; replace HB := Qy hb; clear hb hbox hg; have hnb14 := NB260_261.out; have hnc14 := NB261_260.out; obtain ⟨y15_0, y15_1, v15_0, v15_1⟩ := Z2 BK260.out; obtain ⟨y16_0, y16_1, v16_0, v16_1⟩ := Z2 BK261.out))
       refine bodyPost_ret (results_cell_row rfl _ _ gb261 60 #[.string a0_0, .bool true] (0, 0) _ rfl Qk Tryd.underlying60 rfl (by kernel_rfl)) rfl ?_
       exact ⟨Qe, Qh⟩
     · rw [if_neg c11] at H
       have c11b0 : decide (65536 < (wrap64 ((a0_0.size : Int) + (a1.size : Int)))) = false := decide_eq_false c11
       clear c11
       by_cases c17 : a0_0.size + a1.size ≤ 9223372036854775807
       · rw [if_pos c17] at H
         have c17b0 := eq_true c17
         have c17b1 : decide (a0_0.size + a1.size ≤ 9223372036854775807) = true := decide_eq_true c17
         try have c17b2 : (9223372036854775807 < a0_0.size + a1.size) = False := eq_false (Nat.not_lt.2 c17)
         have c11b1 : decide (65536 < (a0_0.size : Int) + (a1.size : Int)) = false := by
          have h_ := of_decide_eq_false c11b0
          rw [show wrap64 ((a0_0.size : Int) + (a1.size : Int)) = (a0_0.size : Int) + (a1.size : Int) by unfold wrap64; omega] at h_
          exact decide_eq_false h_
         simp only [Option.some.injEq, Prod.mk.injEq] at H
         obtain ⟨rfl, rfl⟩ := H
         go_enter Tryd.func75, Tryd.ntmps75
         go_wp2_with (first | ((with_reducible refine gate_dst (N := 3) rfl ?_); (try (refine gate_guard (by rfl) ?_; dsimp only)); refine boxQ (N := 3) (cs := #[.string a0_0, .bool false]) (t := 60) ?_; intro gb260 hg w18 hbox hb; have BK260 := Aside0.mk hbox; have GW260 := Qt w hg; have GE260 := GW260; replace HB := Qy hb; clear hb hbox hg) | ((with_reducible refine gate_dst (N := 6) rfl ?_); (try (refine gate_guard (by rfl) ?_; dsimp only)); refine boxQ (N := 6) (cs := #[.string (⟨#[]⟩ : ByteArray), .bool false]) (t := 60) ?_; intro gb261 hg w19 hbox hb; have BK261 := Aside0.mk hbox; have GW261 := Qt w hg; have GE261 := GW261; have NB260_261 := Qo hg BK260; have NB261_260 := Qp hg BK260; replace BK260 := Qv BK260 hb; replace HB := Qy hb; clear hb hbox hg; have hnb20 := NB260_261.out; have hnc20 := NB261_260.out; obtain ⟨y21_0, y21_1, v21_0, v21_1⟩ := Z2 BK260.out; obtain ⟨y22_0, y22_1, v22_0, v22_1⟩ := Z2 BK261.out))
         refine bodyPost_ret (results_cell_row rfl _ _ gb261 60 #[.string (a0_0 ++ a1), .bool false] (0, 0) _ rfl Qk Tryd.underlying60 rfl (by kernel_rfl)) rfl ?_
         exact ⟨Qe, Qh⟩
       · rw [if_neg c17] at H
         exact absurd H (by simp)
 · replace c4 := Bool.eq_false_iff.mpr c4
   subst c4
   have H1 : (some (a0_0, true)) = some (r1, r2) := by rw [if_neg (show ¬ (false = true) by decide)] at H; exact H
   clear H
   have H := H1
   clear H1
   simp only [Option.some.injEq, Prod.mk.injEq] at H
   obtain ⟨rfl, rfl⟩ := H
   go_enter Tryd.func75, Tryd.ntmps75
   go_wp2_with (first | ((with_reducible refine gate_dst (N := 3) rfl ?_); (try (refine gate_guard (by rfl) ?_; dsimp only)); refine boxQ (N := 3) (cs := #[.string a0_0, .bool a0_1]) (t := 60) ?_; intro gb260 hg w23 hbox hb; have BK260 := Aside0.mk hbox; have GW260 := Qt w hg; have GE260 := GW260; replace HB := Qy hb; clear hb hbox hg) | ((with_reducible refine gate_dst (N := 6) rfl ?_); (try (refine gate_guard (by rfl) ?_; dsimp only)); refine boxQ (N := 6) (cs := #[.string (⟨#[]⟩ : ByteArray), .bool false]) (t := 60) ?_; intro gb261 hg w24 hbox hb; have BK261 := Aside0.mk hbox; have GW261 := Qt w hg; have GE261 := GW261; have NB260_261 := Qo hg BK260; have NB261_260 := Qp hg BK260; replace BK260 := Qv BK260 hb; replace HB := Qy hb; clear hb hbox hg; have hnb25 := NB260_261.out; have hnc25 := NB261_260.out; obtain ⟨y26_0, y26_1, v26_0, v26_1⟩ := Z2 BK260.out; obtain ⟨y27_0, y27_1, v27_0, v27_1⟩ := Z2 BK261.out))
   refine bodyPost_ret (results_cell_row rfl _ _ gb261 60 #[.string a0_0, .bool true] (0, 0) _ rfl Qk Tryd.underlying60 rfl (by kernel_rfl)) rfl ?_
   exact ⟨Qe, Qh⟩
/-! ### samphireref09_big: function 76 -/
def samphireref09_big.l0 : Nat → Int → List Int → Int → Option (ByteArray)
 | 0, _, _, _ => none
 | k + 1, x0, x5, x6 => if x6 ≥ 0 then (if 0 ≤ (wrap64 (8 * x6)) then (if x5.length < 140737488355328 then (samphireref09_big.l0 k x0 (x5 ++ [(Go.bits .and .i64 (shr .i64 x0 (wrap64 (8 * x6))) 255) % 256]) (wrap64 (x6 - 1))) else (none)) else (none)) else (some (strOfNums x5))
def samphireref09_big.f (k : Nat) (a0 : Int) (a1 : Int) : Option (ByteArray) := samphireref09_big.l0 k a0 ([] : List Int) (wrap64 (a1 - 1))
set_option maxHeartbeats 8000000 in
set_option maxRecDepth 100000 in
theorem samphireref09_big.calls (k : Nat) (a0 : Int) (a1 : Int) (r : ByteArray) (w : World) (h : samphireref09_big.f k a0 a1 = some r) :
 Calls Tryd.prog 76 #[.int .i64 a0, .int .i64 a1] w fun e w' => e = .returned (.string r) ∧ Below w.heap.size w w' := by
 have HB := Aside0.mk (Below.refl w.heap.size w)
 have H : (samphireref09_big.l0 k a0 ([] : List Int) (wrap64 (a1 - 1))) = some r := h
 clear h
 have H' := Aside0.mk H
 clear H
 go_enter Tryd.func76, Tryd.ntmps76
 go_wp2
 go_loopg [5, 6] k (fun kq v5 v6 w' => ∃ (x5_1 : List Int) (x6_1 : Int), v6 = .int .i64 x6_1 ∧ Aside0 (samphireref09_big.l0 kq a0 x5_1 x6_1 = some r) ∧ Aside0 (kq ≤ k) ∧ Aside0 (Kd.R (Kd.int .u8) 5 w' w.heap.size (fun _ => True) v5 x5_1) ∧ Aside0 (Below w.heap.size w w'))
 case atStart => exact ⟨(([] : List Int)), (wrap64 (a1 - 1)), (by first | rfl | (simp; done) | (simp [*]; done)), H', ⟨Nat.le_refl _⟩, ⟨by first | exact Kd.R_nil _ _ _ _ _ | exact Kd.N_nil _ _ _ _ _ | exact Kd.V_nil _ _ _ _ _ | exact Kd.Q_nil _ _ _ _ _ | exact Kd.S_nil _ _ _ _ _⟩, ⟨Qh⟩⟩
 case round =>
  clear H'
  try clear p2
  obtain ⟨x5_1, x6_1, rfl, HA, HK1, HO_5, HB⟩ := hrel
  cases gk with
  | zero => exact absurd HA.out (by simp [samphireref09_big.l0])
  | succ k1 =>
   have H := HA.out
   clear HA
   simp only [samphireref09_big.l0] at H
   by_cases c3 : x6_1 ≥ 0
   · rw [if_pos c3] at H
     have c3b0 : decide (0 ≤ x6_1) = true := decide_eq_true c3
     clear c3
     obtain ⟨ji4, hji4⟩ : ∃ j_ : Int, (wrap64 (8 * x6_1)) = j_ := ⟨_, rfl⟩
     replace H : (if 0 ≤ (ji4) then (if x5_1.length < 140737488355328 then (samphireref09_big.l0 k1 a0 (x5_1 ++ [(Go.bits .and .i64 (shr .i64 a0 (ji4)) 255) % 256]) (wrap64 (x6_1 - 1))) else (none)) else (none)) = some r := by first | (rw [hji4] at H; exact H) | (simp only [hji4] at H ⊢; exact H)
     have hji4w : (IntKind.i64.wrap (8 * x6_1)) = ji4 := (i64_w _).trans hji4
     by_cases c5 : 0 ≤ (ji4)
     · rw [if_pos c5] at H
       have c5b0 := eq_true c5
       have c5b1 : decide (0 ≤ (ji4)) = true := decide_eq_true c5
       clear c5
       obtain ⟨ji6, hji6⟩ : ∃ j_ : Int, (shr .i64 a0 (ji4)) = j_ := ⟨_, rfl⟩
       replace H : (if x5_1.length < 140737488355328 then (samphireref09_big.l0 k1 a0 (x5_1 ++ [(Go.bits .and .i64 (ji6) 255) % 256]) (wrap64 (x6_1 - 1))) else (none)) = some r := by first | (rw [hji6] at H; exact H) | (simp only [hji6] at H ⊢; exact H)
       have hji6_ : (a0 / 2 ^ min (ji4).toNat 64) = ji6 := hji6
       have hji6z : (ji4) ≤ 64 → (a0 / 2 ^ (ji4).toNat) = ji6 := shr_small hji6
       by_cases c7 : x5_1.length < 140737488355328
       · rw [if_pos c7] at H
         have LMc7 := Aside0.mk c7
         clear c7
         obtain ⟨y262, hy262⟩ : ∃ y_ : List Int, y_ = (x5_1 ++ [(Go.bits .and .i64 (ji6) 255) % 256]) := ⟨_, rfl⟩
         replace H : (samphireref09_big.l0 k1 a0 y262 (wrap64 (x6_1 - 1))) = some r := by first | (rw [hy262]; with_reducible exact H) | (have H2_ := (Option.bind_some _ _).symm.trans H; rw [hy262]; with_reducible exact H2_) | (have H2_ := (Option.bind_some _ _).symm.trans H; with_reducible exact H2_) | with_reducible exact H | (rw [hy262]; exact H) | exact H
         have Ny262 := Aside0.mk hy262
         clear hy262
         have H' := Aside0.mk H
         clear H
         go_wp2_with (first | ((with_reducible refine gate_builtin (b := .append) (xs := #[.tmp 13, .tmp 20]) rfl ?_); at_builtin; refine Kd.R_append (Kd.int .u8) (w0 := w) w.heap.size rfl (.tmp 13) (.tmp 20) 51 5 (.int .u8 0) 1 rfl Tryd.underlying51 info5 rfl (by decide) (by omega) u5 x5_1 ((Go.bits .and .i64 (ji6) 255) % 256) [.int .u8 ((Go.bits .and .i64 (ji6) 255) % 256)] (fun _ => True) (fun _ => False) rfl rfl ?aP (fun _ hk => hk.elim) ?aF ?aO ?aB ?aS ?aL ?_; (case aP => exact rfl); (case aB => exact Qh); (case aF => exact (fun _ _ => trivial)); (case aO => exact (by (with_reducible repeat (first | apply Kd.R_alloc | apply Kd.R_drewN | apply Kd.R_drew)); exact HO_5.out)); (case aS => exact (below_size Qh)); (case aL => have := LMc7.out; omega); intro v263 w8 ho hb hg hat; rw [← Ny262.out] at ho; have n0_ := Aside0.mk (hb); have n1_ := Aside0.mk (ho); clear HB HO_5; have HB := n0_; have HO264 := n1_; clear n0_ n1_; clear ho hb hg hat))
         go_roundg k1
         case measure => have := HK1.out; omega
         case rel => exact ⟨(y262), (wrap64 (x6_1 - 1)), (by first | rfl | (simp; done) | (simp [*]; done)), H', ⟨by have := HK1.out; omega⟩, ⟨by (with_reducible repeat (first | apply Kd.R_alloc | apply Kd.R_drewN | apply Kd.R_drew)); exact HO264.out⟩, ⟨Qh⟩⟩
       · rw [if_neg c7] at H
         exact absurd H (by simp)
     · rw [if_neg c5] at H
       exact absurd H (by simp)
   · rw [if_neg c3] at H
     have c3b0 : decide (0 ≤ x6_1) = false := decide_eq_false c3
     clear c3
     obtain rfl := Option.some.inj H
     have hcv9 := own_string (P := Tryd.prog) Tryd.underlying51 Tryd.underlying5 Tryd.underlying9 (Kd.own_of_R HO_5.out)
     go_wp2
     go_ret
     exact ⟨Qe, Qh⟩
end Go.Proofs.YtlfgdaiegefjiaaDoor.S
