/- Functions of the translation as plain Lean functions, and that each call comes to what they say: for every argument. Written by a program of this session's own; Lean checks it. -/
import Derived.Test.YtlfgdaiegefjiaaDoorQc
import Derived.Test.YtlfgdaiegefjiaaDoorSA
import Derived.Test.YtlfgdaiegefjiaaDoorQa
import Derived.Test.YtlfgdaiegefjiaaDoorSx6
import Derived.Test.YtlfgdaiegefjiaaDoorSx7
import Derived.Test.YtlfgdaiegefjiaaDoorSx8
import Derived.Test.YtlfgdaiegefjiaaDoorSB
import Derived.Test.YtlfgdaiegefjiaaDoorZE
import Derived.Test.YtlfgdaiegefjiaaDoorZw
namespace Go.Proofs.YtlfgdaiegefjiaaDoor.S
open Go.RowKit Go.Proofs.YtlfgdaiegefjiaaDoorW.PrintWords Go.Proofs.YtlfgdaiegefjiaaDoorW.PrintLast
set_option linter.unusedVariables false
set_option linter.unusedSimpArgs false
/-! ### samphireref13_Put: function 16 -/
mutual
def samphireref13_Put.l0 : Nat → Int → List (S72) → List (S25) → Int → Int → ByteArray → Bool → Option (ByteArray × Int)
 | 0, _, _, _, _, _, _, _ => none
 | k + 1, x5, x332000, x332001, x332002, x332003, x336000, x336001 => if x5 < (x332000.length : Int) then (if 0 ≤ x5 then ((samphireref09_Stamp.f k x336000 x336001 ((rd_T72 x332000 x5).f0.f0) ((rd_T72 x332000 x5).f0.f1)).bind fun bt340 => ((samphireref09_Stamp.f k bt340.1 bt340.2 ((rd_T72 x332000 x5).f1.f0) ((rd_T72 x332000 x5).f1.f1)).bind fun bt342 => ((samphireref09_Text.f k bt342.1 bt342.2 ((rd_T72 x332000 x5).f2)).bind fun bt344 => ((samphireref09_Text.f k bt344.1 bt344.2 ((rd_T72 x332000 x5).f3)).bind fun bt346 => (samphireref13_Put.l0 k (wrap64 (x5 + 1)) x332000 x332001 x332002 x332003 bt346.1 bt346.2))))) else (none)) else ((samphireref09_Num.f k x336000 x336001 (x332001.length : Int)).bind fun bt348 => (samphireref13_Put.l1 k 0 x332000 x332001 x332002 x332003 bt348.1 bt348.2))
def samphireref13_Put.l1 : Nat → Int → List (S72) → List (S25) → Int → Int → ByteArray → Bool → Option (ByteArray × Int)
 | 0, _, _, _, _, _, _, _ => none
 | k + 1, x7, x332000, x332001, x332002, x332003, x336000, x336001 => if x7 < (x332001.length : Int) then (if 0 ≤ x7 then ((samphireref13_op.f k x336000 x336001 ((rd_T25 x332001 x7).f0) ((rd_T25 x332001 x7).f1.f0) ((rd_T25 x332001 x7).f1.f1) ((rd_T25 x332001 x7).f2.f0) ((rd_T25 x332001 x7).f2.f1) ((rd_T25 x332001 x7).f3.f0) ((rd_T25 x332001 x7).f3.f1) ((rd_T25 x332001 x7).f4) ((rd_T25 x332001 x7).f5)).bind fun bt351 => (samphireref13_Put.l1 k (wrap64 (x7 + 1)) x332000 x332001 x332002 x332003 bt351.1 bt351.2)) else (none)) else ((samphireref09_Done.f x336000 x336001).bind fun bt353 => (some (bt353.1, bt353.2)))
end
def samphireref13_Put.f (k : Nat) (l0_0 : List (S72)) (l0_1 : List (S25)) (a0_2 : Int) (a0_3 : Int) : Option (ByteArray × Int) := (samphireref13_may.f l0_0 l0_1 a0_2 a0_3).bind fun t332 => (if t332 = true then ((samphireref09_Stamp.f k (⟨#[]⟩ : ByteArray) false a0_2 a0_3).bind fun bt333 => ((samphireref09_Num.f k bt333.1 bt333.2 (l0_0.length : Int)).bind fun bt336 => (samphireref13_Put.l0 k 0 l0_0 l0_1 a0_2 a0_3 bt336.1 bt336.2))) else (some ((⟨#[]⟩ : ByteArray), 1)))
def samphireref13_Put.T17 : Bool × List (List Nat × List Nat) := (true, [([], []), ([], []), ([1], [1]), ([], []), ([2, 3], [2, 3]), ([4], [4]), ([0, 5], [0, 5]), ([6, 6, 0, 1, 2, 3, 4, 5, 6], [6])])
def samphireref13_Put.B17 : List Nat := [0, 0, 2, 0, 14, 30, 63, 127]
theorem samphireref13_Put.tab17 : rtab .any (opsOf Tryd.f16 17) = samphireref13_Put.T17 := by kernel_rfl
theorem samphireref13_Put.bits17 : waitsOk samphireref13_Put.T17.2 samphireref13_Put.B17 = true := by kernel_rfl
set_option maxHeartbeats 8000000 in
set_option maxRecDepth 100000 in
theorem samphireref13_Put.calls (k : Nat) (A0_0 : Option Addr) (c0_0 : Nat) (l0_0 : List (S72)) (A0_1 : Option Addr) (c0_1 : Nat) (l0_1 : List (S25)) (a0_2 : Int) (a0_3 : Int) (r1 : ByteArray) (r2 : Int) (w : World) (hr0_0 : Kd.C k72 w A0_0 l0_0.length l0_0) (hc0_0 : l0_0.length ≤ c0_0) (hr0_1 : Kd.C k25 w A0_1 l0_1.length l0_1) (hc0_1 : l0_1.length ≤ c0_1) (h : samphireref13_Put.f k l0_0 l0_1 a0_2 a0_3 = some (r1, r2)) :
 Calls Tryd.prog 16 #[.agg #[.slice A0_0 l0_0.length c0_0, .slice A0_1 l0_1.length c0_1, .int .i64 a0_2, .int .i64 a0_3]] w fun e w' => e = .returned (.tuple #[.string r1, .int .i64 r2]) ∧ Below w.heap.size w w' := by
 have hu37 := Tryd.underlying37
 have hu60 := Tryd.underlying60
 have hu23 := Tryd.underlying23
 have hu72 := Tryd.underlying72
 have hu25 := Tryd.underlying25
 have HR0_0 := Aside0.mk hr0_0
 have HC0_0 := Aside0.mk hc0_0
 clear hr0_0 hc0_0
 have HR0_1 := Aside0.mk hr0_1
 have HC0_1 := Aside0.mk hc0_1
 clear hr0_1 hc0_1
 have HB := Aside0.mk (Below.refl w.heap.size w)
 have H : ((samphireref13_may.f l0_0 l0_1 a0_2 a0_3).bind fun t332 => (if t332 = true then ((samphireref09_Stamp.f k (⟨#[]⟩ : ByteArray) false a0_2 a0_3).bind fun bt333 => ((samphireref09_Num.f k bt333.1 bt333.2 (l0_0.length : Int)).bind fun bt336 => (samphireref13_Put.l0 k 0 l0_0 l0_1 a0_2 a0_3 bt336.1 bt336.2))) else (some ((⟨#[]⟩ : ByteArray), 1)))) = some (r1, r2) := h
 clear h
 replace H := Option.bind_eq_some_iff.mp H
 obtain ⟨t332, A20, H⟩ := H
 replace H : (if t332 = true then ((samphireref09_Stamp.f k (⟨#[]⟩ : ByteArray) false a0_2 a0_3).bind fun bt333 => ((samphireref09_Num.f k bt333.1 bt333.2 (l0_0.length : Int)).bind fun bt336 => (samphireref13_Put.l0 k 0 l0_0 l0_1 a0_2 a0_3 bt336.1 bt336.2))) else (some ((⟨#[]⟩ : ByteArray), 1))) = some (r1, r2) := H
 have A2 := Aside0.mk A20
 clear A20
 by_cases c3 : t332 = true
 · subst c3
   have H1 : ((samphireref09_Stamp.f k (⟨#[]⟩ : ByteArray) false a0_2 a0_3).bind fun bt333 => ((samphireref09_Num.f k bt333.1 bt333.2 (l0_0.length : Int)).bind fun bt336 => (samphireref13_Put.l0 k 0 l0_0 l0_1 a0_2 a0_3 bt336.1 bt336.2))) = some (r1, r2) := by rw [if_pos rfl] at H; exact H
   clear H
   have H := H1
   clear H1
   replace H := Option.bind_eq_some_iff.mp H
   obtain ⟨⟨t333, t334⟩, A40, H⟩ := H
   replace H : ((samphireref09_Num.f k t333 t334 (l0_0.length : Int)).bind fun bt336 => (samphireref13_Put.l0 k 0 l0_0 l0_1 a0_2 a0_3 bt336.1 bt336.2)) = some (r1, r2) := H
   have A4 := Aside0.mk A40
   clear A40
   replace H := Option.bind_eq_some_iff.mp H
   obtain ⟨⟨t336, t337⟩, A50, H⟩ := H
   replace H : (samphireref13_Put.l0 k 0 l0_0 l0_1 a0_2 a0_3 t336 t337) = some (r1, r2) := H
   have A5 := Aside0.mk A50
   clear A50
   have H' := Aside0.mk H
   clear H
   go_enter Tryd.func16, Tryd.ntmps16
   go_wp2_with (first | ((with_reducible refine gate_dst (N := 1) rfl ?_); refine boxQ (N := 1) (cs := #[.slice A0_0 l0_0.length c0_0, .slice A0_1 l0_1.length c0_1, .int .i64 a0_2, .int .i64 a0_3]) (t := 37) ?_; intro gb331 hg w6 hbox hb; have BK331 := Aside0.mk hbox; have GW331 := Qt w hg; have GE331 := GW331; replace HB := Qy hb; clear hb hbox hg; obtain ⟨y7_0, y7_1, y7_2, y7_3, v7_0, v7_1, v7_2, v7_3⟩ := Z4 BK331.out) | ((with_reducible refine gate_callee (f := 41) rfl ?_); refine gL 9 Tryd.func41 #[.agg #[.slice A0_0 l0_0.length c0_0, .slice A0_1 l0_1.length c0_1, .int .i64 a0_2, .int .i64 a0_3]] ?_; (with_reducible refine (samphireref13_may.calls _ _ l0_0 _ _ l0_1 a0_2 a0_3 true _ ?side1 ?side2 ?side3 ?side4 A2.out).mono ?_); (case side1 => repeat (first | exact (Kd.C_below HR0_0.out HB.out) | (with_reducible refine Kd.C_alloc ?_ _) | (with_reducible refine Kd.C_drewN ?_ _) | (with_reducible refine Kd.C_drew ?_))); (case side2 => exact HC0_0.out); (case side3 => repeat (first | exact (Kd.C_below HR0_1.out HB.out) | (with_reducible refine Kd.C_alloc ?_ _) | (with_reducible refine Kd.C_drewN ?_ _) | (with_reducible refine Kd.C_drew ?_))); (case side4 => exact HC0_1.out); rintro e w8 ⟨rfl, hb⟩; refine ⟨_, rfl, ?_⟩; replace BK331 := Qv BK331 hb; replace HB := Qy hb; (try clear hb); (try clear hb2); (try clear hk); (try clear hi); obtain ⟨y9_0, y9_1, y9_2, y9_3, v9_0, v9_1, v9_2, v9_3⟩ := Z4 BK331.out) | ((with_reducible refine gate_callee (f := 42) rfl ?_); refine gL 14 Tryd.func42 #[.agg #[.string (⟨#[]⟩ : ByteArray), .bool false], .agg #[.int .i64 a0_2, .int .i64 a0_3]] ?_; (with_reducible refine (samphireref09_Stamp.calls k (⟨#[]⟩ : ByteArray) false a0_2 a0_3 t333 t334 _ A4.out).mono ?_); rintro e w10 ⟨rfl, hb⟩; refine ⟨_, rfl, ?_⟩; replace BK331 := Qv BK331 hb; replace HB := Qy hb; (try clear hb); (try clear hb2); (try clear hk); (try clear hi)) | ((with_reducible refine gate_dst (N := 4) rfl ?_); refine boxQ (N := 4) (cs := #[.string (⟨#[]⟩ : ByteArray), .bool false]) (t := 60) ?_; intro gb335 hg w11 hbox hb; have BK335 := Aside0.mk hbox; have GW335 := Qt w hg; have GE335 := GW335; have NB331_335 := Qo hg BK331; have NB335_331 := Qp hg BK331; replace BK331 := Qv BK331 hb; replace HB := Qy hb; clear hb hbox hg; have hnb12 := NB335_331.out; have hnc12 := NB331_335.out; obtain ⟨y13_0, y13_1, v13_0, v13_1⟩ := Z2 BK335.out; obtain ⟨y14_0, y14_1, y14_2, y14_3, v14_0, v14_1, v14_2, v14_3⟩ := Z4 BK331.out) | ((with_reducible refine gate_callee (f := 43) rfl ?_); refine gL 19 Tryd.func43 #[.agg #[.string t333, .bool t334], .int .i64 (l0_0.length : Int)] ?_; (with_reducible refine (samphireref09_Num.calls k t333 t334 (l0_0.length : Int) t336 t337 _ A5.out).mono ?_); rintro e w15 ⟨rfl, hb⟩; refine ⟨_, rfl, ?_⟩; replace BK331 := Aside0.mk (blk_below (g := gb331) (o := .cells #[.slice A0_0 l0_0.length c0_0, .slice A0_1 l0_1.length c0_1, .int .i64 a0_2, .int .i64 a0_3] 37 (0, 0)) Qk hb); replace BK335 := Aside0.mk (blk_below (g := gb335) (o := .cells #[.string t333, .bool t334] 60 (0, 0)) Qk hb); replace HB := Qy hb; (try clear hb); (try clear hb2); (try clear hk); (try clear hi); obtain ⟨y16_0, y16_1, v16_0, v16_1⟩ := Z2 BK335.out))
   go_loopg [5] k (fun kq v5 w' => ∃ (x5_1 : Int) (x336000_1 : ByteArray) (x336001_1 : Bool), v5 = .int .i64 x5_1 ∧ Aside0 (samphireref13_Put.l0 kq x5_1 l0_0 l0_1 a0_2 a0_3 x336000_1 x336001_1 = some (r1, r2)) ∧ Aside0 (kq ≤ k) ∧ Aside0 (w'.heap[gb331]? = some (.cells #[(.slice A0_0 l0_0.length c0_0), (.slice A0_1 l0_1.length c0_1), .int .i64 a0_2, .int .i64 a0_3] 37 (0, 0))) ∧ Aside0 (w'.heap[gb335]? = some (.cells #[.string x336000_1, .bool x336001_1] 60 (0, 0))) ∧ Aside0 (Below w.heap.size w w'))
   case atStart => exact ⟨(0), (t336), (t337), (by first | rfl | (simp; done) | (simp [*]; done)), H', ⟨Nat.le_refl _⟩, ⟨Qk⟩, ⟨Qk⟩, ⟨Qh⟩⟩
   case round =>
    clear H'
    try clear c1
    try clear p2
    try clear c3
    try clear c4
    try clear c12
    try clear c16
    try clear y13_0 y13_1
    try clear y14_0 y14_1 y14_2 y14_3
    try clear y16_0 y16_1
    try clear y7_0 y7_1 y7_2 y7_3
    try clear y9_0 y9_1 y9_2 y9_3
    try clear v13_0 v13_1
    try clear v14_0 v14_1 v14_2 v14_3
    try clear v16_0 v16_1
    try clear v7_0 v7_1 v7_2 v7_3
    try clear v9_0 v9_1 v9_2 v9_3
    obtain ⟨x5_1, x336000_1, x336001_1, rfl, HA, HK1, BK331, BK335, HB⟩ := hrel
    cases gk with
    | zero => exact absurd HA.out (by simp [samphireref13_Put.l0])
    | succ k1 =>
     have H := HA.out
     clear HA
     simp only [samphireref13_Put.l0] at H
     by_cases c17 : x5_1 < (l0_0.length : Int)
     · rw [if_pos c17] at H
       have c17b0 : decide (x5_1 < (l0_0.length : Int)) = true := decide_eq_true c17
       clear c17
       by_cases c18 : 0 ≤ x5_1
       · rw [if_pos c18] at H
         have c18b0 : decide (0 ≤ x5_1) = true := decide_eq_true c18
         clear c18
         replace H := Option.bind_eq_some_iff.mp H
         obtain ⟨⟨t340, t341⟩, A190, H⟩ := H
         replace H : ((samphireref09_Stamp.f k1 t340 t341 ((rd_T72 l0_0 x5_1).f1.f0) ((rd_T72 l0_0 x5_1).f1.f1)).bind fun bt342 => ((samphireref09_Text.f k1 bt342.1 bt342.2 ((rd_T72 l0_0 x5_1).f2)).bind fun bt344 => ((samphireref09_Text.f k1 bt344.1 bt344.2 ((rd_T72 l0_0 x5_1).f3)).bind fun bt346 => (samphireref13_Put.l0 k1 (wrap64 (x5_1 + 1)) l0_0 l0_1 a0_2 a0_3 bt346.1 bt346.2)))) = some (r1, r2) := H
         have A19 := Aside0.mk A190
         clear A190
         replace H := Option.bind_eq_some_iff.mp H
         obtain ⟨⟨t342, t343⟩, A200, H⟩ := H
         replace H : ((samphireref09_Text.f k1 t342 t343 ((rd_T72 l0_0 x5_1).f2)).bind fun bt344 => ((samphireref09_Text.f k1 bt344.1 bt344.2 ((rd_T72 l0_0 x5_1).f3)).bind fun bt346 => (samphireref13_Put.l0 k1 (wrap64 (x5_1 + 1)) l0_0 l0_1 a0_2 a0_3 bt346.1 bt346.2))) = some (r1, r2) := H
         have A20 := Aside0.mk A200
         clear A200
         replace H := Option.bind_eq_some_iff.mp H
         obtain ⟨⟨t344, t345⟩, A210, H⟩ := H
         replace H : ((samphireref09_Text.f k1 t344 t345 ((rd_T72 l0_0 x5_1).f3)).bind fun bt346 => (samphireref13_Put.l0 k1 (wrap64 (x5_1 + 1)) l0_0 l0_1 a0_2 a0_3 bt346.1 bt346.2)) = some (r1, r2) := H
         have A21 := Aside0.mk A210
         clear A210
         replace H := Option.bind_eq_some_iff.mp H
         obtain ⟨⟨t346, t347⟩, A220, H⟩ := H
         replace H : (samphireref13_Put.l0 k1 (wrap64 (x5_1 + 1)) l0_0 l0_1 a0_2 a0_3 t346 t347) = some (r1, r2) := H
         have A22 := Aside0.mk A220
         clear A220
         have H' := Aside0.mk H
         clear H
         have hnb23 := NB331_335.out
         have hnc23 := NB335_331.out
         obtain ⟨y24_0, y24_1, y24_2, y24_3, v24_0, v24_1, v24_2, v24_3⟩ := Z4 BK331.out
         have p338 : 0 ≤ (x5_1 : Int) := of_decide_eq_true (by first | (with_reducible assumption) | assumption)
         have q338 : x5_1 < (l0_0.length : Int) := of_decide_eq_true (by first | (with_reducible assumption) | assumption)
         obtain ⟨ad338, e338, hx338_0, hx338_1, hx338_2, hx338_3, hx338_4, hx338_5⟩ := at_T72 HR0_0.out x5_1 p338 q338
         cases e338
         replace hx338_0 := (HB.out.cell (World.block_lt_of_cell? w _ hx338_0)).trans hx338_0
         replace hx338_1 := (HB.out.cell (World.block_lt_of_cell? w _ hx338_1)).trans hx338_1
         replace hx338_2 := (HB.out.cell (World.block_lt_of_cell? w _ hx338_2)).trans hx338_2
         replace hx338_3 := (HB.out.cell (World.block_lt_of_cell? w _ hx338_3)).trans hx338_3
         replace hx338_4 := (HB.out.cell (World.block_lt_of_cell? w _ hx338_4)).trans hx338_4
         replace hx338_5 := (HB.out.cell (World.block_lt_of_cell? w _ hx338_5)).trans hx338_5
         replace p338 := eq_true p338
         replace q338 := eq_true q338
         go_wp2_with (first | ((with_reducible refine gate_dst (N := 6) rfl ?_); refine boxQ (N := 6) (cs := #[.int .i64 0, .int .i64 0, .int .i64 0, .int .i64 0, .string (⟨#[]⟩ : ByteArray), .string (⟨#[]⟩ : ByteArray)]) (t := 72) ?_; intro gb339 hg w25 hbox hb; have BK339 := Aside0.mk hbox; have GW339 := Qt w hg; have GE339 := GW339; have NB331_339 := Qo hg BK331; have NB339_331 := Qp hg BK331; have NB335_339 := Qo hg BK335; have NB339_335 := Qp hg BK335; replace BK331 := Qv BK331 hb; replace BK335 := Qv BK335 hb; replace HB := Qy hb; clear hb hbox hg; have hnb26 := NB339_331.out; have hnc26 := NB331_339.out; have hnb27 := NB339_335.out; have hnc27 := NB335_339.out; obtain ⟨y28_0, y28_1, y28_2, y28_3, y28_4, y28_5, v28_0, v28_1, v28_2, v28_3, v28_4, v28_5⟩ := Z6 BK339.out; obtain ⟨y29_0, y29_1, v29_0, v29_1⟩ := Z2 BK335.out) | ((with_reducible refine gate_callee (f := 42) rfl ?_); refine gL 35 Tryd.func42 #[.agg #[.string x336000_1, .bool x336001_1], .agg #[.int .i64 ((rd_T72 l0_0 x5_1).f0.f0), .int .i64 ((rd_T72 l0_0 x5_1).f0.f1)]] ?_; (with_reducible refine (samphireref09_Stamp.calls k1 x336000_1 x336001_1 ((rd_T72 l0_0 x5_1).f0.f0) ((rd_T72 l0_0 x5_1).f0.f1) t340 t341 _ A19.out).mono ?_); rintro e w30 ⟨rfl, hb⟩; refine ⟨_, rfl, ?_⟩; replace BK331 := Aside0.mk (blk_below (g := gb331) (o := .cells #[.slice (some ad338) l0_0.length c0_0, .slice A0_1 l0_1.length c0_1, .int .i64 a0_2, .int .i64 a0_3] 37 (0, 0)) Qk hb); replace BK335 := Aside0.mk (blk_below (g := gb335) (o := .cells #[.string x336000_1, .bool x336001_1] 60 (0, 0)) Qk hb); replace BK339 := Aside0.mk (blk_below (g := gb339) (o := .cells #[.int .i64 ((rd_T72 l0_0 x5_1).f0.f0), .int .i64 ((rd_T72 l0_0 x5_1).f0.f1), .int .i64 ((rd_T72 l0_0 x5_1).f1.f0), .int .i64 ((rd_T72 l0_0 x5_1).f1.f1), .string ((rd_T72 l0_0 x5_1).f2), .string ((rd_T72 l0_0 x5_1).f3)] 72 (0, 0)) Qk hb); replace HB := Qy hb; (try clear hb); (try clear hb2); (try clear hk); (try clear hi); obtain ⟨y31_0, y31_1, v31_0, v31_1⟩ := Z2 BK335.out; have y32_0 : w30.cell? ⟨gb339, 0, none⟩ = some (.int .i64 ((rd_T72 l0_0 x5_1).f0.f0)) := (blk_cell BK339.out 0).trans rfl; have y32_1 : w30.cell? ⟨gb339, 1, none⟩ = some (.int .i64 ((rd_T72 l0_0 x5_1).f0.f1)) := (blk_cell BK339.out 1).trans rfl; have y32_2 : w30.cell? ⟨gb339, 2, none⟩ = some (.int .i64 ((rd_T72 l0_0 x5_1).f1.f0)) := (blk_cell BK339.out 2).trans rfl; have y32_3 : w30.cell? ⟨gb339, 3, none⟩ = some (.int .i64 ((rd_T72 l0_0 x5_1).f1.f1)) := (blk_cell BK339.out 3).trans rfl; have y32_4 : w30.cell? ⟨gb339, 4, none⟩ = some (.string ((rd_T72 l0_0 x5_1).f2)) := (blk_cell BK339.out 4).trans rfl; have y32_5 : w30.cell? ⟨gb339, 5, none⟩ = some (.string ((rd_T72 l0_0 x5_1).f3)) := (blk_cell BK339.out 5).trans rfl; have v32_0 := blk_frozen BK339.out 0; have v32_1 := blk_frozen BK339.out 1; have v32_2 := blk_frozen BK339.out 2; have v32_3 := blk_frozen BK339.out 3; have v32_4 := blk_frozen BK339.out 4; have v32_5 := blk_frozen BK339.out 5) | ((with_reducible refine gate_callee (f := 42) rfl ?_); refine gL 39 Tryd.func42 #[.agg #[.string t340, .bool t341], .agg #[.int .i64 ((rd_T72 l0_0 x5_1).f1.f0), .int .i64 ((rd_T72 l0_0 x5_1).f1.f1)]] ?_; (with_reducible refine (samphireref09_Stamp.calls k1 t340 t341 ((rd_T72 l0_0 x5_1).f1.f0) ((rd_T72 l0_0 x5_1).f1.f1) t342 t343 _ A20.out).mono ?_); rintro e w33 ⟨rfl, hb⟩; refine ⟨_, rfl, ?_⟩; replace BK331 := Aside0.mk (blk_below (g := gb331) (o := .cells #[.slice (some ad338) l0_0.length c0_0, .slice A0_1 l0_1.length c0_1, .int .i64 a0_2, .int .i64 a0_3] 37 (0, 0)) Qk hb); replace BK335 := Aside0.mk (blk_below (g := gb335) (o := .cells #[.string t340, .bool t341] 60 (0, 0)) Qk hb); replace BK339 := Aside0.mk (blk_below (g := gb339) (o := .cells #[.int .i64 ((rd_T72 l0_0 x5_1).f0.f0), .int .i64 ((rd_T72 l0_0 x5_1).f0.f1), .int .i64 ((rd_T72 l0_0 x5_1).f1.f0), .int .i64 ((rd_T72 l0_0 x5_1).f1.f1), .string ((rd_T72 l0_0 x5_1).f2), .string ((rd_T72 l0_0 x5_1).f3)] 72 (0, 0)) Qk hb); replace HB := Qy hb; (try clear hb); (try clear hb2); (try clear hk); (try clear hi); obtain ⟨y34_0, y34_1, v34_0, v34_1⟩ := Z2 BK335.out; have y35_0 : w33.cell? ⟨gb339, 0, none⟩ = some (.int .i64 ((rd_T72 l0_0 x5_1).f0.f0)) := (blk_cell BK339.out 0).trans rfl; have y35_1 : w33.cell? ⟨gb339, 1, none⟩ = some (.int .i64 ((rd_T72 l0_0 x5_1).f0.f1)) := (blk_cell BK339.out 1).trans rfl; have y35_2 : w33.cell? ⟨gb339, 2, none⟩ = some (.int .i64 ((rd_T72 l0_0 x5_1).f1.f0)) := (blk_cell BK339.out 2).trans rfl; have y35_3 : w33.cell? ⟨gb339, 3, none⟩ = some (.int .i64 ((rd_T72 l0_0 x5_1).f1.f1)) := (blk_cell BK339.out 3).trans rfl; have y35_4 : w33.cell? ⟨gb339, 4, none⟩ = some (.string ((rd_T72 l0_0 x5_1).f2)) := (blk_cell BK339.out 4).trans rfl; have y35_5 : w33.cell? ⟨gb339, 5, none⟩ = some (.string ((rd_T72 l0_0 x5_1).f3)) := (blk_cell BK339.out 5).trans rfl; have v35_0 := blk_frozen BK339.out 0; have v35_1 := blk_frozen BK339.out 1; have v35_2 := blk_frozen BK339.out 2; have v35_3 := blk_frozen BK339.out 3; have v35_4 := blk_frozen BK339.out 4; have v35_5 := blk_frozen BK339.out 5) | ((with_reducible refine gate_callee (f := 44) rfl ?_); refine gL 43 Tryd.func44 #[.agg #[.string t342, .bool t343], .string ((rd_T72 l0_0 x5_1).f2)] ?_; (with_reducible refine (samphireref09_Text.calls k1 t342 t343 ((rd_T72 l0_0 x5_1).f2) t344 t345 _ A21.out).mono ?_); rintro e w36 ⟨rfl, hb⟩; refine ⟨_, rfl, ?_⟩; replace BK331 := Aside0.mk (blk_below (g := gb331) (o := .cells #[.slice (some ad338) l0_0.length c0_0, .slice A0_1 l0_1.length c0_1, .int .i64 a0_2, .int .i64 a0_3] 37 (0, 0)) Qk hb); replace BK335 := Aside0.mk (blk_below (g := gb335) (o := .cells #[.string t342, .bool t343] 60 (0, 0)) Qk hb); replace BK339 := Aside0.mk (blk_below (g := gb339) (o := .cells #[.int .i64 ((rd_T72 l0_0 x5_1).f0.f0), .int .i64 ((rd_T72 l0_0 x5_1).f0.f1), .int .i64 ((rd_T72 l0_0 x5_1).f1.f0), .int .i64 ((rd_T72 l0_0 x5_1).f1.f1), .string ((rd_T72 l0_0 x5_1).f2), .string ((rd_T72 l0_0 x5_1).f3)] 72 (0, 0)) Qk hb); replace HB := Qy hb; (try clear hb); (try clear hb2); (try clear hk); (try clear hi); obtain ⟨y37_0, y37_1, v37_0, v37_1⟩ := Z2 BK335.out; have y38_0 : w36.cell? ⟨gb339, 0, none⟩ = some (.int .i64 ((rd_T72 l0_0 x5_1).f0.f0)) := (blk_cell BK339.out 0).trans rfl; have y38_1 : w36.cell? ⟨gb339, 1, none⟩ = some (.int .i64 ((rd_T72 l0_0 x5_1).f0.f1)) := (blk_cell BK339.out 1).trans rfl; have y38_2 : w36.cell? ⟨gb339, 2, none⟩ = some (.int .i64 ((rd_T72 l0_0 x5_1).f1.f0)) := (blk_cell BK339.out 2).trans rfl; have y38_3 : w36.cell? ⟨gb339, 3, none⟩ = some (.int .i64 ((rd_T72 l0_0 x5_1).f1.f1)) := (blk_cell BK339.out 3).trans rfl; have y38_4 : w36.cell? ⟨gb339, 4, none⟩ = some (.string ((rd_T72 l0_0 x5_1).f2)) := (blk_cell BK339.out 4).trans rfl; have y38_5 : w36.cell? ⟨gb339, 5, none⟩ = some (.string ((rd_T72 l0_0 x5_1).f3)) := (blk_cell BK339.out 5).trans rfl; have v38_0 := blk_frozen BK339.out 0; have v38_1 := blk_frozen BK339.out 1; have v38_2 := blk_frozen BK339.out 2; have v38_3 := blk_frozen BK339.out 3; have v38_4 := blk_frozen BK339.out 4; have v38_5 := blk_frozen BK339.out 5) | ((with_reducible refine gate_callee (f := 44) rfl ?_); refine gL 47 Tryd.func44 #[.agg #[.string t344, .bool t345], .string ((rd_T72 l0_0 x5_1).f3)] ?_; (with_reducible refine (samphireref09_Text.calls k1 t344 t345 ((rd_T72 l0_0 x5_1).f3) t346 t347 _ A22.out).mono ?_); rintro e w39 ⟨rfl, hb⟩; refine ⟨_, rfl, ?_⟩; replace BK331 := Aside0.mk (blk_below (g := gb331) (o := .cells #[.slice (some ad338) l0_0.length c0_0, .slice A0_1 l0_1.length c0_1, .int .i64 a0_2, .int .i64 a0_3] 37 (0, 0)) Qk hb); replace BK335 := Aside0.mk (blk_below (g := gb335) (o := .cells #[.string t344, .bool t345] 60 (0, 0)) Qk hb); replace BK339 := Aside0.mk (blk_below (g := gb339) (o := .cells #[.int .i64 ((rd_T72 l0_0 x5_1).f0.f0), .int .i64 ((rd_T72 l0_0 x5_1).f0.f1), .int .i64 ((rd_T72 l0_0 x5_1).f1.f0), .int .i64 ((rd_T72 l0_0 x5_1).f1.f1), .string ((rd_T72 l0_0 x5_1).f2), .string ((rd_T72 l0_0 x5_1).f3)] 72 (0, 0)) Qk hb); replace HB := Qy hb; (try clear hb); (try clear hb2); (try clear hk); (try clear hi); obtain ⟨y40_0, y40_1, v40_0, v40_1⟩ := Z2 BK335.out))
         go_roundg k1
         case measure => have := HK1.out; omega
         case rel => exact ⟨(wrap64 (x5_1 + 1)), (t346), (t347), (by first | rfl | (simp; done) | (simp [*]; done)), H', ⟨by have := HK1.out; omega⟩, ⟨Qk⟩, ⟨Qk⟩, ⟨Qh⟩⟩
       · rw [if_neg c18] at H
         exact absurd H (by simp)
     · rw [if_neg c17] at H
       have c17b0 : decide (x5_1 < (l0_0.length : Int)) = false := decide_eq_false c17
       clear c17
       replace H := Option.bind_eq_some_iff.mp H
       obtain ⟨⟨t348, t349⟩, A410, H⟩ := H
       replace H : (samphireref13_Put.l1 k1 0 l0_0 l0_1 a0_2 a0_3 t348 t349) = some (r1, r2) := H
       have A41 := Aside0.mk A410
       clear A410
       have H' := Aside0.mk H
       clear H
       have hnb42 := NB331_335.out
       have hnc42 := NB335_331.out
       obtain ⟨y43_0, y43_1, y43_2, y43_3, v43_0, v43_1, v43_2, v43_3⟩ := Z4 BK331.out
       obtain ⟨y44_0, y44_1, v44_0, v44_1⟩ := Z2 BK335.out
       go_wp2_with (first | ((with_reducible refine gate_callee (f := 43) rfl ?_); refine gL 52 Tryd.func43 #[.agg #[.string x336000_1, .bool x336001_1], .int .i64 (l0_1.length : Int)] ?_; (with_reducible refine (samphireref09_Num.calls k1 x336000_1 x336001_1 (l0_1.length : Int) t348 t349 _ A41.out).mono ?_); rintro e w45 ⟨rfl, hb⟩; refine ⟨_, rfl, ?_⟩; replace BK331 := Qv BK331 hb; replace BK335 := Qv BK335 hb; replace HB := Qy hb; (try clear hb); (try clear hb2); (try clear hk); (try clear hi); obtain ⟨y46_0, y46_1, v46_0, v46_1⟩ := Z2 BK335.out))
       go_loopg [7] k1 (fun kq v7 w' => ∃ (x7_2 : Int) (x336000_2 : ByteArray) (x336001_2 : Bool), v7 = .int .i64 x7_2 ∧ Aside0 (samphireref13_Put.l1 kq x7_2 l0_0 l0_1 a0_2 a0_3 x336000_2 x336001_2 = some (r1, r2)) ∧ Aside0 (kq ≤ k1) ∧ Aside0 (w'.heap[gb331]? = some (.cells #[(.slice A0_0 l0_0.length c0_0), (.slice A0_1 l0_1.length c0_1), .int .i64 a0_2, .int .i64 a0_3] 37 (0, 0))) ∧ Aside0 (w'.heap[gb335]? = some (.cells #[.string x336000_2, .bool x336001_2] 60 (0, 0))) ∧ Aside0 (Below w.heap.size w w'))
       case atStart => exact ⟨(0), (t348), (t349), (by first | rfl | (simp; done) | (simp [*]; done)), H', ⟨Nat.le_refl _⟩, ⟨Qk⟩, ⟨Qk⟩, ⟨Qh⟩⟩
       case round =>
        clear H'
        try clear c1
        try clear c2
        try clear p2
        try clear c3
        try clear p3
        try clear q3
        try clear hx3
        try clear c4
        try clear p6
        try clear c12
        try clear c16
        try clear c17
        try clear c17b0
        try clear c18
        try clear c18b0
        try clear c23
        try clear c26
        try clear c27
        try clear p33
        try clear q33
        try clear hx33
        try clear c41
        try clear c42
        try clear c43
        try clear c44
        try clear y13_0 y13_1
        try clear y14_0 y14_1 y14_2 y14_3
        try clear y16_0 y16_1
        try clear y24_0 y24_1 y24_2 y24_3
        try clear y28_0 y28_1 y28_2 y28_3 y28_4 y28_5
        try clear y29_0 y29_1
        try clear y31_0 y31_1
        try clear y32_0 y32_1 y32_2 y32_3 y32_4 y32_5
        try clear y34_0 y34_1
        try clear y35_0 y35_1 y35_2 y35_3 y35_4 y35_5
        try clear y37_0 y37_1
        try clear y38_0 y38_1 y38_2 y38_3 y38_4 y38_5
        try clear y40_0 y40_1
        try clear y43_0 y43_1 y43_2 y43_3
        try clear y44_0 y44_1
        try clear y46_0 y46_1
        try clear y7_0 y7_1 y7_2 y7_3
        try clear y9_0 y9_1 y9_2 y9_3
        try clear v13_0 v13_1
        try clear v14_0 v14_1 v14_2 v14_3
        try clear v16_0 v16_1
        try clear v24_0 v24_1 v24_2 v24_3
        try clear v28_0 v28_1 v28_2 v28_3 v28_4 v28_5
        try clear v29_0 v29_1
        try clear v31_0 v31_1
        try clear v32_0 v32_1 v32_2 v32_3 v32_4 v32_5
        try clear v34_0 v34_1
        try clear v35_0 v35_1 v35_2 v35_3 v35_4 v35_5
        try clear v37_0 v37_1
        try clear v38_0 v38_1 v38_2 v38_3 v38_4 v38_5
        try clear v40_0 v40_1
        try clear v43_0 v43_1 v43_2 v43_3
        try clear v44_0 v44_1
        try clear v46_0 v46_1
        try clear v7_0 v7_1 v7_2 v7_3
        try clear v9_0 v9_1 v9_2 v9_3
        try clear hx338_0
        try clear hx338_1
        try clear hx338_2
        try clear hx338_3
        try clear hx338_4
        try clear hx338_5
        try clear p2
        try clear p338
        try clear q338
        obtain ⟨x7_2, x336000_2, x336001_2, rfl, HA, HK2, BK331, BK335, HB⟩ := hrel
        cases gk with
        | zero => exact absurd HA.out (by simp [samphireref13_Put.l1])
        | succ k2 =>
         have H := HA.out
         clear HA
         simp only [samphireref13_Put.l1] at H
         by_cases c47 : x7_2 < (l0_1.length : Int)
         · rw [if_pos c47] at H
           have c47b0 : decide (x7_2 < (l0_1.length : Int)) = true := decide_eq_true c47
           clear c47
           by_cases c48 : 0 ≤ x7_2
           · rw [if_pos c48] at H
             have c48b0 : decide (0 ≤ x7_2) = true := decide_eq_true c48
             clear c48
             replace H := Option.bind_eq_some_iff.mp H
             obtain ⟨⟨t351, t352⟩, A490, H⟩ := H
             replace H : (samphireref13_Put.l1 k2 (wrap64 (x7_2 + 1)) l0_0 l0_1 a0_2 a0_3 t351 t352) = some (r1, r2) := H
             have A49 := Aside0.mk A490
             clear A490
             have H' := Aside0.mk H
             clear H
             have hnb50 := NB331_335.out
             have hnc50 := NB335_331.out
             obtain ⟨y51_0, y51_1, y51_2, y51_3, v51_0, v51_1, v51_2, v51_3⟩ := Z4 BK331.out
             try go_wp2
             have n0_ := Aside0.mk (blk_drew BK331.out)
             have n1_ := Aside0.mk (blk_drew BK335.out)
             have n2_ := Aside0.mk (below_drew1 HB.out)
             clear BK331
             clear BK335
             clear HB
             have BK331 := n0_
             have BK335 := n1_
             have HB := n2_
             clear n0_ n1_ n2_
             have p350 : 0 ≤ (x7_2 : Int) := of_decide_eq_true (by first | (with_reducible assumption) | assumption)
             have q350 : x7_2 < (l0_1.length : Int) := of_decide_eq_true (by first | (with_reducible assumption) | assumption)
             obtain ⟨ad350, e350, hx350_0, hx350_1, hx350_2, hx350_3, hx350_4, hx350_5, hx350_6, hx350_7, hx350_8⟩ := at_T25 HR0_1.out x7_2 p350 q350
             have hw350_8 := hx350_8
             have hw350_7 := hx350_7
             have hw350_6 := hx350_6
             have hw350_5 := hx350_5
             have hw350_4 := hx350_4
             have hw350_3 := hx350_3
             have hw350_2 := hx350_2
             have hw350_1 := hx350_1
             have hw350_0 := hx350_0
             cases e350
             replace hx350_0 := (HB.out.cell (World.block_lt_of_cell? w _ hx350_0)).trans hx350_0
             replace hx350_1 := (HB.out.cell (World.block_lt_of_cell? w _ hx350_1)).trans hx350_1
             replace hx350_2 := (HB.out.cell (World.block_lt_of_cell? w _ hx350_2)).trans hx350_2
             replace hx350_3 := (HB.out.cell (World.block_lt_of_cell? w _ hx350_3)).trans hx350_3
             replace hx350_4 := (HB.out.cell (World.block_lt_of_cell? w _ hx350_4)).trans hx350_4
             replace hx350_5 := (HB.out.cell (World.block_lt_of_cell? w _ hx350_5)).trans hx350_5
             replace hx350_6 := (HB.out.cell (World.block_lt_of_cell? w _ hx350_6)).trans hx350_6
             replace hx350_7 := (HB.out.cell (World.block_lt_of_cell? w _ hx350_7)).trans hx350_7
             replace hx350_8 := (HB.out.cell (World.block_lt_of_cell? w _ hx350_8)).trans hx350_8
             replace p350 := eq_true p350
             replace q350 := eq_true q350
             refine start_ (n := 8) (S := fun w' => w'.cell? ⟨gb335, 0, none⟩ = some (.string x336000_2) ∧ w'.cell? ⟨gb335, 1, none⟩ = some (.bool x336001_2) ∧ w'.cell? ⟨gb331, 0, none⟩ = some (.slice A0_0 l0_0.length c0_0) ∧ w'.cell? ⟨gb331, 1, none⟩ = some (.slice (some ad350) l0_1.length c0_1) ∧ w'.cell? ⟨gb331, 2, none⟩ = some (.int .i64 a0_2) ∧ w'.cell? ⟨gb331, 3, none⟩ = some (.int .i64 a0_3) ∧ w'.cell? (ad350.add ((x7_2).toNat * 9)) = some (.int .i64 ((rd_T25 l0_1 x7_2).f0)) ∧ w'.cell? ⟨(ad350.add ((x7_2).toNat * 9)).block, (ad350.add ((x7_2).toNat * 9)).off + 1, none⟩ = some (.int .i64 ((rd_T25 l0_1 x7_2).f1.f0)) ∧ w'.cell? ⟨(ad350.add ((x7_2).toNat * 9)).block, (ad350.add ((x7_2).toNat * 9)).off + 2, none⟩ = some (.int .i64 ((rd_T25 l0_1 x7_2).f1.f1)) ∧ w'.cell? ⟨(ad350.add ((x7_2).toNat * 9)).block, (ad350.add ((x7_2).toNat * 9)).off + 3, none⟩ = some (.int .i64 ((rd_T25 l0_1 x7_2).f2.f0)) ∧ w'.cell? ⟨(ad350.add ((x7_2).toNat * 9)).block, (ad350.add ((x7_2).toNat * 9)).off + 4, none⟩ = some (.int .i64 ((rd_T25 l0_1 x7_2).f2.f1)) ∧ w'.cell? ⟨(ad350.add ((x7_2).toNat * 9)).block, (ad350.add ((x7_2).toNat * 9)).off + 5, none⟩ = some (.int .i64 ((rd_T25 l0_1 x7_2).f3.f0)) ∧ w'.cell? ⟨(ad350.add ((x7_2).toNat * 9)).block, (ad350.add ((x7_2).toNat * 9)).off + 6, none⟩ = some (.int .i64 ((rd_T25 l0_1 x7_2).f3.f1)) ∧ w'.cell? ⟨(ad350.add ((x7_2).toNat * 9)).block, (ad350.add ((x7_2).toNat * 9)).off + 7, none⟩ = some (.string ((rd_T25 l0_1 x7_2).f4)) ∧ w'.cell? ⟨(ad350.add ((x7_2).toNat * 9)).block, (ad350.add ((x7_2).toNat * 9)).off + 8, none⟩ = some (.string ((rd_T25 l0_1 x7_2).f5))) (ds := [7]) (mb 8 0) (by kernel_rfl) rfl (by kernel_rfl) ⟨(blk_cell BK335.out 0).trans rfl, (blk_cell BK335.out 1).trans rfl, (blk_cell BK331.out 0).trans rfl, (blk_cell BK331.out 1).trans rfl, (blk_cell BK331.out 2).trans rfl, (blk_cell BK331.out 3).trans rfl, ((HB.out.cell (World.block_lt_of_cell? w _ hw350_0)).trans hw350_0), ((HB.out.cell (World.block_lt_of_cell? w _ hw350_1)).trans hw350_1), ((HB.out.cell (World.block_lt_of_cell? w _ hw350_2)).trans hw350_2), ((HB.out.cell (World.block_lt_of_cell? w _ hw350_3)).trans hw350_3), ((HB.out.cell (World.block_lt_of_cell? w _ hw350_4)).trans hw350_4), ((HB.out.cell (World.block_lt_of_cell? w _ hw350_5)).trans hw350_5), ((HB.out.cell (World.block_lt_of_cell? w _ hw350_6)).trans hw350_6), ((HB.out.cell (World.block_lt_of_cell? w _ hw350_7)).trans hw350_7), ((HB.out.cell (World.block_lt_of_cell? w _ hw350_8)).trans hw350_8)⟩ (fun hHeld => ?_); refine with_tabW samphireref13_Put.tab17 samphireref13_Put.bits17 (fun HT_ HW_ => ?_)
             generalize wr.drew = w52 at BK331 BK335 HB hx350_0 hx350_1 hx350_2 hx350_3 hx350_4 hx350_5 hx350_6 hx350_7 hx350_8 hHeld ⊢
             refine pu 1 61 (mb 8 2) HT_ ?_
             refine pu 3 63 (mb 8 10) HT_ ?_
             refine tk 0 60 (mb 8 11) HT_ HW_ hHeld ?_
             refine tk 2 62 (mb 8 15) HT_ HW_ hHeld ?_
             refine pu 4 64 (mb 8 31) HT_ ?_
             refine tk 5 65 (mb 8 63) HT_ HW_ hHeld ?_
             refine on 6 (some 66) (mb 8 127) HT_ (fun K hK => ?_)
             refine goes_ Tryd.func28 (by kernel_rfl) rfl #[.agg #[.string x336000_2, .bool x336001_2], .agg #[.int .i64 ((rd_T25 l0_1 x7_2).f0), .int .i64 ((rd_T25 l0_1 x7_2).f1.f0), .int .i64 ((rd_T25 l0_1 x7_2).f1.f1), .int .i64 ((rd_T25 l0_1 x7_2).f2.f0), .int .i64 ((rd_T25 l0_1 x7_2).f2.f1), .int .i64 ((rd_T25 l0_1 x7_2).f3.f0), .int .i64 ((rd_T25 l0_1 x7_2).f3.f1), .string ((rd_T25 l0_1 x7_2).f4), .string ((rd_T25 l0_1 x7_2).f5)]] (by rfl) rfl rfl Qm ?_
             with_reducible refine (samphireref13_op.calls k2 x336000_2 x336001_2 ((rd_T25 l0_1 x7_2).f0) ((rd_T25 l0_1 x7_2).f1.f0) ((rd_T25 l0_1 x7_2).f1.f1) ((rd_T25 l0_1 x7_2).f2.f0) ((rd_T25 l0_1 x7_2).f2.f1) ((rd_T25 l0_1 x7_2).f3.f0) ((rd_T25 l0_1 x7_2).f3.f1) ((rd_T25 l0_1 x7_2).f4) ((rd_T25 l0_1 x7_2).f5) t351 t352 _ A49.out).mono ?_
             rintro e w53 ⟨rfl, hb⟩
             refine ⟨_, rfl, ?_⟩
             have n0_ := Aside0.mk (Qb BK331 hb)
             have n1_ := Aside0.mk (Qb BK335 hb)
             have n2_ := Aside0.mk (below_step Qh hb)
             clear BK331
             clear BK335
             clear HB
             have BK331 := n0_
             have BK335 := n1_
             have HB := n2_
             clear n0_ n1_ n2_
             (try clear hb)
             (try clear hb2)
             (try clear hk)
             (try clear hi)
             refine hK.out _ _ ⟨(blk_cell BK335.out 0).trans rfl, (blk_cell BK335.out 1).trans rfl, (blk_cell BK331.out 0).trans rfl, (blk_cell BK331.out 1).trans rfl, (blk_cell BK331.out 2).trans rfl, (blk_cell BK331.out 3).trans rfl, ((HB.out.cell (World.block_lt_of_cell? w _ hw350_0)).trans hw350_0), ((HB.out.cell (World.block_lt_of_cell? w _ hw350_1)).trans hw350_1), ((HB.out.cell (World.block_lt_of_cell? w _ hw350_2)).trans hw350_2), ((HB.out.cell (World.block_lt_of_cell? w _ hw350_3)).trans hw350_3), ((HB.out.cell (World.block_lt_of_cell? w _ hw350_4)).trans hw350_4), ((HB.out.cell (World.block_lt_of_cell? w _ hw350_5)).trans hw350_5), ((HB.out.cell (World.block_lt_of_cell? w _ hw350_6)).trans hw350_6), ((HB.out.cell (World.block_lt_of_cell? w _ hw350_7)).trans hw350_7), ((HB.out.cell (World.block_lt_of_cell? w _ hw350_8)).trans hw350_8)⟩ (fun hHeld => ?_)
             clear hK K
             refine nm _ ?_
             refine last_ (i := 7) (N := none) (mb 8 255) rfl rfl (one_of HT_.out (by kernel_rfl)) (by decide) (fun K hK => ?_)
             have hs54 : w53.cell? ⟨gb335, 0, none⟩ = some (.string x336000_2) := (blk_cell BK335.out 0).trans rfl
             have hfs54 := blk_frozen BK335.out 0
             have hns54_0 := NB331_335.out
             have hms54_0 := NB335_331.out
             have hs55 : w53.cell? ⟨gb335, 1, none⟩ = some (.bool x336001_2) := (blk_cell BK335.out 1).trans rfl
             have hfs55 := blk_frozen BK335.out 1
             have hns55_0 := NB331_335.out
             have hms55_0 := NB335_331.out
             refine skip_ (w1 := ?_) (by rfl) rfl ?_ ?_
             rotate_left
             · go_simp
               rfl
             refine hK.out _ _ ?_
             clear hK K
             refine dn HT_ ?_
             try go_wp2
             go_roundg k2
             case measure => have := HK1.out; have := HK2.out; omega
             case rel => exact ⟨(wrap64 (x7_2 + 1)), (t351), (t352), (by first | rfl | (simp; done) | (simp [*]; done)), H', ⟨by have := HK1.out; have := HK2.out; omega⟩, ⟨Qk⟩, ⟨Qk⟩, ⟨Qh⟩⟩
           · rw [if_neg c48] at H
             exact absurd H (by simp)
         · rw [if_neg c47] at H
           have c47b0 : decide (x7_2 < (l0_1.length : Int)) = false := decide_eq_false c47
           clear c47
           replace H := Option.bind_eq_some_iff.mp H
           obtain ⟨⟨t353, t354⟩, A560, H⟩ := H
           replace H : (some (t353, t354)) = some (r1, r2) := H
           have A56 := Aside0.mk A560
           clear A560
           simp only [Option.some.injEq, Prod.mk.injEq] at H
           obtain ⟨rfl, rfl⟩ := H
           have hnb57 := NB331_335.out
           have hnc57 := NB335_331.out
           obtain ⟨y58_0, y58_1, y58_2, y58_3, v58_0, v58_1, v58_2, v58_3⟩ := Z4 BK331.out
           obtain ⟨y59_0, y59_1, v59_0, v59_1⟩ := Z2 BK335.out
           go_wp2_with (first | ((with_reducible refine gate_callee (f := 27) rfl ?_); refine gL 68 Tryd.func27 #[.agg #[.string x336000_2, .bool x336001_2]] ?_; (with_reducible refine (samphireref09_Done.calls x336000_2 x336001_2 t353 t354 _ A56.out).mono ?_); rintro e w60 ⟨rfl, hb⟩; refine ⟨_, rfl, ?_⟩; replace BK331 := Qv BK331 hb; replace BK335 := Qv BK335 hb; replace HB := Qy hb; (try clear hb); (try clear hb2); (try clear hk); (try clear hi)))
           go_ret2
           exact ⟨Qe, Qh⟩
 · replace c3 := Bool.eq_false_iff.mpr c3
   subst c3
   have H1 : (some ((⟨#[]⟩ : ByteArray), 1)) = some (r1, r2) := by rw [if_neg (show ¬ (false = true) by decide)] at H; exact H
   clear H
   have H := H1
   clear H1
   simp only [Option.some.injEq, Prod.mk.injEq] at H
   obtain ⟨rfl, rfl⟩ := H
   go_enter Tryd.func16, Tryd.ntmps16
   go_wp2_with (first | ((with_reducible refine gate_dst (N := 1) rfl ?_); refine boxQ (N := 1) (cs := #[.slice A0_0 l0_0.length c0_0, .slice A0_1 l0_1.length c0_1, .int .i64 a0_2, .int .i64 a0_3]) (t := 37) ?_; intro gb331 hg w61 hbox hb; have BK331 := Aside0.mk hbox; have GW331 := Qt w hg; have GE331 := GW331; replace HB := Qy hb; clear hb hbox hg; obtain ⟨y62_0, y62_1, y62_2, y62_3, v62_0, v62_1, v62_2, v62_3⟩ := Z4 BK331.out) | ((with_reducible refine gate_callee (f := 41) rfl ?_); refine gL 9 Tryd.func41 #[.agg #[.slice A0_0 l0_0.length c0_0, .slice A0_1 l0_1.length c0_1, .int .i64 a0_2, .int .i64 a0_3]] ?_; (with_reducible refine (samphireref13_may.calls _ _ l0_0 _ _ l0_1 a0_2 a0_3 false _ ?side1 ?side2 ?side3 ?side4 A2.out).mono ?_); (case side1 => repeat (first | exact (Kd.C_below HR0_0.out HB.out) | (with_reducible refine Kd.C_alloc ?_ _) | (with_reducible refine Kd.C_drewN ?_ _) | (with_reducible refine Kd.C_drew ?_))); (case side2 => exact HC0_0.out); (case side3 => repeat (first | exact (Kd.C_below HR0_1.out HB.out) | (with_reducible refine Kd.C_alloc ?_ _) | (with_reducible refine Kd.C_drewN ?_ _) | (with_reducible refine Kd.C_drew ?_))); (case side4 => exact HC0_1.out); rintro e w63 ⟨rfl, hb⟩; refine ⟨_, rfl, ?_⟩; replace BK331 := Qv BK331 hb; replace HB := Qy hb; (try clear hb); (try clear hb2); (try clear hk); (try clear hi)))
   go_ret2
   exact ⟨Qe, Qh⟩
/-! ### samphirelaw13_SnapPuts: function 4 -/
def samphirelaw13_SnapPuts.j0 : Nat → ByteArray → Int → Bool → List (S72) → List (S25) → Int → Int → Option (Bool)
 | 0, _, _, _, _, _, _, _ => none
 | k + 1, x3, x4, x30, x356000, x356001, x356002, x356003 => if x30 = true then (some false) else (if x4 = 0 then ((snap_Take.f x3).bind fun bt362 => (if bt362.2.2.2.2 = 0 then ((samphireref13_Same.f k bt362.1 bt362.2.1 bt362.2.2.1 bt362.2.2.2.1 x356000 x356001 x356002 x356003).bind fun t372 => (if t372 = true then ((samphirelaw13_awake.f).bind fun t373 => (some t373)) else (some false))) else (some false))) else ((samphirelaw13_awake.f).bind fun t374 => (some t374)))
def samphirelaw13_SnapPuts.f (k : Nat) (l0_0 : List (S72)) (l0_1 : List (S25)) (a0_2 : Int) (a0_3 : Int) : Option (Bool) := (samphirelaw13_light.f k l0_0 l0_1 a0_2 a0_3).bind fun t356 => (if t356 = true then ((snap_Put.f l0_0 l0_1 a0_2 a0_3).bind fun bt358 => ((samphireref13_Put.f k l0_0 l0_1 a0_2 a0_3).bind fun bt360 => (if bt358.1.toList = bt360.1.toList then (samphirelaw13_SnapPuts.j0 k bt358.1 bt358.2 (bt358.2 != bt360.2) l0_0 l0_1 a0_2 a0_3) else (samphirelaw13_SnapPuts.j0 k bt358.1 bt358.2 true l0_0 l0_1 a0_2 a0_3)))) else ((samphirelaw13_awake.f).bind fun t357 => (some t357)))
set_option maxHeartbeats 8000000 in
set_option maxRecDepth 100000 in
theorem samphirelaw13_SnapPuts.calls (k : Nat) (A0_0 : Option Addr) (c0_0 : Nat) (l0_0 : List (S72)) (A0_1 : Option Addr) (c0_1 : Nat) (l0_1 : List (S25)) (a0_2 : Int) (a0_3 : Int) (r : Bool) (w : World) (hr0_0 : Kd.C k72 w A0_0 l0_0.length l0_0) (hc0_0 : l0_0.length ≤ c0_0) (hr0_1 : Kd.C k25 w A0_1 l0_1.length l0_1) (hc0_1 : l0_1.length ≤ c0_1) (h : samphirelaw13_SnapPuts.f k l0_0 l0_1 a0_2 a0_3 = some r) (hL : Laid w) :
 Calls Tryd.prog 4 #[.agg #[.slice A0_0 l0_0.length c0_0, .slice A0_1 l0_1.length c0_1, .int .i64 a0_2, .int .i64 a0_3]] w fun e w' => e = .returned (.bool r) ∧ Below w.heap.size w w' := by
 have hu37 := Tryd.underlying37
 have HR0_0 := Aside0.mk hr0_0
 have HC0_0 := Aside0.mk hc0_0
 clear hr0_0 hc0_0
 have HR0_1 := Aside0.mk hr0_1
 have HC0_1 := Aside0.mk hc0_1
 clear hr0_1 hc0_1
 have HB := Aside0.mk (Below.refl w.heap.size w)
 have H : ((samphirelaw13_light.f k l0_0 l0_1 a0_2 a0_3).bind fun t356 => (if t356 = true then ((snap_Put.f l0_0 l0_1 a0_2 a0_3).bind fun bt358 => ((samphireref13_Put.f k l0_0 l0_1 a0_2 a0_3).bind fun bt360 => (if bt358.1.toList = bt360.1.toList then (samphirelaw13_SnapPuts.j0 k bt358.1 bt358.2 (bt358.2 != bt360.2) l0_0 l0_1 a0_2 a0_3) else (samphirelaw13_SnapPuts.j0 k bt358.1 bt358.2 true l0_0 l0_1 a0_2 a0_3)))) else ((samphirelaw13_awake.f).bind fun t357 => (some t357)))) = some r := h
 clear h
 replace H := Option.bind_eq_some_iff.mp H
 obtain ⟨t356, A20, H⟩ := H
 replace H : (if t356 = true then ((snap_Put.f l0_0 l0_1 a0_2 a0_3).bind fun bt358 => ((samphireref13_Put.f k l0_0 l0_1 a0_2 a0_3).bind fun bt360 => (if bt358.1.toList = bt360.1.toList then (samphirelaw13_SnapPuts.j0 k bt358.1 bt358.2 (bt358.2 != bt360.2) l0_0 l0_1 a0_2 a0_3) else (samphirelaw13_SnapPuts.j0 k bt358.1 bt358.2 true l0_0 l0_1 a0_2 a0_3)))) else ((samphirelaw13_awake.f).bind fun t357 => (some t357))) = some r := H
 have A2 := Aside0.mk A20
 clear A20
 by_cases c3 : t356 = true
 · subst c3
   have H1 : ((snap_Put.f l0_0 l0_1 a0_2 a0_3).bind fun bt358 => ((samphireref13_Put.f k l0_0 l0_1 a0_2 a0_3).bind fun bt360 => (if bt358.1.toList = bt360.1.toList then (samphirelaw13_SnapPuts.j0 k bt358.1 bt358.2 (bt358.2 != bt360.2) l0_0 l0_1 a0_2 a0_3) else (samphirelaw13_SnapPuts.j0 k bt358.1 bt358.2 true l0_0 l0_1 a0_2 a0_3)))) = some r := by rw [if_pos rfl] at H; exact H
   clear H
   have H := H1
   clear H1
   replace H := Option.bind_eq_some_iff.mp H
   obtain ⟨⟨t358, t359⟩, A40, H⟩ := H
   replace H : ((samphireref13_Put.f k l0_0 l0_1 a0_2 a0_3).bind fun bt360 => (if t358.toList = bt360.1.toList then (samphirelaw13_SnapPuts.j0 k t358 t359 (t359 != bt360.2) l0_0 l0_1 a0_2 a0_3) else (samphirelaw13_SnapPuts.j0 k t358 t359 true l0_0 l0_1 a0_2 a0_3))) = some r := H
   have A4 := Aside0.mk A40
   clear A40
   replace H := Option.bind_eq_some_iff.mp H
   obtain ⟨⟨t360, t361⟩, A50, H⟩ := H
   replace H : (if t358.toList = t360.toList then (samphirelaw13_SnapPuts.j0 k t358 t359 (t359 != t361) l0_0 l0_1 a0_2 a0_3) else (samphirelaw13_SnapPuts.j0 k t358 t359 true l0_0 l0_1 a0_2 a0_3)) = some r := H
   have A5 := Aside0.mk A50
   clear A50
   have HC6 := Aside0.mk H
   clear H
   go_enter Tryd.func4, Tryd.ntmps4
   go_upto_region 5 with (first | ((with_reducible refine gate_dst (N := 1) rfl ?_); refine boxQ (N := 1) (cs := #[.slice A0_0 l0_0.length c0_0, .slice A0_1 l0_1.length c0_1, .int .i64 a0_2, .int .i64 a0_3]) (t := 37) ?_; intro gb355 hg w7 hbox hb; have BK355 := Aside0.mk hbox; have GW355 := Qt w hg; have GE355 := GW355; replace HB := Qy hb; clear hb hbox hg; obtain ⟨y8_0, y8_1, y8_2, y8_3, v8_0, v8_1, v8_2, v8_3⟩ := Z4 BK355.out) | ((with_reducible refine gate_callee (f := 14) rfl ?_); refine gL 10 Tryd.func14 #[.agg #[.slice A0_0 l0_0.length c0_0, .slice A0_1 l0_1.length c0_1, .int .i64 a0_2, .int .i64 a0_3]] ?_; (with_reducible refine (samphirelaw13_light.calls k _ _ l0_0 _ _ l0_1 a0_2 a0_3 true _ ?side1 ?side2 ?side3 ?side4 A2.out).mono ?_); (case side1 => repeat (first | exact (Kd.C_below HR0_0.out HB.out) | (with_reducible refine Kd.C_alloc ?_ _) | (with_reducible refine Kd.C_drewN ?_ _) | (with_reducible refine Kd.C_drew ?_))); (case side2 => exact HC0_0.out); (case side3 => repeat (first | exact (Kd.C_below HR0_1.out HB.out) | (with_reducible refine Kd.C_alloc ?_ _) | (with_reducible refine Kd.C_drewN ?_ _) | (with_reducible refine Kd.C_drew ?_))); (case side4 => exact HC0_1.out); rintro e w9 ⟨rfl, hb⟩; refine ⟨_, rfl, ?_⟩; replace BK355 := Qv BK355 hb; replace HB := Qy hb; (try clear hb); (try clear hb2); (try clear hk); (try clear hi); obtain ⟨y10_0, y10_1, y10_2, y10_3, v10_0, v10_1, v10_2, v10_3⟩ := Z4 BK355.out) | ((with_reducible refine gate_callee (f := 15) rfl ?_); refine gL 15 Tryd.func15 #[.agg #[.slice A0_0 l0_0.length c0_0, .slice A0_1 l0_1.length c0_1, .int .i64 a0_2, .int .i64 a0_3]] ?_; (with_reducible refine (snap_Put.calls _ _ l0_0 _ _ l0_1 a0_2 a0_3 t358 t359 _ ?side1 ?side2 ?side3 ?side4 A4.out (by first | assumption | exact Laid.below (by assumption) (by repeat (first | (with_reducible first | exact Aside0.out (by assumption) | apply below_alloc | apply pw_below_drewN | apply below_drew1 | refine below_set ?_ (Aside0.out (by assumption))) | exact Aside0.out (by assumption))))).mono ?_); (case side1 => repeat (first | exact (Kd.C_below HR0_0.out HB.out) | (with_reducible refine Kd.C_alloc ?_ _) | (with_reducible refine Kd.C_drewN ?_ _) | (with_reducible refine Kd.C_drew ?_))); (case side2 => exact HC0_0.out); (case side3 => repeat (first | exact (Kd.C_below HR0_1.out HB.out) | (with_reducible refine Kd.C_alloc ?_ _) | (with_reducible refine Kd.C_drewN ?_ _) | (with_reducible refine Kd.C_drew ?_))); (case side4 => exact HC0_1.out); rintro e w11 ⟨rfl, hb⟩; refine ⟨_, rfl, ?_⟩; replace BK355 := Qv BK355 hb; replace HB := Qy hb; (try clear hb); (try clear hb2); (try clear hk); (try clear hi); obtain ⟨y12_0, y12_1, y12_2, y12_3, v12_0, v12_1, v12_2, v12_3⟩ := Z4 BK355.out) | ((with_reducible refine gate_callee (f := 16) rfl ?_); refine gL 20 Tryd.func16 #[.agg #[.slice A0_0 l0_0.length c0_0, .slice A0_1 l0_1.length c0_1, .int .i64 a0_2, .int .i64 a0_3]] ?_; (with_reducible refine (samphireref13_Put.calls k _ _ l0_0 _ _ l0_1 a0_2 a0_3 t360 t361 _ ?side1 ?side2 ?side3 ?side4 A5.out).mono ?_); (case side1 => repeat (first | exact (Kd.C_below HR0_0.out HB.out) | (with_reducible refine Kd.C_alloc ?_ _) | (with_reducible refine Kd.C_drewN ?_ _) | (with_reducible refine Kd.C_drew ?_))); (case side2 => exact HC0_0.out); (case side3 => repeat (first | exact (Kd.C_below HR0_1.out HB.out) | (with_reducible refine Kd.C_alloc ?_ _) | (with_reducible refine Kd.C_drewN ?_ _) | (with_reducible refine Kd.C_drew ?_))); (case side4 => exact HC0_1.out); rintro e w13 ⟨rfl, hb⟩; refine ⟨_, rfl, ?_⟩; replace BK355 := Qv BK355 hb; replace HB := Qy hb; (try clear hb); (try clear hb2); (try clear hk); (try clear hi)))
   (try simp only [Act.put, List.setIfInBounds_toArray, List.set_cons_zero, List.set_cons_succ])
   go_cut [30] (fun v30 wc => ∃ (kq : Nat) (x30_5 : Bool), v30 = .bool x30_5 ∧ Aside0 (samphirelaw13_SnapPuts.j0 kq t358 t359 x30_5 l0_0 l0_1 a0_2 a0_3 = some r) ∧ Aside0 (kq ≤ k) ∧ Aside0 (wc.heap[gb355]? = some (.cells #[(.slice A0_0 l0_0.length c0_0), (.slice A0_1 l0_1.length c0_1), .int .i64 a0_2, .int .i64 a0_3] 37 (0, 0))) ∧ Aside0 (Below w.heap.size w wc))
   case first =>
    have H := HC6.out
    clear HC6
    by_cases c14 : t358.toList = t360.toList
    · rw [if_pos c14] at H
      have c14b0 : (t358.toList == t360.toList) = true := beq_iff_eq.mpr c14
      have c14b1 : (t358.toList != t360.toList) = false := bne_eq_false_iff_eq.mpr c14
      clear c14
      (first | rw [c14b0] | (simp only [i64_w, i32_w]; rw [c14b0]) | skip)
      have H' := Aside0.mk H
      clear H
      go_wp2
      go_meet
      case rel => exact ⟨_, ((t359 != t361)), (by first | rfl | (simp; done) | (simp [*]; done)), H', ⟨by first | omega | exact Nat.le_refl _⟩, ⟨Qk⟩, ⟨Qh⟩⟩
    · rw [if_neg c14] at H
      have c14b0 : (t358.toList == t360.toList) = false := beq_eq_false_iff_ne.mpr c14
      have c14b1 : (t358.toList != t360.toList) = true := bne_iff_ne.mpr c14
      (first | rw [c14b0] | (simp only [i64_w, i32_w]; rw [c14b0]) | skip)
      have H' := Aside0.mk H
      clear H
      go_wp2
      go_meet
      case rel => exact ⟨_, (true), (by first | rfl | (simp; done) | (simp [*]; done)), H', ⟨by first | omega | exact Nat.le_refl _⟩, ⟨Qk⟩, ⟨Qh⟩⟩
   case rest =>
    clear HC6
    try clear c1
    try clear p2
    try clear c3
    try clear c4
    try clear c14
    try clear c14b0
    try clear c14b1
    try clear y10_0 y10_1 y10_2 y10_3
    try clear y12_0 y12_1 y12_2 y12_3
    try clear y8_0 y8_1 y8_2 y8_3
    try clear v10_0 v10_1 v10_2 v10_3
    try clear v12_0 v12_1 v12_2 v12_3
    try clear v8_0 v8_1 v8_2 v8_3
    obtain ⟨kq, x30_5, rfl, HA, HJ5, BK355, HB⟩ := hcut
    cases kq with
    | zero => exact absurd HA.out (by simp [samphirelaw13_SnapPuts.j0])
    | succ kj5 =>
     have H := HA.out
     clear HA
     simp only [samphirelaw13_SnapPuts.j0] at H
     by_cases c15 : x30_5 = true
     · subst c15
       have H1 : (some false) = some r := by rw [if_pos rfl] at H; exact H
       clear H
       have H := H1
       clear H1
       obtain rfl := Option.some.inj H
       go_wp2
       go_ret
       exact ⟨Qe, Qh⟩
     · replace c15 := Bool.eq_false_iff.mpr c15
       subst c15
       have H1 : (if t359 = 0 then ((snap_Take.f t358).bind fun bt362 => (if bt362.2.2.2.2 = 0 then ((samphireref13_Same.f kj5 bt362.1 bt362.2.1 bt362.2.2.1 bt362.2.2.2.1 l0_0 l0_1 a0_2 a0_3).bind fun t372 => (if t372 = true then ((samphirelaw13_awake.f).bind fun t373 => (some t373)) else (some false))) else (some false))) else ((samphirelaw13_awake.f).bind fun t374 => (some t374))) = some r := by rw [if_neg (show ¬ (false = true) by decide)] at H; exact H
       clear H
       have H := H1
       clear H1
       by_cases c16 : t359 = 0
       · rw [if_pos c16] at H
         have c16b0 : (t359 == 0) = true := beq_iff_eq.mpr c16
         have c16b1 : (t359 != 0) = false := bne_eq_false_iff_eq.mpr c16
         clear c16
         replace H := Option.bind_eq_some_iff.mp H
         obtain ⟨⟨t362, t365, t368, t369, t370⟩, A170, H⟩ := H
         replace H : (if t370 = 0 then ((samphireref13_Same.f kj5 t362 t365 t368 t369 l0_0 l0_1 a0_2 a0_3).bind fun t372 => (if t372 = true then ((samphirelaw13_awake.f).bind fun t373 => (some t373)) else (some false))) else (some false)) = some r := H
         have A17 := Aside0.mk A170
         clear A170
         by_cases c18 : t370 = 0
         · rw [if_pos c18] at H
           have c18b0 : (t370 == 0) = true := beq_iff_eq.mpr c18
           have c18b1 : (t370 != 0) = false := bne_eq_false_iff_eq.mpr c18
           clear c18
           replace H := Option.bind_eq_some_iff.mp H
           obtain ⟨t372, A190, H⟩ := H
           replace H : (if t372 = true then ((samphirelaw13_awake.f).bind fun t373 => (some t373)) else (some false)) = some r := H
           have A19 := Aside0.mk A190
           clear A190
           by_cases c20 : t372 = true
           · subst c20
             have H1 : ((samphirelaw13_awake.f).bind fun t373 => (some t373)) = some r := by rw [if_pos rfl] at H; exact H
             clear H
             have H := H1
             clear H1
             replace H := Option.bind_eq_some_iff.mp H
             obtain ⟨t373, A210, H⟩ := H
             replace H : (some t373) = some r := H
             have A21 := Aside0.mk A210
             clear A210
             obtain rfl := Option.some.inj H
             go_wp2_with (first | ((with_reducible refine gate_callee (f := 17) rfl ?_); refine gL 36 Tryd.func17 #[.string t358] ?_; (with_reducible refine (snap_Take.calls t358 t362 t365 t368 t369 t370 _ A17.out (by first | assumption | exact Laid.below (by assumption) (by repeat (first | (with_reducible first | exact Aside0.out (by assumption) | apply below_alloc | apply pw_below_drewN | apply below_drew1 | refine below_set ?_ (Aside0.out (by assumption))) | exact Aside0.out (by assumption))))).mono ?_); rintro e w22 ⟨v363, v366, rfl, ho0, ho1, hb⟩; refine ⟨_, rfl, ?_⟩; have HO364 := Aside0.mk (Kd.R_lower ho0 (below_size Qh)); have HO367 := Aside0.mk (Kd.R_lower ho1 (below_size Qh)); replace BK355 := Qv BK355 hb; replace HB := Qy hb; (try clear hb); (try clear hb2); (try clear hk); (try clear hi); (try clear ho0); (try clear ho1)) | ((with_reducible refine gate_dst (N := 7) rfl ?_); refine boxQ (N := 7) (cs := #[.slice none 0 0, .slice none 0 0, .int .i64 0, .int .i64 0]) (t := 37) ?_; intro gb371 hg w23 hbox hb; have BK371 := Aside0.mk hbox; have GW371 := Qt w hg; have GE371 := GW371; have NB355_371 := Qo hg BK355; have NB371_355 := Qp hg BK355; replace HO364 := Aside0.mk (Kd.R_below (by (with_reducible repeat (first | apply Kd.R_alloc | apply Kd.R_drewN | apply Kd.R_drew)); exact HO364.out) hb); replace HO367 := Aside0.mk (Kd.R_below (by (with_reducible repeat (first | apply Kd.R_alloc | apply Kd.R_drewN | apply Kd.R_drew)); exact HO367.out) hb); replace BK355 := Qv BK355 hb; replace HB := Qy hb; clear hb hbox hg; obtain ⟨Ao24, co24, eo24⟩ := Kd.R_slice HO364.out; subst eo24; have hnb25 := NB371_355.out; have hnc25 := NB355_371.out; obtain ⟨y26_0, y26_1, y26_2, y26_3, v26_0, v26_1, v26_2, v26_3⟩ := Z4 BK371.out; obtain ⟨Ao27, co27, eo27⟩ := Kd.R_slice HO367.out; subst eo27; obtain ⟨y28_0, y28_1, y28_2, y28_3, v28_0, v28_1, v28_2, v28_3⟩ := Z4 BK355.out) | (go_at_call 18; (with_reducible refine (samphireref13_Same.calls kj5 _ _ t362 _ _ t365 t368 t369 _ _ l0_0 _ _ l0_1 a0_2 a0_3 true _ ?side1 ?side2 ?side3 ?side4 ?side5 ?side6 ?side7 ?side8 A19.out).mono ?_); (case side1 => refine (Kd.R_reads' (e := 72) (base := w.heap.size) (ok := fun k_ => True) (n := t362.length) (c := co24) ?_).2.2; exact (by (with_reducible repeat (first | apply Kd.R_alloc | apply Kd.R_drewN | apply Kd.R_drew)); exact (Kd.R_mono (Kd.R_far (p := ⟨gb371, 3, none⟩) (Kd.R_far (p := ⟨gb371, 2, none⟩) (Kd.R_far (p := ⟨gb371, 1, none⟩) (Kd.R_far (p := ⟨gb371, 0, none⟩) (Kd.R_types HO364.out BK371.out (by decide)) (fun _ hk => hk.2) (.slice Ao24 t362.length co24)) (fun _ hk => hk.2) (.slice Ao27 t365.length co27)) (fun _ hk => hk.2) (.int .i64 t368)) (fun _ hk => hk.2) (.int .i64 t369)) (fun _ h_ => h_.1)))); (case side2 => exact (Kd.R_reads' HO364.out).2.1); (case side3 => refine (Kd.R_reads' (e := 25) (base := w.heap.size) (ok := fun k_ => True) (n := t365.length) (c := co27) ?_).2.2; exact (by (with_reducible repeat (first | apply Kd.R_alloc | apply Kd.R_drewN | apply Kd.R_drew)); exact (Kd.R_mono (Kd.R_far (p := ⟨gb371, 3, none⟩) (Kd.R_far (p := ⟨gb371, 2, none⟩) (Kd.R_far (p := ⟨gb371, 1, none⟩) (Kd.R_far (p := ⟨gb371, 0, none⟩) (Kd.R_types HO367.out BK371.out (by decide)) (fun _ hk => hk.2) (.slice Ao24 t362.length co24)) (fun _ hk => hk.2) (.slice Ao27 t365.length co27)) (fun _ hk => hk.2) (.int .i64 t368)) (fun _ hk => hk.2) (.int .i64 t369)) (fun _ h_ => h_.1)))); (case side4 => exact (Kd.R_reads' HO367.out).2.1); (case side5 => exact Kd.C_below HR0_0.out Qh); (case side6 => exact HC0_0.out); (case side7 => exact Kd.C_below HR0_1.out Qh); (case side8 => exact HC0_1.out); rintro e w29 ⟨rfl, hb⟩; replace HO364 := Aside0.mk (Kd.R_below (by (with_reducible repeat (first | apply Kd.R_alloc | apply Kd.R_drewN | apply Kd.R_drew)); exact (Kd.R_mono (Kd.R_far (p := ⟨gb371, 3, none⟩) (Kd.R_far (p := ⟨gb371, 2, none⟩) (Kd.R_far (p := ⟨gb371, 1, none⟩) (Kd.R_far (p := ⟨gb371, 0, none⟩) (Kd.R_types HO364.out BK371.out (by decide)) (fun _ hk => hk.2) (.slice Ao24 t362.length co24)) (fun _ hk => hk.2) (.slice Ao27 t365.length co27)) (fun _ hk => hk.2) (.int .i64 t368)) (fun _ hk => hk.2) (.int .i64 t369)) (fun _ h_ => h_.1))) hb); replace HO367 := Aside0.mk (Kd.R_below (by (with_reducible repeat (first | apply Kd.R_alloc | apply Kd.R_drewN | apply Kd.R_drew)); exact (Kd.R_mono (Kd.R_far (p := ⟨gb371, 3, none⟩) (Kd.R_far (p := ⟨gb371, 2, none⟩) (Kd.R_far (p := ⟨gb371, 1, none⟩) (Kd.R_far (p := ⟨gb371, 0, none⟩) (Kd.R_types HO367.out BK371.out (by decide)) (fun _ hk => hk.2) (.slice Ao24 t362.length co24)) (fun _ hk => hk.2) (.slice Ao27 t365.length co27)) (fun _ hk => hk.2) (.int .i64 t368)) (fun _ hk => hk.2) (.int .i64 t369)) (fun _ h_ => h_.1))) hb); replace BK355 := Aside0.mk (blk_below (g := gb355) (o := .cells #[.slice A0_0 l0_0.length c0_0, .slice A0_1 l0_1.length c0_1, .int .i64 a0_2, .int .i64 a0_3] 37 (0, 0)) Qk hb); replace BK371 := Aside0.mk (blk_below (g := gb371) (o := .cells #[.slice Ao24 t362.length co24, .slice Ao27 t365.length co27, .int .i64 t368, .int .i64 t369] 37 (0, 0)) Qk hb); replace HB := Qy hb; (try clear hb); (try clear hb2); (try clear hk); (try clear hi)) | (go_at_call 9; (with_reducible refine (samphirelaw13_awake.calls  t373 _ A21.out (by first | assumption | exact Laid.below (by assumption) (by repeat (first | (with_reducible first | exact Aside0.out (by assumption) | apply below_alloc | apply pw_below_drewN | apply below_drew1 | refine below_set ?_ (Aside0.out (by assumption))) | exact Aside0.out (by assumption))))).mono ?_); rintro e w30 ⟨rfl, hb⟩; replace HO364 := Aside0.mk (Kd.R_below (by (with_reducible repeat (first | apply Kd.R_alloc | apply Kd.R_drewN | apply Kd.R_drew)); exact HO364.out) hb); replace HO367 := Aside0.mk (Kd.R_below (by (with_reducible repeat (first | apply Kd.R_alloc | apply Kd.R_drewN | apply Kd.R_drew)); exact HO367.out) hb); replace BK355 := Qv BK355 hb; replace BK371 := Qv BK371 hb; replace HB := Qy hb; (try clear hb); (try clear hb2); (try clear hk); (try clear hi)))
             go_ret
             exact ⟨Qe, Qh⟩
           · replace c20 := Bool.eq_false_iff.mpr c20
             subst c20
             have H1 : (some false) = some r := by rw [if_neg (show ¬ (false = true) by decide)] at H; exact H
             clear H
             have H := H1
             clear H1
             obtain rfl := Option.some.inj H
             go_wp2_with (first | ((with_reducible refine gate_callee (f := 17) rfl ?_); refine gL 36 Tryd.func17 #[.string t358] ?_; (with_reducible refine (snap_Take.calls t358 t362 t365 t368 t369 t370 _ A17.out (by first | assumption | exact Laid.below (by assumption) (by repeat (first | (with_reducible first | exact Aside0.out (by assumption) | apply below_alloc | apply pw_below_drewN | apply below_drew1 | refine below_set ?_ (Aside0.out (by assumption))) | exact Aside0.out (by assumption))))).mono ?_); rintro e w31 ⟨v363, v366, rfl, ho0, ho1, hb⟩; refine ⟨_, rfl, ?_⟩; have HO364 := Aside0.mk (Kd.R_lower ho0 (below_size Qh)); have HO367 := Aside0.mk (Kd.R_lower ho1 (below_size Qh)); replace BK355 := Qv BK355 hb; replace HB := Qy hb; (try clear hb); (try clear hb2); (try clear hk); (try clear hi); (try clear ho0); (try clear ho1)) | ((with_reducible refine gate_dst (N := 7) rfl ?_); refine boxQ (N := 7) (cs := #[.slice none 0 0, .slice none 0 0, .int .i64 0, .int .i64 0]) (t := 37) ?_; intro gb371 hg w32 hbox hb; have BK371 := Aside0.mk hbox; have GW371 := Qt w hg; have GE371 := GW371; have NB355_371 := Qo hg BK355; have NB371_355 := Qp hg BK355; replace HO364 := Aside0.mk (Kd.R_below (by (with_reducible repeat (first | apply Kd.R_alloc | apply Kd.R_drewN | apply Kd.R_drew)); exact HO364.out) hb); replace HO367 := Aside0.mk (Kd.R_below (by (with_reducible repeat (first | apply Kd.R_alloc | apply Kd.R_drewN | apply Kd.R_drew)); exact HO367.out) hb); replace BK355 := Qv BK355 hb; replace HB := Qy hb; clear hb hbox hg; obtain ⟨Ao33, co33, eo33⟩ := Kd.R_slice HO364.out; subst eo33; have hnb34 := NB371_355.out; have hnc34 := NB355_371.out; obtain ⟨y35_0, y35_1, y35_2, y35_3, v35_0, v35_1, v35_2, v35_3⟩ := Z4 BK371.out; obtain ⟨Ao36, co36, eo36⟩ := Kd.R_slice HO367.out; subst eo36; obtain ⟨y37_0, y37_1, y37_2, y37_3, v37_0, v37_1, v37_2, v37_3⟩ := Z4 BK355.out) | (go_at_call 18; (with_reducible refine (samphireref13_Same.calls kj5 _ _ t362 _ _ t365 t368 t369 _ _ l0_0 _ _ l0_1 a0_2 a0_3 false _ ?side1 ?side2 ?side3 ?side4 ?side5 ?side6 ?side7 ?side8 A19.out).mono ?_); (case side1 => refine (Kd.R_reads' (e := 72) (base := w.heap.size) (ok := fun k_ => True) (n := t362.length) (c := co33) ?_).2.2; exact (by (with_reducible repeat (first | apply Kd.R_alloc | apply Kd.R_drewN | apply Kd.R_drew)); exact (Kd.R_mono (Kd.R_far (p := ⟨gb371, 3, none⟩) (Kd.R_far (p := ⟨gb371, 2, none⟩) (Kd.R_far (p := ⟨gb371, 1, none⟩) (Kd.R_far (p := ⟨gb371, 0, none⟩) (Kd.R_types HO364.out BK371.out (by decide)) (fun _ hk => hk.2) (.slice Ao33 t362.length co33)) (fun _ hk => hk.2) (.slice Ao36 t365.length co36)) (fun _ hk => hk.2) (.int .i64 t368)) (fun _ hk => hk.2) (.int .i64 t369)) (fun _ h_ => h_.1)))); (case side2 => exact (Kd.R_reads' HO364.out).2.1); (case side3 => refine (Kd.R_reads' (e := 25) (base := w.heap.size) (ok := fun k_ => True) (n := t365.length) (c := co36) ?_).2.2; exact (by (with_reducible repeat (first | apply Kd.R_alloc | apply Kd.R_drewN | apply Kd.R_drew)); exact (Kd.R_mono (Kd.R_far (p := ⟨gb371, 3, none⟩) (Kd.R_far (p := ⟨gb371, 2, none⟩) (Kd.R_far (p := ⟨gb371, 1, none⟩) (Kd.R_far (p := ⟨gb371, 0, none⟩) (Kd.R_types HO367.out BK371.out (by decide)) (fun _ hk => hk.2) (.slice Ao33 t362.length co33)) (fun _ hk => hk.2) (.slice Ao36 t365.length co36)) (fun _ hk => hk.2) (.int .i64 t368)) (fun _ hk => hk.2) (.int .i64 t369)) (fun _ h_ => h_.1)))); (case side4 => exact (Kd.R_reads' HO367.out).2.1); (case side5 => exact Kd.C_below HR0_0.out Qh); (case side6 => exact HC0_0.out); (case side7 => exact Kd.C_below HR0_1.out Qh); (case side8 => exact HC0_1.out); rintro e w38 ⟨rfl, hb⟩; replace HO364 := Aside0.mk (Kd.R_below (by (with_reducible repeat (first | apply Kd.R_alloc | apply Kd.R_drewN | apply Kd.R_drew)); exact (Kd.R_mono (Kd.R_far (p := ⟨gb371, 3, none⟩) (Kd.R_far (p := ⟨gb371, 2, none⟩) (Kd.R_far (p := ⟨gb371, 1, none⟩) (Kd.R_far (p := ⟨gb371, 0, none⟩) (Kd.R_types HO364.out BK371.out (by decide)) (fun _ hk => hk.2) (.slice Ao33 t362.length co33)) (fun _ hk => hk.2) (.slice Ao36 t365.length co36)) (fun _ hk => hk.2) (.int .i64 t368)) (fun _ hk => hk.2) (.int .i64 t369)) (fun _ h_ => h_.1))) hb); replace HO367 := Aside0.mk (Kd.R_below (by (with_reducible repeat (first | apply Kd.R_alloc | apply Kd.R_drewN | apply Kd.R_drew)); exact (Kd.R_mono (Kd.R_far (p := ⟨gb371, 3, none⟩) (Kd.R_far (p := ⟨gb371, 2, none⟩) (Kd.R_far (p := ⟨gb371, 1, none⟩) (Kd.R_far (p := ⟨gb371, 0, none⟩) (Kd.R_types HO367.out BK371.out (by decide)) (fun _ hk => hk.2) (.slice Ao33 t362.length co33)) (fun _ hk => hk.2) (.slice Ao36 t365.length co36)) (fun _ hk => hk.2) (.int .i64 t368)) (fun _ hk => hk.2) (.int .i64 t369)) (fun _ h_ => h_.1))) hb); replace BK355 := Aside0.mk (blk_below (g := gb355) (o := .cells #[.slice A0_0 l0_0.length c0_0, .slice A0_1 l0_1.length c0_1, .int .i64 a0_2, .int .i64 a0_3] 37 (0, 0)) Qk hb); replace BK371 := Aside0.mk (blk_below (g := gb371) (o := .cells #[.slice Ao33 t362.length co33, .slice Ao36 t365.length co36, .int .i64 t368, .int .i64 t369] 37 (0, 0)) Qk hb); replace HB := Qy hb; (try clear hb); (try clear hb2); (try clear hk); (try clear hi)))
             go_ret
             exact ⟨Qe, Qh⟩
         · rw [if_neg c18] at H
           have c18b0 : (t370 == 0) = false := beq_eq_false_iff_ne.mpr c18
           have c18b1 : (t370 != 0) = true := bne_iff_ne.mpr c18
           obtain rfl := Option.some.inj H
           go_wp2_with (first | ((with_reducible refine gate_callee (f := 17) rfl ?_); refine gL 36 Tryd.func17 #[.string t358] ?_; (with_reducible refine (snap_Take.calls t358 t362 t365 t368 t369 t370 _ A17.out (by first | assumption | exact Laid.below (by assumption) (by repeat (first | (with_reducible first | exact Aside0.out (by assumption) | apply below_alloc | apply pw_below_drewN | apply below_drew1 | refine below_set ?_ (Aside0.out (by assumption))) | exact Aside0.out (by assumption))))).mono ?_); rintro e w39 ⟨v363, v366, rfl, ho0, ho1, hb⟩; refine ⟨_, rfl, ?_⟩; have HO364 := Aside0.mk (Kd.R_lower ho0 (below_size Qh)); have HO367 := Aside0.mk (Kd.R_lower ho1 (below_size Qh)); replace BK355 := Qv BK355 hb; replace HB := Qy hb; (try clear hb); (try clear hb2); (try clear hk); (try clear hi); (try clear ho0); (try clear ho1)) | ((with_reducible refine gate_dst (N := 7) rfl ?_); refine boxQ (N := 7) (cs := #[.slice none 0 0, .slice none 0 0, .int .i64 0, .int .i64 0]) (t := 37) ?_; intro gb371 hg w40 hbox hb; have BK371 := Aside0.mk hbox; have GW371 := Qt w hg; have GE371 := GW371; have NB355_371 := Qo hg BK355; have NB371_355 := Qp hg BK355; replace HO364 := Aside0.mk (Kd.R_below (by (with_reducible repeat (first | apply Kd.R_alloc | apply Kd.R_drewN | apply Kd.R_drew)); exact HO364.out) hb); replace HO367 := Aside0.mk (Kd.R_below (by (with_reducible repeat (first | apply Kd.R_alloc | apply Kd.R_drewN | apply Kd.R_drew)); exact HO367.out) hb); replace BK355 := Qv BK355 hb; replace HB := Qy hb; clear hb hbox hg; obtain ⟨Ao41, co41, eo41⟩ := Kd.R_slice HO364.out; subst eo41; have hnb42 := NB371_355.out; have hnc42 := NB355_371.out; obtain ⟨y43_0, y43_1, y43_2, y43_3, v43_0, v43_1, v43_2, v43_3⟩ := Z4 BK371.out; obtain ⟨Ao44, co44, eo44⟩ := Kd.R_slice HO367.out; subst eo44))
           go_ret
           exact ⟨Qe, Qh⟩
       · rw [if_neg c16] at H
         have c16b0 : (t359 == 0) = false := beq_eq_false_iff_ne.mpr c16
         have c16b1 : (t359 != 0) = true := bne_iff_ne.mpr c16
         replace H := Option.bind_eq_some_iff.mp H
         obtain ⟨t374, A450, H⟩ := H
         replace H : (some t374) = some r := H
         have A45 := Aside0.mk A450
         clear A450
         obtain rfl := Option.some.inj H
         go_wp2_with (first | ((with_reducible refine gate_callee (f := 9) rfl ?_); refine gL 33 Tryd.func9 #[] ?_; (with_reducible refine (samphirelaw13_awake.calls  t374 _ A45.out (by first | assumption | exact Laid.below (by assumption) (by repeat (first | (with_reducible first | exact Aside0.out (by assumption) | apply below_alloc | apply pw_below_drewN | apply below_drew1 | refine below_set ?_ (Aside0.out (by assumption))) | exact Aside0.out (by assumption))))).mono ?_); rintro e w46 ⟨rfl, hb⟩; refine ⟨_, rfl, ?_⟩; replace BK355 := Qv BK355 hb; replace HB := Qy hb; (try clear hb); (try clear hb2); (try clear hk); (try clear hi)))
         go_ret
         exact ⟨Qe, Qh⟩
 · replace c3 := Bool.eq_false_iff.mpr c3
   subst c3
   have H1 : ((samphirelaw13_awake.f).bind fun t357 => (some t357)) = some r := by rw [if_neg (show ¬ (false = true) by decide)] at H; exact H
   clear H
   have H := H1
   clear H1
   replace H := Option.bind_eq_some_iff.mp H
   obtain ⟨t357, A470, H⟩ := H
   replace H : (some t357) = some r := H
   have A47 := Aside0.mk A470
   clear A470
   obtain rfl := Option.some.inj H
   go_enter Tryd.func4, Tryd.ntmps4
   go_wp2_with (first | ((with_reducible refine gate_dst (N := 1) rfl ?_); refine boxQ (N := 1) (cs := #[.slice A0_0 l0_0.length c0_0, .slice A0_1 l0_1.length c0_1, .int .i64 a0_2, .int .i64 a0_3]) (t := 37) ?_; intro gb355 hg w48 hbox hb; have BK355 := Aside0.mk hbox; have GW355 := Qt w hg; have GE355 := GW355; replace HB := Qy hb; clear hb hbox hg; obtain ⟨y49_0, y49_1, y49_2, y49_3, v49_0, v49_1, v49_2, v49_3⟩ := Z4 BK355.out) | ((with_reducible refine gate_callee (f := 14) rfl ?_); refine gL 10 Tryd.func14 #[.agg #[.slice A0_0 l0_0.length c0_0, .slice A0_1 l0_1.length c0_1, .int .i64 a0_2, .int .i64 a0_3]] ?_; (with_reducible refine (samphirelaw13_light.calls k _ _ l0_0 _ _ l0_1 a0_2 a0_3 false _ ?side1 ?side2 ?side3 ?side4 A2.out).mono ?_); (case side1 => repeat (first | exact (Kd.C_below HR0_0.out HB.out) | (with_reducible refine Kd.C_alloc ?_ _) | (with_reducible refine Kd.C_drewN ?_ _) | (with_reducible refine Kd.C_drew ?_))); (case side2 => exact HC0_0.out); (case side3 => repeat (first | exact (Kd.C_below HR0_1.out HB.out) | (with_reducible refine Kd.C_alloc ?_ _) | (with_reducible refine Kd.C_drewN ?_ _) | (with_reducible refine Kd.C_drew ?_))); (case side4 => exact HC0_1.out); rintro e w50 ⟨rfl, hb⟩; refine ⟨_, rfl, ?_⟩; replace BK355 := Qv BK355 hb; replace HB := Qy hb; (try clear hb); (try clear hb2); (try clear hk); (try clear hi)) | ((with_reducible refine gate_callee (f := 9) rfl ?_); refine gL 12 Tryd.func9 #[] ?_; (with_reducible refine (samphirelaw13_awake.calls  t357 _ A47.out (by first | assumption | exact Laid.below (by assumption) (by repeat (first | (with_reducible first | exact Aside0.out (by assumption) | apply below_alloc | apply pw_below_drewN | apply below_drew1 | refine below_set ?_ (Aside0.out (by assumption))) | exact Aside0.out (by assumption))))).mono ?_); rintro e w51 ⟨rfl, hb⟩; refine ⟨_, rfl, ?_⟩; replace BK355 := Qv BK355 hb; replace HB := Qy hb; (try clear hb); (try clear hb2); (try clear hk); (try clear hi)))
   go_ret
   exact ⟨Qe, Qh⟩
end Go.Proofs.YtlfgdaiegefjiaaDoor.S
