/- Functions of the translation as plain Lean functions, and that each call comes to what they say: for every argument. Written by a program of this session's own; Lean checks it. -/
import Derived.Test.YtlfgdaiegefjiaaDoorQc
import Derived.Test.YtlfgdaiegefjiaaDoorSA
import Derived.Test.YtlfgdaiegefjiaaDoorQa
import Derived.Test.YtlfgdaiegefjiaaDoorSx6
namespace Go.Proofs.YtlfgdaiegefjiaaDoor.S
open Go.RowKit Go.Proofs.YtlfgdaiegefjiaaDoorW.PrintWords Go.Proofs.YtlfgdaiegefjiaaDoorW.PrintLast
set_option linter.unusedVariables false
set_option linter.unusedSimpArgs false
/-! ### samphireref09_Stamp: function 42 -/
def samphireref09_Stamp.f (k : Nat) (a0_0 : ByteArray) (a0_1 : Bool) (a1_0 : Int) (a1_1 : Int) : Option (ByteArray × Bool) := (samphireref09_big.f k a1_0 6).bind fun t268 => ((samphireref09_big.f k a1_1 1).bind fun t269 => (if t268.size + t269.size ≤ 9223372036854775807 then (if a1_0 ≥ 0 then (if a1_0 ≤ 1099511627775 then (if a1_1 ≥ 0 then ((samphireref09_with.f a0_0 a0_1 (t268 ++ t269) (decide (a1_1 ≤ 255))).bind fun bt270 => (some (bt270.1, bt270.2))) else ((samphireref09_with.f a0_0 a0_1 (t268 ++ t269) false).bind fun bt272 => (some (bt272.1, bt272.2)))) else ((samphireref09_with.f a0_0 a0_1 (t268 ++ t269) false).bind fun bt274 => (some (bt274.1, bt274.2)))) else ((samphireref09_with.f a0_0 a0_1 (t268 ++ t269) false).bind fun bt276 => (some (bt276.1, bt276.2)))) else (none)))
def samphireref09_Stamp.T1 : Bool × List (List Nat × List Nat) := (true, [([], []), ([], []), ([1], [1]), ([2], [2]), ([], []), ([4], [4]), ([5, 3], [5]), ([3, 6], [3, 6]), ([], []), ([8], [8]), ([9], [9]), ([10, 6], [10]), ([11], [11]), ([12, 11], [11, 12]), ([13, 11], [11, 13]), ([11, 14], [11, 14]), ([15, 11], [15]), ([16], [16]), ([17, 16], [16, 17]), ([18, 16], [16, 18]), ([16, 19], [16, 19]), ([20, 16], [20]), ([21], [21]), ([22, 21], [21, 22]), ([23, 21], [21, 23]), ([21, 24], [21, 24]), ([0, 7, 25, 21], [0, 7, 25]), ([26, 26, 0, 1, 2, 3, 4, 5, 6, 7, 8, 9, 10, 11, 12, 13, 14, 15, 16, 17, 18, 19, 20, 21, 22, 23, 24, 25, 26], [26])])
def samphireref09_Stamp.B1 : List Nat := [0, 0, 2, 6, 0, 16, 62, 126, 0, 256, 768, 1918, 3966, 8062, 16254, 32638, 65406, 130942, 262014, 524158, 1048446, 2097022, 4194174, 8388478, 16777086, 33554302, 67108863, 134217727]
theorem samphireref09_Stamp.tab1 : rtab .any (opsOf Tryd.f42 1) = samphireref09_Stamp.T1 := by kernel_rfl
theorem samphireref09_Stamp.bits1 : waitsOk samphireref09_Stamp.T1.2 samphireref09_Stamp.B1 = true := by kernel_rfl
set_option maxHeartbeats 8000000 in
set_option maxRecDepth 100000 in
theorem samphireref09_Stamp.calls (k : Nat) (a0_0 : ByteArray) (a0_1 : Bool) (a1_0 : Int) (a1_1 : Int) (r1 : ByteArray) (r2 : Bool) (w : World) (h : samphireref09_Stamp.f k a0_0 a0_1 a1_0 a1_1 = some (r1, r2)) :
 Calls Tryd.prog 42 #[.agg #[.string a0_0, .bool a0_1], .agg #[.int .i64 a1_0, .int .i64 a1_1]] w fun e w' => e = .returned (.agg #[.string r1, .bool r2]) ∧ Below w.heap.size w w' := by
 have hu60 := Tryd.underlying60
 have hu23 := Tryd.underlying23
 have HB := Aside0.mk (Below.refl w.heap.size w)
 have H : ((samphireref09_big.f k a1_0 6).bind fun t268 => ((samphireref09_big.f k a1_1 1).bind fun t269 => (if t268.size + t269.size ≤ 9223372036854775807 then (if a1_0 ≥ 0 then (if a1_0 ≤ 1099511627775 then (if a1_1 ≥ 0 then ((samphireref09_with.f a0_0 a0_1 (t268 ++ t269) (decide (a1_1 ≤ 255))).bind fun bt270 => (some (bt270.1, bt270.2))) else ((samphireref09_with.f a0_0 a0_1 (t268 ++ t269) false).bind fun bt272 => (some (bt272.1, bt272.2)))) else ((samphireref09_with.f a0_0 a0_1 (t268 ++ t269) false).bind fun bt274 => (some (bt274.1, bt274.2)))) else ((samphireref09_with.f a0_0 a0_1 (t268 ++ t269) false).bind fun bt276 => (some (bt276.1, bt276.2)))) else (none)))) = some (r1, r2) := h
 clear h
 replace H := Option.bind_eq_some_iff.mp H
 obtain ⟨t268, A30, H⟩ := H
 replace H : ((samphireref09_big.f k a1_1 1).bind fun t269 => (if t268.size + t269.size ≤ 9223372036854775807 then (if a1_0 ≥ 0 then (if a1_0 ≤ 1099511627775 then (if a1_1 ≥ 0 then ((samphireref09_with.f a0_0 a0_1 (t268 ++ t269) (decide (a1_1 ≤ 255))).bind fun bt270 => (some (bt270.1, bt270.2))) else ((samphireref09_with.f a0_0 a0_1 (t268 ++ t269) false).bind fun bt272 => (some (bt272.1, bt272.2)))) else ((samphireref09_with.f a0_0 a0_1 (t268 ++ t269) false).bind fun bt274 => (some (bt274.1, bt274.2)))) else ((samphireref09_with.f a0_0 a0_1 (t268 ++ t269) false).bind fun bt276 => (some (bt276.1, bt276.2)))) else (none))) = some (r1, r2) := H
 have A3 := Aside0.mk A30
 clear A30
 replace H := Option.bind_eq_some_iff.mp H
 obtain ⟨t269, A40, H⟩ := H
 replace H : (if t268.size + t269.size ≤ 9223372036854775807 then (if a1_0 ≥ 0 then (if a1_0 ≤ 1099511627775 then (if a1_1 ≥ 0 then ((samphireref09_with.f a0_0 a0_1 (t268 ++ t269) (decide (a1_1 ≤ 255))).bind fun bt270 => (some (bt270.1, bt270.2))) else ((samphireref09_with.f a0_0 a0_1 (t268 ++ t269) false).bind fun bt272 => (some (bt272.1, bt272.2)))) else ((samphireref09_with.f a0_0 a0_1 (t268 ++ t269) false).bind fun bt274 => (some (bt274.1, bt274.2)))) else ((samphireref09_with.f a0_0 a0_1 (t268 ++ t269) false).bind fun bt276 => (some (bt276.1, bt276.2)))) else (none)) = some (r1, r2) := H
 have A4 := Aside0.mk A40
 clear A40
 by_cases c5 : t268.size + t269.size ≤ 9223372036854775807
 · rw [if_pos c5] at H
   have c5b0 := eq_true c5
   have c5b1 : decide (t268.size + t269.size ≤ 9223372036854775807) = true := decide_eq_true c5
   try have c5b2 : (9223372036854775807 < t268.size + t269.size) = False := eq_false (Nat.not_lt.2 c5)
   by_cases c6 : a1_0 ≥ 0
   · rw [if_pos c6] at H
     have c6b0 : decide (0 ≤ a1_0) = true := decide_eq_true c6
     clear c6
     by_cases c7 : a1_0 ≤ 1099511627775
     · rw [if_pos c7] at H
       have c7b0 : decide (a1_0 ≤ 1099511627775) = true := decide_eq_true c7
       clear c7
       by_cases c8 : a1_1 ≥ 0
       · rw [if_pos c8] at H
         have c8b0 : decide (0 ≤ a1_1) = true := decide_eq_true c8
         clear c8
         replace H := Option.bind_eq_some_iff.mp H
         obtain ⟨⟨t270, t271⟩, A90, H⟩ := H
         replace H : (some (t270, t271)) = some (r1, r2) := H
         have A9 := Aside0.mk A90
         clear A90
         simp only [Option.some.injEq, Prod.mk.injEq] at H
         obtain ⟨rfl, rfl⟩ := H
         go_enter Tryd.func42, Tryd.ntmps42
         try go_wp2_with (first | ((with_reducible refine gate_dst (N := 2) rfl ?_); refine boxQ (N := 2) (cs := #[.string a0_0, .bool a0_1]) (t := 60) ?_; intro gb265 hg w10 hbox hb; have BK265 := Aside0.mk hbox; have GW265 := Qt w hg; have GE265 := GW265; replace HB := Qy hb; clear hb hbox hg) | ((with_reducible refine gate_dst (N := 3) rfl ?_); refine boxQ (N := 3) (cs := #[.int .i64 a1_0, .int .i64 a1_1]) (t := 23) ?_; intro gb266 hg w11 hbox hb; have BK266 := Aside0.mk hbox; have GW266 := Qt w hg; have GE266 := GW266; have NB265_266 := Qo hg BK265; have NB266_265 := Qp hg BK265; replace BK265 := Qv BK265 hb; replace HB := Qy hb; clear hb hbox hg) | ((with_reducible refine gate_dst (N := 4) rfl ?_); refine boxQ (N := 4) (cs := #[.string (⟨#[]⟩ : ByteArray), .bool false]) (t := 60) ?_; intro gb267 hg w12 hbox hb; have BK267 := Aside0.mk hbox; have GW267 := Qt w hg; have GE267 := GW267; have NB265_267 := Qo hg BK265; have NB267_265 := Qp hg BK265; have NB266_267 := Qo hg BK266; have NB267_266 := Qp hg BK266; replace BK265 := Qv BK265 hb; replace BK266 := Qv BK266 hb; replace HB := Qy hb; clear hb hbox hg))
         have n0_ := Aside0.mk (blk_drew BK265.out)
         have n1_ := Aside0.mk (blk_drew BK266.out)
         have n2_ := Aside0.mk (blk_drew BK267.out)
         have n3_ := Aside0.mk (below_drew1 HB.out)
         clear BK265
         clear BK266
         clear BK267
         clear HB
         have BK265 := n0_
         have BK266 := n1_
         have BK267 := n2_
         have HB := n3_
         clear n0_ n1_ n2_ n3_
         refine start_ (n := 28) (S := fun w' => w'.cell? ⟨gb265, 0, none⟩ = some (.string a0_0) ∧ w'.cell? ⟨gb265, 1, none⟩ = some (.bool a0_1) ∧ w'.cell? ⟨gb266, 0, none⟩ = some (.int .i64 a1_0) ∧ w'.cell? ⟨gb266, 1, none⟩ = some (.int .i64 a1_1)) (ds := []) (mb 28 0) (by kernel_rfl) rfl (by kernel_rfl) ⟨(blk_cell BK265.out 0).trans rfl, (blk_cell BK265.out 1).trans rfl, (blk_cell BK266.out 0).trans rfl, (blk_cell BK266.out 1).trans rfl⟩ (fun hHeld => ?_); refine with_tabW samphireref09_Stamp.tab1 samphireref09_Stamp.bits1 (fun HT_ HW_ => ?_)
         generalize w12.drew = w13 at BK265 BK266 BK267 HB hHeld ⊢
         refine pu 1 6 (mb 28 2) HT_ ?_
         refine pu 4 9 (mb 28 18) HT_ ?_
         refine pu 8 13 (mb 28 274) HT_ ?_
         refine tk 0 5 (mb 28 275) HT_ HW_ hHeld ?_
         refine tk 2 7 (mb 28 279) HT_ HW_ hHeld ?_
         refine tk 5 10 (mb 28 311) HT_ HW_ hHeld ?_
         refine tk 9 14 (mb 28 823) HT_ HW_ hHeld ?_
         refine pu 10 15 (mb 28 1847) HT_ ?_
         refine on 3 (some 8) (mb 28 1855) HT_ (fun K hK => ?_)
         refine goes_ Tryd.func76 (by kernel_rfl) rfl #[.int .i64 a1_0, .int .i64 6] (by rfl) rfl rfl Qm ?_
         with_reducible refine (samphireref09_big.calls k a1_0 6 t268 _ A3.out).mono ?_
         rintro e w14 ⟨rfl, hb⟩
         refine ⟨_, rfl, ?_⟩
         have n0_ := Aside0.mk (Qb BK265 hb)
         have n1_ := Aside0.mk (Qb BK266 hb)
         have n2_ := Aside0.mk (Qb BK267 hb)
         have n3_ := Aside0.mk (below_step Qh hb)
         clear BK265
         clear BK266
         clear BK267
         clear HB
         have BK265 := n0_
         have BK266 := n1_
         have BK267 := n2_
         have HB := n3_
         clear n0_ n1_ n2_ n3_
         (try clear hb)
         (try clear hb2)
         (try clear hk)
         (try clear hi)
         refine hK.out _ _ ⟨(blk_cell BK265.out 0).trans rfl, (blk_cell BK265.out 1).trans rfl, (blk_cell BK266.out 0).trans rfl, (blk_cell BK266.out 1).trans rfl⟩ (fun hHeld => ?_)
         clear hK K
         refine nm _ ?_
         refine on 6 (some 11) (mb 28 1919) HT_ (fun K hK => ?_)
         refine goes_ Tryd.func76 (by kernel_rfl) rfl #[.int .i64 a1_1, .int .i64 1] (by rfl) rfl rfl Qm ?_
         with_reducible refine (samphireref09_big.calls k a1_1 1 t269 _ A4.out).mono ?_
         rintro e w15 ⟨rfl, hb⟩
         refine ⟨_, rfl, ?_⟩
         have n0_ := Aside0.mk (Qb BK265 hb)
         have n1_ := Aside0.mk (Qb BK266 hb)
         have n2_ := Aside0.mk (Qb BK267 hb)
         have n3_ := Aside0.mk (below_step Qh hb)
         clear BK265
         clear BK266
         clear BK267
         clear HB
         have BK265 := n0_
         have BK266 := n1_
         have BK267 := n2_
         have HB := n3_
         clear n0_ n1_ n2_ n3_
         (try clear hb)
         (try clear hb2)
         (try clear hk)
         (try clear hi)
         refine hK.out _ _ ⟨(blk_cell BK265.out 0).trans rfl, (blk_cell BK265.out 1).trans rfl, (blk_cell BK266.out 0).trans rfl, (blk_cell BK266.out 1).trans rfl⟩ (fun hHeld => ?_)
         clear hK K
         refine nm _ ?_
         refine pu 7 12 (mb 28 2047) HT_ ?_
         refine pu 11 16 (mb 28 4095) HT_ ?_
         refine pu 12 17 (mb 28 8191) HT_ ?_
         refine tk 13 18 (mb 28 16383) HT_ HW_ hHeld ?_
         refine pu 14 19 (mb 28 32767) HT_ ?_
         refine pu 15 20 (mb 28 65535) HT_ ?_
         refine pu 16 21 (mb 28 131071) HT_ ?_
         refine pu 17 22 (mb 28 262143) HT_ ?_
         refine tk 18 23 (mb 28 524287) HT_ HW_ hHeld ?_
         refine pu 19 24 (mb 28 1048575) HT_ ?_
         refine pu 20 25 (mb 28 2097151) HT_ ?_
         refine pu 21 26 (mb 28 4194303) HT_ ?_
         refine pu 22 27 (mb 28 8388607) HT_ ?_
         refine tk 23 28 (mb 28 16777215) HT_ HW_ hHeld ?_
         refine pu 24 29 (mb 28 33554431) HT_ ?_
         refine pu 25 30 (mb 28 67108863) HT_ ?_
         refine on 26 (some 31) (mb 28 134217727) HT_ (fun K hK => ?_)
         refine goes_ Tryd.func75 (by kernel_rfl) rfl #[.agg #[.string a0_0, .bool a0_1], .string (t268 ++ t269), .bool (decide (a1_1 ≤ 255))] (by rfl) rfl rfl Qm ?_
         with_reducible refine (samphireref09_with.calls a0_0 a0_1 (t268 ++ t269) (decide (a1_1 ≤ 255)) t270 t271 _ A9.out).mono ?_
         rintro e w16 ⟨rfl, hb⟩
         refine ⟨_, rfl, ?_⟩
         have n0_ := Aside0.mk (Qb BK265 hb)
         have n1_ := Aside0.mk (Qb BK266 hb)
         have n2_ := Aside0.mk (Qb BK267 hb)
         have n3_ := Aside0.mk (below_step Qh hb)
         clear BK265
         clear BK266
         clear BK267
         clear HB
         have BK265 := n0_
         have BK266 := n1_
         have BK267 := n2_
         have HB := n3_
         clear n0_ n1_ n2_ n3_
         (try clear hb)
         (try clear hb2)
         (try clear hk)
         (try clear hi)
         refine hK.out _ _ ⟨(blk_cell BK265.out 0).trans rfl, (blk_cell BK265.out 1).trans rfl, (blk_cell BK266.out 0).trans rfl, (blk_cell BK266.out 1).trans rfl⟩ (fun hHeld => ?_)
         clear hK K
         refine nm _ ?_
         refine on 27 none (mb 28 268435455) HT_ (fun K hK => ?_)
         have hs17 : w16.cell? ⟨gb267, 0, none⟩ = some (.string (⟨#[]⟩ : ByteArray)) := (blk_cell BK267.out 0).trans rfl
         have hfs17 := blk_frozen BK267.out 0
         have hns17_0 := NB265_267.out
         have hns17_1 := NB266_267.out
         have hms17_0 := NB267_265.out
         have hms17_1 := NB267_266.out
         have hs18 : w16.cell? ⟨gb267, 1, none⟩ = some (.bool false) := (blk_cell BK267.out 1).trans rfl
         have hfs18 := blk_frozen BK267.out 1
         have hns18_0 := NB265_267.out
         have hns18_1 := NB266_267.out
         have hms18_0 := NB267_265.out
         have hms18_1 := NB267_266.out
         refine skip_ (w1 := ?_) (by rfl) rfl ?_ ?_
         rotate_left
         · go_simp
           rfl
         refine hK.out _ _ ⟨((cell_far (p := ⟨gb267, _, none⟩) NB265_267.out _).trans (((cell_far (p := ⟨gb267, _, none⟩) NB265_267.out _).trans (hHeld.1)))), ((cell_far (p := ⟨gb267, _, none⟩) NB265_267.out _).trans (((cell_far (p := ⟨gb267, _, none⟩) NB265_267.out _).trans (hHeld.2.1)))), ((cell_far (p := ⟨gb267, _, none⟩) NB266_267.out _).trans (((cell_far (p := ⟨gb267, _, none⟩) NB266_267.out _).trans (hHeld.2.2.1)))), ((cell_far (p := ⟨gb267, _, none⟩) NB266_267.out _).trans (((cell_far (p := ⟨gb267, _, none⟩) NB266_267.out _).trans (hHeld.2.2.2))))⟩ (fun hHeld => ?_)
         clear hK K
         refine dn HT_ ?_
         try go_wp2
         refine bodyPost_ret (results_cell_row rfl _ _ gb267 60 #[.string t270, .bool t271] (0, 0) _ rfl Qk Tryd.underlying60 rfl (by kernel_rfl)) rfl ?_
         exact ⟨Qe, Qh⟩
       · rw [if_neg c8] at H
         have c8b0 : decide (0 ≤ a1_1) = false := decide_eq_false c8
         clear c8
         replace H := Option.bind_eq_some_iff.mp H
         obtain ⟨⟨t272, t273⟩, A190, H⟩ := H
         replace H : (some (t272, t273)) = some (r1, r2) := H
         have A19 := Aside0.mk A190
         clear A190
         simp only [Option.some.injEq, Prod.mk.injEq] at H
         obtain ⟨rfl, rfl⟩ := H
         go_enter Tryd.func42, Tryd.ntmps42
         try go_wp2_with (first | ((with_reducible refine gate_dst (N := 2) rfl ?_); refine boxQ (N := 2) (cs := #[.string a0_0, .bool a0_1]) (t := 60) ?_; intro gb265 hg w20 hbox hb; have BK265 := Aside0.mk hbox; have GW265 := Qt w hg; have GE265 := GW265; replace HB := Qy hb; clear hb hbox hg) | ((with_reducible refine gate_dst (N := 3) rfl ?_); refine boxQ (N := 3) (cs := #[.int .i64 a1_0, .int .i64 a1_1]) (t := 23) ?_; intro gb266 hg w21 hbox hb; have BK266 := Aside0.mk hbox; have GW266 := Qt w hg; have GE266 := GW266; have NB265_266 := Qo hg BK265; have NB266_265 := Qp hg BK265; replace BK265 := Qv BK265 hb; replace HB := Qy hb; clear hb hbox hg) | ((with_reducible refine gate_dst (N := 4) rfl ?_); refine boxQ (N := 4) (cs := #[.string (⟨#[]⟩ : ByteArray), .bool false]) (t := 60) ?_; intro gb267 hg w22 hbox hb; have BK267 := Aside0.mk hbox; have GW267 := Qt w hg; have GE267 := GW267; have NB265_267 := Qo hg BK265; have NB267_265 := Qp hg BK265; have NB266_267 := Qo hg BK266; have NB267_266 := Qp hg BK266; replace BK265 := Qv BK265 hb; replace BK266 := Qv BK266 hb; replace HB := Qy hb; clear hb hbox hg))
         have n0_ := Aside0.mk (blk_drew BK265.out)
         have n1_ := Aside0.mk (blk_drew BK266.out)
         have n2_ := Aside0.mk (blk_drew BK267.out)
         have n3_ := Aside0.mk (below_drew1 HB.out)
         clear BK265
         clear BK266
         clear BK267
         clear HB
         have BK265 := n0_
         have BK266 := n1_
         have BK267 := n2_
         have HB := n3_
         clear n0_ n1_ n2_ n3_
         refine start_ (n := 28) (S := fun w' => w'.cell? ⟨gb265, 0, none⟩ = some (.string a0_0) ∧ w'.cell? ⟨gb265, 1, none⟩ = some (.bool a0_1) ∧ w'.cell? ⟨gb266, 0, none⟩ = some (.int .i64 a1_0) ∧ w'.cell? ⟨gb266, 1, none⟩ = some (.int .i64 a1_1)) (ds := []) (mb 28 0) (by kernel_rfl) rfl (by kernel_rfl) ⟨(blk_cell BK265.out 0).trans rfl, (blk_cell BK265.out 1).trans rfl, (blk_cell BK266.out 0).trans rfl, (blk_cell BK266.out 1).trans rfl⟩ (fun hHeld => ?_); refine with_tabW samphireref09_Stamp.tab1 samphireref09_Stamp.bits1 (fun HT_ HW_ => ?_)
         generalize w22.drew = w23 at BK265 BK266 BK267 HB hHeld ⊢
         refine pu 1 6 (mb 28 2) HT_ ?_
         refine pu 4 9 (mb 28 18) HT_ ?_
         refine pu 8 13 (mb 28 274) HT_ ?_
         refine tk 0 5 (mb 28 275) HT_ HW_ hHeld ?_
         refine tk 2 7 (mb 28 279) HT_ HW_ hHeld ?_
         refine tk 5 10 (mb 28 311) HT_ HW_ hHeld ?_
         refine tk 9 14 (mb 28 823) HT_ HW_ hHeld ?_
         refine pu 10 15 (mb 28 1847) HT_ ?_
         refine on 3 (some 8) (mb 28 1855) HT_ (fun K hK => ?_)
         refine goes_ Tryd.func76 (by kernel_rfl) rfl #[.int .i64 a1_0, .int .i64 6] (by rfl) rfl rfl Qm ?_
         with_reducible refine (samphireref09_big.calls k a1_0 6 t268 _ A3.out).mono ?_
         rintro e w24 ⟨rfl, hb⟩
         refine ⟨_, rfl, ?_⟩
         have n0_ := Aside0.mk (Qb BK265 hb)
         have n1_ := Aside0.mk (Qb BK266 hb)
         have n2_ := Aside0.mk (Qb BK267 hb)
         have n3_ := Aside0.mk (below_step Qh hb)
         clear BK265
         clear BK266
         clear BK267
         clear HB
         have BK265 := n0_
         have BK266 := n1_
         have BK267 := n2_
         have HB := n3_
         clear n0_ n1_ n2_ n3_
         (try clear hb)
         (try clear hb2)
         (try clear hk)
         (try clear hi)
         refine hK.out _ _ ⟨(blk_cell BK265.out 0).trans rfl, (blk_cell BK265.out 1).trans rfl, (blk_cell BK266.out 0).trans rfl, (blk_cell BK266.out 1).trans rfl⟩ (fun hHeld => ?_)
         clear hK K
         refine nm _ ?_
         refine on 6 (some 11) (mb 28 1919) HT_ (fun K hK => ?_)
         refine goes_ Tryd.func76 (by kernel_rfl) rfl #[.int .i64 a1_1, .int .i64 1] (by rfl) rfl rfl Qm ?_
         with_reducible refine (samphireref09_big.calls k a1_1 1 t269 _ A4.out).mono ?_
         rintro e w25 ⟨rfl, hb⟩
         refine ⟨_, rfl, ?_⟩
         have n0_ := Aside0.mk (Qb BK265 hb)
         have n1_ := Aside0.mk (Qb BK266 hb)
         have n2_ := Aside0.mk (Qb BK267 hb)
         have n3_ := Aside0.mk (below_step Qh hb)
         clear BK265
         clear BK266
         clear BK267
         clear HB
         have BK265 := n0_
         have BK266 := n1_
         have BK267 := n2_
         have HB := n3_
         clear n0_ n1_ n2_ n3_
         (try clear hb)
         (try clear hb2)
         (try clear hk)
         (try clear hi)
         refine hK.out _ _ ⟨(blk_cell BK265.out 0).trans rfl, (blk_cell BK265.out 1).trans rfl, (blk_cell BK266.out 0).trans rfl, (blk_cell BK266.out 1).trans rfl⟩ (fun hHeld => ?_)
         clear hK K
         refine nm _ ?_
         refine pu 7 12 (mb 28 2047) HT_ ?_
         refine pu 11 16 (mb 28 4095) HT_ ?_
         refine pu 12 17 (mb 28 8191) HT_ ?_
         refine tk 13 18 (mb 28 16383) HT_ HW_ hHeld ?_
         refine pu 14 19 (mb 28 32767) HT_ ?_
         refine pu 15 20 (mb 28 65535) HT_ ?_
         refine pu 16 21 (mb 28 131071) HT_ ?_
         refine pu 17 22 (mb 28 262143) HT_ ?_
         refine tk 18 23 (mb 28 524287) HT_ HW_ hHeld ?_
         refine pu 19 24 (mb 28 1048575) HT_ ?_
         refine pu 20 25 (mb 28 2097151) HT_ ?_
         refine pu 21 26 (mb 28 4194303) HT_ ?_
         refine sk 22 27 3 (mb 28 33554431) HT_ ?_
         refine pu 25 30 (mb 28 67108863) HT_ ?_
         refine on 26 (some 31) (mb 28 134217727) HT_ (fun K hK => ?_)
         refine goes_ Tryd.func75 (by kernel_rfl) rfl #[.agg #[.string a0_0, .bool a0_1], .string (t268 ++ t269), .bool false] (by rfl) rfl rfl Qm ?_
         with_reducible refine (samphireref09_with.calls a0_0 a0_1 (t268 ++ t269) false t272 t273 _ A19.out).mono ?_
         rintro e w26 ⟨rfl, hb⟩
         refine ⟨_, rfl, ?_⟩
         have n0_ := Aside0.mk (Qb BK265 hb)
         have n1_ := Aside0.mk (Qb BK266 hb)
         have n2_ := Aside0.mk (Qb BK267 hb)
         have n3_ := Aside0.mk (below_step Qh hb)
         clear BK265
         clear BK266
         clear BK267
         clear HB
         have BK265 := n0_
         have BK266 := n1_
         have BK267 := n2_
         have HB := n3_
         clear n0_ n1_ n2_ n3_
         (try clear hb)
         (try clear hb2)
         (try clear hk)
         (try clear hi)
         refine hK.out _ _ ⟨(blk_cell BK265.out 0).trans rfl, (blk_cell BK265.out 1).trans rfl, (blk_cell BK266.out 0).trans rfl, (blk_cell BK266.out 1).trans rfl⟩ (fun hHeld => ?_)
         clear hK K
         refine nm _ ?_
         refine on 27 none (mb 28 268435455) HT_ (fun K hK => ?_)
         have hs27 : w26.cell? ⟨gb267, 0, none⟩ = some (.string (⟨#[]⟩ : ByteArray)) := (blk_cell BK267.out 0).trans rfl
         have hfs27 := blk_frozen BK267.out 0
         have hns27_0 := NB265_267.out
         have hns27_1 := NB266_267.out
         have hms27_0 := NB267_265.out
         have hms27_1 := NB267_266.out
         have hs28 : w26.cell? ⟨gb267, 1, none⟩ = some (.bool false) := (blk_cell BK267.out 1).trans rfl
         have hfs28 := blk_frozen BK267.out 1
         have hns28_0 := NB265_267.out
         have hns28_1 := NB266_267.out
         have hms28_0 := NB267_265.out
         have hms28_1 := NB267_266.out
         refine skip_ (w1 := ?_) (by rfl) rfl ?_ ?_
         rotate_left
         · go_simp
           rfl
         refine hK.out _ _ ⟨((cell_far (p := ⟨gb267, _, none⟩) NB265_267.out _).trans (((cell_far (p := ⟨gb267, _, none⟩) NB265_267.out _).trans (hHeld.1)))), ((cell_far (p := ⟨gb267, _, none⟩) NB265_267.out _).trans (((cell_far (p := ⟨gb267, _, none⟩) NB265_267.out _).trans (hHeld.2.1)))), ((cell_far (p := ⟨gb267, _, none⟩) NB266_267.out _).trans (((cell_far (p := ⟨gb267, _, none⟩) NB266_267.out _).trans (hHeld.2.2.1)))), ((cell_far (p := ⟨gb267, _, none⟩) NB266_267.out _).trans (((cell_far (p := ⟨gb267, _, none⟩) NB266_267.out _).trans (hHeld.2.2.2))))⟩ (fun hHeld => ?_)
         clear hK K
         refine dn HT_ ?_
         try go_wp2
         refine bodyPost_ret (results_cell_row rfl _ _ gb267 60 #[.string t272, .bool t273] (0, 0) _ rfl Qk Tryd.underlying60 rfl (by kernel_rfl)) rfl ?_
         exact ⟨Qe, Qh⟩
     · rw [if_neg c7] at H
       have c7b0 : decide (a1_0 ≤ 1099511627775) = false := decide_eq_false c7
       clear c7
       replace H := Option.bind_eq_some_iff.mp H
       obtain ⟨⟨t274, t275⟩, A290, H⟩ := H
       replace H : (some (t274, t275)) = some (r1, r2) := H
       have A29 := Aside0.mk A290
       clear A290
       simp only [Option.some.injEq, Prod.mk.injEq] at H
       obtain ⟨rfl, rfl⟩ := H
       go_enter Tryd.func42, Tryd.ntmps42
       try go_wp2_with (first | ((with_reducible refine gate_dst (N := 2) rfl ?_); refine boxQ (N := 2) (cs := #[.string a0_0, .bool a0_1]) (t := 60) ?_; intro gb265 hg w30 hbox hb; have BK265 := Aside0.mk hbox; have GW265 := Qt w hg; have GE265 := GW265; replace HB := Qy hb; clear hb hbox hg) | ((with_reducible refine gate_dst (N := 3) rfl ?_); refine boxQ (N := 3) (cs := #[.int .i64 a1_0, .int .i64 a1_1]) (t := 23) ?_; intro gb266 hg w31 hbox hb; have BK266 := Aside0.mk hbox; have GW266 := Qt w hg; have GE266 := GW266; have NB265_266 := Qo hg BK265; have NB266_265 := Qp hg BK265; replace BK265 := Qv BK265 hb; replace HB := Qy hb; clear hb hbox hg) | ((with_reducible refine gate_dst (N := 4) rfl ?_); refine boxQ (N := 4) (cs := #[.string (⟨#[]⟩ : ByteArray), .bool false]) (t := 60) ?_; intro gb267 hg w32 hbox hb; have BK267 := Aside0.mk hbox; have GW267 := Qt w hg; have GE267 := GW267; have NB265_267 := Qo hg BK265; have NB267_265 := Qp hg BK265; have NB266_267 := Qo hg BK266; have NB267_266 := Qp hg BK266; replace BK265 := Qv BK265 hb; replace BK266 := Qv BK266 hb; replace HB := Qy hb; clear hb hbox hg))
       have n0_ := Aside0.mk (blk_drew BK265.out)
       have n1_ := Aside0.mk (blk_drew BK266.out)
       have n2_ := Aside0.mk (blk_drew BK267.out)
       have n3_ := Aside0.mk (below_drew1 HB.out)
       clear BK265
       clear BK266
       clear BK267
       clear HB
       have BK265 := n0_
       have BK266 := n1_
       have BK267 := n2_
       have HB := n3_
       clear n0_ n1_ n2_ n3_
       refine start_ (n := 28) (S := fun w' => w'.cell? ⟨gb265, 0, none⟩ = some (.string a0_0) ∧ w'.cell? ⟨gb265, 1, none⟩ = some (.bool a0_1) ∧ w'.cell? ⟨gb266, 0, none⟩ = some (.int .i64 a1_0) ∧ w'.cell? ⟨gb266, 1, none⟩ = some (.int .i64 a1_1)) (ds := []) (mb 28 0) (by kernel_rfl) rfl (by kernel_rfl) ⟨(blk_cell BK265.out 0).trans rfl, (blk_cell BK265.out 1).trans rfl, (blk_cell BK266.out 0).trans rfl, (blk_cell BK266.out 1).trans rfl⟩ (fun hHeld => ?_); refine with_tabW samphireref09_Stamp.tab1 samphireref09_Stamp.bits1 (fun HT_ HW_ => ?_)
       generalize w32.drew = w33 at BK265 BK266 BK267 HB hHeld ⊢
       refine pu 1 6 (mb 28 2) HT_ ?_
       refine pu 4 9 (mb 28 18) HT_ ?_
       refine pu 8 13 (mb 28 274) HT_ ?_
       refine tk 0 5 (mb 28 275) HT_ HW_ hHeld ?_
       refine tk 2 7 (mb 28 279) HT_ HW_ hHeld ?_
       refine tk 5 10 (mb 28 311) HT_ HW_ hHeld ?_
       refine tk 9 14 (mb 28 823) HT_ HW_ hHeld ?_
       refine pu 10 15 (mb 28 1847) HT_ ?_
       refine on 3 (some 8) (mb 28 1855) HT_ (fun K hK => ?_)
       refine goes_ Tryd.func76 (by kernel_rfl) rfl #[.int .i64 a1_0, .int .i64 6] (by rfl) rfl rfl Qm ?_
       with_reducible refine (samphireref09_big.calls k a1_0 6 t268 _ A3.out).mono ?_
       rintro e w34 ⟨rfl, hb⟩
       refine ⟨_, rfl, ?_⟩
       have n0_ := Aside0.mk (Qb BK265 hb)
       have n1_ := Aside0.mk (Qb BK266 hb)
       have n2_ := Aside0.mk (Qb BK267 hb)
       have n3_ := Aside0.mk (below_step Qh hb)
       clear BK265
       clear BK266
       clear BK267
       clear HB
       have BK265 := n0_
       have BK266 := n1_
       have BK267 := n2_
       have HB := n3_
       clear n0_ n1_ n2_ n3_
       (try clear hb)
       (try clear hb2)
       (try clear hk)
       (try clear hi)
       refine hK.out _ _ ⟨(blk_cell BK265.out 0).trans rfl, (blk_cell BK265.out 1).trans rfl, (blk_cell BK266.out 0).trans rfl, (blk_cell BK266.out 1).trans rfl⟩ (fun hHeld => ?_)
       clear hK K
       refine nm _ ?_
       refine on 6 (some 11) (mb 28 1919) HT_ (fun K hK => ?_)
       refine goes_ Tryd.func76 (by kernel_rfl) rfl #[.int .i64 a1_1, .int .i64 1] (by rfl) rfl rfl Qm ?_
       with_reducible refine (samphireref09_big.calls k a1_1 1 t269 _ A4.out).mono ?_
       rintro e w35 ⟨rfl, hb⟩
       refine ⟨_, rfl, ?_⟩
       have n0_ := Aside0.mk (Qb BK265 hb)
       have n1_ := Aside0.mk (Qb BK266 hb)
       have n2_ := Aside0.mk (Qb BK267 hb)
       have n3_ := Aside0.mk (below_step Qh hb)
       clear BK265
       clear BK266
       clear BK267
       clear HB
       have BK265 := n0_
       have BK266 := n1_
       have BK267 := n2_
       have HB := n3_
       clear n0_ n1_ n2_ n3_
       (try clear hb)
       (try clear hb2)
       (try clear hk)
       (try clear hi)
       refine hK.out _ _ ⟨(blk_cell BK265.out 0).trans rfl, (blk_cell BK265.out 1).trans rfl, (blk_cell BK266.out 0).trans rfl, (blk_cell BK266.out 1).trans rfl⟩ (fun hHeld => ?_)
       clear hK K
       refine nm _ ?_
       refine pu 7 12 (mb 28 2047) HT_ ?_
       refine pu 11 16 (mb 28 4095) HT_ ?_
       refine pu 12 17 (mb 28 8191) HT_ ?_
       refine tk 13 18 (mb 28 16383) HT_ HW_ hHeld ?_
       refine pu 14 19 (mb 28 32767) HT_ ?_
       refine pu 15 20 (mb 28 65535) HT_ ?_
       refine pu 16 21 (mb 28 131071) HT_ ?_
       refine sk 17 22 3 (mb 28 1048575) HT_ ?_
       refine pu 20 25 (mb 28 2097151) HT_ ?_
       refine pu 21 26 (mb 28 4194303) HT_ ?_
       refine sk 22 27 3 (mb 28 33554431) HT_ ?_
       refine pu 25 30 (mb 28 67108863) HT_ ?_
       refine on 26 (some 31) (mb 28 134217727) HT_ (fun K hK => ?_)
       refine goes_ Tryd.func75 (by kernel_rfl) rfl #[.agg #[.string a0_0, .bool a0_1], .string (t268 ++ t269), .bool false] (by rfl) rfl rfl Qm ?_
       with_reducible refine (samphireref09_with.calls a0_0 a0_1 (t268 ++ t269) false t274 t275 _ A29.out).mono ?_
       rintro e w36 ⟨rfl, hb⟩
       refine ⟨_, rfl, ?_⟩
       have n0_ := Aside0.mk (Qb BK265 hb)
       have n1_ := Aside0.mk (Qb BK266 hb)
       have n2_ := Aside0.mk (Qb BK267 hb)
       have n3_ := Aside0.mk (below_step Qh hb)
       clear BK265
       clear BK266
       clear BK267
       clear HB
       have BK265 := n0_
       have BK266 := n1_
       have BK267 := n2_
       have HB := n3_
       clear n0_ n1_ n2_ n3_
       (try clear hb)
       (try clear hb2)
       (try clear hk)
       (try clear hi)
       refine hK.out _ _ ⟨(blk_cell BK265.out 0).trans rfl, (blk_cell BK265.out 1).trans rfl, (blk_cell BK266.out 0).trans rfl, (blk_cell BK266.out 1).trans rfl⟩ (fun hHeld => ?_)
       clear hK K
       refine nm _ ?_
       refine on 27 none (mb 28 268435455) HT_ (fun K hK => ?_)
       have hs37 : w36.cell? ⟨gb267, 0, none⟩ = some (.string (⟨#[]⟩ : ByteArray)) := (blk_cell BK267.out 0).trans rfl
       have hfs37 := blk_frozen BK267.out 0
       have hns37_0 := NB265_267.out
       have hns37_1 := NB266_267.out
       have hms37_0 := NB267_265.out
       have hms37_1 := NB267_266.out
       have hs38 : w36.cell? ⟨gb267, 1, none⟩ = some (.bool false) := (blk_cell BK267.out 1).trans rfl
       have hfs38 := blk_frozen BK267.out 1
       have hns38_0 := NB265_267.out
       have hns38_1 := NB266_267.out
       have hms38_0 := NB267_265.out
       have hms38_1 := NB267_266.out
       refine skip_ (w1 := ?_) (by rfl) rfl ?_ ?_
       rotate_left
       · go_simp
         rfl
       refine hK.out _ _ ⟨((cell_far (p := ⟨gb267, _, none⟩) NB265_267.out _).trans (((cell_far (p := ⟨gb267, _, none⟩) NB265_267.out _).trans (hHeld.1)))), ((cell_far (p := ⟨gb267, _, none⟩) NB265_267.out _).trans (((cell_far (p := ⟨gb267, _, none⟩) NB265_267.out _).trans (hHeld.2.1)))), ((cell_far (p := ⟨gb267, _, none⟩) NB266_267.out _).trans (((cell_far (p := ⟨gb267, _, none⟩) NB266_267.out _).trans (hHeld.2.2.1)))), ((cell_far (p := ⟨gb267, _, none⟩) NB266_267.out _).trans (((cell_far (p := ⟨gb267, _, none⟩) NB266_267.out _).trans (hHeld.2.2.2))))⟩ (fun hHeld => ?_)
       clear hK K
       refine dn HT_ ?_
       try go_wp2
       refine bodyPost_ret (results_cell_row rfl _ _ gb267 60 #[.string t274, .bool t275] (0, 0) _ rfl Qk Tryd.underlying60 rfl (by kernel_rfl)) rfl ?_
       exact ⟨Qe, Qh⟩
   · rw [if_neg c6] at H
     have c6b0 : decide (0 ≤ a1_0) = false := decide_eq_false c6
     clear c6
     replace H := Option.bind_eq_some_iff.mp H
     obtain ⟨⟨t276, t277⟩, A390, H⟩ := H
     replace H : (some (t276, t277)) = some (r1, r2) := H
     have A39 := Aside0.mk A390
     clear A390
     simp only [Option.some.injEq, Prod.mk.injEq] at H
     obtain ⟨rfl, rfl⟩ := H
     go_enter Tryd.func42, Tryd.ntmps42
     try go_wp2_with (first | ((with_reducible refine gate_dst (N := 2) rfl ?_); refine boxQ (N := 2) (cs := #[.string a0_0, .bool a0_1]) (t := 60) ?_; intro gb265 hg w40 hbox hb; have BK265 := Aside0.mk hbox; have GW265 := Qt w hg; have GE265 := GW265; replace HB := Qy hb; clear hb hbox hg) | ((with_reducible refine gate_dst (N := 3) rfl ?_); refine boxQ (N := 3) (cs := #[.int .i64 a1_0, .int .i64 a1_1]) (t := 23) ?_; intro gb266 hg w41 hbox hb; have BK266 := Aside0.mk hbox; have GW266 := Qt w hg; have GE266 := GW266; have NB265_266 := Qo hg BK265; have NB266_265 := Qp hg BK265; replace BK265 := Qv BK265 hb; replace HB := Qy hb; clear hb hbox hg) | ((with_reducible refine gate_dst (N := 4) rfl ?_); refine boxQ (N := 4) (cs := #[.string (⟨#[]⟩ : ByteArray), .bool false]) (t := 60) ?_; intro gb267 hg w42 hbox hb; have BK267 := Aside0.mk hbox; have GW267 := Qt w hg; have GE267 := GW267; have NB265_267 := Qo hg BK265; have NB267_265 := Qp hg BK265; have NB266_267 := Qo hg BK266; have NB267_266 := Qp hg BK266; replace BK265 := Qv BK265 hb; replace BK266 := Qv BK266 hb; replace HB := Qy hb; clear hb hbox hg))
     have n0_ := Aside0.mk (blk_drew BK265.out)
     have n1_ := Aside0.mk (blk_drew BK266.out)
     have n2_ := Aside0.mk (blk_drew BK267.out)
     have n3_ := Aside0.mk (below_drew1 HB.out)
     clear BK265
     clear BK266
     clear BK267
     clear HB
     have BK265 := n0_
     have BK266 := n1_
     have BK267 := n2_
     have HB := n3_
     clear n0_ n1_ n2_ n3_
     refine start_ (n := 28) (S := fun w' => w'.cell? ⟨gb265, 0, none⟩ = some (.string a0_0) ∧ w'.cell? ⟨gb265, 1, none⟩ = some (.bool a0_1) ∧ w'.cell? ⟨gb266, 0, none⟩ = some (.int .i64 a1_0) ∧ w'.cell? ⟨gb266, 1, none⟩ = some (.int .i64 a1_1)) (ds := []) (mb 28 0) (by kernel_rfl) rfl (by kernel_rfl) ⟨(blk_cell BK265.out 0).trans rfl, (blk_cell BK265.out 1).trans rfl, (blk_cell BK266.out 0).trans rfl, (blk_cell BK266.out 1).trans rfl⟩ (fun hHeld => ?_); refine with_tabW samphireref09_Stamp.tab1 samphireref09_Stamp.bits1 (fun HT_ HW_ => ?_)
     generalize w42.drew = w43 at BK265 BK266 BK267 HB hHeld ⊢
     refine pu 1 6 (mb 28 2) HT_ ?_
     refine pu 4 9 (mb 28 18) HT_ ?_
     refine pu 8 13 (mb 28 274) HT_ ?_
     refine tk 0 5 (mb 28 275) HT_ HW_ hHeld ?_
     refine tk 2 7 (mb 28 279) HT_ HW_ hHeld ?_
     refine tk 5 10 (mb 28 311) HT_ HW_ hHeld ?_
     refine tk 9 14 (mb 28 823) HT_ HW_ hHeld ?_
     refine pu 10 15 (mb 28 1847) HT_ ?_
     refine on 3 (some 8) (mb 28 1855) HT_ (fun K hK => ?_)
     refine goes_ Tryd.func76 (by kernel_rfl) rfl #[.int .i64 a1_0, .int .i64 6] (by rfl) rfl rfl Qm ?_
     with_reducible refine (samphireref09_big.calls k a1_0 6 t268 _ A3.out).mono ?_
     rintro e w44 ⟨rfl, hb⟩
     refine ⟨_, rfl, ?_⟩
     have n0_ := Aside0.mk (Qb BK265 hb)
     have n1_ := Aside0.mk (Qb BK266 hb)
     have n2_ := Aside0.mk (Qb BK267 hb)
     have n3_ := Aside0.mk (below_step Qh hb)
     clear BK265
     clear BK266
     clear BK267
     clear HB
     have BK265 := n0_
     have BK266 := n1_
     have BK267 := n2_
     have HB := n3_
     clear n0_ n1_ n2_ n3_
     (try clear hb)
     (try clear hb2)
     (try clear hk)
     (try clear hi)
     refine hK.out _ _ ⟨(blk_cell BK265.out 0).trans rfl, (blk_cell BK265.out 1).trans rfl, (blk_cell BK266.out 0).trans rfl, (blk_cell BK266.out 1).trans rfl⟩ (fun hHeld => ?_)
     clear hK K
     refine nm _ ?_
     refine on 6 (some 11) (mb 28 1919) HT_ (fun K hK => ?_)
     refine goes_ Tryd.func76 (by kernel_rfl) rfl #[.int .i64 a1_1, .int .i64 1] (by rfl) rfl rfl Qm ?_
     with_reducible refine (samphireref09_big.calls k a1_1 1 t269 _ A4.out).mono ?_
     rintro e w45 ⟨rfl, hb⟩
     refine ⟨_, rfl, ?_⟩
     have n0_ := Aside0.mk (Qb BK265 hb)
     have n1_ := Aside0.mk (Qb BK266 hb)
     have n2_ := Aside0.mk (Qb BK267 hb)
     have n3_ := Aside0.mk (below_step Qh hb)
     clear BK265
     clear BK266
     clear BK267
     clear HB
     have BK265 := n0_
     have BK266 := n1_
     have BK267 := n2_
     have HB := n3_
     clear n0_ n1_ n2_ n3_
     (try clear hb)
     (try clear hb2)
     (try clear hk)
     (try clear hi)
     refine hK.out _ _ ⟨(blk_cell BK265.out 0).trans rfl, (blk_cell BK265.out 1).trans rfl, (blk_cell BK266.out 0).trans rfl, (blk_cell BK266.out 1).trans rfl⟩ (fun hHeld => ?_)
     clear hK K
     refine nm _ ?_
     refine pu 7 12 (mb 28 2047) HT_ ?_
     refine pu 11 16 (mb 28 4095) HT_ ?_
     refine sk 12 17 3 (mb 28 32767) HT_ ?_
     refine pu 15 20 (mb 28 65535) HT_ ?_
     refine pu 16 21 (mb 28 131071) HT_ ?_
     refine sk 17 22 3 (mb 28 1048575) HT_ ?_
     refine pu 20 25 (mb 28 2097151) HT_ ?_
     refine pu 21 26 (mb 28 4194303) HT_ ?_
     refine sk 22 27 3 (mb 28 33554431) HT_ ?_
     refine pu 25 30 (mb 28 67108863) HT_ ?_
     refine on 26 (some 31) (mb 28 134217727) HT_ (fun K hK => ?_)
     refine goes_ Tryd.func75 (by kernel_rfl) rfl #[.agg #[.string a0_0, .bool a0_1], .string (t268 ++ t269), .bool false] (by rfl) rfl rfl Qm ?_
     with_reducible refine (samphireref09_with.calls a0_0 a0_1 (t268 ++ t269) false t276 t277 _ A39.out).mono ?_
     rintro e w46 ⟨rfl, hb⟩
     refine ⟨_, rfl, ?_⟩
     have n0_ := Aside0.mk (Qb BK265 hb)
     have n1_ := Aside0.mk (Qb BK266 hb)
     have n2_ := Aside0.mk (Qb BK267 hb)
     have n3_ := Aside0.mk (below_step Qh hb)
     clear BK265
     clear BK266
     clear BK267
     clear HB
     have BK265 := n0_
     have BK266 := n1_
     have BK267 := n2_
     have HB := n3_
     clear n0_ n1_ n2_ n3_
     (try clear hb)
     (try clear hb2)
     (try clear hk)
     (try clear hi)
     refine hK.out _ _ ⟨(blk_cell BK265.out 0).trans rfl, (blk_cell BK265.out 1).trans rfl, (blk_cell BK266.out 0).trans rfl, (blk_cell BK266.out 1).trans rfl⟩ (fun hHeld => ?_)
     clear hK K
     refine nm _ ?_
     refine on 27 none (mb 28 268435455) HT_ (fun K hK => ?_)
     have hs47 : w46.cell? ⟨gb267, 0, none⟩ = some (.string (⟨#[]⟩ : ByteArray)) := (blk_cell BK267.out 0).trans rfl
     have hfs47 := blk_frozen BK267.out 0
     have hns47_0 := NB265_267.out
     have hns47_1 := NB266_267.out
     have hms47_0 := NB267_265.out
     have hms47_1 := NB267_266.out
     have hs48 : w46.cell? ⟨gb267, 1, none⟩ = some (.bool false) := (blk_cell BK267.out 1).trans rfl
     have hfs48 := blk_frozen BK267.out 1
     have hns48_0 := NB265_267.out
     have hns48_1 := NB266_267.out
     have hms48_0 := NB267_265.out
     have hms48_1 := NB267_266.out
     refine skip_ (w1 := ?_) (by rfl) rfl ?_ ?_
     rotate_left
     · go_simp
       rfl
     refine hK.out _ _ ⟨((cell_far (p := ⟨gb267, _, none⟩) NB265_267.out _).trans (((cell_far (p := ⟨gb267, _, none⟩) NB265_267.out _).trans (hHeld.1)))), ((cell_far (p := ⟨gb267, _, none⟩) NB265_267.out _).trans (((cell_far (p := ⟨gb267, _, none⟩) NB265_267.out _).trans (hHeld.2.1)))), ((cell_far (p := ⟨gb267, _, none⟩) NB266_267.out _).trans (((cell_far (p := ⟨gb267, _, none⟩) NB266_267.out _).trans (hHeld.2.2.1)))), ((cell_far (p := ⟨gb267, _, none⟩) NB266_267.out _).trans (((cell_far (p := ⟨gb267, _, none⟩) NB266_267.out _).trans (hHeld.2.2.2))))⟩ (fun hHeld => ?_)
     clear hK K
     refine dn HT_ ?_
     try go_wp2
     refine bodyPost_ret (results_cell_row rfl _ _ gb267 60 #[.string t276, .bool t277] (0, 0) _ rfl Qk Tryd.underlying60 rfl (by kernel_rfl)) rfl ?_
     exact ⟨Qe, Qh⟩
 · rw [if_neg c5] at H
   exact absurd H (by simp)
end Go.Proofs.YtlfgdaiegefjiaaDoor.S
