/- Functions of the translation as plain Lean functions, and that each call comes to what they say: for every argument. Written by a program of this session's own; Lean checks it. -/
import Derived.Test.YtlfgdaiegefjiaaDoorQc
import Derived.Test.YtlfgdaiegefjiaaDoorSA
import Derived.Test.YtlfgdaiegefjiaaDoorQa
import Derived.Test.YtlfgdaiegefjiaaDoorSx6
namespace Go.Proofs.YtlfgdaiegefjiaaDoor.S
open Go.RowKit Go.Proofs.YtlfgdaiegefjiaaDoorW.PrintWords Go.Proofs.YtlfgdaiegefjiaaDoorW.PrintLast
set_option linter.unusedVariables false
set_option linter.unusedSimpArgs false
/-! ### samphireref09_Num: function 43 -/
def samphireref09_Num.f (k : Nat) (a0_0 : ByteArray) (a0_1 : Bool) (a1 : Int) : Option (ByteArray × Bool) := (samphireref09_big.f k a1 6).bind fun t326 => (if a1 ≥ 0 then ((samphireref09_with.f a0_0 a0_1 t326 (decide (a1 ≤ 1099511627775))).bind fun bt327 => (some (bt327.1, bt327.2))) else ((samphireref09_with.f a0_0 a0_1 t326 false).bind fun bt329 => (some (bt329.1, bt329.2))))
def samphireref09_Num.T1 : Bool × List (List Nat × List Nat) := (true, [([], []), ([], []), ([1], [1]), ([], []), ([3], [3]), ([4, 2], [4]), ([5], [5]), ([6, 5], [5, 6]), ([5, 7], [5, 7]), ([0, 2, 8, 5], [0, 2, 8]), ([9, 9, 0, 1, 2, 3, 4, 5, 6, 7, 8, 9], [9])])
def samphireref09_Num.B1 : List Nat := [0, 0, 2, 0, 8, 30, 62, 126, 254, 511, 1023]
theorem samphireref09_Num.tab1 : rtab .any (opsOf Tryd.f43 1) = samphireref09_Num.T1 := by kernel_rfl
theorem samphireref09_Num.bits1 : waitsOk samphireref09_Num.T1.2 samphireref09_Num.B1 = true := by kernel_rfl
set_option maxHeartbeats 8000000 in
set_option maxRecDepth 100000 in
theorem samphireref09_Num.calls (k : Nat) (a0_0 : ByteArray) (a0_1 : Bool) (a1 : Int) (r1 : ByteArray) (r2 : Bool) (w : World) (h : samphireref09_Num.f k a0_0 a0_1 a1 = some (r1, r2)) :
 Calls Tryd.prog 43 #[.agg #[.string a0_0, .bool a0_1], .int .i64 a1] w fun e w' => e = .returned (.agg #[.string r1, .bool r2]) ∧ Below w.heap.size w w' := by
 have hu60 := Tryd.underlying60
 have HB := Aside0.mk (Below.refl w.heap.size w)
 have H : ((samphireref09_big.f k a1 6).bind fun t326 => (if a1 ≥ 0 then ((samphireref09_with.f a0_0 a0_1 t326 (decide (a1 ≤ 1099511627775))).bind fun bt327 => (some (bt327.1, bt327.2))) else ((samphireref09_with.f a0_0 a0_1 t326 false).bind fun bt329 => (some (bt329.1, bt329.2))))) = some (r1, r2) := h
 clear h
 replace H := Option.bind_eq_some_iff.mp H
 obtain ⟨t326, A30, H⟩ := H
 replace H : (if a1 ≥ 0 then ((samphireref09_with.f a0_0 a0_1 t326 (decide (a1 ≤ 1099511627775))).bind fun bt327 => (some (bt327.1, bt327.2))) else ((samphireref09_with.f a0_0 a0_1 t326 false).bind fun bt329 => (some (bt329.1, bt329.2)))) = some (r1, r2) := H
 have A3 := Aside0.mk A30
 clear A30
 by_cases c4 : a1 ≥ 0
 · rw [if_pos c4] at H
   have c4b0 : decide (0 ≤ a1) = true := decide_eq_true c4
   clear c4
   replace H := Option.bind_eq_some_iff.mp H
   obtain ⟨⟨t327, t328⟩, A50, H⟩ := H
   replace H : (some (t327, t328)) = some (r1, r2) := H
   have A5 := Aside0.mk A50
   clear A50
   simp only [Option.some.injEq, Prod.mk.injEq] at H
   obtain ⟨rfl, rfl⟩ := H
   go_enter Tryd.func43, Tryd.ntmps43
   try go_wp2_with (first | ((with_reducible refine gate_dst (N := 2) rfl ?_); refine boxQ (N := 2) (cs := #[.string a0_0, .bool a0_1]) (t := 60) ?_; intro gb324 hg w6 hbox hb; have BK324 := Aside0.mk hbox; have GW324 := Qt w hg; have GE324 := GW324; replace HB := Qy hb; clear hb hbox hg) | ((with_reducible refine gate_dst (N := 4) rfl ?_); refine boxQ (N := 4) (cs := #[.string (⟨#[]⟩ : ByteArray), .bool false]) (t := 60) ?_; intro gb325 hg w7 hbox hb; have BK325 := Aside0.mk hbox; have GW325 := Qt w hg; have GE325 := GW325; have NB324_325 := Qo hg BK324; have NB325_324 := Qp hg BK324; replace BK324 := Qv BK324 hb; replace HB := Qy hb; clear hb hbox hg))
   have n0_ := Aside0.mk (blk_drew BK324.out)
   have n1_ := Aside0.mk (blk_drew BK325.out)
   have n2_ := Aside0.mk (below_drew1 HB.out)
   clear BK324
   clear BK325
   clear HB
   have BK324 := n0_
   have BK325 := n1_
   have HB := n2_
   clear n0_ n1_ n2_
   refine start_ (n := 11) (S := fun w' => w'.cell? ⟨gb324, 0, none⟩ = some (.string a0_0) ∧ w'.cell? ⟨gb324, 1, none⟩ = some (.bool a0_1)) (ds := []) (mb 11 0) (by kernel_rfl) rfl (by kernel_rfl) ⟨(blk_cell BK324.out 0).trans rfl, (blk_cell BK324.out 1).trans rfl⟩ (fun hHeld => ?_); refine with_tabW samphireref09_Num.tab1 samphireref09_Num.bits1 (fun HT_ HW_ => ?_)
   generalize w7.drew = w8 at BK324 BK325 HB hHeld ⊢
   refine pu 1 6 (mb 11 2) HT_ ?_
   refine pu 3 8 (mb 11 10) HT_ ?_
   refine pu 4 9 (mb 11 26) HT_ ?_
   refine tk 0 5 (mb 11 27) HT_ HW_ hHeld ?_
   refine on 2 (some 7) (mb 11 31) HT_ (fun K hK => ?_)
   refine goes_ Tryd.func76 (by kernel_rfl) rfl #[.int .i64 a1, .int .i64 6] (by rfl) rfl rfl Qm ?_
   with_reducible refine (samphireref09_big.calls k a1 6 t326 _ A3.out).mono ?_
   rintro e w9 ⟨rfl, hb⟩
   refine ⟨_, rfl, ?_⟩
   have n0_ := Aside0.mk (Qb BK324 hb)
   have n1_ := Aside0.mk (Qb BK325 hb)
   have n2_ := Aside0.mk (below_step Qh hb)
   clear BK324
   clear BK325
   clear HB
   have BK324 := n0_
   have BK325 := n1_
   have HB := n2_
   clear n0_ n1_ n2_
   (try clear hb)
   (try clear hb2)
   (try clear hk)
   (try clear hi)
   refine hK.out _ _ ⟨(blk_cell BK324.out 0).trans rfl, (blk_cell BK324.out 1).trans rfl⟩ (fun hHeld => ?_)
   clear hK K
   refine nm _ ?_
   refine pu 5 10 (mb 11 63) HT_ ?_
   refine pu 6 11 (mb 11 127) HT_ ?_
   refine pu 7 12 (mb 11 255) HT_ ?_
   refine pu 8 13 (mb 11 511) HT_ ?_
   refine on 9 (some 14) (mb 11 1023) HT_ (fun K hK => ?_)
   refine goes_ Tryd.func75 (by kernel_rfl) rfl #[.agg #[.string a0_0, .bool a0_1], .string t326, .bool (decide (a1 ≤ 1099511627775))] (by rfl) rfl rfl Qm ?_
   with_reducible refine (samphireref09_with.calls a0_0 a0_1 t326 (decide (a1 ≤ 1099511627775)) t327 t328 _ A5.out).mono ?_
   rintro e w10 ⟨rfl, hb⟩
   refine ⟨_, rfl, ?_⟩
   have n0_ := Aside0.mk (Qb BK324 hb)
   have n1_ := Aside0.mk (Qb BK325 hb)
   have n2_ := Aside0.mk (below_step Qh hb)
   clear BK324
   clear BK325
   clear HB
   have BK324 := n0_
   have BK325 := n1_
   have HB := n2_
   clear n0_ n1_ n2_
   (try clear hb)
   (try clear hb2)
   (try clear hk)
   (try clear hi)
   refine hK.out _ _ ⟨(blk_cell BK324.out 0).trans rfl, (blk_cell BK324.out 1).trans rfl⟩ (fun hHeld => ?_)
   clear hK K
   refine nm _ ?_
   refine on 10 none (mb 11 2047) HT_ (fun K hK => ?_)
   have hs11 : w10.cell? ⟨gb325, 0, none⟩ = some (.string (⟨#[]⟩ : ByteArray)) := (blk_cell BK325.out 0).trans rfl
   have hfs11 := blk_frozen BK325.out 0
   have hns11_0 := NB324_325.out
   have hms11_0 := NB325_324.out
   have hs12 : w10.cell? ⟨gb325, 1, none⟩ = some (.bool false) := (blk_cell BK325.out 1).trans rfl
   have hfs12 := blk_frozen BK325.out 1
   have hns12_0 := NB324_325.out
   have hms12_0 := NB325_324.out
   refine skip_ (w1 := ?_) (by rfl) rfl ?_ ?_
   rotate_left
   · go_simp
     rfl
   refine hK.out _ _ ⟨((cell_far (p := ⟨gb325, _, none⟩) NB324_325.out _).trans (((cell_far (p := ⟨gb325, _, none⟩) NB324_325.out _).trans (hHeld.1)))), ((cell_far (p := ⟨gb325, _, none⟩) NB324_325.out _).trans (((cell_far (p := ⟨gb325, _, none⟩) NB324_325.out _).trans (hHeld.2))))⟩ (fun hHeld => ?_)
   clear hK K
   refine dn HT_ ?_
   try go_wp2
   refine bodyPost_ret (results_cell_row rfl _ _ gb325 60 #[.string t327, .bool t328] (0, 0) _ rfl Qk Tryd.underlying60 rfl (by kernel_rfl)) rfl ?_
   exact ⟨Qe, Qh⟩
 · rw [if_neg c4] at H
   have c4b0 : decide (0 ≤ a1) = false := decide_eq_false c4
   clear c4
   replace H := Option.bind_eq_some_iff.mp H
   obtain ⟨⟨t329, t330⟩, A130, H⟩ := H
   replace H : (some (t329, t330)) = some (r1, r2) := H
   have A13 := Aside0.mk A130
   clear A130
   simp only [Option.some.injEq, Prod.mk.injEq] at H
   obtain ⟨rfl, rfl⟩ := H
   go_enter Tryd.func43, Tryd.ntmps43
   try go_wp2_with (first | ((with_reducible refine gate_dst (N := 2) rfl ?_); refine boxQ (N := 2) (cs := #[.string a0_0, .bool a0_1]) (t := 60) ?_; intro gb324 hg w14 hbox hb; have BK324 := Aside0.mk hbox; have GW324 := Qt w hg; have GE324 := GW324; replace HB := Qy hb; clear hb hbox hg) | ((with_reducible refine gate_dst (N := 4) rfl ?_); refine boxQ (N := 4) (cs := #[.string (⟨#[]⟩ : ByteArray), .bool false]) (t := 60) ?_; intro gb325 hg w15 hbox hb; have BK325 := Aside0.mk hbox; have GW325 := Qt w hg; have GE325 := GW325; have NB324_325 := Qo hg BK324; have NB325_324 := Qp hg BK324; replace BK324 := Qv BK324 hb; replace HB := Qy hb; clear hb hbox hg))
   have n0_ := Aside0.mk (blk_drew BK324.out)
   have n1_ := Aside0.mk (blk_drew BK325.out)
   have n2_ := Aside0.mk (below_drew1 HB.out)
   clear BK324
   clear BK325
   clear HB
   have BK324 := n0_
   have BK325 := n1_
   have HB := n2_
   clear n0_ n1_ n2_
   refine start_ (n := 11) (S := fun w' => w'.cell? ⟨gb324, 0, none⟩ = some (.string a0_0) ∧ w'.cell? ⟨gb324, 1, none⟩ = some (.bool a0_1)) (ds := []) (mb 11 0) (by kernel_rfl) rfl (by kernel_rfl) ⟨(blk_cell BK324.out 0).trans rfl, (blk_cell BK324.out 1).trans rfl⟩ (fun hHeld => ?_); refine with_tabW samphireref09_Num.tab1 samphireref09_Num.bits1 (fun HT_ HW_ => ?_)
   generalize w15.drew = w16 at BK324 BK325 HB hHeld ⊢
   refine pu 1 6 (mb 11 2) HT_ ?_
   refine pu 3 8 (mb 11 10) HT_ ?_
   refine pu 4 9 (mb 11 26) HT_ ?_
   refine tk 0 5 (mb 11 27) HT_ HW_ hHeld ?_
   refine on 2 (some 7) (mb 11 31) HT_ (fun K hK => ?_)
   refine goes_ Tryd.func76 (by kernel_rfl) rfl #[.int .i64 a1, .int .i64 6] (by rfl) rfl rfl Qm ?_
   with_reducible refine (samphireref09_big.calls k a1 6 t326 _ A3.out).mono ?_
   rintro e w17 ⟨rfl, hb⟩
   refine ⟨_, rfl, ?_⟩
   have n0_ := Aside0.mk (Qb BK324 hb)
   have n1_ := Aside0.mk (Qb BK325 hb)
   have n2_ := Aside0.mk (below_step Qh hb)
   clear BK324
   clear BK325
   clear HB
   have BK324 := n0_
   have BK325 := n1_
   have HB := n2_
   clear n0_ n1_ n2_
   (try clear hb)
   (try clear hb2)
   (try clear hk)
   (try clear hi)
   refine hK.out _ _ ⟨(blk_cell BK324.out 0).trans rfl, (blk_cell BK324.out 1).trans rfl⟩ (fun hHeld => ?_)
   clear hK K
   refine nm _ ?_
   refine pu 5 10 (mb 11 63) HT_ ?_
   refine sk 6 11 2 (mb 11 255) HT_ ?_
   refine pu 8 13 (mb 11 511) HT_ ?_
   refine on 9 (some 14) (mb 11 1023) HT_ (fun K hK => ?_)
   refine goes_ Tryd.func75 (by kernel_rfl) rfl #[.agg #[.string a0_0, .bool a0_1], .string t326, .bool false] (by rfl) rfl rfl Qm ?_
   with_reducible refine (samphireref09_with.calls a0_0 a0_1 t326 false t329 t330 _ A13.out).mono ?_
   rintro e w18 ⟨rfl, hb⟩
   refine ⟨_, rfl, ?_⟩
   have n0_ := Aside0.mk (Qb BK324 hb)
   have n1_ := Aside0.mk (Qb BK325 hb)
   have n2_ := Aside0.mk (below_step Qh hb)
   clear BK324
   clear BK325
   clear HB
   have BK324 := n0_
   have BK325 := n1_
   have HB := n2_
   clear n0_ n1_ n2_
   (try clear hb)
   (try clear hb2)
   (try clear hk)
   (try clear hi)
   refine hK.out _ _ ⟨(blk_cell BK324.out 0).trans rfl, (blk_cell BK324.out 1).trans rfl⟩ (fun hHeld => ?_)
   clear hK K
   refine nm _ ?_
   refine on 10 none (mb 11 2047) HT_ (fun K hK => ?_)
   have hs19 : w18.cell? ⟨gb325, 0, none⟩ = some (.string (⟨#[]⟩ : ByteArray)) := (blk_cell BK325.out 0).trans rfl
   have hfs19 := blk_frozen BK325.out 0
   have hns19_0 := NB324_325.out
   have hms19_0 := NB325_324.out
   have hs20 : w18.cell? ⟨gb325, 1, none⟩ = some (.bool false) := (blk_cell BK325.out 1).trans rfl
   have hfs20 := blk_frozen BK325.out 1
   have hns20_0 := NB324_325.out
   have hms20_0 := NB325_324.out
   refine skip_ (w1 := ?_) (by rfl) rfl ?_ ?_
   rotate_left
   · go_simp
     rfl
   refine hK.out _ _ ⟨((cell_far (p := ⟨gb325, _, none⟩) NB324_325.out _).trans (((cell_far (p := ⟨gb325, _, none⟩) NB324_325.out _).trans (hHeld.1)))), ((cell_far (p := ⟨gb325, _, none⟩) NB324_325.out _).trans (((cell_far (p := ⟨gb325, _, none⟩) NB324_325.out _).trans (hHeld.2))))⟩ (fun hHeld => ?_)
   clear hK K
   refine dn HT_ ?_
   try go_wp2
   refine bodyPost_ret (results_cell_row rfl _ _ gb325 60 #[.string t329, .bool t330] (0, 0) _ rfl Qk Tryd.underlying60 rfl (by kernel_rfl)) rfl ?_
   exact ⟨Qe, Qh⟩
/-! ### samphireref09_wrong: function 82 -/
def samphireref09_wrong.f (a0_0 : ByteArray) (a0_1 : Int) (a1 : Int) : Option (ByteArray × Int) := if a0_1 = 0 then (some ((⟨#[]⟩ : ByteArray), a1)) else (some ((⟨#[]⟩ : ByteArray), a0_1))
/-! ### samphireref09_number: function 81 -/
mutual
def samphireref09_number.j0 : Nat → Int → Bool → ByteArray → Int → Option (ByteArray × Int × Int)
 | 0, _, _, _, _ => none
 | k + 1, x1, x17, x378000, x378001 => if x17 = true then ((samphireref09_wrong.f x378000 x378001 90).bind fun bt379 => (some (bt379.1, bt379.2, 0))) else (samphireref09_number.l0 k x1 0 0 x378000 x378001)
def samphireref09_number.l0 : Nat → Int → Int → Int → ByteArray → Int → Option (ByteArray × Int × Int)
 | 0, _, _, _, _, _ => none
 | k + 1, x1, x6, x7, x378000, x378001 => if x7 < x1 then (if 0 ≤ x7 then (if x7 < (x378000.size : Int) then (samphireref09_number.l0 k x1 (Go.bits .or .i64 (wrap64 (x6 * 256)) (wrap64 (bt x378000 x7))) (wrap64 (x7 + 1)) x378000 x378001) else (none)) else (none)) else (if 0 ≤ x1 then (if x1 ≤ (x378000.size : Int) then (some (x378000.extract (x1 : Int).toNat x378000.size, x378001, x6)) else (none)) else (none))
end
def samphireref09_number.f (k : Nat) (a0_0 : ByteArray) (a0_1 : Int) (a1 : Int) : Option (ByteArray × Int × Int) := if a0_1 = 0 then (samphireref09_number.j0 k a1 (decide ((a0_0.size : Int) < a1)) a0_0 a0_1) else (samphireref09_number.j0 k a1 true a0_0 a0_1)
/-! ### samphireref09_InNum: function 54 -/
def samphireref09_InNum.f (k : Nat) (a0_0 : ByteArray) (a0_1 : Int) : Option (ByteArray × Int × Int) := (samphireref09_number.f k a0_0 a0_1 6).bind fun bt383 => (if bt383.2.2 > 1099511627775 then ((samphireref09_wrong.f bt383.1 bt383.2.1 91).bind fun bt387 => (some (bt387.1, bt387.2, 0))) else (some (bt383.1, bt383.2.1, bt383.2.2)))
/-! ### samphireref09_InStamp: function 53 -/
/-! ### samphireref09_InText: function 55 -/
def samphireref09_InText.f (k : Nat) (a0_0 : ByteArray) (a0_1 : Int) (a1 : Int) : Option (ByteArray × Int × ByteArray) := (samphireref09_number.f k a0_0 a0_1 2).bind fun bt402 => (if bt402.2.1 = 0 then (if bt402.2.2 > a1 then ((samphireref09_wrong.f bt402.1 bt402.2.1 91).bind fun bt406 => (some (bt406.1, bt406.2, (⟨#[]⟩ : ByteArray)))) else (if bt402.2.2 > (bt402.1.size : Int) then ((samphireref09_wrong.f bt402.1 bt402.2.1 90).bind fun bt408 => (some (bt408.1, bt408.2, (⟨#[]⟩ : ByteArray)))) else (if 0 ≤ bt402.2.2 then (if bt402.2.2 ≤ (bt402.1.size : Int) then (some (bt402.1.extract (bt402.2.2 : Int).toNat bt402.1.size, bt402.2.1, bt402.1.extract 0 (bt402.2.2 : Int).toNat)) else (none)) else (none)))) else (some (bt402.1, bt402.2.1, (⟨#[]⟩ : ByteArray))))
/-! ### samphireref09_InByte: function 67 -/
end Go.Proofs.YtlfgdaiegefjiaaDoor.S
/- Functions of the translation as plain Lean functions, and that each call comes to what they say: for every argument. Written by a program of this session's own; Lean checks it. -/
namespace Go.Proofs.YtlfgdaiegefjiaaDoor.S
open Go.RowKit Go.Proofs.YtlfgdaiegefjiaaDoorW.PrintWords Go.Proofs.YtlfgdaiegefjiaaDoorW.PrintLast
set_option linter.unusedVariables false
set_option linter.unusedSimpArgs false
/-! ### samphireref13_takeOp: function 32 -/
/-! ### samphireref09_InDone: function 33 -/
end Go.Proofs.YtlfgdaiegefjiaaDoor.S
