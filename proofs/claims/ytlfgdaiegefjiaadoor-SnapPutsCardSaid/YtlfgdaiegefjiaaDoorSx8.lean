/- Functions of the translation as plain Lean functions, and that each call comes to what they say: for every argument. Written by a program of this session's own; Lean checks it. -/
import Derived.Test.YtlfgdaiegefjiaaDoorQc
import Derived.Test.YtlfgdaiegefjiaaDoorSA
import Derived.Test.YtlfgdaiegefjiaaDoorQa
import Derived.Test.YtlfgdaiegefjiaaDoorSx6
import Derived.Test.YtlfgdaiegefjiaaDoorSx7
namespace Go.Proofs.YtlfgdaiegefjiaaDoor.S
open Go.RowKit Go.Proofs.YtlfgdaiegefjiaaDoorW.PrintWords Go.Proofs.YtlfgdaiegefjiaaDoorW.PrintLast
set_option linter.unusedVariables false
set_option linter.unusedSimpArgs false
/-! ### samphireref09_Text: function 44 -/
def samphireref09_Text.f (k : Nat) (a0_0 : ByteArray) (a0_1 : Bool) (a1 : ByteArray) : Option (ByteArray × Bool) := if (a1.size : Int) > 65535 then ((samphireref09_with.f a0_0 a0_1 (⟨#[]⟩ : ByteArray) false).bind fun bt280 => (some (bt280.1, bt280.2))) else ((samphireref09_big.f k (a1.size : Int) 2).bind fun t282 => (if t282.size + a1.size ≤ 9223372036854775807 then ((samphireref09_with.f a0_0 a0_1 (t282 ++ a1) true).bind fun bt283 => (some (bt283.1, bt283.2))) else (none)))
def samphireref09_Text.T3 : Bool × List (List Nat × List Nat) := (true, [([], []), ([], []), ([1], [1]), ([2], [2]), ([], []), ([3, 4], [3, 4]), ([0, 5, 3], [0, 5]), ([6, 6, 0, 1, 2, 3, 4, 5, 6], [6])])
def samphireref09_Text.B3 : List Nat := [0, 0, 2, 6, 0, 30, 63, 127]
theorem samphireref09_Text.tab3 : rtab .any (opsOf Tryd.f44 3) = samphireref09_Text.T3 := by kernel_rfl
theorem samphireref09_Text.bits3 : waitsOk samphireref09_Text.T3.2 samphireref09_Text.B3 = true := by kernel_rfl
set_option maxHeartbeats 8000000 in
set_option maxRecDepth 100000 in
theorem samphireref09_Text.calls (k : Nat) (a0_0 : ByteArray) (a0_1 : Bool) (a1 : ByteArray) (r1 : ByteArray) (r2 : Bool) (w : World) (h : samphireref09_Text.f k a0_0 a0_1 a1 = some (r1, r2)) :
 Calls Tryd.prog 44 #[.agg #[.string a0_0, .bool a0_1], .string a1] w fun e w' => e = .returned (.agg #[.string r1, .bool r2]) ∧ Below w.heap.size w w' := by
 have hu60 := Tryd.underlying60
 have HB := Aside0.mk (Below.refl w.heap.size w)
 have H : (if (a1.size : Int) > 65535 then ((samphireref09_with.f a0_0 a0_1 (⟨#[]⟩ : ByteArray) false).bind fun bt280 => (some (bt280.1, bt280.2))) else ((samphireref09_big.f k (a1.size : Int) 2).bind fun t282 => (if t282.size + a1.size ≤ 9223372036854775807 then ((samphireref09_with.f a0_0 a0_1 (t282 ++ a1) true).bind fun bt283 => (some (bt283.1, bt283.2))) else (none)))) = some (r1, r2) := h
 clear h
 by_cases c3 : (a1.size : Int) > 65535
 · rw [if_pos c3] at H
   have c3b0 : decide (65535 < (a1.size : Int)) = true := decide_eq_true c3
   have c3b1 : decide (65535 < a1.size) = true := decide_eq_true (by omega)
   clear c3
   replace H := Option.bind_eq_some_iff.mp H
   obtain ⟨⟨t280, t281⟩, A40, H⟩ := H
   replace H : (some (t280, t281)) = some (r1, r2) := H
   have A4 := Aside0.mk A40
   clear A40
   simp only [Option.some.injEq, Prod.mk.injEq] at H
   obtain ⟨rfl, rfl⟩ := H
   go_enter Tryd.func44, Tryd.ntmps44
   go_wp2_with (first | ((with_reducible refine gate_dst (N := 2) rfl ?_); refine boxQ (N := 2) (cs := #[.string a0_0, .bool a0_1]) (t := 60) ?_; intro gb278 hg w5 hbox hb; have BK278 := Aside0.mk hbox; have GW278 := Qt w hg; have GE278 := GW278; replace HB := Qy hb; clear hb hbox hg) | ((with_reducible refine gate_dst (N := 4) rfl ?_); refine boxQ (N := 4) (cs := #[.string (⟨#[]⟩ : ByteArray), .bool false]) (t := 60) ?_; intro gb279 hg w6 hbox hb; have BK279 := Aside0.mk hbox; have GW279 := Qt w hg; have GE279 := GW279; have NB278_279 := Qo hg BK278; have NB279_278 := Qp hg BK278; replace BK278 := Qv BK278 hb; replace HB := Qy hb; clear hb hbox hg; have hnb7 := NB278_279.out; have hnc7 := NB279_278.out; obtain ⟨y8_0, y8_1, v8_0, v8_1⟩ := Z2 BK278.out) | ((with_reducible refine gate_callee (f := 75) rfl ?_); refine gL 9 Tryd.func75 #[.agg #[.string a0_0, .bool a0_1], .string (⟨#[]⟩ : ByteArray), .bool false] ?_; (with_reducible refine (samphireref09_with.calls a0_0 a0_1 (⟨#[]⟩ : ByteArray) false t280 t281 _ A4.out).mono ?_); rintro e w9 ⟨rfl, hb⟩; refine ⟨_, rfl, ?_⟩; replace BK278 := Qv BK278 hb; replace BK279 := Qv BK279 hb; replace HB := Qy hb; (try clear hb); (try clear hb2); (try clear hk); (try clear hi); obtain ⟨y10_0, y10_1, v10_0, v10_1⟩ := Z2 BK279.out))
   refine bodyPost_ret (results_cell_row rfl _ _ gb279 60 #[.string t280, .bool t281] (0, 0) _ rfl Qk Tryd.underlying60 rfl (by kernel_rfl)) rfl ?_
   exact ⟨Qe, Qh⟩
 · rw [if_neg c3] at H
   have c3b0 : decide (65535 < (a1.size : Int)) = false := decide_eq_false c3
   have c3b1 : decide (65535 < a1.size) = false := decide_eq_false (by omega)
   clear c3
   replace H := Option.bind_eq_some_iff.mp H
   obtain ⟨t282, A110, H⟩ := H
   replace H : (if t282.size + a1.size ≤ 9223372036854775807 then ((samphireref09_with.f a0_0 a0_1 (t282 ++ a1) true).bind fun bt283 => (some (bt283.1, bt283.2))) else (none)) = some (r1, r2) := H
   have A11 := Aside0.mk A110
   clear A110
   by_cases c12 : t282.size + a1.size ≤ 9223372036854775807
   · rw [if_pos c12] at H
     have c12b0 := eq_true c12
     have c12b1 : decide (t282.size + a1.size ≤ 9223372036854775807) = true := decide_eq_true c12
     try have c12b2 : (9223372036854775807 < t282.size + a1.size) = False := eq_false (Nat.not_lt.2 c12)
     replace H := Option.bind_eq_some_iff.mp H
     obtain ⟨⟨t283, t284⟩, A130, H⟩ := H
     replace H : (some (t283, t284)) = some (r1, r2) := H
     have A13 := Aside0.mk A130
     clear A130
     simp only [Option.some.injEq, Prod.mk.injEq] at H
     obtain ⟨rfl, rfl⟩ := H
     go_enter Tryd.func44, Tryd.ntmps44
     try go_wp2_with (first | ((with_reducible refine gate_dst (N := 2) rfl ?_); refine boxQ (N := 2) (cs := #[.string a0_0, .bool a0_1]) (t := 60) ?_; intro gb278 hg w14 hbox hb; have BK278 := Aside0.mk hbox; have GW278 := Qt w hg; have GE278 := GW278; replace HB := Qy hb; clear hb hbox hg) | ((with_reducible refine gate_dst (N := 4) rfl ?_); refine boxQ (N := 4) (cs := #[.string (⟨#[]⟩ : ByteArray), .bool false]) (t := 60) ?_; intro gb279 hg w15 hbox hb; have BK279 := Aside0.mk hbox; have GW279 := Qt w hg; have GE279 := GW279; have NB278_279 := Qo hg BK278; have NB279_278 := Qp hg BK278; replace BK278 := Qv BK278 hb; replace HB := Qy hb; clear hb hbox hg))
     have n0_ := Aside0.mk (blk_drew BK278.out)
     have n1_ := Aside0.mk (blk_drew BK279.out)
     have n2_ := Aside0.mk (below_drew1 HB.out)
     clear BK278
     clear BK279
     clear HB
     have BK278 := n0_
     have BK279 := n1_
     have HB := n2_
     clear n0_ n1_ n2_
     refine start_ (n := 8) (S := fun w' => w'.cell? ⟨gb278, 0, none⟩ = some (.string a0_0) ∧ w'.cell? ⟨gb278, 1, none⟩ = some (.bool a0_1)) (ds := []) (mb 8 0) (by kernel_rfl) rfl (by kernel_rfl) ⟨(blk_cell BK278.out 0).trans rfl, (blk_cell BK278.out 1).trans rfl⟩ (fun hHeld => ?_); refine with_tabW samphireref09_Text.tab3 samphireref09_Text.bits3 (fun HT_ HW_ => ?_)
     generalize w15.drew = w16 at BK278 BK279 HB hHeld ⊢
     refine pu 1 11 (mb 8 2) HT_ ?_
     refine pu 2 12 (mb 8 6) HT_ ?_
     refine pu 4 14 (mb 8 22) HT_ ?_
     refine tk 0 10 (mb 8 23) HT_ HW_ hHeld ?_
     refine on 3 (some 13) (mb 8 31) HT_ (fun K hK => ?_)
     refine goes_ Tryd.func76 (by kernel_rfl) rfl #[.int .i64 (a1.size : Int), .int .i64 2] (by rfl) rfl rfl Qm ?_
     with_reducible refine (samphireref09_big.calls k (a1.size : Int) 2 t282 _ A11.out).mono ?_
     rintro e w17 ⟨rfl, hb⟩
     refine ⟨_, rfl, ?_⟩
     have n0_ := Aside0.mk (Qb BK278 hb)
     have n1_ := Aside0.mk (Qb BK279 hb)
     have n2_ := Aside0.mk (below_step Qh hb)
     clear BK278
     clear BK279
     clear HB
     have BK278 := n0_
     have BK279 := n1_
     have HB := n2_
     clear n0_ n1_ n2_
     (try clear hb)
     (try clear hb2)
     (try clear hk)
     (try clear hi)
     refine hK.out _ _ ⟨(blk_cell BK278.out 0).trans rfl, (blk_cell BK278.out 1).trans rfl⟩ (fun hHeld => ?_)
     clear hK K
     refine nm _ ?_
     refine pu 5 15 (mb 8 63) HT_ ?_
     refine on 6 (some 16) (mb 8 127) HT_ (fun K hK => ?_)
     refine goes_ Tryd.func75 (by kernel_rfl) rfl #[.agg #[.string a0_0, .bool a0_1], .string (t282 ++ a1), .bool true] (by rfl) rfl rfl Qm ?_
     with_reducible refine (samphireref09_with.calls a0_0 a0_1 (t282 ++ a1) true t283 t284 _ A13.out).mono ?_
     rintro e w18 ⟨rfl, hb⟩
     refine ⟨_, rfl, ?_⟩
     have n0_ := Aside0.mk (Qb BK278 hb)
     have n1_ := Aside0.mk (Qb BK279 hb)
     have n2_ := Aside0.mk (below_step Qh hb)
     clear BK278
     clear BK279
     clear HB
     have BK278 := n0_
     have BK279 := n1_
     have HB := n2_
     clear n0_ n1_ n2_
     (try clear hb)
     (try clear hb2)
     (try clear hk)
     (try clear hi)
     refine hK.out _ _ ⟨(blk_cell BK278.out 0).trans rfl, (blk_cell BK278.out 1).trans rfl⟩ (fun hHeld => ?_)
     clear hK K
     refine nm _ ?_
     refine on 7 none (mb 8 255) HT_ (fun K hK => ?_)
     have hs19 : w18.cell? ⟨gb279, 0, none⟩ = some (.string (⟨#[]⟩ : ByteArray)) := (blk_cell BK279.out 0).trans rfl
     have hfs19 := blk_frozen BK279.out 0
     have hns19_0 := NB278_279.out
     have hms19_0 := NB279_278.out
     have hs20 : w18.cell? ⟨gb279, 1, none⟩ = some (.bool false) := (blk_cell BK279.out 1).trans rfl
     have hfs20 := blk_frozen BK279.out 1
     have hns20_0 := NB278_279.out
     have hms20_0 := NB279_278.out
     refine skip_ (w1 := ?_) (by rfl) rfl ?_ ?_
     rotate_left
     · go_simp
       rfl
     refine hK.out _ _ ⟨((cell_far (p := ⟨gb279, _, none⟩) NB278_279.out _).trans (((cell_far (p := ⟨gb279, _, none⟩) NB278_279.out _).trans (hHeld.1)))), ((cell_far (p := ⟨gb279, _, none⟩) NB278_279.out _).trans (((cell_far (p := ⟨gb279, _, none⟩) NB278_279.out _).trans (hHeld.2))))⟩ (fun hHeld => ?_)
     clear hK K
     refine dn HT_ ?_
     try go_wp2
     refine bodyPost_ret (results_cell_row rfl _ _ gb279 60 #[.string t283, .bool t284] (0, 0) _ rfl Qk Tryd.underlying60 rfl (by kernel_rfl)) rfl ?_
     exact ⟨Qe, Qh⟩
   · rw [if_neg c12] at H
     exact absurd H (by simp)
/-! ### samphireref09_Byte: function 65 -/
def samphireref09_Byte.f (k : Nat) (a0_0 : ByteArray) (a0_1 : Bool) (a1 : Int) : Option (ByteArray × Bool) := (samphireref09_big.f k a1 1).bind fun t287 => (if a1 ≥ 0 then ((samphireref09_with.f a0_0 a0_1 t287 (decide (a1 ≤ 255))).bind fun bt288 => (some (bt288.1, bt288.2))) else ((samphireref09_with.f a0_0 a0_1 t287 false).bind fun bt290 => (some (bt290.1, bt290.2))))
def samphireref09_Byte.T1 : Bool × List (List Nat × List Nat) := (true, [([], []), ([], []), ([1], [1]), ([], []), ([3], [3]), ([4, 2], [4]), ([5], [5]), ([6, 5], [5, 6]), ([5, 7], [5, 7]), ([0, 2, 8, 5], [0, 2, 8]), ([9, 9, 0, 1, 2, 3, 4, 5, 6, 7, 8, 9], [9])])
def samphireref09_Byte.B1 : List Nat := [0, 0, 2, 0, 8, 30, 62, 126, 254, 511, 1023]
theorem samphireref09_Byte.tab1 : rtab .any (opsOf Tryd.f65 1) = samphireref09_Byte.T1 := by kernel_rfl
theorem samphireref09_Byte.bits1 : waitsOk samphireref09_Byte.T1.2 samphireref09_Byte.B1 = true := by kernel_rfl
set_option maxHeartbeats 8000000 in
set_option maxRecDepth 100000 in
theorem samphireref09_Byte.calls (k : Nat) (a0_0 : ByteArray) (a0_1 : Bool) (a1 : Int) (r1 : ByteArray) (r2 : Bool) (w : World) (h : samphireref09_Byte.f k a0_0 a0_1 a1 = some (r1, r2)) :
 Calls Tryd.prog 65 #[.agg #[.string a0_0, .bool a0_1], .int .i64 a1] w fun e w' => e = .returned (.agg #[.string r1, .bool r2]) ∧ Below w.heap.size w w' := by
 have hu60 := Tryd.underlying60
 have HB := Aside0.mk (Below.refl w.heap.size w)
 have H : ((samphireref09_big.f k a1 1).bind fun t287 => (if a1 ≥ 0 then ((samphireref09_with.f a0_0 a0_1 t287 (decide (a1 ≤ 255))).bind fun bt288 => (some (bt288.1, bt288.2))) else ((samphireref09_with.f a0_0 a0_1 t287 false).bind fun bt290 => (some (bt290.1, bt290.2))))) = some (r1, r2) := h
 clear h
 replace H := Option.bind_eq_some_iff.mp H
 obtain ⟨t287, A30, H⟩ := H
 replace H : (if a1 ≥ 0 then ((samphireref09_with.f a0_0 a0_1 t287 (decide (a1 ≤ 255))).bind fun bt288 => (some (bt288.1, bt288.2))) else ((samphireref09_with.f a0_0 a0_1 t287 false).bind fun bt290 => (some (bt290.1, bt290.2)))) = some (r1, r2) := H
 have A3 := Aside0.mk A30
 clear A30
 by_cases c4 : a1 ≥ 0
 · rw [if_pos c4] at H
   have c4b0 : decide (0 ≤ a1) = true := decide_eq_true c4
   clear c4
   replace H := Option.bind_eq_some_iff.mp H
   obtain ⟨⟨t288, t289⟩, A50, H⟩ := H
   replace H : (some (t288, t289)) = some (r1, r2) := H
   have A5 := Aside0.mk A50
   clear A50
   simp only [Option.some.injEq, Prod.mk.injEq] at H
   obtain ⟨rfl, rfl⟩ := H
   go_enter Tryd.func65, Tryd.ntmps65
   try go_wp2_with (first | ((with_reducible refine gate_dst (N := 2) rfl ?_); refine boxQ (N := 2) (cs := #[.string a0_0, .bool a0_1]) (t := 60) ?_; intro gb285 hg w6 hbox hb; have BK285 := Aside0.mk hbox; have GW285 := Qt w hg; have GE285 := GW285; replace HB := Qy hb; clear hb hbox hg) | ((with_reducible refine gate_dst (N := 4) rfl ?_); refine boxQ (N := 4) (cs := #[.string (⟨#[]⟩ : ByteArray), .bool false]) (t := 60) ?_; intro gb286 hg w7 hbox hb; have BK286 := Aside0.mk hbox; have GW286 := Qt w hg; have GE286 := GW286; have NB285_286 := Qo hg BK285; have NB286_285 := Qp hg BK285; replace BK285 := Qv BK285 hb; replace HB := Qy hb; clear hb hbox hg))
   have n0_ := Aside0.mk (blk_drew BK285.out)
   have n1_ := Aside0.mk (blk_drew BK286.out)
   have n2_ := Aside0.mk (below_drew1 HB.out)
   clear BK285
   clear BK286
   clear HB
   have BK285 := n0_
   have BK286 := n1_
   have HB := n2_
   clear n0_ n1_ n2_
   refine start_ (n := 11) (S := fun w' => w'.cell? ⟨gb285, 0, none⟩ = some (.string a0_0) ∧ w'.cell? ⟨gb285, 1, none⟩ = some (.bool a0_1)) (ds := []) (mb 11 0) (by kernel_rfl) rfl (by kernel_rfl) ⟨(blk_cell BK285.out 0).trans rfl, (blk_cell BK285.out 1).trans rfl⟩ (fun hHeld => ?_); refine with_tabW samphireref09_Byte.tab1 samphireref09_Byte.bits1 (fun HT_ HW_ => ?_)
   generalize w7.drew = w8 at BK285 BK286 HB hHeld ⊢
   refine pu 1 6 (mb 11 2) HT_ ?_
   refine pu 3 8 (mb 11 10) HT_ ?_
   refine pu 4 9 (mb 11 26) HT_ ?_
   refine tk 0 5 (mb 11 27) HT_ HW_ hHeld ?_
   refine on 2 (some 7) (mb 11 31) HT_ (fun K hK => ?_)
   refine goes_ Tryd.func76 (by kernel_rfl) rfl #[.int .i64 a1, .int .i64 1] (by rfl) rfl rfl Qm ?_
   with_reducible refine (samphireref09_big.calls k a1 1 t287 _ A3.out).mono ?_
   rintro e w9 ⟨rfl, hb⟩
   refine ⟨_, rfl, ?_⟩
   have n0_ := Aside0.mk (Qb BK285 hb)
   have n1_ := Aside0.mk (Qb BK286 hb)
   have n2_ := Aside0.mk (below_step Qh hb)
   clear BK285
   clear BK286
   clear HB
   have BK285 := n0_
   have BK286 := n1_
   have HB := n2_
   clear n0_ n1_ n2_
   (try clear hb)
   (try clear hb2)
   (try clear hk)
   (try clear hi)
   refine hK.out _ _ ⟨(blk_cell BK285.out 0).trans rfl, (blk_cell BK285.out 1).trans rfl⟩ (fun hHeld => ?_)
   clear hK K
   refine nm _ ?_
   refine pu 5 10 (mb 11 63) HT_ ?_
   refine pu 6 11 (mb 11 127) HT_ ?_
   refine pu 7 12 (mb 11 255) HT_ ?_
   refine pu 8 13 (mb 11 511) HT_ ?_
   refine on 9 (some 14) (mb 11 1023) HT_ (fun K hK => ?_)
   refine goes_ Tryd.func75 (by kernel_rfl) rfl #[.agg #[.string a0_0, .bool a0_1], .string t287, .bool (decide (a1 ≤ 255))] (by rfl) rfl rfl Qm ?_
   with_reducible refine (samphireref09_with.calls a0_0 a0_1 t287 (decide (a1 ≤ 255)) t288 t289 _ A5.out).mono ?_
   rintro e w10 ⟨rfl, hb⟩
   refine ⟨_, rfl, ?_⟩
   have n0_ := Aside0.mk (Qb BK285 hb)
   have n1_ := Aside0.mk (Qb BK286 hb)
   have n2_ := Aside0.mk (below_step Qh hb)
   clear BK285
   clear BK286
   clear HB
   have BK285 := n0_
   have BK286 := n1_
   have HB := n2_
   clear n0_ n1_ n2_
   (try clear hb)
   (try clear hb2)
   (try clear hk)
   (try clear hi)
   refine hK.out _ _ ⟨(blk_cell BK285.out 0).trans rfl, (blk_cell BK285.out 1).trans rfl⟩ (fun hHeld => ?_)
   clear hK K
   refine nm _ ?_
   refine on 10 none (mb 11 2047) HT_ (fun K hK => ?_)
   have hs11 : w10.cell? ⟨gb286, 0, none⟩ = some (.string (⟨#[]⟩ : ByteArray)) := (blk_cell BK286.out 0).trans rfl
   have hfs11 := blk_frozen BK286.out 0
   have hns11_0 := NB285_286.out
   have hms11_0 := NB286_285.out
   have hs12 : w10.cell? ⟨gb286, 1, none⟩ = some (.bool false) := (blk_cell BK286.out 1).trans rfl
   have hfs12 := blk_frozen BK286.out 1
   have hns12_0 := NB285_286.out
   have hms12_0 := NB286_285.out
   refine skip_ (w1 := ?_) (by rfl) rfl ?_ ?_
   rotate_left
   · go_simp
     rfl
   refine hK.out _ _ ⟨((cell_far (p := ⟨gb286, _, none⟩) NB285_286.out _).trans (((cell_far (p := ⟨gb286, _, none⟩) NB285_286.out _).trans (hHeld.1)))), ((cell_far (p := ⟨gb286, _, none⟩) NB285_286.out _).trans (((cell_far (p := ⟨gb286, _, none⟩) NB285_286.out _).trans (hHeld.2))))⟩ (fun hHeld => ?_)
   clear hK K
   refine dn HT_ ?_
   try go_wp2
   refine bodyPost_ret (results_cell_row rfl _ _ gb286 60 #[.string t288, .bool t289] (0, 0) _ rfl Qk Tryd.underlying60 rfl (by kernel_rfl)) rfl ?_
   exact ⟨Qe, Qh⟩
 · rw [if_neg c4] at H
   have c4b0 : decide (0 ≤ a1) = false := decide_eq_false c4
   clear c4
   replace H := Option.bind_eq_some_iff.mp H
   obtain ⟨⟨t290, t291⟩, A130, H⟩ := H
   replace H : (some (t290, t291)) = some (r1, r2) := H
   have A13 := Aside0.mk A130
   clear A130
   simp only [Option.some.injEq, Prod.mk.injEq] at H
   obtain ⟨rfl, rfl⟩ := H
   go_enter Tryd.func65, Tryd.ntmps65
   try go_wp2_with (first | ((with_reducible refine gate_dst (N := 2) rfl ?_); refine boxQ (N := 2) (cs := #[.string a0_0, .bool a0_1]) (t := 60) ?_; intro gb285 hg w14 hbox hb; have BK285 := Aside0.mk hbox; have GW285 := Qt w hg; have GE285 := GW285; replace HB := Qy hb; clear hb hbox hg) | ((with_reducible refine gate_dst (N := 4) rfl ?_); refine boxQ (N := 4) (cs := #[.string (⟨#[]⟩ : ByteArray), .bool false]) (t := 60) ?_; intro gb286 hg w15 hbox hb; have BK286 := Aside0.mk hbox; have GW286 := Qt w hg; have GE286 := GW286; have NB285_286 := Qo hg BK285; have NB286_285 := Qp hg BK285; replace BK285 := Qv BK285 hb; replace HB := Qy hb; clear hb hbox hg))
   have n0_ := Aside0.mk (blk_drew BK285.out)
   have n1_ := Aside0.mk (blk_drew BK286.out)
   have n2_ := Aside0.mk (below_drew1 HB.out)
   clear BK285
   clear BK286
   clear HB
   have BK285 := n0_
   have BK286 := n1_
   have HB := n2_
   clear n0_ n1_ n2_
   refine start_ (n := 11) (S := fun w' => w'.cell? ⟨gb285, 0, none⟩ = some (.string a0_0) ∧ w'.cell? ⟨gb285, 1, none⟩ = some (.bool a0_1)) (ds := []) (mb 11 0) (by kernel_rfl) rfl (by kernel_rfl) ⟨(blk_cell BK285.out 0).trans rfl, (blk_cell BK285.out 1).trans rfl⟩ (fun hHeld => ?_); refine with_tabW samphireref09_Byte.tab1 samphireref09_Byte.bits1 (fun HT_ HW_ => ?_)
   generalize w15.drew = w16 at BK285 BK286 HB hHeld ⊢
   refine pu 1 6 (mb 11 2) HT_ ?_
   refine pu 3 8 (mb 11 10) HT_ ?_
   refine pu 4 9 (mb 11 26) HT_ ?_
   refine tk 0 5 (mb 11 27) HT_ HW_ hHeld ?_
   refine on 2 (some 7) (mb 11 31) HT_ (fun K hK => ?_)
   refine goes_ Tryd.func76 (by kernel_rfl) rfl #[.int .i64 a1, .int .i64 1] (by rfl) rfl rfl Qm ?_
   with_reducible refine (samphireref09_big.calls k a1 1 t287 _ A3.out).mono ?_
   rintro e w17 ⟨rfl, hb⟩
   refine ⟨_, rfl, ?_⟩
   have n0_ := Aside0.mk (Qb BK285 hb)
   have n1_ := Aside0.mk (Qb BK286 hb)
   have n2_ := Aside0.mk (below_step Qh hb)
   clear BK285
   clear BK286
   clear HB
   have BK285 := n0_
   have BK286 := n1_
   have HB := n2_
   clear n0_ n1_ n2_
   (try clear hb)
   (try clear hb2)
   (try clear hk)
   (try clear hi)
   refine hK.out _ _ ⟨(blk_cell BK285.out 0).trans rfl, (blk_cell BK285.out 1).trans rfl⟩ (fun hHeld => ?_)
   clear hK K
   refine nm _ ?_
   refine pu 5 10 (mb 11 63) HT_ ?_
   refine sk 6 11 2 (mb 11 255) HT_ ?_
   refine pu 8 13 (mb 11 511) HT_ ?_
   refine on 9 (some 14) (mb 11 1023) HT_ (fun K hK => ?_)
   refine goes_ Tryd.func75 (by kernel_rfl) rfl #[.agg #[.string a0_0, .bool a0_1], .string t287, .bool false] (by rfl) rfl rfl Qm ?_
   with_reducible refine (samphireref09_with.calls a0_0 a0_1 t287 false t290 t291 _ A13.out).mono ?_
   rintro e w18 ⟨rfl, hb⟩
   refine ⟨_, rfl, ?_⟩
   have n0_ := Aside0.mk (Qb BK285 hb)
   have n1_ := Aside0.mk (Qb BK286 hb)
   have n2_ := Aside0.mk (below_step Qh hb)
   clear BK285
   clear BK286
   clear HB
   have BK285 := n0_
   have BK286 := n1_
   have HB := n2_
   clear n0_ n1_ n2_
   (try clear hb)
   (try clear hb2)
   (try clear hk)
   (try clear hi)
   refine hK.out _ _ ⟨(blk_cell BK285.out 0).trans rfl, (blk_cell BK285.out 1).trans rfl⟩ (fun hHeld => ?_)
   clear hK K
   refine nm _ ?_
   refine on 10 none (mb 11 2047) HT_ (fun K hK => ?_)
   have hs19 : w18.cell? ⟨gb286, 0, none⟩ = some (.string (⟨#[]⟩ : ByteArray)) := (blk_cell BK286.out 0).trans rfl
   have hfs19 := blk_frozen BK286.out 0
   have hns19_0 := NB285_286.out
   have hms19_0 := NB286_285.out
   have hs20 : w18.cell? ⟨gb286, 1, none⟩ = some (.bool false) := (blk_cell BK286.out 1).trans rfl
   have hfs20 := blk_frozen BK286.out 1
   have hns20_0 := NB285_286.out
   have hms20_0 := NB286_285.out
   refine skip_ (w1 := ?_) (by rfl) rfl ?_ ?_
   rotate_left
   · go_simp
     rfl
   refine hK.out _ _ ⟨((cell_far (p := ⟨gb286, _, none⟩) NB285_286.out _).trans (((cell_far (p := ⟨gb286, _, none⟩) NB285_286.out _).trans (hHeld.1)))), ((cell_far (p := ⟨gb286, _, none⟩) NB285_286.out _).trans (((cell_far (p := ⟨gb286, _, none⟩) NB285_286.out _).trans (hHeld.2))))⟩ (fun hHeld => ?_)
   clear hK K
   refine dn HT_ ?_
   try go_wp2
   refine bodyPost_ret (results_cell_row rfl _ _ gb286 60 #[.string t290, .bool t291] (0, 0) _ rfl Qk Tryd.underlying60 rfl (by kernel_rfl)) rfl ?_
   exact ⟨Qe, Qh⟩
/-! ### samphireref13_op: function 28 -/
def samphireref13_op.f (k : Nat) (a0_0 : ByteArray) (a0_1 : Bool) (a1_0 : Int) (a1_1 : Int) (a1_2 : Int) (a1_3 : Int) (a1_4 : Int) (a1_5 : Int) (a1_6 : Int) (a1_7 : ByteArray) (a1_8 : ByteArray) : Option (ByteArray × Bool) := (samphireref09_Byte.f k a0_0 a0_1 a1_0).bind fun bt295 => ((samphireref09_Stamp.f k bt295.1 bt295.2 a1_1 a1_2).bind fun bt297 => ((samphireref09_Stamp.f k bt297.1 bt297.2 a1_3 a1_4).bind fun bt299 => ((samphireref09_Stamp.f k bt299.1 bt299.2 a1_5 a1_6).bind fun bt301 => ((samphireref09_Text.f k bt301.1 bt301.2 a1_7).bind fun bt303 => ((samphireref09_Text.f k bt303.1 bt303.2 a1_8).bind fun bt305 => (some (bt305.1, bt305.2)))))))
set_option maxHeartbeats 8000000 in
set_option maxRecDepth 100000 in
theorem samphireref13_op.calls (k : Nat) (a0_0 : ByteArray) (a0_1 : Bool) (a1_0 : Int) (a1_1 : Int) (a1_2 : Int) (a1_3 : Int) (a1_4 : Int) (a1_5 : Int) (a1_6 : Int) (a1_7 : ByteArray) (a1_8 : ByteArray) (r1 : ByteArray) (r2 : Bool) (w : World) (h : samphireref13_op.f k a0_0 a0_1 a1_0 a1_1 a1_2 a1_3 a1_4 a1_5 a1_6 a1_7 a1_8 = some (r1, r2)) :
 Calls Tryd.prog 28 #[.agg #[.string a0_0, .bool a0_1], .agg #[.int .i64 a1_0, .int .i64 a1_1, .int .i64 a1_2, .int .i64 a1_3, .int .i64 a1_4, .int .i64 a1_5, .int .i64 a1_6, .string a1_7, .string a1_8]] w fun e w' => e = .returned (.agg #[.string r1, .bool r2]) ∧ Below w.heap.size w w' := by
 have hu60 := Tryd.underlying60
 have hu25 := Tryd.underlying25
 have hu23 := Tryd.underlying23
 have HB := Aside0.mk (Below.refl w.heap.size w)
 have H : ((samphireref09_Byte.f k a0_0 a0_1 a1_0).bind fun bt295 => ((samphireref09_Stamp.f k bt295.1 bt295.2 a1_1 a1_2).bind fun bt297 => ((samphireref09_Stamp.f k bt297.1 bt297.2 a1_3 a1_4).bind fun bt299 => ((samphireref09_Stamp.f k bt299.1 bt299.2 a1_5 a1_6).bind fun bt301 => ((samphireref09_Text.f k bt301.1 bt301.2 a1_7).bind fun bt303 => ((samphireref09_Text.f k bt303.1 bt303.2 a1_8).bind fun bt305 => (some (bt305.1, bt305.2)))))))) = some (r1, r2) := h
 clear h
 replace H := Option.bind_eq_some_iff.mp H
 obtain ⟨⟨t295, t296⟩, A30, H⟩ := H
 replace H : ((samphireref09_Stamp.f k t295 t296 a1_1 a1_2).bind fun bt297 => ((samphireref09_Stamp.f k bt297.1 bt297.2 a1_3 a1_4).bind fun bt299 => ((samphireref09_Stamp.f k bt299.1 bt299.2 a1_5 a1_6).bind fun bt301 => ((samphireref09_Text.f k bt301.1 bt301.2 a1_7).bind fun bt303 => ((samphireref09_Text.f k bt303.1 bt303.2 a1_8).bind fun bt305 => (some (bt305.1, bt305.2))))))) = some (r1, r2) := H
 have A3 := Aside0.mk A30
 clear A30
 replace H := Option.bind_eq_some_iff.mp H
 obtain ⟨⟨t297, t298⟩, A40, H⟩ := H
 replace H : ((samphireref09_Stamp.f k t297 t298 a1_3 a1_4).bind fun bt299 => ((samphireref09_Stamp.f k bt299.1 bt299.2 a1_5 a1_6).bind fun bt301 => ((samphireref09_Text.f k bt301.1 bt301.2 a1_7).bind fun bt303 => ((samphireref09_Text.f k bt303.1 bt303.2 a1_8).bind fun bt305 => (some (bt305.1, bt305.2)))))) = some (r1, r2) := H
 have A4 := Aside0.mk A40
 clear A40
 replace H := Option.bind_eq_some_iff.mp H
 obtain ⟨⟨t299, t300⟩, A50, H⟩ := H
 replace H : ((samphireref09_Stamp.f k t299 t300 a1_5 a1_6).bind fun bt301 => ((samphireref09_Text.f k bt301.1 bt301.2 a1_7).bind fun bt303 => ((samphireref09_Text.f k bt303.1 bt303.2 a1_8).bind fun bt305 => (some (bt305.1, bt305.2))))) = some (r1, r2) := H
 have A5 := Aside0.mk A50
 clear A50
 replace H := Option.bind_eq_some_iff.mp H
 obtain ⟨⟨t301, t302⟩, A60, H⟩ := H
 replace H : ((samphireref09_Text.f k t301 t302 a1_7).bind fun bt303 => ((samphireref09_Text.f k bt303.1 bt303.2 a1_8).bind fun bt305 => (some (bt305.1, bt305.2)))) = some (r1, r2) := H
 have A6 := Aside0.mk A60
 clear A60
 replace H := Option.bind_eq_some_iff.mp H
 obtain ⟨⟨t303, t304⟩, A70, H⟩ := H
 replace H : ((samphireref09_Text.f k t303 t304 a1_8).bind fun bt305 => (some (bt305.1, bt305.2))) = some (r1, r2) := H
 have A7 := Aside0.mk A70
 clear A70
 replace H := Option.bind_eq_some_iff.mp H
 obtain ⟨⟨t305, t306⟩, A80, H⟩ := H
 replace H : (some (t305, t306)) = some (r1, r2) := H
 have A8 := Aside0.mk A80
 clear A80
 simp only [Option.some.injEq, Prod.mk.injEq] at H
 obtain ⟨rfl, rfl⟩ := H
 go_enter Tryd.func28, Tryd.ntmps28
 go_wp2_with (first | ((with_reducible refine gate_dst (N := 2) rfl ?_); refine boxQ (N := 2) (cs := #[.string a0_0, .bool a0_1]) (t := 60) ?_; intro gb292 hg w9 hbox hb; have BK292 := Aside0.mk hbox; have GW292 := Qt w hg; have GE292 := GW292; replace HB := Qy hb; clear hb hbox hg) | ((with_reducible refine gate_dst (N := 3) rfl ?_); refine boxQ (N := 3) (cs := #[.int .i64 a1_0, .int .i64 a1_1, .int .i64 a1_2, .int .i64 a1_3, .int .i64 a1_4, .int .i64 a1_5, .int .i64 a1_6, .string a1_7, .string a1_8]) (t := 25) ?_; intro gb293 hg w10 hbox hb; have BK293 := Aside0.mk hbox; have GW293 := Qt w hg; have GE293 := GW293; have NB292_293 := Qo hg BK292; have NB293_292 := Qp hg BK292; replace BK292 := Qv BK292 hb; replace HB := Qy hb; clear hb hbox hg) | ((with_reducible refine gate_dst (N := 4) rfl ?_); refine boxQ (N := 4) (cs := #[.string (⟨#[]⟩ : ByteArray), .bool false]) (t := 60) ?_; intro gb294 hg w11 hbox hb; have BK294 := Aside0.mk hbox; have GW294 := Qt w hg; have GE294 := GW294; have NB292_294 := Qo hg BK292; have NB294_292 := Qp hg BK292; have NB293_294 := Qo hg BK293; have NB294_293 := Qp hg BK293; replace BK292 := Qv BK292 hb; replace BK293 := Qv BK293 hb; replace HB := Qy hb; clear hb hbox hg; have hnb12 := NB292_293.out; have hnc12 := NB293_292.out; have hnb13 := NB292_294.out; have hnc13 := NB294_292.out; obtain ⟨y14_0, y14_1, v14_0, v14_1⟩ := Z2 BK292.out; have hnb15 := NB293_294.out; have hnc15 := NB294_293.out; obtain ⟨y16_0, y16_1, y16_2, y16_3, y16_4, y16_5, y16_6, y16_7, y16_8, v16_0, v16_1, v16_2, v16_3, v16_4, v16_5, v16_6, v16_7, v16_8⟩ := Z9 BK293.out) | ((with_reducible refine gate_callee (f := 65) rfl ?_); refine gL 8 Tryd.func65 #[.agg #[.string a0_0, .bool a0_1], .int .i64 a1_0] ?_; (with_reducible refine (samphireref09_Byte.calls k a0_0 a0_1 a1_0 t295 t296 _ A3.out).mono ?_); rintro e w17 ⟨rfl, hb⟩; refine ⟨_, rfl, ?_⟩; replace BK292 := Qv BK292 hb; replace BK293 := Qv BK293 hb; replace BK294 := Qv BK294 hb; replace HB := Qy hb; (try clear hb); (try clear hb2); (try clear hk); (try clear hi); obtain ⟨y18_0, y18_1, v18_0, v18_1⟩ := Z2 BK292.out; obtain ⟨y19_0, y19_1, y19_2, y19_3, y19_4, y19_5, y19_6, y19_7, y19_8, v19_0, v19_1, v19_2, v19_3, v19_4, v19_5, v19_6, v19_7, v19_8⟩ := Z9 BK293.out) | ((with_reducible refine gate_callee (f := 42) rfl ?_); refine gL 12 Tryd.func42 #[.agg #[.string t295, .bool t296], .agg #[.int .i64 a1_1, .int .i64 a1_2]] ?_; (with_reducible refine (samphireref09_Stamp.calls k t295 t296 a1_1 a1_2 t297 t298 _ A4.out).mono ?_); rintro e w20 ⟨rfl, hb⟩; refine ⟨_, rfl, ?_⟩; replace BK292 := Aside0.mk (blk_below (g := gb292) (o := .cells #[.string t295, .bool t296] 60 (0, 0)) Qk hb); replace BK293 := Aside0.mk (blk_below (g := gb293) (o := .cells #[.int .i64 a1_0, .int .i64 a1_1, .int .i64 a1_2, .int .i64 a1_3, .int .i64 a1_4, .int .i64 a1_5, .int .i64 a1_6, .string a1_7, .string a1_8] 25 (0, 0)) Qk hb); replace BK294 := Aside0.mk (blk_below (g := gb294) (o := .cells #[.string (⟨#[]⟩ : ByteArray), .bool false] 60 (0, 0)) Qk hb); replace HB := Qy hb; (try clear hb); (try clear hb2); (try clear hk); (try clear hi); obtain ⟨y21_0, y21_1, v21_0, v21_1⟩ := Z2 BK292.out; obtain ⟨y22_0, y22_1, y22_2, y22_3, y22_4, y22_5, y22_6, y22_7, y22_8, v22_0, v22_1, v22_2, v22_3, v22_4, v22_5, v22_6, v22_7, v22_8⟩ := Z9 BK293.out) | ((with_reducible refine gate_callee (f := 42) rfl ?_); refine gL 16 Tryd.func42 #[.agg #[.string t297, .bool t298], .agg #[.int .i64 a1_3, .int .i64 a1_4]] ?_; (with_reducible refine (samphireref09_Stamp.calls k t297 t298 a1_3 a1_4 t299 t300 _ A5.out).mono ?_); rintro e w23 ⟨rfl, hb⟩; refine ⟨_, rfl, ?_⟩; replace BK292 := Aside0.mk (blk_below (g := gb292) (o := .cells #[.string t297, .bool t298] 60 (0, 0)) Qk hb); replace BK293 := Aside0.mk (blk_below (g := gb293) (o := .cells #[.int .i64 a1_0, .int .i64 a1_1, .int .i64 a1_2, .int .i64 a1_3, .int .i64 a1_4, .int .i64 a1_5, .int .i64 a1_6, .string a1_7, .string a1_8] 25 (0, 0)) Qk hb); replace BK294 := Aside0.mk (blk_below (g := gb294) (o := .cells #[.string (⟨#[]⟩ : ByteArray), .bool false] 60 (0, 0)) Qk hb); replace HB := Qy hb; (try clear hb); (try clear hb2); (try clear hk); (try clear hi); obtain ⟨y24_0, y24_1, v24_0, v24_1⟩ := Z2 BK292.out; obtain ⟨y25_0, y25_1, y25_2, y25_3, y25_4, y25_5, y25_6, y25_7, y25_8, v25_0, v25_1, v25_2, v25_3, v25_4, v25_5, v25_6, v25_7, v25_8⟩ := Z9 BK293.out) | ((with_reducible refine gate_callee (f := 42) rfl ?_); refine gL 20 Tryd.func42 #[.agg #[.string t299, .bool t300], .agg #[.int .i64 a1_5, .int .i64 a1_6]] ?_; (with_reducible refine (samphireref09_Stamp.calls k t299 t300 a1_5 a1_6 t301 t302 _ A6.out).mono ?_); rintro e w26 ⟨rfl, hb⟩; refine ⟨_, rfl, ?_⟩; replace BK292 := Aside0.mk (blk_below (g := gb292) (o := .cells #[.string t299, .bool t300] 60 (0, 0)) Qk hb); replace BK293 := Aside0.mk (blk_below (g := gb293) (o := .cells #[.int .i64 a1_0, .int .i64 a1_1, .int .i64 a1_2, .int .i64 a1_3, .int .i64 a1_4, .int .i64 a1_5, .int .i64 a1_6, .string a1_7, .string a1_8] 25 (0, 0)) Qk hb); replace BK294 := Aside0.mk (blk_below (g := gb294) (o := .cells #[.string (⟨#[]⟩ : ByteArray), .bool false] 60 (0, 0)) Qk hb); replace HB := Qy hb; (try clear hb); (try clear hb2); (try clear hk); (try clear hi); obtain ⟨y27_0, y27_1, v27_0, v27_1⟩ := Z2 BK292.out; obtain ⟨y28_0, y28_1, y28_2, y28_3, y28_4, y28_5, y28_6, y28_7, y28_8, v28_0, v28_1, v28_2, v28_3, v28_4, v28_5, v28_6, v28_7, v28_8⟩ := Z9 BK293.out) | ((with_reducible refine gate_callee (f := 44) rfl ?_); refine gL 24 Tryd.func44 #[.agg #[.string t301, .bool t302], .string a1_7] ?_; (with_reducible refine (samphireref09_Text.calls k t301 t302 a1_7 t303 t304 _ A7.out).mono ?_); rintro e w29 ⟨rfl, hb⟩; refine ⟨_, rfl, ?_⟩; replace BK292 := Aside0.mk (blk_below (g := gb292) (o := .cells #[.string t301, .bool t302] 60 (0, 0)) Qk hb); replace BK293 := Aside0.mk (blk_below (g := gb293) (o := .cells #[.int .i64 a1_0, .int .i64 a1_1, .int .i64 a1_2, .int .i64 a1_3, .int .i64 a1_4, .int .i64 a1_5, .int .i64 a1_6, .string a1_7, .string a1_8] 25 (0, 0)) Qk hb); replace BK294 := Aside0.mk (blk_below (g := gb294) (o := .cells #[.string (⟨#[]⟩ : ByteArray), .bool false] 60 (0, 0)) Qk hb); replace HB := Qy hb; (try clear hb); (try clear hb2); (try clear hk); (try clear hi); obtain ⟨y30_0, y30_1, v30_0, v30_1⟩ := Z2 BK292.out; obtain ⟨y31_0, y31_1, y31_2, y31_3, y31_4, y31_5, y31_6, y31_7, y31_8, v31_0, v31_1, v31_2, v31_3, v31_4, v31_5, v31_6, v31_7, v31_8⟩ := Z9 BK293.out) | ((with_reducible refine gate_callee (f := 44) rfl ?_); refine gL 28 Tryd.func44 #[.agg #[.string t303, .bool t304], .string a1_8] ?_; (with_reducible refine (samphireref09_Text.calls k t303 t304 a1_8 t305 t306 _ A8.out).mono ?_); rintro e w32 ⟨rfl, hb⟩; refine ⟨_, rfl, ?_⟩; replace BK292 := Aside0.mk (blk_below (g := gb292) (o := .cells #[.string t303, .bool t304] 60 (0, 0)) Qk hb); replace BK293 := Aside0.mk (blk_below (g := gb293) (o := .cells #[.int .i64 a1_0, .int .i64 a1_1, .int .i64 a1_2, .int .i64 a1_3, .int .i64 a1_4, .int .i64 a1_5, .int .i64 a1_6, .string a1_7, .string a1_8] 25 (0, 0)) Qk hb); replace BK294 := Aside0.mk (blk_below (g := gb294) (o := .cells #[.string (⟨#[]⟩ : ByteArray), .bool false] 60 (0, 0)) Qk hb); replace HB := Qy hb; (try clear hb); (try clear hb2); (try clear hk); (try clear hi); obtain ⟨y33_0, y33_1, v33_0, v33_1⟩ := Z2 BK294.out))
 refine bodyPost_ret (results_cell_row rfl _ _ gb294 60 #[.string t305, .bool t306] (0, 0) _ rfl Qk Tryd.underlying60 rfl (by kernel_rfl)) rfl ?_
 exact ⟨Qe, Qh⟩
/-! ### samphireref10_Less: function 56 -/
def samphireref10_Less.f (a0_0 : Int) (a0_1 : Int) (a1_0 : Int) (a1_1 : Int) : Option (Bool) := if a0_0 < a1_0 then (some true) else (if a0_0 = a1_0 then (some (decide (a0_1 < a1_1))) else (some false))
set_option maxHeartbeats 8000000 in
set_option maxRecDepth 100000 in
theorem samphireref10_Less.calls (a0_0 : Int) (a0_1 : Int) (a1_0 : Int) (a1_1 : Int) (r : Bool) (w : World) (h : samphireref10_Less.f a0_0 a0_1 a1_0 a1_1 = some r) :
 Calls Tryd.prog 56 #[.agg #[.int .i64 a0_0, .int .i64 a0_1], .agg #[.int .i64 a1_0, .int .i64 a1_1]] w fun e w' => e = .returned (.bool r) ∧ Below w.heap.size w w' := by
 have hu23 := Tryd.underlying23
 have HB := Aside0.mk (Below.refl w.heap.size w)
 have H : (if a0_0 < a1_0 then (some true) else (if a0_0 = a1_0 then (some (decide (a0_1 < a1_1))) else (some false))) = some r := h
 clear h
 by_cases c3 : a0_0 < a1_0
 · rw [if_pos c3] at H
   have c3b0 : decide (a0_0 < a1_0) = true := decide_eq_true c3
   clear c3
   obtain rfl := Option.some.inj H
   go_enter Tryd.func56, Tryd.ntmps56
   go_wp2_with (first | ((with_reducible refine gate_dst (N := 2) rfl ?_); refine boxQ (N := 2) (cs := #[.int .i64 a0_0, .int .i64 a0_1]) (t := 23) ?_; intro gb307 hg w4 hbox hb; have BK307 := Aside0.mk hbox; have GW307 := Qt w hg; have GE307 := GW307; replace HB := Qy hb; clear hb hbox hg) | ((with_reducible refine gate_dst (N := 3) rfl ?_); refine boxQ (N := 3) (cs := #[.int .i64 a1_0, .int .i64 a1_1]) (t := 23) ?_; intro gb308 hg w5 hbox hb; have BK308 := Aside0.mk hbox; have GW308 := Qt w hg; have GE308 := GW308; have NB307_308 := Qo hg BK307; have NB308_307 := Qp hg BK307; replace BK307 := Qv BK307 hb; replace HB := Qy hb; clear hb hbox hg; have hnb6 := NB307_308.out; have hnc6 := NB308_307.out; obtain ⟨y7_0, y7_1, v7_0, v7_1⟩ := Z2 BK307.out; obtain ⟨y8_0, y8_1, v8_0, v8_1⟩ := Z2 BK308.out))
   go_ret
   exact ⟨Qe, Qh⟩
 · rw [if_neg c3] at H
   have c3b0 : decide (a0_0 < a1_0) = false := decide_eq_false c3
   clear c3
   by_cases c9 : a0_0 = a1_0
   · rw [if_pos c9] at H
     have c9b0 : (a0_0 == a1_0) = true := beq_iff_eq.mpr c9
     have c9b1 : (a0_0 != a1_0) = false := bne_eq_false_iff_eq.mpr c9
     clear c9
     obtain rfl := Option.some.inj H
     go_enter Tryd.func56, Tryd.ntmps56
     go_wp2_with (first | ((with_reducible refine gate_dst (N := 2) rfl ?_); refine boxQ (N := 2) (cs := #[.int .i64 a0_0, .int .i64 a0_1]) (t := 23) ?_; intro gb307 hg w10 hbox hb; have BK307 := Aside0.mk hbox; have GW307 := Qt w hg; have GE307 := GW307; replace HB := Qy hb; clear hb hbox hg) | ((with_reducible refine gate_dst (N := 3) rfl ?_); refine boxQ (N := 3) (cs := #[.int .i64 a1_0, .int .i64 a1_1]) (t := 23) ?_; intro gb308 hg w11 hbox hb; have BK308 := Aside0.mk hbox; have GW308 := Qt w hg; have GE308 := GW308; have NB307_308 := Qo hg BK307; have NB308_307 := Qp hg BK307; replace BK307 := Qv BK307 hb; replace HB := Qy hb; clear hb hbox hg; have hnb12 := NB307_308.out; have hnc12 := NB308_307.out; obtain ⟨y13_0, y13_1, v13_0, v13_1⟩ := Z2 BK307.out; obtain ⟨y14_0, y14_1, v14_0, v14_1⟩ := Z2 BK308.out))
     go_ret
     exact ⟨Qe, Qh⟩
   · rw [if_neg c9] at H
     have c9b0 : (a0_0 == a1_0) = false := beq_eq_false_iff_ne.mpr c9
     have c9b1 : (a0_0 != a1_0) = true := bne_iff_ne.mpr c9
     obtain rfl := Option.some.inj H
     go_enter Tryd.func56, Tryd.ntmps56
     go_wp2_with (first | ((with_reducible refine gate_dst (N := 2) rfl ?_); refine boxQ (N := 2) (cs := #[.int .i64 a0_0, .int .i64 a0_1]) (t := 23) ?_; intro gb307 hg w15 hbox hb; have BK307 := Aside0.mk hbox; have GW307 := Qt w hg; have GE307 := GW307; replace HB := Qy hb; clear hb hbox hg) | ((with_reducible refine gate_dst (N := 3) rfl ?_); refine boxQ (N := 3) (cs := #[.int .i64 a1_0, .int .i64 a1_1]) (t := 23) ?_; intro gb308 hg w16 hbox hb; have BK308 := Aside0.mk hbox; have GW308 := Qt w hg; have GE308 := GW308; have NB307_308 := Qo hg BK307; have NB308_307 := Qp hg BK307; replace BK307 := Qv BK307 hb; replace HB := Qy hb; clear hb hbox hg; have hnb17 := NB307_308.out; have hnc17 := NB308_307.out; obtain ⟨y18_0, y18_1, v18_0, v18_1⟩ := Z2 BK307.out; obtain ⟨y19_0, y19_1, v19_0, v19_1⟩ := Z2 BK308.out))
     go_ret
     exact ⟨Qe, Qh⟩
/-! ### samphireref10_May: function 57 -/
def samphireref10_May.f (a0_0 : Int) (a0_1 : Int) : Option (Bool) := if a0_0 ≥ 1 then (if a0_0 ≤ 1099511627775 then (if a0_1 ≥ 1 then (some (decide (a0_1 ≤ 6))) else (some false)) else (some false)) else (some false)
set_option maxHeartbeats 8000000 in
set_option maxRecDepth 100000 in
theorem samphireref10_May.calls (a0_0 : Int) (a0_1 : Int) (r : Bool) (w : World) (h : samphireref10_May.f a0_0 a0_1 = some r) :
 Calls Tryd.prog 57 #[.agg #[.int .i64 a0_0, .int .i64 a0_1]] w fun e w' => e = .returned (.bool r) ∧ Below w.heap.size w w' := by
 have hu23 := Tryd.underlying23
 have HB := Aside0.mk (Below.refl w.heap.size w)
 have H : (if a0_0 ≥ 1 then (if a0_0 ≤ 1099511627775 then (if a0_1 ≥ 1 then (some (decide (a0_1 ≤ 6))) else (some false)) else (some false)) else (some false)) = some r := h
 clear h
 by_cases c2 : a0_0 ≥ 1
 · rw [if_pos c2] at H
   have c2b0 : decide (1 ≤ a0_0) = true := decide_eq_true c2
   clear c2
   by_cases c3 : a0_0 ≤ 1099511627775
   · rw [if_pos c3] at H
     have c3b0 : decide (a0_0 ≤ 1099511627775) = true := decide_eq_true c3
     clear c3
     by_cases c4 : a0_1 ≥ 1
     · rw [if_pos c4] at H
       have c4b0 : decide (1 ≤ a0_1) = true := decide_eq_true c4
       clear c4
       obtain rfl := Option.some.inj H
       go_enter Tryd.func57, Tryd.ntmps57
       go_wp2_with (first | ((with_reducible refine gate_dst (N := 1) rfl ?_); refine boxQ (N := 1) (cs := #[.int .i64 a0_0, .int .i64 a0_1]) (t := 23) ?_; intro gb309 hg w5 hbox hb; have BK309 := Aside0.mk hbox; have GW309 := Qt w hg; have GE309 := GW309; replace HB := Qy hb; clear hb hbox hg; obtain ⟨y6_0, y6_1, v6_0, v6_1⟩ := Z2 BK309.out))
       go_ret
       exact ⟨Qe, Qh⟩
     · rw [if_neg c4] at H
       have c4b0 : decide (1 ≤ a0_1) = false := decide_eq_false c4
       clear c4
       obtain rfl := Option.some.inj H
       go_enter Tryd.func57, Tryd.ntmps57
       go_wp2_with (first | ((with_reducible refine gate_dst (N := 1) rfl ?_); refine boxQ (N := 1) (cs := #[.int .i64 a0_0, .int .i64 a0_1]) (t := 23) ?_; intro gb309 hg w7 hbox hb; have BK309 := Aside0.mk hbox; have GW309 := Qt w hg; have GE309 := GW309; replace HB := Qy hb; clear hb hbox hg; obtain ⟨y8_0, y8_1, v8_0, v8_1⟩ := Z2 BK309.out))
       go_ret
       exact ⟨Qe, Qh⟩
   · rw [if_neg c3] at H
     have c3b0 : decide (a0_0 ≤ 1099511627775) = false := decide_eq_false c3
     clear c3
     obtain rfl := Option.some.inj H
     go_enter Tryd.func57, Tryd.ntmps57
     go_wp2_with (first | ((with_reducible refine gate_dst (N := 1) rfl ?_); refine boxQ (N := 1) (cs := #[.int .i64 a0_0, .int .i64 a0_1]) (t := 23) ?_; intro gb309 hg w9 hbox hb; have BK309 := Aside0.mk hbox; have GW309 := Qt w hg; have GE309 := GW309; replace HB := Qy hb; clear hb hbox hg; obtain ⟨y10_0, y10_1, v10_0, v10_1⟩ := Z2 BK309.out))
     go_ret
     exact ⟨Qe, Qh⟩
 · rw [if_neg c2] at H
   have c2b0 : decide (1 ≤ a0_0) = false := decide_eq_false c2
   clear c2
   obtain rfl := Option.some.inj H
   go_enter Tryd.func57, Tryd.ntmps57
   go_wp2_with (first | ((with_reducible refine gate_dst (N := 1) rfl ?_); refine boxQ (N := 1) (cs := #[.int .i64 a0_0, .int .i64 a0_1]) (t := 23) ?_; intro gb309 hg w11 hbox hb; have BK309 := Aside0.mk hbox; have GW309 := Qt w hg; have GE309 := GW309; replace HB := Qy hb; clear hb hbox hg; obtain ⟨y12_0, y12_1, v12_0, v12_1⟩ := Z2 BK309.out))
   go_ret
   exact ⟨Qe, Qh⟩
/-! ### samphireref11_parent: function 63 -/
def samphireref11_parent.f (a0_0 : Int) (a0_1 : Int) : Option (Bool) := (samphireref10_May.f a0_0 a0_1).bind fun t311 => (if t311 = true then (some true) else (if a0_0 = 0 then (if a0_1 = 0 then (some true) else (some (a0_1 == 1))) else (some false)))
set_option maxHeartbeats 8000000 in
set_option maxRecDepth 100000 in
theorem samphireref11_parent.calls (a0_0 : Int) (a0_1 : Int) (r : Bool) (w : World) (h : samphireref11_parent.f a0_0 a0_1 = some r) :
 Calls Tryd.prog 63 #[.agg #[.int .i64 a0_0, .int .i64 a0_1]] w fun e w' => e = .returned (.bool r) ∧ Below w.heap.size w w' := by
 have hu23 := Tryd.underlying23
 have HB := Aside0.mk (Below.refl w.heap.size w)
 have H : ((samphireref10_May.f a0_0 a0_1).bind fun t311 => (if t311 = true then (some true) else (if a0_0 = 0 then (if a0_1 = 0 then (some true) else (some (a0_1 == 1))) else (some false)))) = some r := h
 clear h
 replace H := Option.bind_eq_some_iff.mp H
 obtain ⟨t311, A20, H⟩ := H
 replace H : (if t311 = true then (some true) else (if a0_0 = 0 then (if a0_1 = 0 then (some true) else (some (a0_1 == 1))) else (some false))) = some r := H
 have A2 := Aside0.mk A20
 clear A20
 by_cases c3 : t311 = true
 · subst c3
   have H1 : (some true) = some r := by rw [if_pos rfl] at H; exact H
   clear H
   have H := H1
   clear H1
   obtain rfl := Option.some.inj H
   go_enter Tryd.func63, Tryd.ntmps63
   go_wp2_with (first | ((with_reducible refine gate_dst (N := 1) rfl ?_); refine boxQ (N := 1) (cs := #[.int .i64 a0_0, .int .i64 a0_1]) (t := 23) ?_; intro gb310 hg w4 hbox hb; have BK310 := Aside0.mk hbox; have GW310 := Qt w hg; have GE310 := GW310; replace HB := Qy hb; clear hb hbox hg; obtain ⟨y5_0, y5_1, v5_0, v5_1⟩ := Z2 BK310.out) | ((with_reducible refine gate_callee (f := 57) rfl ?_); refine gL 4 Tryd.func57 #[.agg #[.int .i64 a0_0, .int .i64 a0_1]] ?_; (with_reducible refine (samphireref10_May.calls a0_0 a0_1 true _ A2.out).mono ?_); rintro e w6 ⟨rfl, hb⟩; refine ⟨_, rfl, ?_⟩; replace BK310 := Qv BK310 hb; replace HB := Qy hb; (try clear hb); (try clear hb2); (try clear hk); (try clear hi)))
   go_ret
   exact ⟨Qe, Qh⟩
 · replace c3 := Bool.eq_false_iff.mpr c3
   subst c3
   have H1 : (if a0_0 = 0 then (if a0_1 = 0 then (some true) else (some (a0_1 == 1))) else (some false)) = some r := by rw [if_neg (show ¬ (false = true) by decide)] at H; exact H
   clear H
   have H := H1
   clear H1
   by_cases c7 : a0_0 = 0
   · rw [if_pos c7] at H
     have c7b0 : (a0_0 == 0) = true := beq_iff_eq.mpr c7
     have c7b1 : (a0_0 != 0) = false := bne_eq_false_iff_eq.mpr c7
     clear c7
     by_cases c8 : a0_1 = 0
     · rw [if_pos c8] at H
       have c8b0 : (a0_1 == 0) = true := beq_iff_eq.mpr c8
       have c8b1 : (a0_1 != 0) = false := bne_eq_false_iff_eq.mpr c8
       clear c8
       obtain rfl := Option.some.inj H
       go_enter Tryd.func63, Tryd.ntmps63
       go_wp2_with (first | ((with_reducible refine gate_dst (N := 1) rfl ?_); refine boxQ (N := 1) (cs := #[.int .i64 a0_0, .int .i64 a0_1]) (t := 23) ?_; intro gb310 hg w9 hbox hb; have BK310 := Aside0.mk hbox; have GW310 := Qt w hg; have GE310 := GW310; replace HB := Qy hb; clear hb hbox hg; obtain ⟨y10_0, y10_1, v10_0, v10_1⟩ := Z2 BK310.out) | ((with_reducible refine gate_callee (f := 57) rfl ?_); refine gL 4 Tryd.func57 #[.agg #[.int .i64 a0_0, .int .i64 a0_1]] ?_; (with_reducible refine (samphireref10_May.calls a0_0 a0_1 false _ A2.out).mono ?_); rintro e w11 ⟨rfl, hb⟩; refine ⟨_, rfl, ?_⟩; replace BK310 := Qv BK310 hb; replace HB := Qy hb; (try clear hb); (try clear hb2); (try clear hk); (try clear hi); obtain ⟨y12_0, y12_1, v12_0, v12_1⟩ := Z2 BK310.out))
       go_ret
       exact ⟨Qe, Qh⟩
     · rw [if_neg c8] at H
       have c8b0 : (a0_1 == 0) = false := beq_eq_false_iff_ne.mpr c8
       have c8b1 : (a0_1 != 0) = true := bne_iff_ne.mpr c8
       obtain rfl := Option.some.inj H
       go_enter Tryd.func63, Tryd.ntmps63
       go_wp2_with (first | ((with_reducible refine gate_dst (N := 1) rfl ?_); refine boxQ (N := 1) (cs := #[.int .i64 a0_0, .int .i64 a0_1]) (t := 23) ?_; intro gb310 hg w13 hbox hb; have BK310 := Aside0.mk hbox; have GW310 := Qt w hg; have GE310 := GW310; replace HB := Qy hb; clear hb hbox hg; obtain ⟨y14_0, y14_1, v14_0, v14_1⟩ := Z2 BK310.out) | ((with_reducible refine gate_callee (f := 57) rfl ?_); refine gL 4 Tryd.func57 #[.agg #[.int .i64 a0_0, .int .i64 a0_1]] ?_; (with_reducible refine (samphireref10_May.calls a0_0 a0_1 false _ A2.out).mono ?_); rintro e w15 ⟨rfl, hb⟩; refine ⟨_, rfl, ?_⟩; replace BK310 := Qv BK310 hb; replace HB := Qy hb; (try clear hb); (try clear hb2); (try clear hk); (try clear hi); obtain ⟨y16_0, y16_1, v16_0, v16_1⟩ := Z2 BK310.out))
       go_ret
       exact ⟨Qe, Qh⟩
   · rw [if_neg c7] at H
     have c7b0 : (a0_0 == 0) = false := beq_eq_false_iff_ne.mpr c7
     have c7b1 : (a0_0 != 0) = true := bne_iff_ne.mpr c7
     obtain rfl := Option.some.inj H
     go_enter Tryd.func63, Tryd.ntmps63
     go_wp2_with (first | ((with_reducible refine gate_dst (N := 1) rfl ?_); refine boxQ (N := 1) (cs := #[.int .i64 a0_0, .int .i64 a0_1]) (t := 23) ?_; intro gb310 hg w17 hbox hb; have BK310 := Aside0.mk hbox; have GW310 := Qt w hg; have GE310 := GW310; replace HB := Qy hb; clear hb hbox hg; obtain ⟨y18_0, y18_1, v18_0, v18_1⟩ := Z2 BK310.out) | ((with_reducible refine gate_callee (f := 57) rfl ?_); refine gL 4 Tryd.func57 #[.agg #[.int .i64 a0_0, .int .i64 a0_1]] ?_; (with_reducible refine (samphireref10_May.calls a0_0 a0_1 false _ A2.out).mono ?_); rintro e w19 ⟨rfl, hb⟩; refine ⟨_, rfl, ?_⟩; replace BK310 := Qv BK310 hb; replace HB := Qy hb; (try clear hb); (try clear hb2); (try clear hk); (try clear hi); obtain ⟨y20_0, y20_1, v20_0, v20_1⟩ := Z2 BK310.out))
     go_ret
     exact ⟨Qe, Qh⟩
end Go.Proofs.YtlfgdaiegefjiaaDoor.S
