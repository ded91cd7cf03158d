/- The reference's block of a key, a nonce and a counter, as the machine walks it: it is the program's. For every key, nonce and counter. -/
import Derived.Test.YtlipgfahjmgekaaHe
import Derived.Test.YtlipgfahjmgekaaHg
import Derived.Test.YtlipgfahjmgekaaPlainC
namespace Go.Proofs.Ytlipgfahjmgekaa.S
open Go.RowKit Go.Proofs.YtlipgfahjmgekaaW.PrintWords Go.Proofs.YtlipgfahjmgekaaW.PrintLast Go.Proofs.YtlipgfahjmgekaaW.PrintMore
attribute [local go_sem] max2_int min2_int max_two min_two max_three min_three max_four min_four
set_option linter.unusedVariables false
set_option linter.unusedSimpArgs false

/-- A slice of sixteen words. -/
def Words16 (W : World) (v : Value) (V : List W32) : Prop := ∃ ad c, v = .slice (some ad) 16 c ∧ 16 ≤ c ∧ V.length = 16 ∧ Kd.C (Kd.int .i64) W (some ad) 16 (V.map U)
theorem Words16.below {W W1 : World} {v : Value} {V : List W32} (h : Words16 W v V) (hb : Below W.heap.size W W1) : Words16 W1 v V := by
  obtain ⟨ad, c, h1, h2, h3, h4⟩ := h
  exact ⟨ad, c, h1, h2, h3, Kd.C_below h4 hb⟩
theorem Words16.of {W : World} {base : Nat} {v : Value} {V : List W32} (h : Kd.R (Kd.int .i64) 3 W base (fun _ => True) v (V.map U)) (hl : V.length = 16) : Words16 W v V := by
  obtain ⟨g, cap, hv, _⟩ := Kd.R_form h (by rw [List.length_map]; omega)
  rw [List.length_map, hl] at hv
  subst hv
  have hr := Kd.R_reads' h
  have hc := hr.2.2
  rw [List.length_map, hl] at hc
  exact ⟨_, cap, rfl, hr.2.1, hl, hc⟩
theorem Words16.cell {W : World} {ad : Addr} {V : List W32} (h : Kd.C (Kd.int .i64) W (some ad) 16 (V.map U)) (hl : V.length = 16) (i : Nat) (hi : i < 16) : W.cell? (ad.add i) = some (.int .i64 (U (at_ V i))) := by
  obtain ⟨_, _, h3⟩ := Kd.reads_of_C (d := (0 : Int)) h
  obtain ⟨ad', e, hc⟩ := h3 (by omega)
  injection e with e
  subst e
  have := hc i hi
  rw [mapU_getD _ _ (by omega)] at this
  exact this
theorem step_int (V : List W32) (a b c d : Nat) (hl : V.length = 16) : ((((V.map U).set a (U (qr ⟨at_ V a, at_ V b, at_ V c, at_ V d⟩).a)).set b (U (qr ⟨at_ V a, at_ V b, at_ V c, at_ V d⟩).b)).set c (U (qr ⟨at_ V a, at_ V b, at_ V c, at_ V d⟩).c)).set d (U (qr ⟨at_ V a, at_ V b, at_ V c, at_ V d⟩).d) = (stepQ V a b c d).map U := step_map V a b c d
theorem round_any (v : Value) (V : List W32) (a b c d : Nat) (ha : a < 16) (hb : b < 16) (hc : c < 16) (hd : d < 16) (w : World) (h : Words16 w v V) :
    Calls Try.prog 24 #[v, .int .i64 a, .int .i64 b, .int .i64 c, .int .i64 d] w fun e w' => ∃ v', e = .returned v' ∧ Words16 w' v' (stepQ V a b c d) ∧ Below w.heap.size w w' := by
  obtain ⟨ad, c0, rfl, h2, h3, h4⟩ := h
  refine (round24 ad c0 (V.map U) a b c d _ _ _ _ _ _ _ _ w ⟨by rw [List.length_map]; exact h3⟩ h2 (by omega) (by omega) (by omega) (by omega) (by omega) (by omega) (by omega) (by omega) ⟨h4⟩
    (Words16.cell h4 h3 a ha) (Words16.cell h4 h3 b hb) (Words16.cell h4 h3 c hc) (Words16.cell h4 h3 d hd)
    (fun w => samphireref05_Quarter.calls ⟨at_ V a, at_ V b, at_ V c, at_ V d⟩ _ _ _ _ (U_self _) (U_self _) (U_self _) (U_self _) w)).mono ?_
  rintro e w' ⟨v', rfl, hR, hB⟩
  refine ⟨v', rfl, Words16.of (base := w.heap.size) ?_ (by rw [stepQ_length]; exact h3), hB⟩
  simp only [Int.toNat_natCast] at hR
  rw [step_int V a b c d h3] at hR
  exact hR
theorem lit_one (W : World) (x : Int) : Kd.C (Kd.int .i64) (W.alloc (.cells #[.int .i64 x] 3)) (some ⟨W.heap.size, 0, none⟩) [x].length [x] := by
  refine Kd.C_of_reads (d := (0 : Int)) (h1 := fun _ => rfl) ⟨rfl, by simp, fun _ => ⟨_, rfl, fun j hj => ?_⟩⟩
  obtain rfl : j = 0 := by simpa using hj
  rw [add_plain, blk_cell (heap_alloc_new W _)]
  rfl
theorem putsmall_one (W : World) (x : Int) (q : Nat) (r : ByteArray) (h : samphireref01_PutSmall.f q [x] = some r) : Calls Try.prog 23 #[.slice (some ⟨W.heap.size, 0, none⟩) 1 1] (W.alloc (.cells #[.int .i64 x] 3)) fun e w' => e = .returned (.string r) ∧ Below (W.alloc (.cells #[.int .i64 x] 3)).heap.size (W.alloc (.cells #[.int .i64 x] 3)) w' :=
  samphireref01_PutSmall.calls q _ 1 [x] r _ (lit_one W x) (Nat.le_refl _) h
theorem rnd0 (v : Value) (V : List W32) (w : World) (h : Words16 w v V) : Calls Try.prog 24 #[v, .int .i64 0, .int .i64 4, .int .i64 8, .int .i64 12] w fun e w' => ∃ v', e = .returned v' ∧ Words16 w' v' (stepQ V 0 4 8 12) ∧ Below w.heap.size w w' :=
  round_any v V 0 4 8 12 (by decide) (by decide) (by decide) (by decide) w h
theorem rnd1 (v : Value) (V : List W32) (w : World) (h : Words16 w v V) : Calls Try.prog 24 #[v, .int .i64 1, .int .i64 5, .int .i64 9, .int .i64 13] w fun e w' => ∃ v', e = .returned v' ∧ Words16 w' v' (stepQ V 1 5 9 13) ∧ Below w.heap.size w w' :=
  round_any v V 1 5 9 13 (by decide) (by decide) (by decide) (by decide) w h
theorem rnd2 (v : Value) (V : List W32) (w : World) (h : Words16 w v V) : Calls Try.prog 24 #[v, .int .i64 2, .int .i64 6, .int .i64 10, .int .i64 14] w fun e w' => ∃ v', e = .returned v' ∧ Words16 w' v' (stepQ V 2 6 10 14) ∧ Below w.heap.size w w' :=
  round_any v V 2 6 10 14 (by decide) (by decide) (by decide) (by decide) w h
theorem rnd3 (v : Value) (V : List W32) (w : World) (h : Words16 w v V) : Calls Try.prog 24 #[v, .int .i64 3, .int .i64 7, .int .i64 11, .int .i64 15] w fun e w' => ∃ v', e = .returned v' ∧ Words16 w' v' (stepQ V 3 7 11 15) ∧ Below w.heap.size w w' :=
  round_any v V 3 7 11 15 (by decide) (by decide) (by decide) (by decide) w h
theorem rnd4 (v : Value) (V : List W32) (w : World) (h : Words16 w v V) : Calls Try.prog 24 #[v, .int .i64 0, .int .i64 5, .int .i64 10, .int .i64 15] w fun e w' => ∃ v', e = .returned v' ∧ Words16 w' v' (stepQ V 0 5 10 15) ∧ Below w.heap.size w w' :=
  round_any v V 0 5 10 15 (by decide) (by decide) (by decide) (by decide) w h
theorem rnd5 (v : Value) (V : List W32) (w : World) (h : Words16 w v V) : Calls Try.prog 24 #[v, .int .i64 1, .int .i64 6, .int .i64 11, .int .i64 12] w fun e w' => ∃ v', e = .returned v' ∧ Words16 w' v' (stepQ V 1 6 11 12) ∧ Below w.heap.size w w' :=
  round_any v V 1 6 11 12 (by decide) (by decide) (by decide) (by decide) w h
theorem rnd6 (v : Value) (V : List W32) (w : World) (h : Words16 w v V) : Calls Try.prog 24 #[v, .int .i64 2, .int .i64 7, .int .i64 8, .int .i64 13] w fun e w' => ∃ v', e = .returned v' ∧ Words16 w' v' (stepQ V 2 7 8 13) ∧ Below w.heap.size w w' :=
  round_any v V 2 7 8 13 (by decide) (by decide) (by decide) (by decide) w h
theorem rnd7 (v : Value) (V : List W32) (w : World) (h : Words16 w v V) : Calls Try.prog 24 #[v, .int .i64 3, .int .i64 4, .int .i64 9, .int .i64 14] w fun e w' => ∃ v', e = .returned v' ∧ Words16 w' v' (stepQ V 3 4 9 14) ∧ Below w.heap.size w w' :=
  round_any v V 3 4 9 14 (by decide) (by decide) (by decide) (by decide) w h
theorem putsmall_own (v : Value) (l : List Int) (w : World) (base : Nat) (h : Kd.R (Kd.int .i64) 3 w base (fun _ => True) v l) (hl : l.length < 17592186044416) :
    Calls Try.prog 23 #[v] w fun e w' => e = .returned (.string (strOfNums (lowL l))) ∧ Below w.heap.size w w' := by
  obtain ⟨A, c, rfl, hc, hC⟩ := Kd.R_reads h
  exact samphireref01_PutSmall.calls (l.length + 1) A c l _ w hC hc (putsmall_is l _ hl (by omega))
theorem turns_step (V : List W32) (n : Nat) : turns V (n + 1) = stepQ (stepQ (stepQ (stepQ (stepQ (stepQ (stepQ (stepQ (turns V n) 0 4 8 12) 1 5 9 13) 2 6 10 14) 3 7 11 15) 0 5 10 15) 1 6 11 12) 2 7 8 13) 3 4 9 14 := rfl
def rblock_.T20 : Bool × List (List Nat × List Nat) := (true, [([], []), ([], []), ([], []), ([1, 2], [1, 2]), ([3], [3]), ([], []), ([], []), ([5, 6], [5, 6]), ([7], [7]), ([4, 8], [4, 8]), ([9], [9]), ([0, 10], [0, 10]), ([11, 11, 0, 1, 2, 3, 4, 5, 6, 7, 8, 9, 10, 11], [0, 11])])
def rblock_.B20 : List Nat := [0, 0, 0, 6, 14, 0, 0, 96, 224, 510, 1022, 2047, 4095]
theorem rblock_.tab20 : rtab .any (opsOf Try.f14 20) = rblock_.T20 := by kernel_rfl
theorem rblock_.bits20 : waitsOk rblock_.T20.2 rblock_.B20 = true := by kernel_rfl
set_option maxHeartbeats 8000000 in
set_option maxRecDepth 100000 in
theorem rblock14 (key nonce : ByteArray) (ctr : Int) (w : World) (k1 : (key.size : Int) = 32) (k2 : (nonce.size : Int) = 12) (c0 : 0 ≤ ctr) (c1 : ctr ≤ 4294967295)
    (P23 : Aside0 (∃ k, samphireref01_PutSmall.f k [ctr] = some (ctrS ctr))) (P22 : Aside0 (∃ k, samphireref01_Small.f k (allS key nonce ctr) = some ((words0 key nonce ctr).map U, 0)))
    (hlw : Aside0 ((words0 key nonce ctr).length = 16)) :
    Calls Try.prog 14 #[.string key, .string nonce, .int .i64 ctr] w fun e w' => e = .returned (.tuple #[.string (strOfNums (blockL key nonce ctr)), .int .i64 0]) ∧ Below w.heap.size w w' := by
  obtain ⟨q23, h23⟩ := P23.out
  obtain ⟨q22, h22⟩ := P22.out
  have H23 := Aside0.mk h23
  have H22 := Aside0.mk h22
  clear h23 h22
  have b0 : ((key.size : Int) == 32) = true := beq_iff_eq.mpr k1
  have b1 : ((key.size : Int) != 32) = false := bne_eq_false_iff_eq.mpr k1
  have b2 : ((nonce.size : Int) == 12) = true := beq_iff_eq.mpr k2
  have b3 : ((nonce.size : Int) != 12) = false := bne_eq_false_iff_eq.mpr k2
  have K1 := Aside0.mk k1
  have K2 := Aside0.mk k2
  clear k1 k2
  have hk1 : key.size ≤ 32 := by have := K1.out; omega
  have hn1 : nonce.size ≤ 12 := by have := K2.out; omega
  have hc1 : (ctrS ctr).size ≤ 4 := by rw [ctrS_size]; exact Nat.le_refl _
  have hl1 := Aside0.mk (putsmall_one w ctr q23 (ctrS ctr) H23.out)
  go_enter Try.func14, Try.ntmps14
  go_wp2_with (first | (go_at_call 23; refine hl1.out.mono ?_; rintro e w1 ⟨rfl, hb1⟩) | (go_at_call 22; refine (samphireref01_Small.calls q22 (allS key nonce ctr) _ _ _ H22.out).mono ?_; rintro e w2 ⟨vw, rfl, hR, hb2⟩))
  have HW := Aside0.mk (Words16.of hR hlw.out)
  have HB := Aside0.mk (below_then (below_then (below_alloc (Below.refl w.heap.size w) (.cells #[.int .i64 ctr] 3)) (below_alloc (Below.refl w.heap.size w) (.cells #[.int .i64 ctr] 3)).size hb1) (below_then (below_alloc (Below.refl w.heap.size w) (.cells #[.int .i64 ctr] 3)) (below_alloc (Below.refl w.heap.size w) (.cells #[.int .i64 ctr] 3)).size hb1).size hb2)
  clear hR hb1 hb2 hl1 H23 H22 P23 P22
  obtain ⟨V0, hV0⟩ : ∃ V, V = words0 key nonce ctr := ⟨_, rfl⟩
  rw [← hV0] at HW hlw
  have HV0 := Aside0.mk hV0
  clear hV0
  go_loopw [10, 11] (fun v i wr => ∃ n : Nat, n ≤ 10 ∧ i = .int .i64 n ∧ Aside0 (Words16 wr v (turns V0 n)) ∧ Aside0 (Words16 wr vw V0) ∧ Aside0 (Below w.heap.size w wr)) (fun _ i _ => 10 - (intOf i).toNat)
  case atStart => exact ⟨0, by omega, rfl, HW, HW, HB⟩
  case round =>
    clear HW HB
    obtain ⟨n, hn, rfl, HX0, HW, HB⟩ := hrel
    by_cases hlt : n < 10
    · go_wp2_with (first | (go_at_call 24; (with_reducible refine (rnd0 _ _ _ HX0.out).mono ?_); rintro e x1 ⟨v1, rfl, hX1, hb1⟩; have HX1 := Aside0.mk hX1; clear hX1) | (go_at_call 24; (with_reducible refine (rnd1 _ _ _ HX1.out).mono ?_); rintro e x2 ⟨v2, rfl, hX2, hb2⟩; have HX2 := Aside0.mk hX2; clear hX2) | (go_at_call 24; (with_reducible refine (rnd2 _ _ _ HX2.out).mono ?_); rintro e x3 ⟨v3, rfl, hX3, hb3⟩; have HX3 := Aside0.mk hX3; clear hX3) | (go_at_call 24; (with_reducible refine (rnd3 _ _ _ HX3.out).mono ?_); rintro e x4 ⟨v4, rfl, hX4, hb4⟩; have HX4 := Aside0.mk hX4; clear hX4) | (go_at_call 24; (with_reducible refine (rnd4 _ _ _ HX4.out).mono ?_); rintro e x5 ⟨v5, rfl, hX5, hb5⟩; have HX5 := Aside0.mk hX5; clear hX5) | (go_at_call 24; (with_reducible refine (rnd5 _ _ _ HX5.out).mono ?_); rintro e x6 ⟨v6, rfl, hX6, hb6⟩; have HX6 := Aside0.mk hX6; clear hX6) | (go_at_call 24; (with_reducible refine (rnd6 _ _ _ HX6.out).mono ?_); rintro e x7 ⟨v7, rfl, hX7, hb7⟩; have HX7 := Aside0.mk hX7; clear hX7) | (go_at_call 24; (with_reducible refine (rnd7 _ _ _ HX7.out).mono ?_); rintro e x8 ⟨v8, rfl, hX8, hb8⟩; have HX8 := Aside0.mk hX8; clear hX8))
      go_roundw
      case rel => exact ⟨n + 1, by omega, by go_num, ⟨by rw [turns_step]; exact HX8.out⟩, ⟨((((((((HW.out).below hb1).below hb2).below hb3).below hb4).below hb5).below hb6).below hb7).below hb8⟩, ⟨(below_then (below_then (below_then (below_then (below_then (below_then (below_then (below_then HB.out (HB.out).size hb1) ((below_then HB.out (HB.out).size hb1)).size hb2) ((below_then (below_then HB.out (HB.out).size hb1) ((below_then HB.out (HB.out).size hb1)).size hb2)).size hb3) ((below_then (below_then (below_then HB.out (HB.out).size hb1) ((below_then HB.out (HB.out).size hb1)).size hb2) ((below_then (below_then HB.out (HB.out).size hb1) ((below_then HB.out (HB.out).size hb1)).size hb2)).size hb3)).size hb4) ((below_then (below_then (below_then (below_then HB.out (HB.out).size hb1) ((below_then HB.out (HB.out).size hb1)).size hb2) ((below_then (below_then HB.out (HB.out).size hb1) ((below_then HB.out (HB.out).size hb1)).size hb2)).size hb3) ((below_then (below_then (below_then HB.out (HB.out).size hb1) ((below_then HB.out (HB.out).size hb1)).size hb2) ((below_then (below_then HB.out (HB.out).size hb1) ((below_then HB.out (HB.out).size hb1)).size hb2)).size hb3)).size hb4)).size hb5) ((below_then (below_then (below_then (below_then (below_then HB.out (HB.out).size hb1) ((below_then HB.out (HB.out).size hb1)).size hb2) ((below_then (below_then HB.out (HB.out).size hb1) ((below_then HB.out (HB.out).size hb1)).size hb2)).size hb3) ((below_then (below_then (below_then HB.out (HB.out).size hb1) ((below_then HB.out (HB.out).size hb1)).size hb2) ((below_then (below_then HB.out (HB.out).size hb1) ((below_then HB.out (HB.out).size hb1)).size hb2)).size hb3)).size hb4) ((below_then (below_then (below_then (below_then HB.out (HB.out).size hb1) ((below_then HB.out (HB.out).size hb1)).size hb2) ((below_then (below_then HB.out (HB.out).size hb1) ((below_then HB.out (HB.out).size hb1)).size hb2)).size hb3) ((below_then (below_then (below_then HB.out (HB.out).size hb1) ((below_then HB.out (HB.out).size hb1)).size hb2) ((below_then (below_then HB.out (HB.out).size hb1) ((below_then HB.out (HB.out).size hb1)).size hb2)).size hb3)).size hb4)).size hb5)).size hb6) ((below_then (below_then (below_then (below_then (below_then (below_then HB.out (HB.out).size hb1) ((below_then HB.out (HB.out).size hb1)).size hb2) ((below_then (below_then HB.out (HB.out).size hb1) ((below_then HB.out (HB.out).size hb1)).size hb2)).size hb3) ((below_then (below_then (below_then HB.out (HB.out).size hb1) ((below_then HB.out (HB.out).size hb1)).size hb2) ((below_then (below_then HB.out (HB.out).size hb1) ((below_then HB.out (HB.out).size hb1)).size hb2)).size hb3)).size hb4) ((below_then (below_then (below_then (below_then HB.out (HB.out).size hb1) ((below_then HB.out (HB.out).size hb1)).size hb2) ((below_then (below_then HB.out (HB.out).size hb1) ((below_then HB.out (HB.out).size hb1)).size hb2)).size hb3) ((below_then (below_then (below_then HB.out (HB.out).size hb1) ((below_then HB.out (HB.out).size hb1)).size hb2) ((below_then (below_then HB.out (HB.out).size hb1) ((below_then HB.out (HB.out).size hb1)).size hb2)).size hb3)).size hb4)).size hb5) ((below_then (below_then (below_then (below_then (below_then HB.out (HB.out).size hb1) ((below_then HB.out (HB.out).size hb1)).size hb2) ((below_then (below_then HB.out (HB.out).size hb1) ((below_then HB.out (HB.out).size hb1)).size hb2)).size hb3) ((below_then (below_then (below_then HB.out (HB.out).size hb1) ((below_then HB.out (HB.out).size hb1)).size hb2) ((below_then (below_then HB.out (HB.out).size hb1) ((below_then HB.out (HB.out).size hb1)).size hb2)).size hb3)).size hb4) ((below_then (below_then (below_then (below_then HB.out (HB.out).size hb1) ((below_then HB.out (HB.out).size hb1)).size hb2) ((below_then (below_then HB.out (HB.out).size hb1) ((below_then HB.out (HB.out).size hb1)).size hb2)).size hb3) ((below_then (below_then (below_then HB.out (HB.out).size hb1) ((below_then HB.out (HB.out).size hb1)).size hb2) ((below_then (below_then HB.out (HB.out).size hb1) ((below_then HB.out (HB.out).size hb1)).size hb2)).size hb3)).size hb4)).size hb5)).size hb6)).size hb7) ((below_then (below_then (below_then (below_then (below_then (below_then (below_then HB.out (HB.out).size hb1) ((below_then HB.out (HB.out).size hb1)).size hb2) ((below_then (below_then HB.out (HB.out).size hb1) ((below_then HB.out (HB.out).size hb1)).size hb2)).size hb3) ((below_then (below_then (below_then HB.out (HB.out).size hb1) ((below_then HB.out (HB.out).size hb1)).size hb2) ((below_then (below_then HB.out (HB.out).size hb1) ((below_then HB.out (HB.out).size hb1)).size hb2)).size hb3)).size hb4) ((below_then (below_then (below_then (below_then HB.out (HB.out).size hb1) ((below_then HB.out (HB.out).size hb1)).size hb2) ((below_then (below_then HB.out (HB.out).size hb1) ((below_then HB.out (HB.out).size hb1)).size hb2)).size hb3) ((below_then (below_then (below_then HB.out (HB.out).size hb1) ((below_then HB.out (HB.out).size hb1)).size hb2) ((below_then (below_then HB.out (HB.out).size hb1) ((below_then HB.out (HB.out).size hb1)).size hb2)).size hb3)).size hb4)).size hb5) ((below_then (below_then (below_then (below_then (below_then HB.out (HB.out).size hb1) ((below_then HB.out (HB.out).size hb1)).size hb2) ((below_then (below_then HB.out (HB.out).size hb1) ((below_then HB.out (HB.out).size hb1)).size hb2)).size hb3) ((below_then (below_then (below_then HB.out (HB.out).size hb1) ((below_then HB.out (HB.out).size hb1)).size hb2) ((below_then (below_then HB.out (HB.out).size hb1) ((below_then HB.out (HB.out).size hb1)).size hb2)).size hb3)).size hb4) ((below_then (below_then (below_then (below_then HB.out (HB.out).size hb1) ((below_then HB.out (HB.out).size hb1)).size hb2) ((below_then (below_then HB.out (HB.out).size hb1) ((below_then HB.out (HB.out).size hb1)).size hb2)).size hb3) ((below_then (below_then (below_then HB.out (HB.out).size hb1) ((below_then HB.out (HB.out).size hb1)).size hb2) ((below_then (below_then HB.out (HB.out).size hb1) ((below_then HB.out (HB.out).size hb1)).size hb2)).size hb3)).size hb4)).size hb5)).size hb6) ((below_then (below_then (below_then (below_then (below_then (below_then HB.out (HB.out).size hb1) ((below_then HB.out (HB.out).size hb1)).size hb2) ((below_then (below_then HB.out (HB.out).size hb1) ((below_then HB.out (HB.out).size hb1)).size hb2)).size hb3) ((below_then (below_then (below_then HB.out (HB.out).size hb1) ((below_then HB.out (HB.out).size hb1)).size hb2) ((below_then (below_then HB.out (HB.out).size hb1) ((below_then HB.out (HB.out).size hb1)).size hb2)).size hb3)).size hb4) ((below_then (below_then (below_then (below_then HB.out (HB.out).size hb1) ((below_then HB.out (HB.out).size hb1)).size hb2) ((below_then (below_then HB.out (HB.out).size hb1) ((below_then HB.out (HB.out).size hb1)).size hb2)).size hb3) ((below_then (below_then (below_then HB.out (HB.out).size hb1) ((below_then HB.out (HB.out).size hb1)).size hb2) ((below_then (below_then HB.out (HB.out).size hb1) ((below_then HB.out (HB.out).size hb1)).size hb2)).size hb3)).size hb4)).size hb5) ((below_then (below_then (below_then (below_then (below_then HB.out (HB.out).size hb1) ((below_then HB.out (HB.out).size hb1)).size hb2) ((below_then (below_then HB.out (HB.out).size hb1) ((below_then HB.out (HB.out).size hb1)).size hb2)).size hb3) ((below_then (below_then (below_then HB.out (HB.out).size hb1) ((below_then HB.out (HB.out).size hb1)).size hb2) ((below_then (below_then HB.out (HB.out).size hb1) ((below_then HB.out (HB.out).size hb1)).size hb2)).size hb3)).size hb4) ((below_then (below_then (below_then (below_then HB.out (HB.out).size hb1) ((below_then HB.out (HB.out).size hb1)).size hb2) ((below_then (below_then HB.out (HB.out).size hb1) ((below_then HB.out (HB.out).size hb1)).size hb2)).size hb3) ((below_then (below_then (below_then HB.out (HB.out).size hb1) ((below_then HB.out (HB.out).size hb1)).size hb2) ((below_then (below_then HB.out (HB.out).size hb1) ((below_then HB.out (HB.out).size hb1)).size hb2)).size hb3)).size hb4)).size hb5)).size hb6)).size hb7)).size hb8)⟩⟩
      case measure => simp [intOf]; omega
    · obtain rfl : n = 10 := by omega
      go_wp2_with fail
      obtain ⟨ws, rfl⟩ : ∃ ws : World, ws = wr := ⟨_, rfl⟩
      obtain ⟨Vx, hVx⟩ : ∃ V, V = turns V0 10 := ⟨_, rfl⟩
      rw [← hVx] at HX0
      have HVx := Aside0.mk hVx
      clear hVx
      obtain ⟨adx, cx, rfl, hcx, hlx, hCx⟩ := HX0.out
      obtain ⟨adw, cw, rfl, hcw, hlw2, hCw⟩ := HW.out
      have HCx := Aside0.mk hCx
      have HCw := Aside0.mk hCw
      have HLx := Aside0.mk hlx
      have HLw := Aside0.mk hlw2
      clear hCx hCw hlx hlw2 HX0 HW
      have hO : Aside0 (Kd.R (Kd.int .i64) 3 ws ws.heap.size (fun _ => True) (.slice none 0 0) (sumL Vx V0 0)) := ⟨Kd.R_nil _ _ _ _ _⟩
      have HB2 := HB
      go_loopw [12, 13] (fun v i wr => ∃ k : Nat, k ≤ 16 ∧ i = .int .i64 k ∧ Aside0 (Kd.R (Kd.int .i64) 3 wr ws.heap.size (fun _ => True) v (sumL Vx V0 k)) ∧ Aside0 (Below ws.heap.size ws wr)) (fun _ i _ => 16 - (intOf i).toNat)
      case atStart => exact ⟨0, by omega, rfl, hO, ⟨Below.refl _ _⟩⟩
      case round =>
        clear hO
        obtain ⟨k, hk, rfl, hO, hB⟩ := hrel
        by_cases hlt2 : k < 16
        · have cw0 := Words16.cell HCw.out HLw.out k hlt2
          have cx0 := Words16.cell HCx.out HLx.out k hlt2
          obtain ⟨wk, hwk⟩ : ∃ x, x = U (at_ V0 k) := ⟨_, rfl⟩
          obtain ⟨xk, hxk⟩ : ∃ x, x = U (at_ Vx k) := ⟨_, rfl⟩
          rw [← hwk] at cw0
          rw [← hxk] at cx0
          have lw : 0 ≤ wk := by rw [hwk]; exact (U_bd _).1
          have uw : wk ≤ 4294967295 := by rw [hwk]; exact (U_bd _).2
          have lx : 0 ≤ xk := by rw [hxk]; exact (U_bd _).1
          have ux : xk ≤ 4294967295 := by rw [hxk]; exact (U_bd _).2
          have hsum : Aside0 (sumL Vx V0 k ++ [wk + xk] = sumL Vx V0 (k + 1)) := ⟨by rw [hwk, hxk]; simp [sumL, List.range_succ]⟩
          have hLo : Aside0 ((sumL Vx V0 k).length = k) := ⟨by simp [sumL]⟩
          clear hwk hxk
          obtain ⟨vo, rfl⟩ : ∃ vo : Value, vo = u12 := ⟨_, rfl⟩
          have hO : Aside0 (Kd.R (Kd.int .i64) 3 wr.drew ws.heap.size (fun _ => True) vo (sumL Vx V0 k)) := ⟨Kd.R_drew hO.out⟩
          have hB : Aside0 (Below ws.heap.size ws wr.drew) := ⟨below_drew hB.out⟩
          have cw := pw_cell_below hB.out cw0
          have cx := pw_cell_below hB.out cx0
          have e1 : IntKind.i64.wrap (wk + xk) = wk + xk := by rw [IntKind.wrap_i64]; omega
          have i1 : ((k : Int) < 16) = True := eq_true (by omega)
          go_wp2_with fail
          refine start_ (n := 13) (S := fun w' => w'.cell? (adw.add k) = some (.int .i64 wk) ∧ w'.cell? (adx.add k) = some (.int .i64 xk)) (ds := []) #[false, false, false, false, false, false, false, false, false, false, false, false, false] (by kernel_rfl) rfl rfl ⟨cw, cx⟩ (fun hHeld => ?_)
          refine with_tabW rblock_.tab20 rblock_.bits20 (fun HT_ HW_ => ?_)
          generalize wr.drew = wq at hO hB cw cx hHeld ⊢
          refine pure_ (i := 0) (N := some 67) (v := ?_) (a' := ?_) #[true, false, false, false, false, false, false, false, false, false, false, false, false] rfl rfl (any_of HT_.out (by kernel_rfl)) (fun _ _ _ h => h) (Or.inl ⟨by rfl, ?_⟩) ?_ ?_
          rotate_left
          · intro w'
            go_simp
            with_reducible rfl
          rotate_left
          · simp only [Act.put, List.setIfInBounds_toArray, List.set_cons_zero, List.set_cons_succ, i64_w, i32_w]
            rfl
          refine pure_ (i := 1) (N := some 68) (v := ?_) (a' := ?_) #[true, true, false, false, false, false, false, false, false, false, false, false, false] rfl rfl (any_of HT_.out (by kernel_rfl)) (fun _ _ _ h => h) (Or.inl ⟨by rfl, ?_⟩) ?_ ?_
          rotate_left
          · intro w'
            go_simp
            with_reducible rfl
          rotate_left
          · simp only [Act.put, List.setIfInBounds_toArray, List.set_cons_zero, List.set_cons_succ, i64_w, i32_w]
            rfl
          refine pure_ (i := 2) (N := some 69) (v := ?_) (a' := ?_) #[true, true, true, false, false, false, false, false, false, false, false, false, false] rfl rfl (any_of HT_.out (by kernel_rfl)) (fun _ _ _ h => h) (Or.inl ⟨by rfl, ?_⟩) ?_ ?_
          rotate_left
          · intro w'
            go_simp
            with_reducible rfl
          rotate_left
          · simp only [Act.put, List.setIfInBounds_toArray, List.set_cons_zero, List.set_cons_succ, i64_w, i32_w]
            rfl
          refine pure_ (i := 3) (N := some 70) (v := ?_) (a' := ?_) #[true, true, true, true, false, false, false, false, false, false, false, false, false] rfl rfl (any_of HT_.out (by kernel_rfl)) (fun _ _ _ h => h) (Or.inl ⟨by rfl, ?_⟩) ?_ ?_
          rotate_left
          · intro w'
            go_simp
            with_reducible rfl
          rotate_left
          · simp only [Act.put, List.setIfInBounds_toArray, List.set_cons_zero, List.set_cons_succ, i64_w, i32_w]
            rfl
          refine pure_ (i := 5) (N := some 72) (v := ?_) (a' := ?_) #[true, true, true, true, false, true, false, false, false, false, false, false, false] rfl rfl (any_of HT_.out (by kernel_rfl)) (fun _ _ _ h => h) (Or.inl ⟨by rfl, ?_⟩) ?_ ?_
          rotate_left
          · intro w'
            go_simp
            with_reducible rfl
          rotate_left
          · simp only [Act.put, List.setIfInBounds_toArray, List.set_cons_zero, List.set_cons_succ, i64_w, i32_w]
            rfl
          refine pure_ (i := 6) (N := some 73) (v := ?_) (a' := ?_) #[true, true, true, true, false, true, true, false, false, false, false, false, false] rfl rfl (any_of HT_.out (by kernel_rfl)) (fun _ _ _ h => h) (Or.inl ⟨by rfl, ?_⟩) ?_ ?_
          rotate_left
          · intro w'
            go_simp
            with_reducible rfl
          rotate_left
          · simp only [Act.put, List.setIfInBounds_toArray, List.set_cons_zero, List.set_cons_succ, i64_w, i32_w]
            rfl
          refine pure_ (i := 7) (N := some 74) (v := ?_) (a' := ?_) #[true, true, true, true, false, true, true, true, false, false, false, false, false] rfl rfl (any_of HT_.out (by kernel_rfl)) (fun _ _ _ h => h) (Or.inl ⟨by rfl, ?_⟩) ?_ ?_
          rotate_left
          · intro w'
            go_simp
            with_reducible rfl
          rotate_left
          · simp only [Act.put, List.setIfInBounds_toArray, List.set_cons_zero, List.set_cons_succ, i64_w, i32_w]
            rfl
          refine take_ (i := 4) (N := some 71) (v := ?_) (a' := ?_) #[true, true, true, true, true, true, true, true, false, false, false, false, false] rfl rfl (take_ofW HT_.out HW_.out (by kernel_rfl)) (fun _ _ _ h => h) (Or.inl ⟨by rfl, ?_⟩) hHeld ?_ ?_
          rotate_left
          · rintro w' ⟨s0, s1⟩
            go_simp
            with_reducible rfl
          rotate_left
          · simp only [Act.put, List.setIfInBounds_toArray, List.set_cons_zero, List.set_cons_succ, i64_w, i32_w]
            rfl
          refine take_ (i := 8) (N := some 75) (v := ?_) (a' := ?_) #[true, true, true, true, true, true, true, true, true, false, false, false, false] rfl rfl (take_ofW HT_.out HW_.out (by kernel_rfl)) (fun _ _ _ h => h) (Or.inl ⟨by rfl, ?_⟩) hHeld ?_ ?_
          rotate_left
          · rintro w' ⟨s0, s1⟩
            go_simp
            with_reducible rfl
          rotate_left
          · simp only [Act.put, List.setIfInBounds_toArray, List.set_cons_zero, List.set_cons_succ, i64_w, i32_w]
            rfl
          refine pure_ (i := 9) (N := some 76) (v := ?_) (a' := ?_) #[true, true, true, true, true, true, true, true, true, true, false, false, false] rfl rfl (any_of HT_.out (by kernel_rfl)) (fun _ _ _ h => h) (Or.inl ⟨by rfl, ?_⟩) ?_ ?_
          rotate_left
          · intro w'
            go_simp
            with_reducible rfl
          rotate_left
          · simp only [Act.put, List.setIfInBounds_toArray, List.set_cons_zero, List.set_cons_succ, i64_w, i32_w]
            rfl
          refine one_ (i := 10) (N := some 77) #[true, true, true, true, true, true, true, true, true, true, true, false, false] rfl rfl (one_of HT_.out (by kernel_rfl)) (by decide) (fun K hK => ?_)
          refine value_ (w1 := ?_) (v := ?_) (by rfl) rfl ?_ ?_
          rotate_left 2
          · go_simp
            constructor
            · rfl
            · rfl
          refine hK.out _ _ ⟨pw_cell_below (below_alloc hB.out _) cw0, pw_cell_below (below_alloc hB.out _) cx0⟩ (fun hHeld => ?_)
          clear hK K
          refine norm_ (a' := ?_) ?_ ?_
          rotate_left
          · show Act.put _ (some 77) _ = _
            simp only [Act.put, List.setIfInBounds_toArray, List.set_cons_zero, List.set_cons_succ, i64_w, i32_w]
            rfl
          refine one_ (i := 11) (N := some 78) #[true, true, true, true, true, true, true, true, true, true, true, true, false] rfl rfl (one_of HT_.out (by kernel_rfl)) (by decide) (fun K hK => ?_)
          refine Kd.R_append_step (Kd.int .i64) (w0 := ws) ws.heap.size (by rfl) (.tmp 67) (.tmp 77) 43 3 (.int .i64 0) 8 rfl Try.underlying43 info3 rfl (by decide) (by omega) vo (sumL Vx V0 k) (wk + xk) [.int .i64 (wk + xk)] (fun _ => True) (fun _ => False) rfl rfl ?aP (fun _ hk => hk.elim) ?aF ?aO ?aB ?aS ?aL ?_
          (case aP => exact rfl)
          (case aB => exact hB.out)
          (case aF => exact (fun _ _ => trivial))
          (case aO => exact hO.out)
          (case aS => exact hB.out.size)
          (case aL => rw [hLo.out]; omega)
          intro vo1 wz ho hb hg hat
          have hO1 := Aside0.mk ho
          have hB1 := Aside0.mk hb
          clear ho hb hg hat
          refine hK.out _ _ ⟨pw_cell_below hB1.out cw0, pw_cell_below hB1.out cx0⟩ (fun hHeld => ?_)
          clear hK K
          refine norm_ (a' := ?_) ?_ ?_
          rotate_left
          · show Act.put _ (some 78) _ = _
            simp only [Act.put, List.setIfInBounds_toArray, List.set_cons_zero, List.set_cons_succ, i64_w, i32_w]
            rfl
          refine pure_ (i := 12) (N := some 12) (v := ?_) (a' := ?_) #[true, true, true, true, true, true, true, true, true, true, true, true, true] rfl rfl (any_of HT_.out (by kernel_rfl)) (fun _ _ _ h => h) (Or.inl ⟨by rfl, ?_⟩) ?_ ?_
          rotate_left
          · intro w'
            go_simp
            with_reducible rfl
          rotate_left
          · simp only [Act.put, List.setIfInBounds_toArray, List.set_cons_zero, List.set_cons_succ, i64_w, i32_w]
            rfl
          refine done_ (done_of HT_.out (by kernel_rfl)) ?_

          clear e1 i1
          go_wp2_with fail
          go_roundw
          case rel => exact ⟨k + 1, by omega, by go_num, ⟨by rw [← hsum.out]; exact hO1.out⟩, hB1⟩
          case measure => simp [intOf]; omega
        · obtain rfl : k = 16 := by omega
          have hB2 := Aside0.mk (below_then HB2.out HB2.out.size hB.out)
          have hcall := Aside0.mk (putsmall_own u12 (sumL Vx V0 16) wr ws.heap.size hO.out (by simp [sumL]))
          go_wp2_with (go_at_call 23; refine hcall.out.mono ?_; rintro e w9 ⟨rfl, hb9⟩)
          go_ret2
          refine ⟨?_, below_then hB2.out hB2.out.size hb9⟩
          rw [outs_are, HVx.out, HV0.out]
          rfl
def samphireref05_Block.f (a0 a1 : ByteArray) (a2 : Int) : Option (ByteArray × Int) := chacha_Block.f a0 a1 a2
set_option maxHeartbeats 8000000 in
set_option maxRecDepth 100000 in
theorem rb_no1 (a0 a1 : ByteArray) (a2 : Int) (w : World) (h : ¬ (a0.size : Int) = 32) :
    Calls Try.prog 14 #[.string a0, .string a1, .int .i64 a2] w fun e w' => e = .returned (.tuple #[.string ⟨#[]⟩, .int .i64 1]) ∧ Below w.heap.size w w' := by
  have b0 : ((a0.size : Int) == 32) = false := beq_eq_false_iff_ne.mpr h
  have b1 : ((a0.size : Int) != 32) = true := bne_iff_ne.mpr h
  clear h
  go_enter Try.func14, Try.ntmps14
  go_wp2
  go_ret2
  exact ⟨rfl, Below.refl _ _⟩
set_option maxHeartbeats 8000000 in
set_option maxRecDepth 100000 in
theorem rb_no2 (a0 a1 : ByteArray) (a2 : Int) (w : World) (h1 : (a0.size : Int) = 32) (h : ¬ (a1.size : Int) = 12) :
    Calls Try.prog 14 #[.string a0, .string a1, .int .i64 a2] w fun e w' => e = .returned (.tuple #[.string ⟨#[]⟩, .int .i64 1]) ∧ Below w.heap.size w w' := by
  have b0 : ((a0.size : Int) == 32) = true := beq_iff_eq.mpr h1
  have b1 : ((a0.size : Int) != 32) = false := bne_eq_false_iff_eq.mpr h1
  have b2 : ((a1.size : Int) == 12) = false := beq_eq_false_iff_ne.mpr h
  have b3 : ((a1.size : Int) != 12) = true := bne_iff_ne.mpr h
  clear h h1
  go_enter Try.func14, Try.ntmps14
  go_wp2
  go_ret2
  exact ⟨rfl, Below.refl _ _⟩
set_option maxHeartbeats 8000000 in
set_option maxRecDepth 100000 in
theorem rb_no3 (a0 a1 : ByteArray) (a2 : Int) (w : World) (h1 : (a0.size : Int) = 32) (h2 : (a1.size : Int) = 12) (h : a2 < 0) :
    Calls Try.prog 14 #[.string a0, .string a1, .int .i64 a2] w fun e w' => e = .returned (.tuple #[.string ⟨#[]⟩, .int .i64 1]) ∧ Below w.heap.size w w' := by
  have b0 : ((a0.size : Int) == 32) = true := beq_iff_eq.mpr h1
  have b1 : ((a0.size : Int) != 32) = false := bne_eq_false_iff_eq.mpr h1
  have b2 : ((a1.size : Int) == 12) = true := beq_iff_eq.mpr h2
  have b3 : ((a1.size : Int) != 12) = false := bne_eq_false_iff_eq.mpr h2
  clear h1 h2
  go_enter Try.func14, Try.ntmps14
  go_wp2
  go_ret2
  exact ⟨rfl, Below.refl _ _⟩
set_option maxHeartbeats 8000000 in
set_option maxRecDepth 100000 in
theorem rb_no4 (a0 a1 : ByteArray) (a2 : Int) (w : World) (h1 : (a0.size : Int) = 32) (h2 : (a1.size : Int) = 12) (h0 : 0 ≤ a2) (h : 4294967295 < a2) :
    Calls Try.prog 14 #[.string a0, .string a1, .int .i64 a2] w fun e w' => e = .returned (.tuple #[.string ⟨#[]⟩, .int .i64 1]) ∧ Below w.heap.size w w' := by
  have b0 : ((a0.size : Int) == 32) = true := beq_iff_eq.mpr h1
  have b1 : ((a0.size : Int) != 32) = false := bne_eq_false_iff_eq.mpr h1
  have b2 : ((a1.size : Int) == 12) = true := beq_iff_eq.mpr h2
  have b3 : ((a1.size : Int) != 12) = false := bne_eq_false_iff_eq.mpr h2
  clear h1 h2
  go_enter Try.func14, Try.ntmps14
  go_wp2
  go_ret2
  exact ⟨rfl, Below.refl _ _⟩
theorem samphireref05_Block.calls (a0 a1 : ByteArray) (a2 : Int) (r1 : ByteArray) (r2 : Int) (w : World) (h : samphireref05_Block.f a0 a1 a2 = some (r1, r2)) :
    Calls Try.prog 14 #[.string a0, .string a1, .int .i64 a2] w fun e w' => e = .returned (.tuple #[.string r1, .int .i64 r2]) ∧ Below w.heap.size w w' := by
  unfold samphireref05_Block.f chacha_Block.f at h
  by_cases hm : maY a0 a1 a2
  · rw [if_pos hm] at h
    simp only [Option.some.injEq, Prod.mk.injEq] at h
    obtain ⟨rfl, rfl⟩ := h
    obtain ⟨h1, h2, h3, h4⟩ := hm
    refine rblock14 a0 a1 a2 w (by omega) (by omega) h3 (by omega) ⟨⟨2, putsmall_is [a2] 2 (by simp) (by simp)⟩⟩ ⟨⟨17, ?_⟩⟩ ⟨first_length _ _ _ _⟩
    rw [small_words _ 16 17 (by rw [allS_size _ _ _ h1 h2]) (by rw [allS_size _ _ _ h1 h2]; decide) (by decide), words_are _ _ _ h1 h2]
  · rw [if_neg hm] at h
    simp only [Option.some.injEq, Prod.mk.injEq] at h
    obtain ⟨rfl, rfl⟩ := h
    by_cases h1 : (a0.size : Int) = 32
    · by_cases h2 : (a1.size : Int) = 12
      · by_cases h3 : a2 < 0
        · exact rb_no3 a0 a1 a2 w h1 h2 h3
        · by_cases h4 : 4294967295 < a2
          · exact rb_no4 a0 a1 a2 w h1 h2 (by omega) h4
          · exact absurd ⟨by omega, by omega, by omega, by omega⟩ hm
      · exact rb_no2 a0 a1 a2 w h1 h2
    · exact rb_no1 a0 a1 a2 w h1
end Go.Proofs.Ytlipgfahjmgekaa.S
