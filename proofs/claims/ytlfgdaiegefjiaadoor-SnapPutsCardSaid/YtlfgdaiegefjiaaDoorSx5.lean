/- Functions of the translation as plain Lean functions, and that each call comes to what they say: for every argument. Written by a program of this session's own; Lean checks it. -/
import Derived.Test.YtlfgdaiegefjiaaDoorQc
import Derived.Test.YtlfgdaiegefjiaaDoorQd
import Derived.Test.YtlfgdaiegefjiaaDoorSA
import Derived.Test.YtlfgdaiegefjiaaDoorQa
import Derived.Test.YtlfgdaiegefjiaaDoorSx4
namespace Go.Proofs.YtlfgdaiegefjiaaDoor.S
open Go.RowKit Go.Proofs.YtlfgdaiegefjiaaDoorW.PrintWords Go.Proofs.YtlfgdaiegefjiaaDoorW.PrintLast
set_option linter.unusedVariables false
set_option linter.unusedSimpArgs false
attribute [local go_sem high] eqA25 eqA72
/-! ### code_In_number: function 78 -/
def code_In_number.l0 : Nat → ByteArray → Bool → Int → Int → Int → Bool → ByteArray → Int → Option (Int × Bool × Bool × ByteArray × Int)
 | 0, _, _, _, _, _, _, _, _ => none
 | k + 1, x6, x7, x8, x17, x18, x1000, x1001, x1002 => if x18 < x17 then (if 0 ≤ x18 then (if x18 < (x6.size : Int) then (code_In_number.l0 k x6 x7 (Go.bits .or .i64 (wrap64 (x8 * 256)) (wrap64 (bt x6 x18))) x17 (wrap64 (x18 + 1)) x1000 x1001 x1002) else (none)) else (none)) else (some (x8, x7, x1000, x1001, x1002))
def code_In_number.f (k : Nat) (s0_0 : Bool) (s0_1 : ByteArray) (s0_2 : Int) (a1 : Int) : Option (Int × Bool × Bool × ByteArray × Int) := (code_In_take.f k s0_0 s0_1 s0_2 a1).bind fun bt134 => (code_In_number.l0 k bt134.1 bt134.2.1 0 (bt134.1.size : Int) 0 bt134.2.2.1 bt134.2.2.2.1 bt134.2.2.2.2)
set_option maxHeartbeats 8000000 in
set_option maxRecDepth 100000 in
theorem code_In_number.calls (k : Nat) (g : Nat) (s0_0 : Bool) (s0_1 : ByteArray) (s0_2 : Int) (a1 : Int) (r1 : Int) (r2 : Bool) (r3 : Bool) (r4 : ByteArray) (r5 : Int) (w0 w : World) (hI : IsS107 w0 w g s0_0 s0_1 s0_2) (hB : Below w0.heap.size w0 w) (h : code_In_number.f k s0_0 s0_1 s0_2 a1 = some (r1, r2, r3, r4, r5)) :
 Calls Tryd.prog 78 #[.pointer (some ⟨g, 0, none⟩), .int .i64 a1] w fun e w' => e = .returned (.tuple #[.int .i64 r1, .bool r2]) ∧ IsS107 w0 w' g r3 r4 r5 ∧ Below w0.heap.size w0 w' ∧ KeepBut w w' g none := by
 have HI0 := Aside0.mk hI
 have HK := Aside0.mk (KeepBut.refl w g none)
 have HL := Aside0.mk hB.size
 clear hI
 have HW0 := Aside0.mk hB.size
 have HB := Aside0.mk hB
 clear hB
 have H : ((code_In_take.f k s0_0 s0_1 s0_2 a1).bind fun bt134 => (code_In_number.l0 k bt134.1 bt134.2.1 0 (bt134.1.size : Int) 0 bt134.2.2.1 bt134.2.2.2.1 bt134.2.2.2.2)) = some (r1, r2, r3, r4, r5) := h
 clear h
 replace H := Option.bind_eq_some_iff.mp H
 obtain ⟨⟨t134, t135, t136, t137, t138⟩, A30, H⟩ := H
 replace H : (code_In_number.l0 k t134 t135 0 (t134.size : Int) 0 t136 t137 t138) = some (r1, r2, r3, r4, r5) := H
 have A3 := Aside0.mk A30
 clear A30
 have H' := Aside0.mk H
 clear H
 go_enter Tryd.func78, Tryd.ntmps78
 go_wp2_with (first | ((with_reducible refine gate_callee (f := 80) rfl ?_); refine gL 13 Tryd.func80 #[.pointer (some ⟨g, 0, none⟩), .int .i64 a1] ?_; (with_reducible refine (code_In_take.calls k g s0_0 s0_1 s0_2 a1 t134 t135 t136 t137 t138 w0 _ ?side1 ?side2 A3.out).mono ?_); (case side1 => exact i1); (case side2 => exact i2); rintro e w4 ⟨rfl, hi, hb, hk⟩; refine ⟨_, rfl, ?_⟩; replace HK := Aside0.mk (KeepBut.trans i3 hk (.inl rfl)); replace HB := Aside0.mk hb; replace HI0 := Aside0.mk hi; (try clear hb); (try clear hb2); (try clear hk); (try clear hi)))
 go_loopg [8, 18] k (fun kq v8 v18 w' => ∃ (x8_1 : Int) (x18_1 : Int), v8 = .int .i64 x8_1 ∧ v18 = .int .i64 x18_1 ∧ Aside0 (code_In_number.l0 kq t134 t135 x8_1 (t134.size : Int) x18_1 t136 t137 t138 = some (r1, r2, r3, r4, r5)) ∧ Aside0 (kq ≤ k) ∧ Aside0 (IsS107 w0 w' g t136 t137 t138) ∧ Aside0 (KeepBut w w' g none) ∧ Aside0 (Below w0.heap.size w0 w'))
 case atStart => exact ⟨(0), (0), (by first | rfl | (simp; done) | (simp [*]; done)), (by first | rfl | (simp; done) | (simp [*]; done)), H', ⟨Nat.le_refl _⟩, ⟨i1⟩, ⟨i3⟩, ⟨Qh⟩⟩
 case round =>
  clear H'
  try clear p2
  obtain ⟨x8_1, x18_1, rfl, rfl, HA, HK1, HI0, HK, HB⟩ := hrel
  cases gk with
  | zero => exact absurd HA.out (by simp [code_In_number.l0])
  | succ k1 =>
   have H := HA.out
   clear HA
   simp only [code_In_number.l0] at H
   by_cases c5 : x18_1 < (t134.size : Int)
   · rw [if_pos c5] at H
     have c5b0 : decide (x18_1 < (t134.size : Int)) = true := decide_eq_true c5
     clear c5
     by_cases c6 : 0 ≤ x18_1
     · rw [if_pos c6] at H
       have c6b0 : decide (0 ≤ x18_1) = true := decide_eq_true c6
       clear c6
       by_cases c7 : x18_1 < (t134.size : Int)
       · rw [if_pos c7] at H
         have c7b0 : decide (x18_1 < (t134.size : Int)) = true := decide_eq_true c7
         clear c7
         have H' := Aside0.mk H
         clear H
         have p8 : 0 ≤ (x18_1 : Int) := of_decide_eq_true (by first | (with_reducible assumption) | assumption)
         have q8 : x18_1 < (t134.size : Int) := of_decide_eq_true (by first | (with_reducible assumption) | assumption)
         have hx8 := bt_at t134 x18_1
         replace p8 := eq_true p8
         replace q8 := eq_true q8
         go_wp2
         go_roundg k1
         case measure => have := HK1.out; omega
         case rel => exact ⟨(Go.bits .or .i64 (wrap64 (x8_1 * 256)) (wrap64 (bt t134 x18_1))), (wrap64 (x18_1 + 1)), (by first | rfl | (simp; done) | (simp [*]; done)), (by first | rfl | (simp; done) | (simp [*]; done)), H', ⟨by have := HK1.out; omega⟩, ⟨i1⟩, ⟨i3⟩, ⟨Qh⟩⟩
       · rw [if_neg c7] at H
         exact absurd H (by simp)
     · rw [if_neg c6] at H
       exact absurd H (by simp)
   · rw [if_neg c5] at H
     have c5b0 : decide (x18_1 < (t134.size : Int)) = false := decide_eq_false c5
     clear c5
     simp only [Option.some.injEq, Prod.mk.injEq] at H
     obtain ⟨rfl, rfl, rfl, rfl, rfl⟩ := H
     go_wp2
     go_ret2
     exact ⟨Qe, i1, i2, i3⟩
/-! ### code_In_Num: function 77 -/
def code_In_Num.f (k : Nat) (s0_0 : Bool) (s0_1 : ByteArray) (s0_2 : Int) : Option (Int × Bool × ByteArray × Int) := (code_In_number.f k s0_0 s0_1 s0_2 6).bind fun bt139 => (if bt139.2.1 = true then ((code_time.f bt139.1).bind fun t144 => (if t144 = true then (some (bt139.1, bt139.2.2.1, bt139.2.2.2.1, bt139.2.2.2.2)) else ((code_In_wrong.f bt139.2.2.1 bt139.2.2.2.1 bt139.2.2.2.2 91).bind fun bt145 => (some (0, bt145.1, bt145.2.1, bt145.2.2))))) else (some (bt139.1, bt139.2.2.1, bt139.2.2.2.1, bt139.2.2.2.2)))
set_option maxHeartbeats 8000000 in
set_option maxRecDepth 100000 in
theorem code_In_Num.calls (k : Nat) (g : Nat) (s0_0 : Bool) (s0_1 : ByteArray) (s0_2 : Int) (r1 : Int) (r2 : Bool) (r3 : ByteArray) (r4 : Int) (w0 w : World) (hI : IsS107 w0 w g s0_0 s0_1 s0_2) (hB : Below w0.heap.size w0 w) (h : code_In_Num.f k s0_0 s0_1 s0_2 = some (r1, r2, r3, r4)) :
 Calls Tryd.prog 77 #[.pointer (some ⟨g, 0, none⟩)] w fun e w' => e = .returned (.int .i64 r1) ∧ IsS107 w0 w' g r2 r3 r4 ∧ Below w0.heap.size w0 w' ∧ KeepBut w w' g none := by
 have HI0 := Aside0.mk hI
 have HK := Aside0.mk (KeepBut.refl w g none)
 have HL := Aside0.mk hB.size
 clear hI
 have HW0 := Aside0.mk hB.size
 have HB := Aside0.mk hB
 clear hB
 have H : ((code_In_number.f k s0_0 s0_1 s0_2 6).bind fun bt139 => (if bt139.2.1 = true then ((code_time.f bt139.1).bind fun t144 => (if t144 = true then (some (bt139.1, bt139.2.2.1, bt139.2.2.2.1, bt139.2.2.2.2)) else ((code_In_wrong.f bt139.2.2.1 bt139.2.2.2.1 bt139.2.2.2.2 91).bind fun bt145 => (some (0, bt145.1, bt145.2.1, bt145.2.2))))) else (some (bt139.1, bt139.2.2.1, bt139.2.2.2.1, bt139.2.2.2.2)))) = some (r1, r2, r3, r4) := h
 clear h
 replace H := Option.bind_eq_some_iff.mp H
 obtain ⟨⟨t139, t140, t141, t142, t143⟩, A20, H⟩ := H
 replace H : (if t140 = true then ((code_time.f t139).bind fun t144 => (if t144 = true then (some (t139, t141, t142, t143)) else ((code_In_wrong.f t141 t142 t143 91).bind fun bt145 => (some (0, bt145.1, bt145.2.1, bt145.2.2))))) else (some (t139, t141, t142, t143))) = some (r1, r2, r3, r4) := H
 have A2 := Aside0.mk A20
 clear A20
 by_cases c3 : t140 = true
 · subst c3
   have H1 : ((code_time.f t139).bind fun t144 => (if t144 = true then (some (t139, t141, t142, t143)) else ((code_In_wrong.f t141 t142 t143 91).bind fun bt145 => (some (0, bt145.1, bt145.2.1, bt145.2.2))))) = some (r1, r2, r3, r4) := by rw [if_pos rfl] at H; exact H
   clear H
   have H := H1
   clear H1
   replace H := Option.bind_eq_some_iff.mp H
   obtain ⟨t144, A40, H⟩ := H
   replace H : (if t144 = true then (some (t139, t141, t142, t143)) else ((code_In_wrong.f t141 t142 t143 91).bind fun bt145 => (some (0, bt145.1, bt145.2.1, bt145.2.2)))) = some (r1, r2, r3, r4) := H
   have A4 := Aside0.mk A40
   clear A40
   by_cases c5 : t144 = true
   · subst c5
     have H1 : (some (t139, t141, t142, t143)) = some (r1, r2, r3, r4) := by rw [if_pos rfl] at H; exact H
     clear H
     have H := H1
     clear H1
     simp only [Option.some.injEq, Prod.mk.injEq] at H
     obtain ⟨rfl, rfl, rfl, rfl⟩ := H
     go_enter Tryd.func77, Tryd.ntmps77
     go_wp2_with (first | ((with_reducible refine gate_callee (f := 78) rfl ?_); refine gL 7 Tryd.func78 #[.pointer (some ⟨g, 0, none⟩), .int .i64 6] ?_; (with_reducible refine (code_In_number.calls k g s0_0 s0_1 s0_2 6 t139 true t141 t142 t143 w0 _ ?side1 ?side2 A2.out).mono ?_); (case side1 => exact i1); (case side2 => exact i2); rintro e w6 ⟨rfl, hi, hb, hk⟩; refine ⟨_, rfl, ?_⟩; replace HK := Aside0.mk (KeepBut.trans i3 hk (.inl rfl)); replace HB := Aside0.mk hb; replace HI0 := Aside0.mk hi; (try clear hb); (try clear hb2); (try clear hk); (try clear hi)) | (go_at_call 71; (with_reducible refine (code_time.calls t139 true _ A4.out).mono ?_); rintro e w' ⟨rfl, ⟨nd, rfl⟩⟩))
     go_ret
     exact ⟨Qe, i1, i2, i3⟩
   · replace c5 := Bool.eq_false_iff.mpr c5
     subst c5
     have H1 : ((code_In_wrong.f t141 t142 t143 91).bind fun bt145 => (some (0, bt145.1, bt145.2.1, bt145.2.2))) = some (r1, r2, r3, r4) := by rw [if_neg (show ¬ (false = true) by decide)] at H; exact H
     clear H
     have H := H1
     clear H1
     replace H := Option.bind_eq_some_iff.mp H
     obtain ⟨⟨t145, t146, t147⟩, A70, H⟩ := H
     replace H : (some (0, t145, t146, t147)) = some (r1, r2, r3, r4) := H
     have A7 := Aside0.mk A70
     clear A70
     simp only [Option.some.injEq, Prod.mk.injEq] at H
     obtain ⟨rfl, rfl, rfl, rfl⟩ := H
     go_enter Tryd.func77, Tryd.ntmps77
     go_wp2_with (first | ((with_reducible refine gate_callee (f := 78) rfl ?_); refine gL 7 Tryd.func78 #[.pointer (some ⟨g, 0, none⟩), .int .i64 6] ?_; (with_reducible refine (code_In_number.calls k g s0_0 s0_1 s0_2 6 t139 true t141 t142 t143 w0 _ ?side1 ?side2 A2.out).mono ?_); (case side1 => exact i1); (case side2 => exact i2); rintro e w8 ⟨rfl, hi, hb, hk⟩; refine ⟨_, rfl, ?_⟩; replace HK := Aside0.mk (KeepBut.trans i3 hk (.inl rfl)); replace HB := Aside0.mk hb; replace HI0 := Aside0.mk hi; (try clear hb); (try clear hb2); (try clear hk); (try clear hi)) | (go_at_call 71; (with_reducible refine (code_time.calls t139 false _ A4.out).mono ?_); rintro e w' ⟨rfl, ⟨nd, rfl⟩⟩) | ((with_reducible refine gate_callee (f := 79) rfl ?_); refine gL 17 Tryd.func79 #[.pointer (some ⟨g, 0, none⟩), .int .i64 91] ?_; (with_reducible refine (code_In_wrong.calls g t141 t142 t143 91 t145 t146 t147 w0 _ ?side1 ?side2 A7.out).mono ?_); (case side1 => exact i1); (case side2 => exact i2); rintro e w9 ⟨rfl, hi, hb, hk⟩; refine ⟨_, rfl, ?_⟩; replace HK := Aside0.mk (KeepBut.trans i3 hk (.inl rfl)); replace HB := Aside0.mk hb; replace HI0 := Aside0.mk hi; (try clear hb); (try clear hb2); (try clear hk); (try clear hi)))
     go_ret
     exact ⟨Qe, i1, i2, i3⟩
 · replace c3 := Bool.eq_false_iff.mpr c3
   subst c3
   have H1 : (some (t139, t141, t142, t143)) = some (r1, r2, r3, r4) := by rw [if_neg (show ¬ (false = true) by decide)] at H; exact H
   clear H
   have H := H1
   clear H1
   simp only [Option.some.injEq, Prod.mk.injEq] at H
   obtain ⟨rfl, rfl, rfl, rfl⟩ := H
   go_enter Tryd.func77, Tryd.ntmps77
   go_wp2_with (first | ((with_reducible refine gate_callee (f := 78) rfl ?_); refine gL 7 Tryd.func78 #[.pointer (some ⟨g, 0, none⟩), .int .i64 6] ?_; (with_reducible refine (code_In_number.calls k g s0_0 s0_1 s0_2 6 t139 false t141 t142 t143 w0 _ ?side1 ?side2 A2.out).mono ?_); (case side1 => exact i1); (case side2 => exact i2); rintro e w10 ⟨rfl, hi, hb, hk⟩; refine ⟨_, rfl, ?_⟩; replace HK := Aside0.mk (KeepBut.trans i3 hk (.inl rfl)); replace HB := Aside0.mk hb; replace HI0 := Aside0.mk hi; (try clear hb); (try clear hb2); (try clear hk); (try clear hi)))
   go_ret
   exact ⟨Qe, i1, i2, i3⟩
/-! ### code_In_Stamp: function 45 -/
def code_In_Stamp.f (k : Nat) (s0_0 : Bool) (s0_1 : ByteArray) (s0_2 : Int) : Option (Int × Int × Bool × ByteArray × Int) := (code_In_Num.f k s0_0 s0_1 s0_2).bind fun bt149 => ((code_In_number.f k bt149.2.1 bt149.2.2.1 bt149.2.2.2 1).bind fun bt153 => (if bt153.2.1 = true then (some (bt149.1, bt153.1, bt153.2.2.1, bt153.2.2.2.1, bt153.2.2.2.2)) else (some (0, 0, bt153.2.2.1, bt153.2.2.2.1, bt153.2.2.2.2))))
set_option maxHeartbeats 8000000 in
set_option maxRecDepth 100000 in
theorem code_In_Stamp.calls (k : Nat) (g : Nat) (s0_0 : Bool) (s0_1 : ByteArray) (s0_2 : Int) (r1 : Int) (r2 : Int) (r3 : Bool) (r4 : ByteArray) (r5 : Int) (w0 w : World) (hI : IsS107 w0 w g s0_0 s0_1 s0_2) (hB : Below w0.heap.size w0 w) (h : code_In_Stamp.f k s0_0 s0_1 s0_2 = some (r1, r2, r3, r4, r5)) :
 Calls Tryd.prog 45 #[.pointer (some ⟨g, 0, none⟩)] w fun e w' => e = .returned (.agg #[.int .i64 r1, .int .i64 r2]) ∧ IsS107 w0 w' g r3 r4 r5 ∧ Below w0.heap.size w0 w' ∧ KeepBut w w' g none := by
 have hu23 := Tryd.underlying23
 have HI0 := Aside0.mk hI
 have HK := Aside0.mk (KeepBut.refl w g none)
 have HL := Aside0.mk hB.size
 clear hI
 have HW0 := Aside0.mk hB.size
 have HB := Aside0.mk hB
 clear hB
 have H : ((code_In_Num.f k s0_0 s0_1 s0_2).bind fun bt149 => ((code_In_number.f k bt149.2.1 bt149.2.2.1 bt149.2.2.2 1).bind fun bt153 => (if bt153.2.1 = true then (some (bt149.1, bt153.1, bt153.2.2.1, bt153.2.2.2.1, bt153.2.2.2.2)) else (some (0, 0, bt153.2.2.1, bt153.2.2.2.1, bt153.2.2.2.2))))) = some (r1, r2, r3, r4, r5) := h
 clear h
 replace H := Option.bind_eq_some_iff.mp H
 obtain ⟨⟨t149, t150, t151, t152⟩, A20, H⟩ := H
 replace H : ((code_In_number.f k t150 t151 t152 1).bind fun bt153 => (if bt153.2.1 = true then (some (t149, bt153.1, bt153.2.2.1, bt153.2.2.2.1, bt153.2.2.2.2)) else (some (0, 0, bt153.2.2.1, bt153.2.2.2.1, bt153.2.2.2.2)))) = some (r1, r2, r3, r4, r5) := H
 have A2 := Aside0.mk A20
 clear A20
 replace H := Option.bind_eq_some_iff.mp H
 obtain ⟨⟨t153, t154, t155, t156, t157⟩, A30, H⟩ := H
 replace H : (if t154 = true then (some (t149, t153, t155, t156, t157)) else (some (0, 0, t155, t156, t157))) = some (r1, r2, r3, r4, r5) := H
 have A3 := Aside0.mk A30
 clear A30
 by_cases c4 : t154 = true
 · subst c4
   have H1 : (some (t149, t153, t155, t156, t157)) = some (r1, r2, r3, r4, r5) := by rw [if_pos rfl] at H; exact H
   clear H
   have H := H1
   clear H1
   simp only [Option.some.injEq, Prod.mk.injEq] at H
   obtain ⟨rfl, rfl, rfl, rfl, rfl⟩ := H
   go_enter Tryd.func45, Tryd.ntmps45
   go_wp2_with (first | ((with_reducible refine gate_dst (N := 2) rfl ?_); refine boxQ (N := 2) (cs := #[.int .i64 0, .int .i64 0]) (t := 23) ?_; intro gb148 hg w5 hbox hb; have BK148 := Aside0.mk hbox; have GW148 := Aside0.mk ((by rw [hg]; exact (keep_size (w := w) (g := g) (row := none) i3) : w.heap.size ≤ gb148)); have GE148 := Aside0.mk ((Nat.le_trans HW0.out (by rw [hg]; exact (keep_size (w := w) (g := g) (row := none) i3) : w.heap.size ≤ gb148) : w0.heap.size ≤ gb148)); have NB0_148 := Aside0.mk ((by rw [hg]; exact Nat.ne_of_lt (IsS107.lt (show IsS107 w0 _ g s0_0 s0_1 s0_2 from i1)) : g ≠ gb148)); have NB148_0 := Aside0.mk ((by rw [hg]; exact Nat.ne_of_gt (IsS107.lt (show IsS107 w0 _ g s0_0 s0_1 s0_2 from i1)) : gb148 ≠ g)); replace HI0 := Aside0.mk (IsS107.below i1 hb); replace HK := Aside0.mk (KeepBut.trans i3 (KeepBut.of_below hb g none) (.inl rfl)); replace HB := Qy hb; clear hb hbox hg) | ((with_reducible refine gate_callee (f := 77) rfl ?_); refine gL 7 Tryd.func77 #[.pointer (some ⟨g, 0, none⟩)] ?_; (with_reducible refine (code_In_Num.calls k g s0_0 s0_1 s0_2 t149 t150 t151 t152 w0 _ ?side1 ?side2 A2.out).mono ?_); (case side1 => exact i1); (case side2 => exact i2); rintro e w6 ⟨rfl, hi, hb, hk⟩; refine ⟨_, rfl, ?_⟩; replace BK148 := Aside0.mk (KeepBut.blk hk (g' := gb148) (o := .cells #[.int .i64 0, .int .i64 0] 23 (0, 0)) Qk NB148_0.out (by simp)); replace HK := Aside0.mk (KeepBut.trans i3 hk (.inl rfl)); replace HB := Aside0.mk hb; replace HI0 := Aside0.mk hi; (try clear hb); (try clear hb2); (try clear hk); (try clear hi)) | ((with_reducible refine gate_callee (f := 78) rfl ?_); refine gL 10 Tryd.func78 #[.pointer (some ⟨g, 0, none⟩), .int .i64 1] ?_; (with_reducible refine (code_In_number.calls k g t150 t151 t152 1 t153 true t155 t156 t157 w0 _ ?side1 ?side2 A3.out).mono ?_); (case side1 => exact i1); (case side2 => exact i2); rintro e w7 ⟨rfl, hi, hb, hk⟩; refine ⟨_, rfl, ?_⟩; replace BK148 := Aside0.mk (KeepBut.blk hk (g' := gb148) (o := .cells #[.int .i64 0, .int .i64 0] 23 (0, 0)) Qk NB148_0.out (by simp)); replace HK := Aside0.mk (KeepBut.trans i3 hk (.inl rfl)); replace HB := Aside0.mk hb; replace HI0 := Aside0.mk hi; (try clear hb); (try clear hb2); (try clear hk); (try clear hi); have hnb8 := NB148_0.out; have hnc8 := NB0_148.out; obtain ⟨y9_0, y9_1, v9_0, v9_1⟩ := Z2 BK148.out))
   refine bodyPost_ret (results_cell_row rfl _ _ gb148 23 #[.int .i64 t149, .int .i64 t153] (0, 0) _ rfl Qk Tryd.underlying23 rfl (by kernel_rfl)) rfl ?_
   exact ⟨Qe, i1, i2, i3⟩
 · replace c4 := Bool.eq_false_iff.mpr c4
   subst c4
   have H1 : (some (0, 0, t155, t156, t157)) = some (r1, r2, r3, r4, r5) := by rw [if_neg (show ¬ (false = true) by decide)] at H; exact H
   clear H
   have H := H1
   clear H1
   simp only [Option.some.injEq, Prod.mk.injEq] at H
   obtain ⟨rfl, rfl, rfl, rfl, rfl⟩ := H
   go_enter Tryd.func45, Tryd.ntmps45
   go_wp2_with (first | ((with_reducible refine gate_dst (N := 2) rfl ?_); refine boxQ (N := 2) (cs := #[.int .i64 0, .int .i64 0]) (t := 23) ?_; intro gb148 hg w10 hbox hb; have BK148 := Aside0.mk hbox; have GW148 := Aside0.mk ((by rw [hg]; exact (keep_size (w := w) (g := g) (row := none) i3) : w.heap.size ≤ gb148)); have GE148 := Aside0.mk ((Nat.le_trans HW0.out (by rw [hg]; exact (keep_size (w := w) (g := g) (row := none) i3) : w.heap.size ≤ gb148) : w0.heap.size ≤ gb148)); have NB0_148 := Aside0.mk ((by rw [hg]; exact Nat.ne_of_lt (IsS107.lt (show IsS107 w0 _ g s0_0 s0_1 s0_2 from i1)) : g ≠ gb148)); have NB148_0 := Aside0.mk ((by rw [hg]; exact Nat.ne_of_gt (IsS107.lt (show IsS107 w0 _ g s0_0 s0_1 s0_2 from i1)) : gb148 ≠ g)); replace HI0 := Aside0.mk (IsS107.below i1 hb); replace HK := Aside0.mk (KeepBut.trans i3 (KeepBut.of_below hb g none) (.inl rfl)); replace HB := Qy hb; clear hb hbox hg) | ((with_reducible refine gate_callee (f := 77) rfl ?_); refine gL 7 Tryd.func77 #[.pointer (some ⟨g, 0, none⟩)] ?_; (with_reducible refine (code_In_Num.calls k g s0_0 s0_1 s0_2 t149 t150 t151 t152 w0 _ ?side1 ?side2 A2.out).mono ?_); (case side1 => exact i1); (case side2 => exact i2); rintro e w11 ⟨rfl, hi, hb, hk⟩; refine ⟨_, rfl, ?_⟩; replace BK148 := Aside0.mk (KeepBut.blk hk (g' := gb148) (o := .cells #[.int .i64 0, .int .i64 0] 23 (0, 0)) Qk NB148_0.out (by simp)); replace HK := Aside0.mk (KeepBut.trans i3 hk (.inl rfl)); replace HB := Aside0.mk hb; replace HI0 := Aside0.mk hi; (try clear hb); (try clear hb2); (try clear hk); (try clear hi)) | ((with_reducible refine gate_callee (f := 78) rfl ?_); refine gL 10 Tryd.func78 #[.pointer (some ⟨g, 0, none⟩), .int .i64 1] ?_; (with_reducible refine (code_In_number.calls k g t150 t151 t152 1 t153 false t155 t156 t157 w0 _ ?side1 ?side2 A3.out).mono ?_); (case side1 => exact i1); (case side2 => exact i2); rintro e w12 ⟨rfl, hi, hb, hk⟩; refine ⟨_, rfl, ?_⟩; replace BK148 := Aside0.mk (KeepBut.blk hk (g' := gb148) (o := .cells #[.int .i64 0, .int .i64 0] 23 (0, 0)) Qk NB148_0.out (by simp)); replace HK := Aside0.mk (KeepBut.trans i3 hk (.inl rfl)); replace HB := Aside0.mk hb; replace HI0 := Aside0.mk hi; (try clear hb); (try clear hb2); (try clear hk); (try clear hi); have hnb13 := NB148_0.out; have hnc13 := NB0_148.out; obtain ⟨y14_0, y14_1, v14_0, v14_1⟩ := Z2 BK148.out))
   refine bodyPost_ret (results_cell_row rfl _ _ gb148 23 #[.int .i64 0, .int .i64 0] (0, 0) _ rfl Qk Tryd.underlying23 rfl (by kernel_rfl)) rfl ?_
   exact ⟨Qe, i1, i2, i3⟩
/-! ### code_In_Text: function 48 -/
def code_In_Text.f (k : Nat) (s0_0 : Bool) (s0_1 : ByteArray) (s0_2 : Int) (a1 : Int) : Option (ByteArray × Bool × ByteArray × Int) := (code_In_number.f k s0_0 s0_1 s0_2 2).bind fun bt158 => (if bt158.2.1 = true then (if bt158.1 > a1 then ((code_In_wrong.f bt158.2.2.1 bt158.2.2.2.1 bt158.2.2.2.2 91).bind fun bt163 => (some ((⟨#[]⟩ : ByteArray), bt163.1, bt163.2.1, bt163.2.2))) else ((code_In_take.f k bt158.2.2.1 bt158.2.2.2.1 bt158.2.2.2.2 bt158.1).bind fun bt166 => (some (bt166.1, bt166.2.2.1, bt166.2.2.2.1, bt166.2.2.2.2)))) else (some ((⟨#[]⟩ : ByteArray), bt158.2.2.1, bt158.2.2.2.1, bt158.2.2.2.2)))
set_option maxHeartbeats 8000000 in
set_option maxRecDepth 100000 in
theorem code_In_Text.calls (k : Nat) (g : Nat) (s0_0 : Bool) (s0_1 : ByteArray) (s0_2 : Int) (a1 : Int) (r1 : ByteArray) (r2 : Bool) (r3 : ByteArray) (r4 : Int) (w0 w : World) (hI : IsS107 w0 w g s0_0 s0_1 s0_2) (hB : Below w0.heap.size w0 w) (h : code_In_Text.f k s0_0 s0_1 s0_2 a1 = some (r1, r2, r3, r4)) :
 Calls Tryd.prog 48 #[.pointer (some ⟨g, 0, none⟩), .int .i64 a1] w fun e w' => e = .returned (.string r1) ∧ IsS107 w0 w' g r2 r3 r4 ∧ Below w0.heap.size w0 w' ∧ KeepBut w w' g none := by
 have HI0 := Aside0.mk hI
 have HK := Aside0.mk (KeepBut.refl w g none)
 have HL := Aside0.mk hB.size
 clear hI
 have HW0 := Aside0.mk hB.size
 have HB := Aside0.mk hB
 clear hB
 have H : ((code_In_number.f k s0_0 s0_1 s0_2 2).bind fun bt158 => (if bt158.2.1 = true then (if bt158.1 > a1 then ((code_In_wrong.f bt158.2.2.1 bt158.2.2.2.1 bt158.2.2.2.2 91).bind fun bt163 => (some ((⟨#[]⟩ : ByteArray), bt163.1, bt163.2.1, bt163.2.2))) else ((code_In_take.f k bt158.2.2.1 bt158.2.2.2.1 bt158.2.2.2.2 bt158.1).bind fun bt166 => (some (bt166.1, bt166.2.2.1, bt166.2.2.2.1, bt166.2.2.2.2)))) else (some ((⟨#[]⟩ : ByteArray), bt158.2.2.1, bt158.2.2.2.1, bt158.2.2.2.2)))) = some (r1, r2, r3, r4) := h
 clear h
 replace H := Option.bind_eq_some_iff.mp H
 obtain ⟨⟨t158, t159, t160, t161, t162⟩, A30, H⟩ := H
 replace H : (if t159 = true then (if t158 > a1 then ((code_In_wrong.f t160 t161 t162 91).bind fun bt163 => (some ((⟨#[]⟩ : ByteArray), bt163.1, bt163.2.1, bt163.2.2))) else ((code_In_take.f k t160 t161 t162 t158).bind fun bt166 => (some (bt166.1, bt166.2.2.1, bt166.2.2.2.1, bt166.2.2.2.2)))) else (some ((⟨#[]⟩ : ByteArray), t160, t161, t162))) = some (r1, r2, r3, r4) := H
 have A3 := Aside0.mk A30
 clear A30
 by_cases c4 : t159 = true
 · subst c4
   have H1 : (if t158 > a1 then ((code_In_wrong.f t160 t161 t162 91).bind fun bt163 => (some ((⟨#[]⟩ : ByteArray), bt163.1, bt163.2.1, bt163.2.2))) else ((code_In_take.f k t160 t161 t162 t158).bind fun bt166 => (some (bt166.1, bt166.2.2.1, bt166.2.2.2.1, bt166.2.2.2.2)))) = some (r1, r2, r3, r4) := by rw [if_pos rfl] at H; exact H
   clear H
   have H := H1
   clear H1
   by_cases c5 : t158 > a1
   · rw [if_pos c5] at H
     have c5b0 : decide (a1 < t158) = true := decide_eq_true c5
     clear c5
     replace H := Option.bind_eq_some_iff.mp H
     obtain ⟨⟨t163, t164, t165⟩, A60, H⟩ := H
     replace H : (some ((⟨#[]⟩ : ByteArray), t163, t164, t165)) = some (r1, r2, r3, r4) := H
     have A6 := Aside0.mk A60
     clear A60
     simp only [Option.some.injEq, Prod.mk.injEq] at H
     obtain ⟨rfl, rfl, rfl, rfl⟩ := H
     go_enter Tryd.func48, Tryd.ntmps48
     go_wp2_with (first | ((with_reducible refine gate_callee (f := 78) rfl ?_); refine gL 11 Tryd.func78 #[.pointer (some ⟨g, 0, none⟩), .int .i64 2] ?_; (with_reducible refine (code_In_number.calls k g s0_0 s0_1 s0_2 2 t158 true t160 t161 t162 w0 _ ?side1 ?side2 A3.out).mono ?_); (case side1 => exact i1); (case side2 => exact i2); rintro e w7 ⟨rfl, hi, hb, hk⟩; refine ⟨_, rfl, ?_⟩; replace HK := Aside0.mk (KeepBut.trans i3 hk (.inl rfl)); replace HB := Aside0.mk hb; replace HI0 := Aside0.mk hi; (try clear hb); (try clear hb2); (try clear hk); (try clear hi)) | ((with_reducible refine gate_callee (f := 79) rfl ?_); refine gL 20 Tryd.func79 #[.pointer (some ⟨g, 0, none⟩), .int .i64 91] ?_; (with_reducible refine (code_In_wrong.calls g t160 t161 t162 91 t163 t164 t165 w0 _ ?side1 ?side2 A6.out).mono ?_); (case side1 => exact i1); (case side2 => exact i2); rintro e w8 ⟨rfl, hi, hb, hk⟩; refine ⟨_, rfl, ?_⟩; replace HK := Aside0.mk (KeepBut.trans i3 hk (.inl rfl)); replace HB := Aside0.mk hb; replace HI0 := Aside0.mk hi; (try clear hb); (try clear hb2); (try clear hk); (try clear hi)))
     go_ret
     exact ⟨Qe, i1, i2, i3⟩
   · rw [if_neg c5] at H
     have c5b0 : decide (a1 < t158) = false := decide_eq_false c5
     clear c5
     replace H := Option.bind_eq_some_iff.mp H
     obtain ⟨⟨t166, t167, t168, t169, t170⟩, A90, H⟩ := H
     replace H : (some (t166, t168, t169, t170)) = some (r1, r2, r3, r4) := H
     have A9 := Aside0.mk A90
     clear A90
     simp only [Option.some.injEq, Prod.mk.injEq] at H
     obtain ⟨rfl, rfl, rfl, rfl⟩ := H
     go_enter Tryd.func48, Tryd.ntmps48
     go_wp2_with (first | ((with_reducible refine gate_callee (f := 78) rfl ?_); refine gL 11 Tryd.func78 #[.pointer (some ⟨g, 0, none⟩), .int .i64 2] ?_; (with_reducible refine (code_In_number.calls k g s0_0 s0_1 s0_2 2 t158 true t160 t161 t162 w0 _ ?side1 ?side2 A3.out).mono ?_); (case side1 => exact i1); (case side2 => exact i2); rintro e w10 ⟨rfl, hi, hb, hk⟩; refine ⟨_, rfl, ?_⟩; replace HK := Aside0.mk (KeepBut.trans i3 hk (.inl rfl)); replace HB := Aside0.mk hb; replace HI0 := Aside0.mk hi; (try clear hb); (try clear hb2); (try clear hk); (try clear hi)) | ((with_reducible refine gate_callee (f := 80) rfl ?_); refine gL 24 Tryd.func80 #[.pointer (some ⟨g, 0, none⟩), .int .i64 t158] ?_; (with_reducible refine (code_In_take.calls k g t160 t161 t162 t158 t166 t167 t168 t169 t170 w0 _ ?side1 ?side2 A9.out).mono ?_); (case side1 => exact i1); (case side2 => exact i2); rintro e w11 ⟨rfl, hi, hb, hk⟩; refine ⟨_, rfl, ?_⟩; replace HK := Aside0.mk (KeepBut.trans i3 hk (.inl rfl)); replace HB := Aside0.mk hb; replace HI0 := Aside0.mk hi; (try clear hb); (try clear hb2); (try clear hk); (try clear hi)))
     go_ret
     exact ⟨Qe, i1, i2, i3⟩
 · replace c4 := Bool.eq_false_iff.mpr c4
   subst c4
   have H1 : (some ((⟨#[]⟩ : ByteArray), t160, t161, t162)) = some (r1, r2, r3, r4) := by rw [if_neg (show ¬ (false = true) by decide)] at H; exact H
   clear H
   have H := H1
   clear H1
   simp only [Option.some.injEq, Prod.mk.injEq] at H
   obtain ⟨rfl, rfl, rfl, rfl⟩ := H
   go_enter Tryd.func48, Tryd.ntmps48
   go_wp2_with (first | ((with_reducible refine gate_callee (f := 78) rfl ?_); refine gL 11 Tryd.func78 #[.pointer (some ⟨g, 0, none⟩), .int .i64 2] ?_; (with_reducible refine (code_In_number.calls k g s0_0 s0_1 s0_2 2 t158 false t160 t161 t162 w0 _ ?side1 ?side2 A3.out).mono ?_); (case side1 => exact i1); (case side2 => exact i2); rintro e w12 ⟨rfl, hi, hb, hk⟩; refine ⟨_, rfl, ?_⟩; replace HK := Aside0.mk (KeepBut.trans i3 hk (.inl rfl)); replace HB := Aside0.mk hb; replace HI0 := Aside0.mk hi; (try clear hb); (try clear hb2); (try clear hk); (try clear hi)))
   go_ret
   exact ⟨Qe, i1, i2, i3⟩
/-! ### code_In_Byte: function 66 -/
def code_In_Byte.f (k : Nat) (s0_0 : Bool) (s0_1 : ByteArray) (s0_2 : Int) : Option (Int × Bool × ByteArray × Int) := (code_In_number.f k s0_0 s0_1 s0_2 1).bind fun bt171 => (some (bt171.1, bt171.2.2.1, bt171.2.2.2.1, bt171.2.2.2.2))
set_option maxHeartbeats 8000000 in
set_option maxRecDepth 100000 in
theorem code_In_Byte.calls (k : Nat) (g : Nat) (s0_0 : Bool) (s0_1 : ByteArray) (s0_2 : Int) (r1 : Int) (r2 : Bool) (r3 : ByteArray) (r4 : Int) (w0 w : World) (hI : IsS107 w0 w g s0_0 s0_1 s0_2) (hB : Below w0.heap.size w0 w) (h : code_In_Byte.f k s0_0 s0_1 s0_2 = some (r1, r2, r3, r4)) :
 Calls Tryd.prog 66 #[.pointer (some ⟨g, 0, none⟩)] w fun e w' => e = .returned (.int .i64 r1) ∧ IsS107 w0 w' g r2 r3 r4 ∧ Below w0.heap.size w0 w' ∧ KeepBut w w' g none := by
 have HI0 := Aside0.mk hI
 have HK := Aside0.mk (KeepBut.refl w g none)
 have HL := Aside0.mk hB.size
 clear hI
 have HW0 := Aside0.mk hB.size
 have HB := Aside0.mk hB
 clear hB
 have H : ((code_In_number.f k s0_0 s0_1 s0_2 1).bind fun bt171 => (some (bt171.1, bt171.2.2.1, bt171.2.2.2.1, bt171.2.2.2.2))) = some (r1, r2, r3, r4) := h
 clear h
 replace H := Option.bind_eq_some_iff.mp H
 obtain ⟨⟨t171, t172, t173, t174, t175⟩, A20, H⟩ := H
 replace H : (some (t171, t173, t174, t175)) = some (r1, r2, r3, r4) := H
 have A2 := Aside0.mk A20
 clear A20
 simp only [Option.some.injEq, Prod.mk.injEq] at H
 obtain ⟨rfl, rfl, rfl, rfl⟩ := H
 go_enter Tryd.func66, Tryd.ntmps66
 go_wp2_with (first | ((with_reducible refine gate_callee (f := 78) rfl ?_); refine gL 7 Tryd.func78 #[.pointer (some ⟨g, 0, none⟩), .int .i64 1] ?_; (with_reducible refine (code_In_number.calls k g s0_0 s0_1 s0_2 1 t171 t172 t173 t174 t175 w0 _ ?side1 ?side2 A2.out).mono ?_); (case side1 => exact i1); (case side2 => exact i2); rintro e w3 ⟨rfl, hi, hb, hk⟩; refine ⟨_, rfl, ?_⟩; replace HK := Aside0.mk (KeepBut.trans i3 hk (.inl rfl)); replace HB := Aside0.mk hb; replace HI0 := Aside0.mk hi; (try clear hb); (try clear hb2); (try clear hk); (try clear hi)))
 go_ret
 exact ⟨Qe, i1, i2, i3⟩
/-! ### snap_takes: function 30 -/
def snap_takes.f (k : Nat) (s0_0 : Bool) (s0_1 : ByteArray) (s0_2 : Int) : Option (Int × Int × Int × Int × Int × Int × Int × ByteArray × ByteArray × Bool × ByteArray × Int) := (code_In_Byte.f k s0_0 s0_1 s0_2).bind fun bt177 => ((code_In_Stamp.f k bt177.2.1 bt177.2.2.1 bt177.2.2.2).bind fun bt181 => ((code_In_Stamp.f k bt181.2.2.1 bt181.2.2.2.1 bt181.2.2.2.2).bind fun bt186 => ((code_In_Stamp.f k bt186.2.2.1 bt186.2.2.2.1 bt186.2.2.2.2).bind fun bt191 => ((code_In_Text.f k bt191.2.2.1 bt191.2.2.2.1 bt191.2.2.2.2 1024).bind fun bt196 => ((code_In_Text.f k bt196.2.1 bt196.2.2.1 bt196.2.2.2 1024).bind fun bt200 => (some (bt177.1, bt181.1, bt181.2.1, bt186.1, bt186.2.1, bt191.1, bt191.2.1, bt196.1, bt200.1, bt200.2.1, bt200.2.2.1, bt200.2.2.2)))))))
set_option maxHeartbeats 8000000 in
set_option maxRecDepth 100000 in
theorem snap_takes.calls (k : Nat) (g : Nat) (s0_0 : Bool) (s0_1 : ByteArray) (s0_2 : Int) (r1 : Int) (r2 : Int) (r3 : Int) (r4 : Int) (r5 : Int) (r6 : Int) (r7 : Int) (r8 : ByteArray) (r9 : ByteArray) (r10 : Bool) (r11 : ByteArray) (r12 : Int) (w0 w : World) (hI : IsS107 w0 w g s0_0 s0_1 s0_2) (hB : Below w0.heap.size w0 w) (h : snap_takes.f k s0_0 s0_1 s0_2 = some (r1, r2, r3, r4, r5, r6, r7, r8, r9, r10, r11, r12)) :
 Calls Tryd.prog 30 #[.pointer (some ⟨g, 0, none⟩)] w fun e w' => e = .returned (.agg #[.int .i64 r1, .int .i64 r2, .int .i64 r3, .int .i64 r4, .int .i64 r5, .int .i64 r6, .int .i64 r7, .string r8, .string r9]) ∧ IsS107 w0 w' g r10 r11 r12 ∧ Below w0.heap.size w0 w' ∧ KeepBut w w' g none := by
 have hu25 := Tryd.underlying25
 have HI0 := Aside0.mk hI
 have HK := Aside0.mk (KeepBut.refl w g none)
 have HL := Aside0.mk hB.size
 clear hI
 have HW0 := Aside0.mk hB.size
 have HB := Aside0.mk hB
 clear hB
 have H : ((code_In_Byte.f k s0_0 s0_1 s0_2).bind fun bt177 => ((code_In_Stamp.f k bt177.2.1 bt177.2.2.1 bt177.2.2.2).bind fun bt181 => ((code_In_Stamp.f k bt181.2.2.1 bt181.2.2.2.1 bt181.2.2.2.2).bind fun bt186 => ((code_In_Stamp.f k bt186.2.2.1 bt186.2.2.2.1 bt186.2.2.2.2).bind fun bt191 => ((code_In_Text.f k bt191.2.2.1 bt191.2.2.2.1 bt191.2.2.2.2 1024).bind fun bt196 => ((code_In_Text.f k bt196.2.1 bt196.2.2.1 bt196.2.2.2 1024).bind fun bt200 => (some (bt177.1, bt181.1, bt181.2.1, bt186.1, bt186.2.1, bt191.1, bt191.2.1, bt196.1, bt200.1, bt200.2.1, bt200.2.2.1, bt200.2.2.2)))))))) = some (r1, r2, r3, r4, r5, r6, r7, r8, r9, r10, r11, r12) := h
 clear h
 replace H := Option.bind_eq_some_iff.mp H
 obtain ⟨⟨t177, t178, t179, t180⟩, A20, H⟩ := H
 replace H : ((code_In_Stamp.f k t178 t179 t180).bind fun bt181 => ((code_In_Stamp.f k bt181.2.2.1 bt181.2.2.2.1 bt181.2.2.2.2).bind fun bt186 => ((code_In_Stamp.f k bt186.2.2.1 bt186.2.2.2.1 bt186.2.2.2.2).bind fun bt191 => ((code_In_Text.f k bt191.2.2.1 bt191.2.2.2.1 bt191.2.2.2.2 1024).bind fun bt196 => ((code_In_Text.f k bt196.2.1 bt196.2.2.1 bt196.2.2.2 1024).bind fun bt200 => (some (t177, bt181.1, bt181.2.1, bt186.1, bt186.2.1, bt191.1, bt191.2.1, bt196.1, bt200.1, bt200.2.1, bt200.2.2.1, bt200.2.2.2))))))) = some (r1, r2, r3, r4, r5, r6, r7, r8, r9, r10, r11, r12) := H
 have A2 := Aside0.mk A20
 clear A20
 replace H := Option.bind_eq_some_iff.mp H
 obtain ⟨⟨t181, t182, t183, t184, t185⟩, A30, H⟩ := H
 replace H : ((code_In_Stamp.f k t183 t184 t185).bind fun bt186 => ((code_In_Stamp.f k bt186.2.2.1 bt186.2.2.2.1 bt186.2.2.2.2).bind fun bt191 => ((code_In_Text.f k bt191.2.2.1 bt191.2.2.2.1 bt191.2.2.2.2 1024).bind fun bt196 => ((code_In_Text.f k bt196.2.1 bt196.2.2.1 bt196.2.2.2 1024).bind fun bt200 => (some (t177, t181, t182, bt186.1, bt186.2.1, bt191.1, bt191.2.1, bt196.1, bt200.1, bt200.2.1, bt200.2.2.1, bt200.2.2.2)))))) = some (r1, r2, r3, r4, r5, r6, r7, r8, r9, r10, r11, r12) := H
 have A3 := Aside0.mk A30
 clear A30
 replace H := Option.bind_eq_some_iff.mp H
 obtain ⟨⟨t186, t187, t188, t189, t190⟩, A40, H⟩ := H
 replace H : ((code_In_Stamp.f k t188 t189 t190).bind fun bt191 => ((code_In_Text.f k bt191.2.2.1 bt191.2.2.2.1 bt191.2.2.2.2 1024).bind fun bt196 => ((code_In_Text.f k bt196.2.1 bt196.2.2.1 bt196.2.2.2 1024).bind fun bt200 => (some (t177, t181, t182, t186, t187, bt191.1, bt191.2.1, bt196.1, bt200.1, bt200.2.1, bt200.2.2.1, bt200.2.2.2))))) = some (r1, r2, r3, r4, r5, r6, r7, r8, r9, r10, r11, r12) := H
 have A4 := Aside0.mk A40
 clear A40
 replace H := Option.bind_eq_some_iff.mp H
 obtain ⟨⟨t191, t192, t193, t194, t195⟩, A50, H⟩ := H
 replace H : ((code_In_Text.f k t193 t194 t195 1024).bind fun bt196 => ((code_In_Text.f k bt196.2.1 bt196.2.2.1 bt196.2.2.2 1024).bind fun bt200 => (some (t177, t181, t182, t186, t187, t191, t192, bt196.1, bt200.1, bt200.2.1, bt200.2.2.1, bt200.2.2.2)))) = some (r1, r2, r3, r4, r5, r6, r7, r8, r9, r10, r11, r12) := H
 have A5 := Aside0.mk A50
 clear A50
 replace H := Option.bind_eq_some_iff.mp H
 obtain ⟨⟨t196, t197, t198, t199⟩, A60, H⟩ := H
 replace H : ((code_In_Text.f k t197 t198 t199 1024).bind fun bt200 => (some (t177, t181, t182, t186, t187, t191, t192, t196, bt200.1, bt200.2.1, bt200.2.2.1, bt200.2.2.2))) = some (r1, r2, r3, r4, r5, r6, r7, r8, r9, r10, r11, r12) := H
 have A6 := Aside0.mk A60
 clear A60
 replace H := Option.bind_eq_some_iff.mp H
 obtain ⟨⟨t200, t201, t202, t203⟩, A70, H⟩ := H
 replace H : (some (t177, t181, t182, t186, t187, t191, t192, t196, t200, t201, t202, t203)) = some (r1, r2, r3, r4, r5, r6, r7, r8, r9, r10, r11, r12) := H
 have A7 := Aside0.mk A70
 clear A70
 simp only [Option.some.injEq, Prod.mk.injEq] at H
 obtain ⟨rfl, rfl, rfl, rfl, rfl, rfl, rfl, rfl, rfl, rfl, rfl, rfl⟩ := H
 go_enter Tryd.func30, Tryd.ntmps30
 go_wp2_with (first | ((with_reducible refine gate_dst (N := 2) rfl ?_); refine boxQ (N := 2) (cs := #[.int .i64 0, .int .i64 0, .int .i64 0, .int .i64 0, .int .i64 0, .int .i64 0, .int .i64 0, .string (⟨#[]⟩ : ByteArray), .string (⟨#[]⟩ : ByteArray)]) (t := 25) ?_; intro gb176 hg w8 hbox hb; have BK176 := Aside0.mk hbox; have GW176 := Aside0.mk ((by rw [hg]; exact (keep_size (w := w) (g := g) (row := none) i3) : w.heap.size ≤ gb176)); have GE176 := Aside0.mk ((Nat.le_trans HW0.out (by rw [hg]; exact (keep_size (w := w) (g := g) (row := none) i3) : w.heap.size ≤ gb176) : w0.heap.size ≤ gb176)); have NB0_176 := Aside0.mk ((by rw [hg]; exact Nat.ne_of_lt (IsS107.lt (show IsS107 w0 _ g s0_0 s0_1 s0_2 from i1)) : g ≠ gb176)); have NB176_0 := Aside0.mk ((by rw [hg]; exact Nat.ne_of_gt (IsS107.lt (show IsS107 w0 _ g s0_0 s0_1 s0_2 from i1)) : gb176 ≠ g)); replace HI0 := Aside0.mk (IsS107.below i1 hb); replace HK := Aside0.mk (KeepBut.trans i3 (KeepBut.of_below hb g none) (.inl rfl)); replace HB := Qy hb; clear hb hbox hg) | ((with_reducible refine gate_callee (f := 66) rfl ?_); refine gL 4 Tryd.func66 #[.pointer (some ⟨g, 0, none⟩)] ?_; (with_reducible refine (code_In_Byte.calls k g s0_0 s0_1 s0_2 t177 t178 t179 t180 w0 _ ?side1 ?side2 A2.out).mono ?_); (case side1 => exact i1); (case side2 => exact i2); rintro e w9 ⟨rfl, hi, hb, hk⟩; refine ⟨_, rfl, ?_⟩; replace BK176 := Aside0.mk (KeepBut.blk hk (g' := gb176) (o := .cells #[.int .i64 0, .int .i64 0, .int .i64 0, .int .i64 0, .int .i64 0, .int .i64 0, .int .i64 0, .string (⟨#[]⟩ : ByteArray), .string (⟨#[]⟩ : ByteArray)] 25 (0, 0)) Qk NB176_0.out (by simp)); replace HK := Aside0.mk (KeepBut.trans i3 hk (.inl rfl)); replace HB := Aside0.mk hb; replace HI0 := Aside0.mk hi; (try clear hb); (try clear hb2); (try clear hk); (try clear hi)) | ((with_reducible refine gate_callee (f := 45) rfl ?_); refine gL 6 Tryd.func45 #[.pointer (some ⟨g, 0, none⟩)] ?_; (with_reducible refine (code_In_Stamp.calls k g t178 t179 t180 t181 t182 t183 t184 t185 w0 _ ?side1 ?side2 A3.out).mono ?_); (case side1 => exact i1); (case side2 => exact i2); rintro e w10 ⟨rfl, hi, hb, hk⟩; refine ⟨_, rfl, ?_⟩; replace BK176 := Aside0.mk (KeepBut.blk hk (g' := gb176) (o := .cells #[.int .i64 0, .int .i64 0, .int .i64 0, .int .i64 0, .int .i64 0, .int .i64 0, .int .i64 0, .string (⟨#[]⟩ : ByteArray), .string (⟨#[]⟩ : ByteArray)] 25 (0, 0)) Qk NB176_0.out (by simp)); replace HK := Aside0.mk (KeepBut.trans i3 hk (.inl rfl)); replace HB := Aside0.mk hb; replace HI0 := Aside0.mk hi; (try clear hb); (try clear hb2); (try clear hk); (try clear hi)) | ((with_reducible refine gate_callee (f := 45) rfl ?_); refine gL 8 Tryd.func45 #[.pointer (some ⟨g, 0, none⟩)] ?_; (with_reducible refine (code_In_Stamp.calls k g t183 t184 t185 t186 t187 t188 t189 t190 w0 _ ?side1 ?side2 A4.out).mono ?_); (case side1 => exact i1); (case side2 => exact i2); rintro e w11 ⟨rfl, hi, hb, hk⟩; refine ⟨_, rfl, ?_⟩; replace BK176 := Aside0.mk (KeepBut.blk hk (g' := gb176) (o := .cells #[.int .i64 0, .int .i64 0, .int .i64 0, .int .i64 0, .int .i64 0, .int .i64 0, .int .i64 0, .string (⟨#[]⟩ : ByteArray), .string (⟨#[]⟩ : ByteArray)] 25 (0, 0)) Qk NB176_0.out (by simp)); replace HK := Aside0.mk (KeepBut.trans i3 hk (.inl rfl)); replace HB := Aside0.mk hb; replace HI0 := Aside0.mk hi; (try clear hb); (try clear hb2); (try clear hk); (try clear hi)) | ((with_reducible refine gate_callee (f := 45) rfl ?_); refine gL 10 Tryd.func45 #[.pointer (some ⟨g, 0, none⟩)] ?_; (with_reducible refine (code_In_Stamp.calls k g t188 t189 t190 t191 t192 t193 t194 t195 w0 _ ?side1 ?side2 A5.out).mono ?_); (case side1 => exact i1); (case side2 => exact i2); rintro e w12 ⟨rfl, hi, hb, hk⟩; refine ⟨_, rfl, ?_⟩; replace BK176 := Aside0.mk (KeepBut.blk hk (g' := gb176) (o := .cells #[.int .i64 0, .int .i64 0, .int .i64 0, .int .i64 0, .int .i64 0, .int .i64 0, .int .i64 0, .string (⟨#[]⟩ : ByteArray), .string (⟨#[]⟩ : ByteArray)] 25 (0, 0)) Qk NB176_0.out (by simp)); replace HK := Aside0.mk (KeepBut.trans i3 hk (.inl rfl)); replace HB := Aside0.mk hb; replace HI0 := Aside0.mk hi; (try clear hb); (try clear hb2); (try clear hk); (try clear hi)) | ((with_reducible refine gate_callee (f := 48) rfl ?_); refine gL 12 Tryd.func48 #[.pointer (some ⟨g, 0, none⟩), .int .i64 1024] ?_; (with_reducible refine (code_In_Text.calls k g t193 t194 t195 1024 t196 t197 t198 t199 w0 _ ?side1 ?side2 A6.out).mono ?_); (case side1 => exact i1); (case side2 => exact i2); rintro e w13 ⟨rfl, hi, hb, hk⟩; refine ⟨_, rfl, ?_⟩; replace BK176 := Aside0.mk (KeepBut.blk hk (g' := gb176) (o := .cells #[.int .i64 0, .int .i64 0, .int .i64 0, .int .i64 0, .int .i64 0, .int .i64 0, .int .i64 0, .string (⟨#[]⟩ : ByteArray), .string (⟨#[]⟩ : ByteArray)] 25 (0, 0)) Qk NB176_0.out (by simp)); replace HK := Aside0.mk (KeepBut.trans i3 hk (.inl rfl)); replace HB := Aside0.mk hb; replace HI0 := Aside0.mk hi; (try clear hb); (try clear hb2); (try clear hk); (try clear hi)) | ((with_reducible refine gate_callee (f := 48) rfl ?_); refine gL 14 Tryd.func48 #[.pointer (some ⟨g, 0, none⟩), .int .i64 1024] ?_; (with_reducible refine (code_In_Text.calls k g t197 t198 t199 1024 t200 t201 t202 t203 w0 _ ?side1 ?side2 A7.out).mono ?_); (case side1 => exact i1); (case side2 => exact i2); rintro e w14 ⟨rfl, hi, hb, hk⟩; refine ⟨_, rfl, ?_⟩; replace BK176 := Aside0.mk (KeepBut.blk hk (g' := gb176) (o := .cells #[.int .i64 0, .int .i64 0, .int .i64 0, .int .i64 0, .int .i64 0, .int .i64 0, .int .i64 0, .string (⟨#[]⟩ : ByteArray), .string (⟨#[]⟩ : ByteArray)] 25 (0, 0)) Qk NB176_0.out (by simp)); replace HK := Aside0.mk (KeepBut.trans i3 hk (.inl rfl)); replace HB := Aside0.mk hb; replace HI0 := Aside0.mk hi; (try clear hb); (try clear hb2); (try clear hk); (try clear hi); have hnb15 := NB176_0.out; have hnc15 := NB0_176.out; obtain ⟨y16_0, y16_1, y16_2, y16_3, y16_4, y16_5, y16_6, y16_7, y16_8, v16_0, v16_1, v16_2, v16_3, v16_4, v16_5, v16_6, v16_7, v16_8⟩ := Z9 BK176.out))
 refine bodyPost_ret (results_cell_row rfl _ _ gb176 25 #[.int .i64 t177, .int .i64 t181, .int .i64 t182, .int .i64 t186, .int .i64 t187, .int .i64 t191, .int .i64 t192, .string t196, .string t200] (0, 0) _ rfl Qk Tryd.underlying25 rfl (by kernel_rfl)) rfl ?_
 exact ⟨Qe, i1, i2, i3⟩
/-! ### code_In_Done: function 31 -/
def code_In_Done.f (s0_0 : Bool) (s0_1 : ByteArray) (s0_2 : Int) : Option (Int × Bool × ByteArray × Int) := if s0_0 = true then (if s0_2 = 0 then (if s0_1.toList = ([] : List UInt8) then (some (s0_2, s0_0, s0_1, s0_2)) else (some (91, s0_0, s0_1, s0_2))) else (some (s0_2, s0_0, s0_1, s0_2))) else (some (91, s0_0, s0_1, s0_2))
set_option maxHeartbeats 8000000 in
set_option maxRecDepth 100000 in
theorem code_In_Done.calls (g : Nat) (s0_0 : Bool) (s0_1 : ByteArray) (s0_2 : Int) (r1 : Int) (r2 : Bool) (r3 : ByteArray) (r4 : Int) (w0 w : World) (hI : IsS107 w0 w g s0_0 s0_1 s0_2) (hB : Below w0.heap.size w0 w) (h : code_In_Done.f s0_0 s0_1 s0_2 = some (r1, r2, r3, r4)) :
 Calls Tryd.prog 31 #[.pointer (some ⟨g, 0, none⟩)] w fun e w' => e = .returned (.int .i64 r1) ∧ IsS107 w0 w' g r2 r3 r4 ∧ Below w0.heap.size w0 w' ∧ KeepBut w w' g none := by
 have HI0 := Aside0.mk hI
 have HK := Aside0.mk (KeepBut.refl w g none)
 have HL := Aside0.mk hB.size
 clear hI
 have HW0 := Aside0.mk hB.size
 have HB := Aside0.mk hB
 clear hB
 have H : (if s0_0 = true then (if s0_2 = 0 then (if s0_1.toList = ([] : List UInt8) then (some (s0_2, s0_0, s0_1, s0_2)) else (some (91, s0_0, s0_1, s0_2))) else (some (s0_2, s0_0, s0_1, s0_2))) else (some (91, s0_0, s0_1, s0_2))) = some (r1, r2, r3, r4) := h
 clear h
 by_cases c2 : s0_0 = true
 · subst c2
   have H1 : (if s0_2 = 0 then (if s0_1.toList = ([] : List UInt8) then (some (s0_2, true, s0_1, s0_2)) else (some (91, true, s0_1, s0_2))) else (some (s0_2, true, s0_1, s0_2))) = some (r1, r2, r3, r4) := by rw [if_pos rfl] at H; exact H
   clear H
   have H := H1
   clear H1
   by_cases c3 : s0_2 = 0
   · rw [if_pos c3] at H
     have c3b0 : (s0_2 == 0) = true := beq_iff_eq.mpr c3
     have c3b1 : (s0_2 != 0) = false := bne_eq_false_iff_eq.mpr c3
     clear c3
     by_cases c4 : s0_1.toList = ([] : List UInt8)
     · rw [if_pos c4] at H
       have c4b0 : (s0_1.toList == ([] : List UInt8)) = true := beq_iff_eq.mpr c4
       have c4b1 : (s0_1.toList != ([] : List UInt8)) = false := bne_eq_false_iff_eq.mpr c4
       clear c4
       simp only [Option.some.injEq, Prod.mk.injEq] at H
       obtain ⟨rfl, rfl, rfl, rfl⟩ := H
       obtain ⟨HGz5, hgz5⟩ := HI0.out
       have y5_0 := cellS107_0 HGz5
       have y5_1 := cellS107_1 HGz5
       have y5_2 := cellS107_2 HGz5
       have v5_0 := blk_frozen HGz5 0
       have v5_1 := blk_frozen HGz5 1
       have v5_2 := blk_frozen HGz5 2
       clear HGz5 hgz5
       go_enter Tryd.func31, Tryd.ntmps31
       go_wp2
       go_ret
       exact ⟨Qe, i1, i2, i3⟩
     · rw [if_neg c4] at H
       have c4b0 : (s0_1.toList == ([] : List UInt8)) = false := beq_eq_false_iff_ne.mpr c4
       have c4b1 : (s0_1.toList != ([] : List UInt8)) = true := bne_iff_ne.mpr c4
       simp only [Option.some.injEq, Prod.mk.injEq] at H
       obtain ⟨rfl, rfl, rfl, rfl⟩ := H
       obtain ⟨HGz6, hgz6⟩ := HI0.out
       have y6_0 := cellS107_0 HGz6
       have y6_1 := cellS107_1 HGz6
       have y6_2 := cellS107_2 HGz6
       have v6_0 := blk_frozen HGz6 0
       have v6_1 := blk_frozen HGz6 1
       have v6_2 := blk_frozen HGz6 2
       clear HGz6 hgz6
       go_enter Tryd.func31, Tryd.ntmps31
       go_wp2
       go_ret
       exact ⟨Qe, i1, i2, i3⟩
   · rw [if_neg c3] at H
     have c3b0 : (s0_2 == 0) = false := beq_eq_false_iff_ne.mpr c3
     have c3b1 : (s0_2 != 0) = true := bne_iff_ne.mpr c3
     simp only [Option.some.injEq, Prod.mk.injEq] at H
     obtain ⟨rfl, rfl, rfl, rfl⟩ := H
     obtain ⟨HGz7, hgz7⟩ := HI0.out
     have y7_0 := cellS107_0 HGz7
     have y7_1 := cellS107_1 HGz7
     have y7_2 := cellS107_2 HGz7
     have v7_0 := blk_frozen HGz7 0
     have v7_1 := blk_frozen HGz7 1
     have v7_2 := blk_frozen HGz7 2
     clear HGz7 hgz7
     go_enter Tryd.func31, Tryd.ntmps31
     go_wp2
     go_ret
     exact ⟨Qe, i1, i2, i3⟩
 · replace c2 := Bool.eq_false_iff.mpr c2
   subst c2
   have H1 : (some (91, false, s0_1, s0_2)) = some (r1, r2, r3, r4) := by rw [if_neg (show ¬ (false = true) by decide)] at H; exact H
   clear H
   have H := H1
   clear H1
   simp only [Option.some.injEq, Prod.mk.injEq] at H
   obtain ⟨rfl, rfl, rfl, rfl⟩ := H
   obtain ⟨HGz8, hgz8⟩ := HI0.out
   have y8_0 := cellS107_0 HGz8
   have y8_1 := cellS107_1 HGz8
   have y8_2 := cellS107_2 HGz8
   have v8_0 := blk_frozen HGz8 0
   have v8_1 := blk_frozen HGz8 1
   have v8_2 := blk_frozen HGz8 2
   clear HGz8 hgz8
   go_enter Tryd.func31, Tryd.ntmps31
   go_wp2
   go_ret
   exact ⟨Qe, i1, i2, i3⟩
/-! ### clock_Less: function 68 -/
def clock_Less.f (a0_0 : Int) (a0_1 : Int) (a1_0 : Int) (a1_1 : Int) : Option (Bool) := if a0_0 = a1_0 then (some (decide (a0_1 < a1_1))) else (some (decide (a0_0 < a1_0)))
set_option maxHeartbeats 8000000 in
set_option maxRecDepth 100000 in
theorem clock_Less.calls (a0_0 : Int) (a0_1 : Int) (a1_0 : Int) (a1_1 : Int) (r : Bool) (w : World) (h : clock_Less.f a0_0 a0_1 a1_0 a1_1 = some r) :
 Calls Tryd.prog 68 #[.agg #[.int .i64 a0_0, .int .i64 a0_1], .agg #[.int .i64 a1_0, .int .i64 a1_1]] w fun e w' => e = .returned (.bool r) ∧ Below w.heap.size w w' := by
 have hu23 := Tryd.underlying23
 have HB := Aside0.mk (Below.refl w.heap.size w)
 have H : (if a0_0 = a1_0 then (some (decide (a0_1 < a1_1))) else (some (decide (a0_0 < a1_0)))) = some r := h
 clear h
 by_cases c3 : a0_0 = a1_0
 · rw [if_pos c3] at H
   have c3b0 : (a0_0 == a1_0) = true := beq_iff_eq.mpr c3
   have c3b1 : (a0_0 != a1_0) = false := bne_eq_false_iff_eq.mpr c3
   clear c3
   obtain rfl := Option.some.inj H
   go_enter Tryd.func68, Tryd.ntmps68
   go_wp2_with (first | ((with_reducible refine gate_dst (N := 2) rfl ?_); refine boxQ (N := 2) (cs := #[.int .i64 a0_0, .int .i64 a0_1]) (t := 23) ?_; intro gb227 hg w4 hbox hb; have BK227 := Aside0.mk hbox; have GW227 := Qt w hg; have GE227 := GW227; replace HB := Qy hb; clear hb hbox hg) | ((with_reducible refine gate_dst (N := 3) rfl ?_); refine boxQ (N := 3) (cs := #[.int .i64 a1_0, .int .i64 a1_1]) (t := 23) ?_; intro gb228 hg w5 hbox hb; have BK228 := Aside0.mk hbox; have GW228 := Qt w hg; have GE228 := GW228; have NB227_228 := Qo hg BK227; have NB228_227 := Qp hg BK227; replace BK227 := Qv BK227 hb; replace HB := Qy hb; clear hb hbox hg; have hnb6 := NB227_228.out; have hnc6 := NB228_227.out; obtain ⟨y7_0, y7_1, v7_0, v7_1⟩ := Z2 BK227.out; obtain ⟨y8_0, y8_1, v8_0, v8_1⟩ := Z2 BK228.out))
   go_ret
   exact ⟨Qe, Qh⟩
 · rw [if_neg c3] at H
   have c3b0 : (a0_0 == a1_0) = false := beq_eq_false_iff_ne.mpr c3
   have c3b1 : (a0_0 != a1_0) = true := bne_iff_ne.mpr c3
   obtain rfl := Option.some.inj H
   go_enter Tryd.func68, Tryd.ntmps68
   go_wp2_with (first | ((with_reducible refine gate_dst (N := 2) rfl ?_); refine boxQ (N := 2) (cs := #[.int .i64 a0_0, .int .i64 a0_1]) (t := 23) ?_; intro gb227 hg w9 hbox hb; have BK227 := Aside0.mk hbox; have GW227 := Qt w hg; have GE227 := GW227; replace HB := Qy hb; clear hb hbox hg) | ((with_reducible refine gate_dst (N := 3) rfl ?_); refine boxQ (N := 3) (cs := #[.int .i64 a1_0, .int .i64 a1_1]) (t := 23) ?_; intro gb228 hg w10 hbox hb; have BK228 := Aside0.mk hbox; have GW228 := Qt w hg; have GE228 := GW228; have NB227_228 := Qo hg BK227; have NB228_227 := Qp hg BK227; replace BK227 := Qv BK227 hb; replace HB := Qy hb; clear hb hbox hg; have hnb11 := NB227_228.out; have hnc11 := NB228_227.out; obtain ⟨y12_0, y12_1, v12_0, v12_1⟩ := Z2 BK227.out; obtain ⟨y13_0, y13_1, v13_0, v13_1⟩ := Z2 BK228.out))
   go_ret
   exact ⟨Qe, Qh⟩
/-! ### samphireref11_SameNodes: function 51 -/
def samphireref11_SameNodes.l0 : Nat → List (S72) → List (S72) → Int → Option (Bool)
 | 0, _, _, _ => none
 | k + 1, x0, x1, x5 => if x5 < (x0.length : Int) then (if 0 ≤ x5 then (if x5 < (x1.length : Int) then (if ((!(((rd_T72 x0 x5).f0.f0) == ((rd_T72 x1 x5).f0.f0)) || (!(((rd_T72 x0 x5).f0.f1) == ((rd_T72 x1 x5).f0.f1)))) || ((!(((rd_T72 x0 x5).f1.f0) == ((rd_T72 x1 x5).f1.f0)) || (!(((rd_T72 x0 x5).f1.f1) == ((rd_T72 x1 x5).f1.f1)))) || (!((((rd_T72 x0 x5).f2).toList) == (((rd_T72 x1 x5).f2).toList)) || (!((((rd_T72 x0 x5).f3).toList) == (((rd_T72 x1 x5).f3).toList)))))) = true then (some false) else (samphireref11_SameNodes.l0 k x0 x1 (wrap64 (x5 + 1)))) else (none)) else (none)) else (some true)
def samphireref11_SameNodes.f (k : Nat) (l0 : List (S72)) (l1 : List (S72)) : Option (Bool) := if (l0.length : Int) = (l1.length : Int) then (samphireref11_SameNodes.l0 k l0 l1 0) else (some false)
set_option maxHeartbeats 8000000 in
set_option maxRecDepth 100000 in
theorem samphireref11_SameNodes.calls (k : Nat) (A0 : Option Addr) (c0 : Nat) (l0 : List (S72)) (A1 : Option Addr) (c1 : Nat) (l1 : List (S72)) (r : Bool) (w : World) (hr0 : Kd.C k72 w A0 l0.length l0) (hc0 : l0.length ≤ c0) (hr1 : Kd.C k72 w A1 l1.length l1) (hc1 : l1.length ≤ c1) (h : samphireref11_SameNodes.f k l0 l1 = some r) :
 Calls Tryd.prog 51 #[.slice A0 l0.length c0, .slice A1 l1.length c1] w fun e w' => e = .returned (.bool r) ∧ Drawn0 w w' := by
 have hu72 := Tryd.underlying72
 have HR0 := Aside0.mk hr0
 have HC0 := Aside0.mk hc0
 clear hr0 hc0
 have HR1 := Aside0.mk hr1
 have HC1 := Aside0.mk hc1
 clear hr1 hc1
 have H : (if (l0.length : Int) = (l1.length : Int) then (samphireref11_SameNodes.l0 k l0 l1 0) else (some false)) = some r := h
 clear h
 by_cases c3 : (l0.length : Int) = (l1.length : Int)
 · rw [if_pos c3] at H
   have c3b0 : ((l0.length : Int) == (l1.length : Int)) = true := beq_iff_eq.mpr c3
   have c3b1 : ((l0.length : Int) != (l1.length : Int)) = false := bne_eq_false_iff_eq.mpr c3
   have c3b2 : (l0.length == l1.length) = true := by first | simpa using c3 | (simp at c3 ⊢; omega)
   clear c3
   have H' := Aside0.mk H
   clear H
   go_enter Tryd.func51, Tryd.ntmps51
   go_wp2
   repeat (go_quiet (fail); try go_wp2)
   go_loopg [5] k (fun kq v5 w' => ∃ (x5_1 : Int), v5 = .int .i64 x5_1 ∧ Aside0 (samphireref11_SameNodes.l0 kq l0 l1 x5_1 = some r) ∧ Aside0 (kq ≤ k) ∧ Drawn0 w w')
   case atStart => exact ⟨(0), (by first | rfl | (simp; done) | (simp [*]; done)), H', ⟨Nat.le_refl _⟩, by repeat (first | exact Drawn0.refl _ | apply Drawn0.step)⟩
   case round =>
    clear H'
    try clear c1
    try clear p2
    try clear c3
    try clear c3b0
    try clear c3b1
    try clear c3b2
    obtain ⟨x5_1, rfl, HA, HK1, ⟨m1, rfl⟩⟩ := hrel
    cases gk with
    | zero => exact absurd HA.out (by simp [samphireref11_SameNodes.l0])
    | succ k1 =>
     have H := HA.out
     clear HA
     simp only [samphireref11_SameNodes.l0] at H
     by_cases c4 : x5_1 < (l0.length : Int)
     · rw [if_pos c4] at H
       have c4b0 : decide (x5_1 < (l0.length : Int)) = true := decide_eq_true c4
       clear c4
       by_cases c5 : 0 ≤ x5_1
       · rw [if_pos c5] at H
         have c5b0 : decide (0 ≤ x5_1) = true := decide_eq_true c5
         clear c5
         by_cases c6 : x5_1 < (l1.length : Int)
         · rw [if_pos c6] at H
           have c6b0 : decide (x5_1 < (l1.length : Int)) = true := decide_eq_true c6
           clear c6
           by_cases c7 : ((!(((rd_T72 l0 x5_1).f0.f0) == ((rd_T72 l1 x5_1).f0.f0)) || (!(((rd_T72 l0 x5_1).f0.f1) == ((rd_T72 l1 x5_1).f0.f1)))) || ((!(((rd_T72 l0 x5_1).f1.f0) == ((rd_T72 l1 x5_1).f1.f0)) || (!(((rd_T72 l0 x5_1).f1.f1) == ((rd_T72 l1 x5_1).f1.f1)))) || (!((((rd_T72 l0 x5_1).f2).toList) == (((rd_T72 l1 x5_1).f2).toList)) || (!((((rd_T72 l0 x5_1).f3).toList) == (((rd_T72 l1 x5_1).f3).toList)))))) = true
           · rw [if_pos c7] at H
             have c7b0 : ((!(((rd_T72 l0 x5_1).f0.f0) == ((rd_T72 l1 x5_1).f0.f0)) || (!(((rd_T72 l0 x5_1).f0.f1) == ((rd_T72 l1 x5_1).f0.f1)))) || ((!(((rd_T72 l0 x5_1).f1.f0) == ((rd_T72 l1 x5_1).f1.f0)) || (!(((rd_T72 l0 x5_1).f1.f1) == ((rd_T72 l1 x5_1).f1.f1)))) || (!((((rd_T72 l0 x5_1).f2).toList) == (((rd_T72 l1 x5_1).f2).toList)) || (!((((rd_T72 l0 x5_1).f3).toList) == (((rd_T72 l1 x5_1).f3).toList)))))) = true := c7
             clear c7
             obtain rfl := Option.some.inj H
             have p245 : 0 ≤ (x5_1 : Int) := of_decide_eq_true (by first | (with_reducible assumption) | assumption)
             have q245 : x5_1 < (l0.length : Int) := of_decide_eq_true (by first | (with_reducible assumption) | assumption)
             obtain ⟨ad245, e245, hx245_0, hx245_1, hx245_2, hx245_3, hx245_4, hx245_5⟩ := at_T72 HR0.out x5_1 p245 q245
             cases e245
             replace p245 := eq_true p245
             replace q245 := eq_true q245
             have p246 : 0 ≤ (x5_1 : Int) := of_decide_eq_true (by first | (with_reducible assumption) | assumption)
             have q246 : x5_1 < (l1.length : Int) := of_decide_eq_true (by first | (with_reducible assumption) | assumption)
             obtain ⟨ad246, e246, hx246_0, hx246_1, hx246_2, hx246_3, hx246_4, hx246_5⟩ := at_T72 HR1.out x5_1 p246 q246
             cases e246
             replace p246 := eq_true p246
             replace q246 := eq_true q246
             go_wp2
             repeat (go_quiet (fail); try go_wp2)
             go_ret
             exact ⟨by first | rfl | (simp; done) | (simp [*]; done), by repeat (first | exact Drawn0.refl _ | apply Drawn0.step)⟩
           · rw [if_neg c7] at H
             have c7b0 : ((!(((rd_T72 l0 x5_1).f0.f0) == ((rd_T72 l1 x5_1).f0.f0)) || (!(((rd_T72 l0 x5_1).f0.f1) == ((rd_T72 l1 x5_1).f0.f1)))) || ((!(((rd_T72 l0 x5_1).f1.f0) == ((rd_T72 l1 x5_1).f1.f0)) || (!(((rd_T72 l0 x5_1).f1.f1) == ((rd_T72 l1 x5_1).f1.f1)))) || (!((((rd_T72 l0 x5_1).f2).toList) == (((rd_T72 l1 x5_1).f2).toList)) || (!((((rd_T72 l0 x5_1).f3).toList) == (((rd_T72 l1 x5_1).f3).toList)))))) = false := by simpa using c7
             clear c7
             have H' := Aside0.mk H
             clear H
             have p245 : 0 ≤ (x5_1 : Int) := of_decide_eq_true (by first | (with_reducible assumption) | assumption)
             have q245 : x5_1 < (l0.length : Int) := of_decide_eq_true (by first | (with_reducible assumption) | assumption)
             obtain ⟨ad245, e245, hx245_0, hx245_1, hx245_2, hx245_3, hx245_4, hx245_5⟩ := at_T72 HR0.out x5_1 p245 q245
             cases e245
             replace p245 := eq_true p245
             replace q245 := eq_true q245
             have p246 : 0 ≤ (x5_1 : Int) := of_decide_eq_true (by first | (with_reducible assumption) | assumption)
             have q246 : x5_1 < (l1.length : Int) := of_decide_eq_true (by first | (with_reducible assumption) | assumption)
             obtain ⟨ad246, e246, hx246_0, hx246_1, hx246_2, hx246_3, hx246_4, hx246_5⟩ := at_T72 HR1.out x5_1 p246 q246
             cases e246
             replace p246 := eq_true p246
             replace q246 := eq_true q246
             go_wp2
             repeat (go_quiet (fail); try go_wp2)
             go_roundg k1
             case measure => have := HK1.out; omega
             case rel => exact ⟨(wrap64 (x5_1 + 1)), (by first | rfl | (simp; done) | (simp [*]; done)), H', ⟨by have := HK1.out; omega⟩, by repeat (first | exact Drawn0.refl _ | apply Drawn0.step)⟩
         · rw [if_neg c6] at H
           exact absurd H (by simp)
       · rw [if_neg c5] at H
         exact absurd H (by simp)
     · rw [if_neg c4] at H
       have c4b0 : decide (x5_1 < (l0.length : Int)) = false := decide_eq_false c4
       clear c4
       obtain rfl := Option.some.inj H
       go_wp2
       repeat (go_quiet (fail); try go_wp2)
       go_ret
       exact ⟨by first | rfl | (simp; done) | (simp [*]; done), by repeat (first | exact Drawn0.refl _ | apply Drawn0.step)⟩
 · rw [if_neg c3] at H
   have c3b0 : ((l0.length : Int) == (l1.length : Int)) = false := beq_eq_false_iff_ne.mpr c3
   have c3b1 : ((l0.length : Int) != (l1.length : Int)) = true := bne_iff_ne.mpr c3
   have c3b2 : (l0.length == l1.length) = false := by first | simpa using c3 | (simp at c3 ⊢; omega)
   obtain rfl := Option.some.inj H
   go_enter Tryd.func51, Tryd.ntmps51
   go_wp2
   repeat (go_quiet (fail); try go_wp2)
   go_ret
   exact ⟨by first | rfl | (simp; done) | (simp [*]; done), by repeat (first | exact Drawn0.refl _ | apply Drawn0.step)⟩
/-! ### samphireref11_SameOps: function 52 -/
def samphireref11_SameOps.l0 : Nat → List (S25) → List (S25) → Int → Option (Bool)
 | 0, _, _, _ => none
 | k + 1, x0, x1, x5 => if x5 < (x0.length : Int) then (if 0 ≤ x5 then (if x5 < (x1.length : Int) then (if (!(((rd_T25 x0 x5).f0) == ((rd_T25 x1 x5).f0)) || ((!(((rd_T25 x0 x5).f1.f0) == ((rd_T25 x1 x5).f1.f0)) || (!(((rd_T25 x0 x5).f1.f1) == ((rd_T25 x1 x5).f1.f1)))) || ((!(((rd_T25 x0 x5).f2.f0) == ((rd_T25 x1 x5).f2.f0)) || (!(((rd_T25 x0 x5).f2.f1) == ((rd_T25 x1 x5).f2.f1)))) || ((!(((rd_T25 x0 x5).f3.f0) == ((rd_T25 x1 x5).f3.f0)) || (!(((rd_T25 x0 x5).f3.f1) == ((rd_T25 x1 x5).f3.f1)))) || (!((((rd_T25 x0 x5).f4).toList) == (((rd_T25 x1 x5).f4).toList)) || (!((((rd_T25 x0 x5).f5).toList) == (((rd_T25 x1 x5).f5).toList)))))))) = true then (some false) else (samphireref11_SameOps.l0 k x0 x1 (wrap64 (x5 + 1)))) else (none)) else (none)) else (some true)
def samphireref11_SameOps.f (k : Nat) (l0 : List (S25)) (l1 : List (S25)) : Option (Bool) := if (l0.length : Int) = (l1.length : Int) then (samphireref11_SameOps.l0 k l0 l1 0) else (some false)
set_option maxHeartbeats 8000000 in
set_option maxRecDepth 100000 in
theorem samphireref11_SameOps.calls (k : Nat) (A0 : Option Addr) (c0 : Nat) (l0 : List (S25)) (A1 : Option Addr) (c1 : Nat) (l1 : List (S25)) (r : Bool) (w : World) (hr0 : Kd.C k25 w A0 l0.length l0) (hc0 : l0.length ≤ c0) (hr1 : Kd.C k25 w A1 l1.length l1) (hc1 : l1.length ≤ c1) (h : samphireref11_SameOps.f k l0 l1 = some r) :
 Calls Tryd.prog 52 #[.slice A0 l0.length c0, .slice A1 l1.length c1] w fun e w' => e = .returned (.bool r) ∧ Drawn0 w w' := by
 have hu25 := Tryd.underlying25
 have HR0 := Aside0.mk hr0
 have HC0 := Aside0.mk hc0
 clear hr0 hc0
 have HR1 := Aside0.mk hr1
 have HC1 := Aside0.mk hc1
 clear hr1 hc1
 have H : (if (l0.length : Int) = (l1.length : Int) then (samphireref11_SameOps.l0 k l0 l1 0) else (some false)) = some r := h
 clear h
 by_cases c3 : (l0.length : Int) = (l1.length : Int)
 · rw [if_pos c3] at H
   have c3b0 : ((l0.length : Int) == (l1.length : Int)) = true := beq_iff_eq.mpr c3
   have c3b1 : ((l0.length : Int) != (l1.length : Int)) = false := bne_eq_false_iff_eq.mpr c3
   have c3b2 : (l0.length == l1.length) = true := by first | simpa using c3 | (simp at c3 ⊢; omega)
   clear c3
   have H' := Aside0.mk H
   clear H
   go_enter Tryd.func52, Tryd.ntmps52
   go_wp2
   repeat (go_quiet (fail); try go_wp2)
   go_loopg [5] k (fun kq v5 w' => ∃ (x5_1 : Int), v5 = .int .i64 x5_1 ∧ Aside0 (samphireref11_SameOps.l0 kq l0 l1 x5_1 = some r) ∧ Aside0 (kq ≤ k) ∧ Drawn0 w w')
   case atStart => exact ⟨(0), (by first | rfl | (simp; done) | (simp [*]; done)), H', ⟨Nat.le_refl _⟩, by repeat (first | exact Drawn0.refl _ | apply Drawn0.step)⟩
   case round =>
    clear H'
    try clear c1
    try clear p2
    try clear c3
    try clear c3b0
    try clear c3b1
    try clear c3b2
    obtain ⟨x5_1, rfl, HA, HK1, ⟨m1, rfl⟩⟩ := hrel
    cases gk with
    | zero => exact absurd HA.out (by simp [samphireref11_SameOps.l0])
    | succ k1 =>
     have H := HA.out
     clear HA
     simp only [samphireref11_SameOps.l0] at H
     by_cases c4 : x5_1 < (l0.length : Int)
     · rw [if_pos c4] at H
       have c4b0 : decide (x5_1 < (l0.length : Int)) = true := decide_eq_true c4
       clear c4
       by_cases c5 : 0 ≤ x5_1
       · rw [if_pos c5] at H
         have c5b0 : decide (0 ≤ x5_1) = true := decide_eq_true c5
         clear c5
         by_cases c6 : x5_1 < (l1.length : Int)
         · rw [if_pos c6] at H
           have c6b0 : decide (x5_1 < (l1.length : Int)) = true := decide_eq_true c6
           clear c6
           by_cases c7 : (!(((rd_T25 l0 x5_1).f0) == ((rd_T25 l1 x5_1).f0)) || ((!(((rd_T25 l0 x5_1).f1.f0) == ((rd_T25 l1 x5_1).f1.f0)) || (!(((rd_T25 l0 x5_1).f1.f1) == ((rd_T25 l1 x5_1).f1.f1)))) || ((!(((rd_T25 l0 x5_1).f2.f0) == ((rd_T25 l1 x5_1).f2.f0)) || (!(((rd_T25 l0 x5_1).f2.f1) == ((rd_T25 l1 x5_1).f2.f1)))) || ((!(((rd_T25 l0 x5_1).f3.f0) == ((rd_T25 l1 x5_1).f3.f0)) || (!(((rd_T25 l0 x5_1).f3.f1) == ((rd_T25 l1 x5_1).f3.f1)))) || (!((((rd_T25 l0 x5_1).f4).toList) == (((rd_T25 l1 x5_1).f4).toList)) || (!((((rd_T25 l0 x5_1).f5).toList) == (((rd_T25 l1 x5_1).f5).toList)))))))) = true
           · rw [if_pos c7] at H
             have c7b0 : (!(((rd_T25 l0 x5_1).f0) == ((rd_T25 l1 x5_1).f0)) || ((!(((rd_T25 l0 x5_1).f1.f0) == ((rd_T25 l1 x5_1).f1.f0)) || (!(((rd_T25 l0 x5_1).f1.f1) == ((rd_T25 l1 x5_1).f1.f1)))) || ((!(((rd_T25 l0 x5_1).f2.f0) == ((rd_T25 l1 x5_1).f2.f0)) || (!(((rd_T25 l0 x5_1).f2.f1) == ((rd_T25 l1 x5_1).f2.f1)))) || ((!(((rd_T25 l0 x5_1).f3.f0) == ((rd_T25 l1 x5_1).f3.f0)) || (!(((rd_T25 l0 x5_1).f3.f1) == ((rd_T25 l1 x5_1).f3.f1)))) || (!((((rd_T25 l0 x5_1).f4).toList) == (((rd_T25 l1 x5_1).f4).toList)) || (!((((rd_T25 l0 x5_1).f5).toList) == (((rd_T25 l1 x5_1).f5).toList)))))))) = true := c7
             clear c7
             obtain rfl := Option.some.inj H
             have p247 : 0 ≤ (x5_1 : Int) := of_decide_eq_true (by first | (with_reducible assumption) | assumption)
             have q247 : x5_1 < (l0.length : Int) := of_decide_eq_true (by first | (with_reducible assumption) | assumption)
             obtain ⟨ad247, e247, hx247_0, hx247_1, hx247_2, hx247_3, hx247_4, hx247_5, hx247_6, hx247_7, hx247_8⟩ := at_T25 HR0.out x5_1 p247 q247
             cases e247
             replace p247 := eq_true p247
             replace q247 := eq_true q247
             have p248 : 0 ≤ (x5_1 : Int) := of_decide_eq_true (by first | (with_reducible assumption) | assumption)
             have q248 : x5_1 < (l1.length : Int) := of_decide_eq_true (by first | (with_reducible assumption) | assumption)
             obtain ⟨ad248, e248, hx248_0, hx248_1, hx248_2, hx248_3, hx248_4, hx248_5, hx248_6, hx248_7, hx248_8⟩ := at_T25 HR1.out x5_1 p248 q248
             cases e248
             replace p248 := eq_true p248
             replace q248 := eq_true q248
             go_wp2
             repeat (go_quiet (fail); try go_wp2)
             go_ret
             exact ⟨by first | rfl | (simp; done) | (simp [*]; done), by repeat (first | exact Drawn0.refl _ | apply Drawn0.step)⟩
           · rw [if_neg c7] at H
             have c7b0 : (!(((rd_T25 l0 x5_1).f0) == ((rd_T25 l1 x5_1).f0)) || ((!(((rd_T25 l0 x5_1).f1.f0) == ((rd_T25 l1 x5_1).f1.f0)) || (!(((rd_T25 l0 x5_1).f1.f1) == ((rd_T25 l1 x5_1).f1.f1)))) || ((!(((rd_T25 l0 x5_1).f2.f0) == ((rd_T25 l1 x5_1).f2.f0)) || (!(((rd_T25 l0 x5_1).f2.f1) == ((rd_T25 l1 x5_1).f2.f1)))) || ((!(((rd_T25 l0 x5_1).f3.f0) == ((rd_T25 l1 x5_1).f3.f0)) || (!(((rd_T25 l0 x5_1).f3.f1) == ((rd_T25 l1 x5_1).f3.f1)))) || (!((((rd_T25 l0 x5_1).f4).toList) == (((rd_T25 l1 x5_1).f4).toList)) || (!((((rd_T25 l0 x5_1).f5).toList) == (((rd_T25 l1 x5_1).f5).toList)))))))) = false := by simpa using c7
             clear c7
             have H' := Aside0.mk H
             clear H
             have p247 : 0 ≤ (x5_1 : Int) := of_decide_eq_true (by first | (with_reducible assumption) | assumption)
             have q247 : x5_1 < (l0.length : Int) := of_decide_eq_true (by first | (with_reducible assumption) | assumption)
             obtain ⟨ad247, e247, hx247_0, hx247_1, hx247_2, hx247_3, hx247_4, hx247_5, hx247_6, hx247_7, hx247_8⟩ := at_T25 HR0.out x5_1 p247 q247
             cases e247
             replace p247 := eq_true p247
             replace q247 := eq_true q247
             have p248 : 0 ≤ (x5_1 : Int) := of_decide_eq_true (by first | (with_reducible assumption) | assumption)
             have q248 : x5_1 < (l1.length : Int) := of_decide_eq_true (by first | (with_reducible assumption) | assumption)
             obtain ⟨ad248, e248, hx248_0, hx248_1, hx248_2, hx248_3, hx248_4, hx248_5, hx248_6, hx248_7, hx248_8⟩ := at_T25 HR1.out x5_1 p248 q248
             cases e248
             replace p248 := eq_true p248
             replace q248 := eq_true q248
             go_wp2
             repeat (go_quiet (fail); try go_wp2)
             go_roundg k1
             case measure => have := HK1.out; omega
             case rel => exact ⟨(wrap64 (x5_1 + 1)), (by first | rfl | (simp; done) | (simp [*]; done)), H', ⟨by have := HK1.out; omega⟩, by repeat (first | exact Drawn0.refl _ | apply Drawn0.step)⟩
         · rw [if_neg c6] at H
           exact absurd H (by simp)
       · rw [if_neg c5] at H
         exact absurd H (by simp)
     · rw [if_neg c4] at H
       have c4b0 : decide (x5_1 < (l0.length : Int)) = false := decide_eq_false c4
       clear c4
       obtain rfl := Option.some.inj H
       go_wp2
       repeat (go_quiet (fail); try go_wp2)
       go_ret
       exact ⟨by first | rfl | (simp; done) | (simp [*]; done), by repeat (first | exact Drawn0.refl _ | apply Drawn0.step)⟩
 · rw [if_neg c3] at H
   have c3b0 : ((l0.length : Int) == (l1.length : Int)) = false := beq_eq_false_iff_ne.mpr c3
   have c3b1 : ((l0.length : Int) != (l1.length : Int)) = true := bne_iff_ne.mpr c3
   have c3b2 : (l0.length == l1.length) = false := by first | simpa using c3 | (simp at c3 ⊢; omega)
   obtain rfl := Option.some.inj H
   go_enter Tryd.func52, Tryd.ntmps52
   go_wp2
   repeat (go_quiet (fail); try go_wp2)
   go_ret
   exact ⟨by first | rfl | (simp; done) | (simp [*]; done), by repeat (first | exact Drawn0.refl _ | apply Drawn0.step)⟩
end Go.Proofs.YtlfgdaiegefjiaaDoor.S
