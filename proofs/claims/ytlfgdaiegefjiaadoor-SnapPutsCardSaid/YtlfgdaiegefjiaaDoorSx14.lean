/- Functions of the translation as plain Lean functions, and that each call comes to what they say: for every argument. Written by a program of this session's own; Lean checks it. -/
import Derived.Test.YtlfgdaiegefjiaaDoorQc
import Derived.Test.YtlfgdaiegefjiaaDoorSA
import Derived.Test.YtlfgdaiegefjiaaDoorQa
import Derived.Test.YtlfgdaiegefjiaaDoorSx4
import Derived.Test.YtlfgdaiegefjiaaDoorNc
namespace Go.Proofs.YtlfgdaiegefjiaaDoor.S
open Go.RowKit Go.Proofs.YtlfgdaiegefjiaaDoorW.PrintWords Go.Proofs.YtlfgdaiegefjiaaDoorW.PrintLast
set_option linter.unusedVariables false
set_option linter.unusedSimpArgs false
attribute [local go_sem high] eqA23 eqA25
/-! ### tree_Check: function 22 -/
mutual
def tree_Check.j0 : Nat → Bool → Int → Int → Int → Int → Int → Int → Int → ByteArray → ByteArray → Option (Int)
 | 0, _, _, _, _, _, _, _, _, _, _ => none
 | k + 1, x3, x117000, x117001, x117002, x117003, x117004, x117005, x117006, x117007, x117008 => if x117000 = 1 then (if x3 = true then (if (x117003 == x117001 && (x117004 == x117002)) = true then ((name_Check.f x117007).bind fun t120 => (tree_Check.j1 k (t120 == 0) x117000 x117001 x117002 x117003 x117004 x117005 x117006 x117007 x117008 0 0 0 0 0 x117005 x117006 (⟨#[]⟩ : ByteArray) x117008)) else (tree_Check.j1 k false x117000 x117001 x117002 x117003 x117004 x117005 x117006 x117007 x117008 0 0 0 0 0 x117005 x117006 (⟨#[]⟩ : ByteArray) x117008)) else (tree_Check.j1 k false x117000 x117001 x117002 x117003 x117004 x117005 x117006 x117007 x117008 0 0 0 0 0 x117005 x117006 (⟨#[]⟩ : ByteArray) x117008)) else (if x117000 = 3 then (if x3 = true then ((name_Check.f x117007).bind fun t121 => (tree_Check.j1 k (t121 == 0) x117000 x117001 x117002 x117003 x117004 x117005 x117006 x117007 x117008 0 0 0 0 0 x117005 x117006 (⟨#[]⟩ : ByteArray) x117008)) else (tree_Check.j1 k false x117000 x117001 x117002 x117003 x117004 x117005 x117006 x117007 x117008 0 0 0 0 0 x117005 x117006 (⟨#[]⟩ : ByteArray) x117008)) else (if x117000 = 4 then (if x3 = true then (tree_Check.j1 k (decide ((x117008.size : Int) ≤ 64)) x117000 x117001 x117002 x117003 x117004 x117005 x117006 x117007 x117008 0 0 0 0 0 x117005 x117006 x117007 (⟨#[]⟩ : ByteArray)) else (tree_Check.j1 k false x117000 x117001 x117002 x117003 x117004 x117005 x117006 x117007 x117008 0 0 0 0 0 x117005 x117006 x117007 (⟨#[]⟩ : ByteArray))) else (if x117000 = 2 then (tree_Check.j1 k x3 x117000 x117001 x117002 x117003 x117004 x117005 x117006 x117007 x117008 0 0 0 0 0 x117005 x117006 x117007 x117008) else (if x117000 = 5 then (tree_Check.j1 k x3 x117000 x117001 x117002 x117003 x117004 x117005 x117006 x117007 x117008 0 0 0 0 0 x117005 x117006 x117007 x117008) else (tree_Check.j1 k false x117000 x117001 x117002 x117003 x117004 x117005 x117006 x117007 x117008 0 0 0 0 0 x117005 x117006 x117007 x117008)))))
def tree_Check.j1 : Nat → Bool → Int → Int → Int → Int → Int → Int → Int → ByteArray → ByteArray → Int → Int → Int → Int → Int → Int → Int → ByteArray → ByteArray → Option (Int)
 | 0, _, _, _, _, _, _, _, _, _, _, _, _, _, _, _, _, _, _, _ => none
 | k + 1, x3, x117000, x117001, x117002, x117003, x117004, x117005, x117006, x117007, x117008, x120000, x120001, x120002, x120003, x120004, x120005, x120006, x120007, x120008 => if x117000 = 1 then (tree_Check.j2 k x3 true x117000 x117001 x117002 x117003 x117004 x117005 x117006 x117007 x117008 x120000 x120001 x120002 x120003 x120004 x120005 x120006 x120007 x120008) else (tree_Check.j2 k x3 (x117000 == 2) x117000 x117001 x117002 x117003 x117004 x117005 x117006 x117007 x117008 x120000 x120001 x120002 x120003 x120004 x120005 x120006 x120007 x120008)
def tree_Check.j2 : Nat → Bool → Bool → Int → Int → Int → Int → Int → Int → Int → ByteArray → ByteArray → Int → Int → Int → Int → Int → Int → Int → ByteArray → ByteArray → Option (Int)
 | 0, _, _, _, _, _, _, _, _, _, _, _, _, _, _, _, _, _, _, _, _ => none
 | k + 1, x3, x68, x117000, x117001, x117002, x117003, x117004, x117005, x117006, x117007, x117008, x120000, x120001, x120002, x120003, x120004, x120005, x120006, x120007, x120008 => if x68 = true then (if x3 = true then ((tree_outer.f x117005 x117006).bind fun t122 => (if t122 = true then (if (!(x120000 == 0) || ((!(x120001 == 0) || (!(x120002 == 0))) || ((!(x120003 == 0) || (!(x120004 == 0))) || (!(x120007.toList == ([] : List UInt8)) || (!(x120008.toList == ([] : List UInt8))))))) = true then (some 1) else (some 0)) else ((tree_fine.f x117005 x117006).bind fun t123 => (if t123 = true then (if (!(x120000 == 0) || ((!(x120001 == 0) || (!(x120002 == 0))) || ((!(x120003 == 0) || (!(x120004 == 0))) || (!(x120007.toList == ([] : List UInt8)) || (!(x120008.toList == ([] : List UInt8))))))) = true then (some 1) else (some 0)) else (some 1))))) else (some 1)) else (if x3 = true then (if (!(x120000 == 0) || ((!(x120001 == 0) || (!(x120002 == 0))) || ((!(x120003 == 0) || (!(x120004 == 0))) || ((!(x120005 == 0) || (!(x120006 == 0))) || (!(x120007.toList == ([] : List UInt8)) || (!(x120008.toList == ([] : List UInt8)))))))) = true then (some 1) else (some 0)) else (some 1))
end
def tree_Check.f (k : Nat) (a0_0 : Int) (a0_1 : Int) (a0_2 : Int) (a0_3 : Int) (a0_4 : Int) (a0_5 : Int) (a0_6 : Int) (a0_7 : ByteArray) (a0_8 : ByteArray) : Option (Int) := (tree_fine.f a0_1 a0_2).bind fun t117 => (if t117 = true then ((tree_fine.f a0_3 a0_4).bind fun t118 => (tree_Check.j0 k t118 a0_0 a0_1 a0_2 a0_3 a0_4 a0_5 a0_6 a0_7 a0_8)) else (tree_Check.j0 k false a0_0 a0_1 a0_2 a0_3 a0_4 a0_5 a0_6 a0_7 a0_8))
set_option maxHeartbeats 8000000 in
set_option maxRecDepth 100000 in
theorem tree_Check.calls (k : Nat) (a0_0 : Int) (a0_1 : Int) (a0_2 : Int) (a0_3 : Int) (a0_4 : Int) (a0_5 : Int) (a0_6 : Int) (a0_7 : ByteArray) (a0_8 : ByteArray) (r : Int) (w : World) (h : tree_Check.f k a0_0 a0_1 a0_2 a0_3 a0_4 a0_5 a0_6 a0_7 a0_8 = some r) (hL : Laid w) :
 Calls Tryd.prog 22 #[.agg #[.int .i64 a0_0, .int .i64 a0_1, .int .i64 a0_2, .int .i64 a0_3, .int .i64 a0_4, .int .i64 a0_5, .int .i64 a0_6, .string a0_7, .string a0_8]] w fun e w' => e = .returned (.int .i64 r) ∧ Below w.heap.size w w' := by
 have hu25 := Tryd.underlying25
 have hu23 := Tryd.underlying23
 have HB := Aside0.mk (Below.refl w.heap.size w)
 have H : ((tree_fine.f a0_1 a0_2).bind fun t117 => (if t117 = true then ((tree_fine.f a0_3 a0_4).bind fun t118 => (tree_Check.j0 k t118 a0_0 a0_1 a0_2 a0_3 a0_4 a0_5 a0_6 a0_7 a0_8)) else (tree_Check.j0 k false a0_0 a0_1 a0_2 a0_3 a0_4 a0_5 a0_6 a0_7 a0_8))) = some r := h
 clear h
 have HC2 := Aside0.mk H
 clear H
 go_enter Tryd.func22, Tryd.ntmps22
 go_upto_region 1 with (first | ((with_reducible refine gate_dst (N := 1) rfl ?_); (try (refine gate_guard (by rfl) ?_; dsimp only)); refine boxQ (N := 1) (cs := #[.int .i64 a0_0, .int .i64 a0_1, .int .i64 a0_2, .int .i64 a0_3, .int .i64 a0_4, .int .i64 a0_5, .int .i64 a0_6, .string a0_7, .string a0_8]) (t := 25) ?_; intro gb116 hg w3 hbox hb; have BK116 := Aside0.mk hbox; have GW116 := Qt w hg; have GE116 := GW116; replace HB := Qy hb; clear hb hbox hg))
 (try simp only [Act.put, List.setIfInBounds_toArray, List.set_cons_zero, List.set_cons_succ])
 go_cut [3] (fun v3 wc => ∃ (kq : Nat) (x3_1 : Bool), v3 = .bool x3_1 ∧ Aside0 (tree_Check.j0 kq x3_1 a0_0 a0_1 a0_2 a0_3 a0_4 a0_5 a0_6 a0_7 a0_8 = some r) ∧ Aside0 (kq ≤ k) ∧ Aside0 (wc.heap[gb116]? = some (.cells #[.int .i64 a0_0, .int .i64 a0_1, .int .i64 a0_2, .int .i64 a0_3, .int .i64 a0_4, .int .i64 a0_5, .int .i64 a0_6, .string a0_7, .string a0_8] 25 (0, 0))) ∧ Aside0 (Below w.heap.size w wc))
 case first =>
  have H := HC2.out
  clear HC2
  replace H := Option.bind_eq_some_iff.mp H
  obtain ⟨t117, A40, H⟩ := H
  replace H : (if t117 = true then ((tree_fine.f a0_3 a0_4).bind fun t118 => (tree_Check.j0 k t118 a0_0 a0_1 a0_2 a0_3 a0_4 a0_5 a0_6 a0_7 a0_8)) else (tree_Check.j0 k false a0_0 a0_1 a0_2 a0_3 a0_4 a0_5 a0_6 a0_7 a0_8)) = some r := H
  have A4 := Aside0.mk A40
  clear A40
  by_cases c5 : t117 = true
  · subst c5
    have H1 : ((tree_fine.f a0_3 a0_4).bind fun t118 => (tree_Check.j0 k t118 a0_0 a0_1 a0_2 a0_3 a0_4 a0_5 a0_6 a0_7 a0_8)) = some r := by rw [if_pos rfl] at H; exact H
    clear H
    have H := H1
    clear H1
    replace H := Option.bind_eq_some_iff.mp H
    obtain ⟨t118, A60, H⟩ := H
    replace H : (tree_Check.j0 k t118 a0_0 a0_1 a0_2 a0_3 a0_4 a0_5 a0_6 a0_7 a0_8) = some r := H
    have A6 := Aside0.mk A60
    clear A60
    have H' := Aside0.mk H
    clear H
    obtain ⟨y7_0, y7_1, y7_2, y7_3, y7_4, y7_5, y7_6, y7_7, y7_8, v7_0, v7_1, v7_2, v7_3, v7_4, v7_5, v7_6, v7_7, v7_8⟩ := Z9 BK116.out
    go_wp2_with (first | ((with_reducible refine gate_callee (f := 59) rfl ?_); refine gL 7 Tryd.func59 #[.agg #[.int .i64 a0_1, .int .i64 a0_2]] ?_; (with_reducible refine (tree_fine.calls a0_1 a0_2 true _ A4.out).mono ?_); rintro e w8 ⟨rfl, hb⟩; refine ⟨_, rfl, ?_⟩; replace BK116 := Qv BK116 hb; replace HB := Qy hb; (try clear hb); (try clear hb2); (try clear hk); (try clear hi); obtain ⟨y9_0, y9_1, y9_2, y9_3, y9_4, y9_5, y9_6, y9_7, y9_8, v9_0, v9_1, v9_2, v9_3, v9_4, v9_5, v9_6, v9_7, v9_8⟩ := Z9 BK116.out) | (go_at_call 59; (with_reducible refine (tree_fine.calls a0_3 a0_4 t118 _ A6.out).mono ?_); rintro e w10 ⟨rfl, hb⟩; replace BK116 := Qv BK116 hb; replace HB := Qy hb; (try clear hb); (try clear hb2); (try clear hk); (try clear hi)))
    go_meet
    case rel => exact ⟨_, (t118), (by first | rfl | (simp; done) | (simp [*]; done)), H', ⟨by first | omega | exact Nat.le_refl _⟩, ⟨Qk⟩, ⟨Qh⟩⟩
  · replace c5 := Bool.eq_false_iff.mpr c5
    subst c5
    have H1 : (tree_Check.j0 k false a0_0 a0_1 a0_2 a0_3 a0_4 a0_5 a0_6 a0_7 a0_8) = some r := by rw [if_neg (show ¬ (false = true) by decide)] at H; exact H
    clear H
    have H := H1
    clear H1
    have H' := Aside0.mk H
    clear H
    obtain ⟨y11_0, y11_1, y11_2, y11_3, y11_4, y11_5, y11_6, y11_7, y11_8, v11_0, v11_1, v11_2, v11_3, v11_4, v11_5, v11_6, v11_7, v11_8⟩ := Z9 BK116.out
    go_wp2_with (first | ((with_reducible refine gate_callee (f := 59) rfl ?_); refine gL 7 Tryd.func59 #[.agg #[.int .i64 a0_1, .int .i64 a0_2]] ?_; (with_reducible refine (tree_fine.calls a0_1 a0_2 false _ A4.out).mono ?_); rintro e w12 ⟨rfl, hb⟩; refine ⟨_, rfl, ?_⟩; replace BK116 := Qv BK116 hb; replace HB := Qy hb; (try clear hb); (try clear hb2); (try clear hk); (try clear hi)))
    go_meet
    case rel => exact ⟨_, (false), (by first | rfl | (simp; done) | (simp [*]; done)), H', ⟨by first | omega | exact Nat.le_refl _⟩, ⟨Qk⟩, ⟨Qh⟩⟩
 case rest =>
  clear HC2
  try clear c2
  try clear p2
  try clear c5
  try clear y11_0 y11_1 y11_2 y11_3 y11_4 y11_5 y11_6 y11_7 y11_8
  try clear y7_0 y7_1 y7_2 y7_3 y7_4 y7_5 y7_6 y7_7 y7_8
  try clear y9_0 y9_1 y9_2 y9_3 y9_4 y9_5 y9_6 y9_7 y9_8
  try clear v11_0 v11_1 v11_2 v11_3 v11_4 v11_5 v11_6 v11_7 v11_8
  try clear v7_0 v7_1 v7_2 v7_3 v7_4 v7_5 v7_6 v7_7 v7_8
  try clear v9_0 v9_1 v9_2 v9_3 v9_4 v9_5 v9_6 v9_7 v9_8
  obtain ⟨kq, x3_1, rfl, HA, HJ1, BK116, HB⟩ := hcut
  cases kq with
  | zero => exact absurd HA.out (by simp [tree_Check.j0])
  | succ kj1 =>
   have H := HA.out
   clear HA
   simp only [tree_Check.j0] at H
   have HC13 := Aside0.mk H
   clear H
   obtain ⟨y14_0, y14_1, y14_2, y14_3, y14_4, y14_5, y14_6, y14_7, y14_8, v14_0, v14_1, v14_2, v14_3, v14_4, v14_5, v14_6, v14_7, v14_8⟩ := Z9 BK116.out
   go_upto_block 0 with (first | ((with_reducible refine gate_dst (N := 4) rfl ?_); (try (refine gate_guard (by rfl) ?_; dsimp only)); refine boxQ (N := 4) (cs := #[.int .i64 0, .int .i64 0, .int .i64 0, .int .i64 0, .int .i64 0, .int .i64 0, .int .i64 0, .string (⟨#[]⟩ : ByteArray), .string (⟨#[]⟩ : ByteArray)]) (t := 25) ?_; intro gb119 hg w15 hbox hb; have BK119 := Aside0.mk hbox; have GW119 := Qt w hg; have GE119 := GW119; have NB116_119 := Qo hg BK116; have NB119_116 := Qp hg BK116; replace BK116 := Qv BK116 hb; replace HB := Qy hb; clear hb hbox hg; have hnb16 := NB119_116.out; have hnc16 := NB116_119.out; obtain ⟨y17_0, y17_1, y17_2, y17_3, y17_4, y17_5, y17_6, y17_7, y17_8, v17_0, v17_1, v17_2, v17_3, v17_4, v17_5, v17_6, v17_7, v17_8⟩ := Z9 BK119.out; obtain ⟨y18_0, y18_1, y18_2, y18_3, y18_4, y18_5, y18_6, y18_7, y18_8, v18_0, v18_1, v18_2, v18_3, v18_4, v18_5, v18_6, v18_7, v18_8⟩ := Z9 BK116.out))
   (try simp only [Act.put, List.setIfInBounds_toArray, List.set_cons_zero, List.set_cons_succ])
   go_cut [3] (fun v3 wc => ∃ (kq : Nat) (x3_12 : Bool) (x120007_12 : ByteArray) (x120008_12 : ByteArray), v3 = .bool x3_12 ∧ Aside0 (tree_Check.j1 kq x3_12 a0_0 a0_1 a0_2 a0_3 a0_4 a0_5 a0_6 a0_7 a0_8 0 0 0 0 0 a0_5 a0_6 x120007_12 x120008_12 = some r) ∧ Aside0 (kq ≤ kj1) ∧ Aside0 (wc.heap[gb116]? = some (.cells #[.int .i64 a0_0, .int .i64 a0_1, .int .i64 a0_2, .int .i64 a0_3, .int .i64 a0_4, .int .i64 a0_5, .int .i64 a0_6, .string a0_7, .string a0_8] 25 (0, 0))) ∧ Aside0 (wc.heap[gb119]? = some (.cells #[.int .i64 0, .int .i64 0, .int .i64 0, .int .i64 0, .int .i64 0, .int .i64 a0_5, .int .i64 a0_6, .string x120007_12, .string x120008_12] 25 (0, 0))) ∧ Aside0 (Below w.heap.size w wc))
   case first =>
    have H := HC13.out
    clear HC13
    by_cases c19 : a0_0 = 1
    · rw [if_pos c19] at H
      have c19b0 : (a0_0 == 1) = true := beq_iff_eq.mpr c19
      have c19b1 : (a0_0 != 1) = false := bne_eq_false_iff_eq.mpr c19
      clear c19
      (first | rw [c19b0] | (simp only [i64_w, i32_w]; rw [c19b0]) | skip)
      by_cases c20 : x3_1 = true
      · subst c20
        have H1 : (if (a0_3 == a0_1 && (a0_4 == a0_2)) = true then ((name_Check.f a0_7).bind fun t120 => (tree_Check.j1 kj1 (t120 == 0) a0_0 a0_1 a0_2 a0_3 a0_4 a0_5 a0_6 a0_7 a0_8 0 0 0 0 0 a0_5 a0_6 (⟨#[]⟩ : ByteArray) a0_8)) else (tree_Check.j1 kj1 false a0_0 a0_1 a0_2 a0_3 a0_4 a0_5 a0_6 a0_7 a0_8 0 0 0 0 0 a0_5 a0_6 (⟨#[]⟩ : ByteArray) a0_8)) = some r := by rw [if_pos rfl] at H; exact H
        clear H
        have H := H1
        clear H1
        by_cases c21 : (a0_3 == a0_1 && (a0_4 == a0_2)) = true
        · rw [if_pos c21] at H
          have c21b0 : (a0_3 == a0_1 && (a0_4 == a0_2)) = true := c21
          (try (have c21b1 : decide (a0_3 = a0_1 && (a0_4 == a0_2)) = true := by simpa using c21))
          (try (have c21b2 : (a0_3 == a0_1 && (a0_4 == a0_2)) = true := by simpa using c21))
          clear c21
          replace H := Option.bind_eq_some_iff.mp H
          obtain ⟨t120, A220, H⟩ := H
          replace H : (tree_Check.j1 kj1 (t120 == 0) a0_0 a0_1 a0_2 a0_3 a0_4 a0_5 a0_6 a0_7 a0_8 0 0 0 0 0 a0_5 a0_6 (⟨#[]⟩ : ByteArray) a0_8) = some r := H
          have A22 := Aside0.mk A220
          clear A220
          have H' := Aside0.mk H
          clear H
          have hnb23 := NB116_119.out
          have hnc23 := NB119_116.out
          obtain ⟨y24_0, y24_1, y24_2, y24_3, y24_4, y24_5, y24_6, y24_7, y24_8, v24_0, v24_1, v24_2, v24_3, v24_4, v24_5, v24_6, v24_7, v24_8⟩ := Z9 BK116.out
          go_wp2_with (first | (go_at_call 60; (with_reducible refine (name_Check.calls a0_7 t120 _ A22.out (by first | assumption | exact Laid.below (by assumption) (by repeat (first | (with_reducible first | exact Aside0.out (by assumption) | apply below_alloc | apply pw_below_drewN | apply below_drew1 | refine below_set ?_ (Aside0.out (by assumption))) | exact Aside0.out (by assumption))))).mono ?_); rintro e w25 ⟨rfl, hb⟩; replace BK116 := Aside0.mk (blk_below (g := gb116) (o := .cells #[.int .i64 a0_0, .int .i64 a0_1, .int .i64 a0_2, .int .i64 a0_3, .int .i64 a0_4, .int .i64 a0_5, .int .i64 a0_6, .string a0_7, .string a0_8] 25 (0, 0)) Qk hb); replace BK119 := Aside0.mk (blk_below (g := gb119) (o := .cells #[.int .i64 0, .int .i64 0, .int .i64 0, .int .i64 0, .int .i64 0, .int .i64 a0_5, .int .i64 a0_6, .string a0_7, .string a0_8] 25 (0, 0)) Qk hb); replace HB := Qy hb; (try clear hb); (try clear hb2); (try clear hk); (try clear hi); obtain ⟨y26_0, y26_1, y26_2, y26_3, y26_4, y26_5, y26_6, y26_7, y26_8, v26_0, v26_1, v26_2, v26_3, v26_4, v26_5, v26_6, v26_7, v26_8⟩ := Z9 BK119.out))
          go_meet
          case rel => exact ⟨_, ((t120 == 0)), ((⟨#[]⟩ : ByteArray)), (a0_8), (by first | rfl | (simp; done) | (simp [*]; done)), H', ⟨by have := HJ1.out; first | omega | exact Nat.le_refl _⟩, ⟨Qk⟩, ⟨Qk⟩, ⟨Qh⟩⟩
        · rw [if_neg c21] at H
          have c21b0 : (a0_3 == a0_1 && (a0_4 == a0_2)) = false := by simpa using c21
          (try (have c21b1 : decide (a0_3 = a0_1 && (a0_4 == a0_2)) = false := by simpa using c21))
          (try (have c21b2 : (a0_3 == a0_1 && (a0_4 == a0_2)) = false := by simpa using c21))
          (try (have c21b3 : ¬ (a0_3 = a0_1 && (a0_4 == a0_2)) := by simpa using c21))
          clear c21
          have H' := Aside0.mk H
          clear H
          have hnb27 := NB116_119.out
          have hnc27 := NB119_116.out
          obtain ⟨y28_0, y28_1, y28_2, y28_3, y28_4, y28_5, y28_6, y28_7, y28_8, v28_0, v28_1, v28_2, v28_3, v28_4, v28_5, v28_6, v28_7, v28_8⟩ := Z9 BK116.out
          obtain ⟨y29_0, y29_1, y29_2, y29_3, y29_4, y29_5, y29_6, y29_7, y29_8, v29_0, v29_1, v29_2, v29_3, v29_4, v29_5, v29_6, v29_7, v29_8⟩ := Z9 BK119.out
          go_wp2
          go_meet
          case rel => exact ⟨_, (false), ((⟨#[]⟩ : ByteArray)), (a0_8), (by first | rfl | (simp; done) | (simp [*]; done)), H', ⟨by have := HJ1.out; first | omega | exact Nat.le_refl _⟩, ⟨Qk⟩, ⟨Qk⟩, ⟨Qh⟩⟩
      · replace c20 := Bool.eq_false_iff.mpr c20
        subst c20
        have H1 : (tree_Check.j1 kj1 false a0_0 a0_1 a0_2 a0_3 a0_4 a0_5 a0_6 a0_7 a0_8 0 0 0 0 0 a0_5 a0_6 (⟨#[]⟩ : ByteArray) a0_8) = some r := by rw [if_neg (show ¬ (false = true) by decide)] at H; exact H
        clear H
        have H := H1
        clear H1
        have H' := Aside0.mk H
        clear H
        have hnb30 := NB119_116.out
        have hnc30 := NB116_119.out
        obtain ⟨y31_0, y31_1, y31_2, y31_3, y31_4, y31_5, y31_6, y31_7, y31_8, v31_0, v31_1, v31_2, v31_3, v31_4, v31_5, v31_6, v31_7, v31_8⟩ := Z9 BK119.out
        go_wp2
        go_meet
        case rel => exact ⟨_, (false), ((⟨#[]⟩ : ByteArray)), (a0_8), (by first | rfl | (simp; done) | (simp [*]; done)), H', ⟨by have := HJ1.out; first | omega | exact Nat.le_refl _⟩, ⟨Qk⟩, ⟨Qk⟩, ⟨Qh⟩⟩
    · rw [if_neg c19] at H
      have c19b0 : (a0_0 == 1) = false := beq_eq_false_iff_ne.mpr c19
      have c19b1 : (a0_0 != 1) = true := bne_iff_ne.mpr c19
      (first | rw [c19b0] | (simp only [i64_w, i32_w]; rw [c19b0]) | skip)
      by_cases c32 : a0_0 = 3
      · rw [if_pos c32] at H
        have c32b0 : (a0_0 == 3) = true := beq_iff_eq.mpr c32
        have c32b1 : (a0_0 != 3) = false := bne_eq_false_iff_eq.mpr c32
        clear c32
        by_cases c33 : x3_1 = true
        · subst c33
          have H1 : ((name_Check.f a0_7).bind fun t121 => (tree_Check.j1 kj1 (t121 == 0) a0_0 a0_1 a0_2 a0_3 a0_4 a0_5 a0_6 a0_7 a0_8 0 0 0 0 0 a0_5 a0_6 (⟨#[]⟩ : ByteArray) a0_8)) = some r := by rw [if_pos rfl] at H; exact H
          clear H
          have H := H1
          clear H1
          replace H := Option.bind_eq_some_iff.mp H
          obtain ⟨t121, A340, H⟩ := H
          replace H : (tree_Check.j1 kj1 (t121 == 0) a0_0 a0_1 a0_2 a0_3 a0_4 a0_5 a0_6 a0_7 a0_8 0 0 0 0 0 a0_5 a0_6 (⟨#[]⟩ : ByteArray) a0_8) = some r := H
          have A34 := Aside0.mk A340
          clear A340
          have H' := Aside0.mk H
          clear H
          have hnb35 := NB116_119.out
          have hnc35 := NB119_116.out
          obtain ⟨y36_0, y36_1, y36_2, y36_3, y36_4, y36_5, y36_6, y36_7, y36_8, v36_0, v36_1, v36_2, v36_3, v36_4, v36_5, v36_6, v36_7, v36_8⟩ := Z9 BK116.out
          go_wp2_with (first | (go_at_call 60; (with_reducible refine (name_Check.calls a0_7 t121 _ A34.out (by first | assumption | exact Laid.below (by assumption) (by repeat (first | (with_reducible first | exact Aside0.out (by assumption) | apply below_alloc | apply pw_below_drewN | apply below_drew1 | refine below_set ?_ (Aside0.out (by assumption))) | exact Aside0.out (by assumption))))).mono ?_); rintro e w37 ⟨rfl, hb⟩; replace BK116 := Aside0.mk (blk_below (g := gb116) (o := .cells #[.int .i64 a0_0, .int .i64 a0_1, .int .i64 a0_2, .int .i64 a0_3, .int .i64 a0_4, .int .i64 a0_5, .int .i64 a0_6, .string a0_7, .string a0_8] 25 (0, 0)) Qk hb); replace BK119 := Aside0.mk (blk_below (g := gb119) (o := .cells #[.int .i64 0, .int .i64 0, .int .i64 0, .int .i64 0, .int .i64 0, .int .i64 a0_5, .int .i64 a0_6, .string a0_7, .string a0_8] 25 (0, 0)) Qk hb); replace HB := Qy hb; (try clear hb); (try clear hb2); (try clear hk); (try clear hi); obtain ⟨y38_0, y38_1, y38_2, y38_3, y38_4, y38_5, y38_6, y38_7, y38_8, v38_0, v38_1, v38_2, v38_3, v38_4, v38_5, v38_6, v38_7, v38_8⟩ := Z9 BK119.out))
          go_meet
          case rel => exact ⟨_, ((t121 == 0)), ((⟨#[]⟩ : ByteArray)), (a0_8), (by first | rfl | (simp; done) | (simp [*]; done)), H', ⟨by have := HJ1.out; first | omega | exact Nat.le_refl _⟩, ⟨Qk⟩, ⟨Qk⟩, ⟨Qh⟩⟩
        · replace c33 := Bool.eq_false_iff.mpr c33
          subst c33
          have H1 : (tree_Check.j1 kj1 false a0_0 a0_1 a0_2 a0_3 a0_4 a0_5 a0_6 a0_7 a0_8 0 0 0 0 0 a0_5 a0_6 (⟨#[]⟩ : ByteArray) a0_8) = some r := by rw [if_neg (show ¬ (false = true) by decide)] at H; exact H
          clear H
          have H := H1
          clear H1
          have H' := Aside0.mk H
          clear H
          have hnb39 := NB119_116.out
          have hnc39 := NB116_119.out
          obtain ⟨y40_0, y40_1, y40_2, y40_3, y40_4, y40_5, y40_6, y40_7, y40_8, v40_0, v40_1, v40_2, v40_3, v40_4, v40_5, v40_6, v40_7, v40_8⟩ := Z9 BK119.out
          go_wp2
          go_meet
          case rel => exact ⟨_, (false), ((⟨#[]⟩ : ByteArray)), (a0_8), (by first | rfl | (simp; done) | (simp [*]; done)), H', ⟨by have := HJ1.out; first | omega | exact Nat.le_refl _⟩, ⟨Qk⟩, ⟨Qk⟩, ⟨Qh⟩⟩
      · rw [if_neg c32] at H
        have c32b0 : (a0_0 == 3) = false := beq_eq_false_iff_ne.mpr c32
        have c32b1 : (a0_0 != 3) = true := bne_iff_ne.mpr c32
        by_cases c41 : a0_0 = 4
        · rw [if_pos c41] at H
          have c41b0 : (a0_0 == 4) = true := beq_iff_eq.mpr c41
          have c41b1 : (a0_0 != 4) = false := bne_eq_false_iff_eq.mpr c41
          clear c41
          by_cases c42 : x3_1 = true
          · subst c42
            have H1 : (tree_Check.j1 kj1 (decide ((a0_8.size : Int) ≤ 64)) a0_0 a0_1 a0_2 a0_3 a0_4 a0_5 a0_6 a0_7 a0_8 0 0 0 0 0 a0_5 a0_6 a0_7 (⟨#[]⟩ : ByteArray)) = some r := by rw [if_pos rfl] at H; exact H
            clear H
            have H := H1
            clear H1
            have H' := Aside0.mk H
            clear H
            have hnb43 := NB116_119.out
            have hnc43 := NB119_116.out
            obtain ⟨y44_0, y44_1, y44_2, y44_3, y44_4, y44_5, y44_6, y44_7, y44_8, v44_0, v44_1, v44_2, v44_3, v44_4, v44_5, v44_6, v44_7, v44_8⟩ := Z9 BK116.out
            obtain ⟨y45_0, y45_1, y45_2, y45_3, y45_4, y45_5, y45_6, y45_7, y45_8, v45_0, v45_1, v45_2, v45_3, v45_4, v45_5, v45_6, v45_7, v45_8⟩ := Z9 BK119.out
            go_wp2
            go_meet
            case rel => exact ⟨_, (decide ((a0_8.size : Int) ≤ 64)), (a0_7), ((⟨#[]⟩ : ByteArray)), (by first | rfl | (simp; done) | (simp [*]; done)), H', ⟨by have := HJ1.out; first | omega | exact Nat.le_refl _⟩, ⟨Qk⟩, ⟨Qk⟩, ⟨Qh⟩⟩
          · replace c42 := Bool.eq_false_iff.mpr c42
            subst c42
            have H1 : (tree_Check.j1 kj1 false a0_0 a0_1 a0_2 a0_3 a0_4 a0_5 a0_6 a0_7 a0_8 0 0 0 0 0 a0_5 a0_6 a0_7 (⟨#[]⟩ : ByteArray)) = some r := by rw [if_neg (show ¬ (false = true) by decide)] at H; exact H
            clear H
            have H := H1
            clear H1
            have H' := Aside0.mk H
            clear H
            have hnb46 := NB119_116.out
            have hnc46 := NB116_119.out
            obtain ⟨y47_0, y47_1, y47_2, y47_3, y47_4, y47_5, y47_6, y47_7, y47_8, v47_0, v47_1, v47_2, v47_3, v47_4, v47_5, v47_6, v47_7, v47_8⟩ := Z9 BK119.out
            go_wp2
            go_meet
            case rel => exact ⟨_, (false), (a0_7), ((⟨#[]⟩ : ByteArray)), (by first | rfl | (simp; done) | (simp [*]; done)), H', ⟨by have := HJ1.out; first | omega | exact Nat.le_refl _⟩, ⟨Qk⟩, ⟨Qk⟩, ⟨Qh⟩⟩
        · rw [if_neg c41] at H
          have c41b0 : (a0_0 == 4) = false := beq_eq_false_iff_ne.mpr c41
          have c41b1 : (a0_0 != 4) = true := bne_iff_ne.mpr c41
          by_cases c48 : a0_0 = 2
          · rw [if_pos c48] at H
            have c48b0 : (a0_0 == 2) = true := beq_iff_eq.mpr c48
            have c48b1 : (a0_0 != 2) = false := bne_eq_false_iff_eq.mpr c48
            clear c48
            have H' := Aside0.mk H
            clear H
            go_wp2
            go_meet
            case rel => exact ⟨_, (x3_1), (a0_7), (a0_8), (by first | rfl | (simp; done) | (simp [*]; done)), H', ⟨by have := HJ1.out; first | omega | exact Nat.le_refl _⟩, ⟨Qk⟩, ⟨Qk⟩, ⟨Qh⟩⟩
          · rw [if_neg c48] at H
            have c48b0 : (a0_0 == 2) = false := beq_eq_false_iff_ne.mpr c48
            have c48b1 : (a0_0 != 2) = true := bne_iff_ne.mpr c48
            by_cases c49 : a0_0 = 5
            · rw [if_pos c49] at H
              have c49b0 : (a0_0 == 5) = true := beq_iff_eq.mpr c49
              have c49b1 : (a0_0 != 5) = false := bne_eq_false_iff_eq.mpr c49
              clear c49
              have H' := Aside0.mk H
              clear H
              go_wp2
              go_meet
              case rel => exact ⟨_, (x3_1), (a0_7), (a0_8), (by first | rfl | (simp; done) | (simp [*]; done)), H', ⟨by have := HJ1.out; first | omega | exact Nat.le_refl _⟩, ⟨Qk⟩, ⟨Qk⟩, ⟨Qh⟩⟩
            · rw [if_neg c49] at H
              have c49b0 : (a0_0 == 5) = false := beq_eq_false_iff_ne.mpr c49
              have c49b1 : (a0_0 != 5) = true := bne_iff_ne.mpr c49
              have H' := Aside0.mk H
              clear H
              go_wp2
              go_meet
              case rel => exact ⟨_, (false), (a0_7), (a0_8), (by first | rfl | (simp; done) | (simp [*]; done)), H', ⟨by have := HJ1.out; first | omega | exact Nat.le_refl _⟩, ⟨Qk⟩, ⟨Qk⟩, ⟨Qh⟩⟩
   case rest =>
    clear HC13
    try clear c1
    try clear c2
    try clear p2
    try clear c3
    try clear c4
    try clear c5
    try clear c16
    try clear c19
    try clear c19b0
    try clear c19b1
    try clear c20
    try clear c21
    try clear c21b0
    try clear c21b1
    try clear c21b2
    try clear c22
    try clear c23
    try clear c27
    try clear c30
    try clear c32
    try clear c32b0
    try clear c32b1
    try clear c33
    try clear c35
    try clear c39
    try clear c41
    try clear c41b0
    try clear c41b1
    try clear c42
    try clear c43
    try clear c46
    try clear c48
    try clear c48b0
    try clear c48b1
    try clear c49
    try clear c49b0
    try clear c49b1
    try clear y11_0 y11_1 y11_2 y11_3 y11_4 y11_5 y11_6 y11_7 y11_8
    try clear y14_0 y14_1 y14_2 y14_3 y14_4 y14_5 y14_6 y14_7 y14_8
    try clear y17_0 y17_1 y17_2 y17_3 y17_4 y17_5 y17_6 y17_7 y17_8
    try clear y18_0 y18_1 y18_2 y18_3 y18_4 y18_5 y18_6 y18_7 y18_8
    try clear y24_0 y24_1 y24_2 y24_3 y24_4 y24_5 y24_6 y24_7 y24_8
    try clear y26_0 y26_1 y26_2 y26_3 y26_4 y26_5 y26_6 y26_7 y26_8
    try clear y28_0 y28_1 y28_2 y28_3 y28_4 y28_5 y28_6 y28_7 y28_8
    try clear y29_0 y29_1 y29_2 y29_3 y29_4 y29_5 y29_6 y29_7 y29_8
    try clear y31_0 y31_1 y31_2 y31_3 y31_4 y31_5 y31_6 y31_7 y31_8
    try clear y36_0 y36_1 y36_2 y36_3 y36_4 y36_5 y36_6 y36_7 y36_8
    try clear y38_0 y38_1 y38_2 y38_3 y38_4 y38_5 y38_6 y38_7 y38_8
    try clear y40_0 y40_1 y40_2 y40_3 y40_4 y40_5 y40_6 y40_7 y40_8
    try clear y44_0 y44_1 y44_2 y44_3 y44_4 y44_5 y44_6 y44_7 y44_8
    try clear y45_0 y45_1 y45_2 y45_3 y45_4 y45_5 y45_6 y45_7 y45_8
    try clear y47_0 y47_1 y47_2 y47_3 y47_4 y47_5 y47_6 y47_7 y47_8
    try clear y7_0 y7_1 y7_2 y7_3 y7_4 y7_5 y7_6 y7_7 y7_8
    try clear y9_0 y9_1 y9_2 y9_3 y9_4 y9_5 y9_6 y9_7 y9_8
    try clear v11_0 v11_1 v11_2 v11_3 v11_4 v11_5 v11_6 v11_7 v11_8
    try clear v14_0 v14_1 v14_2 v14_3 v14_4 v14_5 v14_6 v14_7 v14_8
    try clear v17_0 v17_1 v17_2 v17_3 v17_4 v17_5 v17_6 v17_7 v17_8
    try clear v18_0 v18_1 v18_2 v18_3 v18_4 v18_5 v18_6 v18_7 v18_8
    try clear v24_0 v24_1 v24_2 v24_3 v24_4 v24_5 v24_6 v24_7 v24_8
    try clear v26_0 v26_1 v26_2 v26_3 v26_4 v26_5 v26_6 v26_7 v26_8
    try clear v28_0 v28_1 v28_2 v28_3 v28_4 v28_5 v28_6 v28_7 v28_8
    try clear v29_0 v29_1 v29_2 v29_3 v29_4 v29_5 v29_6 v29_7 v29_8
    try clear v31_0 v31_1 v31_2 v31_3 v31_4 v31_5 v31_6 v31_7 v31_8
    try clear v36_0 v36_1 v36_2 v36_3 v36_4 v36_5 v36_6 v36_7 v36_8
    try clear v38_0 v38_1 v38_2 v38_3 v38_4 v38_5 v38_6 v38_7 v38_8
    try clear v40_0 v40_1 v40_2 v40_3 v40_4 v40_5 v40_6 v40_7 v40_8
    try clear v44_0 v44_1 v44_2 v44_3 v44_4 v44_5 v44_6 v44_7 v44_8
    try clear v45_0 v45_1 v45_2 v45_3 v45_4 v45_5 v45_6 v45_7 v45_8
    try clear v47_0 v47_1 v47_2 v47_3 v47_4 v47_5 v47_6 v47_7 v47_8
    try clear v7_0 v7_1 v7_2 v7_3 v7_4 v7_5 v7_6 v7_7 v7_8
    try clear v9_0 v9_1 v9_2 v9_3 v9_4 v9_5 v9_6 v9_7 v9_8
    try clear p2
    obtain ⟨kq, x3_12, x120007_12, x120008_12, rfl, HA, HJ12, BK116, BK119, HB⟩ := hcut
    cases kq with
    | zero => exact absurd HA.out (by simp [tree_Check.j1])
    | succ kj12 =>
     have H := HA.out
     clear HA
     simp only [tree_Check.j1] at H
     have HC50 := Aside0.mk H
     clear H
     go_upto_region 17 with (fail)
     go_cut [68] (fun v68 wc => ∃ (kq : Nat) (x68_49 : Bool), v68 = .bool x68_49 ∧ Aside0 (tree_Check.j2 kq x3_12 x68_49 a0_0 a0_1 a0_2 a0_3 a0_4 a0_5 a0_6 a0_7 a0_8 0 0 0 0 0 a0_5 a0_6 x120007_12 x120008_12 = some r) ∧ Aside0 (kq ≤ kj12) ∧ Aside0 (wc.heap[gb116]? = some (.cells #[.int .i64 a0_0, .int .i64 a0_1, .int .i64 a0_2, .int .i64 a0_3, .int .i64 a0_4, .int .i64 a0_5, .int .i64 a0_6, .string a0_7, .string a0_8] 25 (0, 0))) ∧ Aside0 (wc.heap[gb119]? = some (.cells #[.int .i64 0, .int .i64 0, .int .i64 0, .int .i64 0, .int .i64 0, .int .i64 a0_5, .int .i64 a0_6, .string x120007_12, .string x120008_12] 25 (0, 0))) ∧ Aside0 (Below w.heap.size w wc))
     case first =>
      have H := HC50.out
      clear HC50
      by_cases c51 : a0_0 = 1
      · rw [if_pos c51] at H
        have c51b0 : (a0_0 == 1) = true := beq_iff_eq.mpr c51
        have c51b1 : (a0_0 != 1) = false := bne_eq_false_iff_eq.mpr c51
        clear c51
        (first | rw [c51b0] | (simp only [i64_w, i32_w]; rw [c51b0]) | skip)
        have H' := Aside0.mk H
        clear H
        have hnb52 := NB116_119.out
        have hnc52 := NB119_116.out
        obtain ⟨y53_0, y53_1, y53_2, y53_3, y53_4, y53_5, y53_6, y53_7, y53_8, v53_0, v53_1, v53_2, v53_3, v53_4, v53_5, v53_6, v53_7, v53_8⟩ := Z9 BK116.out
        go_wp2
        go_meet
        case rel => exact ⟨_, (true), (by first | rfl | (simp; done) | (simp [*]; done)), H', ⟨by have := HJ1.out; have := HJ12.out; first | omega | exact Nat.le_refl _⟩, ⟨Qk⟩, ⟨Qk⟩, ⟨Qh⟩⟩
      · rw [if_neg c51] at H
        have c51b0 : (a0_0 == 1) = false := beq_eq_false_iff_ne.mpr c51
        have c51b1 : (a0_0 != 1) = true := bne_iff_ne.mpr c51
        (first | rw [c51b0] | (simp only [i64_w, i32_w]; rw [c51b0]) | skip)
        have H' := Aside0.mk H
        clear H
        have hnb54 := NB116_119.out
        have hnc54 := NB119_116.out
        obtain ⟨y55_0, y55_1, y55_2, y55_3, y55_4, y55_5, y55_6, y55_7, y55_8, v55_0, v55_1, v55_2, v55_3, v55_4, v55_5, v55_6, v55_7, v55_8⟩ := Z9 BK116.out
        go_wp2
        go_meet
        case rel => exact ⟨_, ((a0_0 == 2)), (by first | rfl | (simp; done) | (simp [*]; done)), H', ⟨by have := HJ1.out; have := HJ12.out; first | omega | exact Nat.le_refl _⟩, ⟨Qk⟩, ⟨Qk⟩, ⟨Qh⟩⟩
     case rest =>
      clear HC50
      try clear c1
      try clear c2
      try clear p2
      try clear c3
      try clear c4
      try clear c5
      try clear c16
      try clear c19
      try clear c19b0
      try clear c19b1
      try clear c20
      try clear c21
      try clear c21b0
      try clear c21b1
      try clear c21b2
      try clear c22
      try clear c23
      try clear c27
      try clear c30
      try clear c32
      try clear c32b0
      try clear c32b1
      try clear c33
      try clear c35
      try clear c39
      try clear c41
      try clear c41b0
      try clear c41b1
      try clear c42
      try clear c43
      try clear c46
      try clear c48
      try clear c48b0
      try clear c48b1
      try clear c49
      try clear c49b0
      try clear c49b1
      try clear c51
      try clear c51b0
      try clear c51b1
      try clear c52
      try clear c54
      try clear y11_0 y11_1 y11_2 y11_3 y11_4 y11_5 y11_6 y11_7 y11_8
      try clear y14_0 y14_1 y14_2 y14_3 y14_4 y14_5 y14_6 y14_7 y14_8
      try clear y17_0 y17_1 y17_2 y17_3 y17_4 y17_5 y17_6 y17_7 y17_8
      try clear y18_0 y18_1 y18_2 y18_3 y18_4 y18_5 y18_6 y18_7 y18_8
      try clear y24_0 y24_1 y24_2 y24_3 y24_4 y24_5 y24_6 y24_7 y24_8
      try clear y26_0 y26_1 y26_2 y26_3 y26_4 y26_5 y26_6 y26_7 y26_8
      try clear y28_0 y28_1 y28_2 y28_3 y28_4 y28_5 y28_6 y28_7 y28_8
      try clear y29_0 y29_1 y29_2 y29_3 y29_4 y29_5 y29_6 y29_7 y29_8
      try clear y31_0 y31_1 y31_2 y31_3 y31_4 y31_5 y31_6 y31_7 y31_8
      try clear y36_0 y36_1 y36_2 y36_3 y36_4 y36_5 y36_6 y36_7 y36_8
      try clear y38_0 y38_1 y38_2 y38_3 y38_4 y38_5 y38_6 y38_7 y38_8
      try clear y40_0 y40_1 y40_2 y40_3 y40_4 y40_5 y40_6 y40_7 y40_8
      try clear y44_0 y44_1 y44_2 y44_3 y44_4 y44_5 y44_6 y44_7 y44_8
      try clear y45_0 y45_1 y45_2 y45_3 y45_4 y45_5 y45_6 y45_7 y45_8
      try clear y47_0 y47_1 y47_2 y47_3 y47_4 y47_5 y47_6 y47_7 y47_8
      try clear y53_0 y53_1 y53_2 y53_3 y53_4 y53_5 y53_6 y53_7 y53_8
      try clear y55_0 y55_1 y55_2 y55_3 y55_4 y55_5 y55_6 y55_7 y55_8
      try clear y7_0 y7_1 y7_2 y7_3 y7_4 y7_5 y7_6 y7_7 y7_8
      try clear y9_0 y9_1 y9_2 y9_3 y9_4 y9_5 y9_6 y9_7 y9_8
      try clear v11_0 v11_1 v11_2 v11_3 v11_4 v11_5 v11_6 v11_7 v11_8
      try clear v14_0 v14_1 v14_2 v14_3 v14_4 v14_5 v14_6 v14_7 v14_8
      try clear v17_0 v17_1 v17_2 v17_3 v17_4 v17_5 v17_6 v17_7 v17_8
      try clear v18_0 v18_1 v18_2 v18_3 v18_4 v18_5 v18_6 v18_7 v18_8
      try clear v24_0 v24_1 v24_2 v24_3 v24_4 v24_5 v24_6 v24_7 v24_8
      try clear v26_0 v26_1 v26_2 v26_3 v26_4 v26_5 v26_6 v26_7 v26_8
      try clear v28_0 v28_1 v28_2 v28_3 v28_4 v28_5 v28_6 v28_7 v28_8
      try clear v29_0 v29_1 v29_2 v29_3 v29_4 v29_5 v29_6 v29_7 v29_8
      try clear v31_0 v31_1 v31_2 v31_3 v31_4 v31_5 v31_6 v31_7 v31_8
      try clear v36_0 v36_1 v36_2 v36_3 v36_4 v36_5 v36_6 v36_7 v36_8
      try clear v38_0 v38_1 v38_2 v38_3 v38_4 v38_5 v38_6 v38_7 v38_8
      try clear v40_0 v40_1 v40_2 v40_3 v40_4 v40_5 v40_6 v40_7 v40_8
      try clear v44_0 v44_1 v44_2 v44_3 v44_4 v44_5 v44_6 v44_7 v44_8
      try clear v45_0 v45_1 v45_2 v45_3 v45_4 v45_5 v45_6 v45_7 v45_8
      try clear v47_0 v47_1 v47_2 v47_3 v47_4 v47_5 v47_6 v47_7 v47_8
      try clear v53_0 v53_1 v53_2 v53_3 v53_4 v53_5 v53_6 v53_7 v53_8
      try clear v55_0 v55_1 v55_2 v55_3 v55_4 v55_5 v55_6 v55_7 v55_8
      try clear v7_0 v7_1 v7_2 v7_3 v7_4 v7_5 v7_6 v7_7 v7_8
      try clear v9_0 v9_1 v9_2 v9_3 v9_4 v9_5 v9_6 v9_7 v9_8
      try clear p2
      obtain ⟨kq, x68_49, rfl, HA, HJ49, BK116, BK119, HB⟩ := hcut
      cases kq with
      | zero => exact absurd HA.out (by simp [tree_Check.j2])
      | succ kj49 =>
       have H := HA.out
       clear HA
       simp only [tree_Check.j2] at H
       by_cases c56 : x68_49 = true
       · subst c56
         have H1 : (if x3_12 = true then ((tree_outer.f a0_5 a0_6).bind fun t122 => (if t122 = true then (if (!(0 == 0) || ((!(0 == 0) || (!(0 == 0))) || ((!(0 == 0) || (!(0 == 0))) || (!(x120007_12.toList == ([] : List UInt8)) || (!(x120008_12.toList == ([] : List UInt8))))))) = true then (some 1) else (some 0)) else ((tree_fine.f a0_5 a0_6).bind fun t123 => (if t123 = true then (if (!(0 == 0) || ((!(0 == 0) || (!(0 == 0))) || ((!(0 == 0) || (!(0 == 0))) || (!(x120007_12.toList == ([] : List UInt8)) || (!(x120008_12.toList == ([] : List UInt8))))))) = true then (some 1) else (some 0)) else (some 1))))) else (some 1)) = some r := by rw [if_pos rfl] at H; exact H
         clear H
         have H := H1
         clear H1
         by_cases c57 : x3_12 = true
         · subst c57
           have H1 : ((tree_outer.f a0_5 a0_6).bind fun t122 => (if t122 = true then (if (!(0 == 0) || ((!(0 == 0) || (!(0 == 0))) || ((!(0 == 0) || (!(0 == 0))) || (!(x120007_12.toList == ([] : List UInt8)) || (!(x120008_12.toList == ([] : List UInt8))))))) = true then (some 1) else (some 0)) else ((tree_fine.f a0_5 a0_6).bind fun t123 => (if t123 = true then (if (!(0 == 0) || ((!(0 == 0) || (!(0 == 0))) || ((!(0 == 0) || (!(0 == 0))) || (!(x120007_12.toList == ([] : List UInt8)) || (!(x120008_12.toList == ([] : List UInt8))))))) = true then (some 1) else (some 0)) else (some 1))))) = some r := by rw [if_pos rfl] at H; exact H
           clear H
           have H := H1
           clear H1
           replace H := Option.bind_eq_some_iff.mp H
           obtain ⟨t122, A580, H⟩ := H
           replace H : (if t122 = true then (if (!(0 == 0) || ((!(0 == 0) || (!(0 == 0))) || ((!(0 == 0) || (!(0 == 0))) || (!(x120007_12.toList == ([] : List UInt8)) || (!(x120008_12.toList == ([] : List UInt8))))))) = true then (some 1) else (some 0)) else ((tree_fine.f a0_5 a0_6).bind fun t123 => (if t123 = true then (if (!(0 == 0) || ((!(0 == 0) || (!(0 == 0))) || ((!(0 == 0) || (!(0 == 0))) || (!(x120007_12.toList == ([] : List UInt8)) || (!(x120008_12.toList == ([] : List UInt8))))))) = true then (some 1) else (some 0)) else (some 1)))) = some r := H
           have A58 := Aside0.mk A580
           clear A580
           by_cases c59 : t122 = true
           · subst c59
             have H1 : (if (!(0 == 0) || ((!(0 == 0) || (!(0 == 0))) || ((!(0 == 0) || (!(0 == 0))) || (!(x120007_12.toList == ([] : List UInt8)) || (!(x120008_12.toList == ([] : List UInt8))))))) = true then (some 1) else (some 0)) = some r := by rw [if_pos rfl] at H; exact H
             clear H
             have H := H1
             clear H1
             by_cases c60 : (!(0 == 0) || ((!(0 == 0) || (!(0 == 0))) || ((!(0 == 0) || (!(0 == 0))) || (!(x120007_12.toList == ([] : List UInt8)) || (!(x120008_12.toList == ([] : List UInt8))))))) = true
             · rw [if_pos c60] at H
               have c60b0 : (!(0 == 0) || ((!(0 == 0) || (!(0 == 0))) || ((!(0 == 0) || (!(0 == 0))) || (!(x120007_12.toList == ([] : List UInt8)) || (!(x120008_12.toList == ([] : List UInt8))))))) = true := c60
               have c60e : ((!x120007_12.toList.isEmpty) = true ∨ (!x120008_12.toList.isEmpty) = true) = True := by
                have h_ := c60b0
                rw [show (x120007_12.toList == ([] : List UInt8)) = x120007_12.toList.isEmpty by cases x120007_12.toList <;> rfl, show (x120008_12.toList == ([] : List UInt8)) = x120008_12.toList.isEmpty by cases x120008_12.toList <;> rfl] at h_
                generalize x120007_12.toList.isEmpty = p_ at h_ ⊢
                generalize x120008_12.toList.isEmpty = q_ at h_ ⊢
                revert h_
                cases p_ <;> cases q_ <;> simp
               have c60g : ((!x120007_12.toList.isEmpty) || (!x120008_12.toList.isEmpty)) = true := by
                have h_ := c60b0
                rw [show (x120007_12.toList == ([] : List UInt8)) = x120007_12.toList.isEmpty by cases x120007_12.toList <;> rfl, show (x120008_12.toList == ([] : List UInt8)) = x120008_12.toList.isEmpty by cases x120008_12.toList <;> rfl] at h_
                generalize x120007_12.toList.isEmpty = p_ at h_ ⊢
                generalize x120008_12.toList.isEmpty = q_ at h_ ⊢
                revert h_
                cases p_ <;> cases q_ <;> simp
               clear c60
               obtain rfl := Option.some.inj H
               have hnb61 := NB116_119.out
               have hnc61 := NB119_116.out
               obtain ⟨y62_0, y62_1, y62_2, y62_3, y62_4, y62_5, y62_6, y62_7, y62_8, v62_0, v62_1, v62_2, v62_3, v62_4, v62_5, v62_6, v62_7, v62_8⟩ := Z9 BK116.out
               go_wp2_with (first | (go_at_call 61; (with_reducible refine (tree_outer.calls a0_5 a0_6 true _ A58.out).mono ?_); rintro e w63 ⟨rfl, hb⟩; replace BK116 := Qv BK116 hb; replace BK119 := Qv BK119 hb; replace HB := Qy hb; (try clear hb); (try clear hb2); (try clear hk); (try clear hi); obtain ⟨y64_0, y64_1, y64_2, y64_3, y64_4, y64_5, y64_6, y64_7, y64_8, v64_0, v64_1, v64_2, v64_3, v64_4, v64_5, v64_6, v64_7, v64_8⟩ := Z9 BK119.out))
               go_ret
               exact ⟨Qe, Qh⟩
             · rw [if_neg c60] at H
               have c60b0 : (!(0 == 0) || ((!(0 == 0) || (!(0 == 0))) || ((!(0 == 0) || (!(0 == 0))) || (!(x120007_12.toList == ([] : List UInt8)) || (!(x120008_12.toList == ([] : List UInt8))))))) = false := by simpa using c60
               have c60e : ((!x120007_12.toList.isEmpty) = true ∨ (!x120008_12.toList.isEmpty) = true) = False := by
                have h_ := c60b0
                rw [show (x120007_12.toList == ([] : List UInt8)) = x120007_12.toList.isEmpty by cases x120007_12.toList <;> rfl, show (x120008_12.toList == ([] : List UInt8)) = x120008_12.toList.isEmpty by cases x120008_12.toList <;> rfl] at h_
                generalize x120007_12.toList.isEmpty = p_ at h_ ⊢
                generalize x120008_12.toList.isEmpty = q_ at h_ ⊢
                revert h_
                cases p_ <;> cases q_ <;> simp
               have c60g : ((!x120007_12.toList.isEmpty) || (!x120008_12.toList.isEmpty)) = false := by
                have h_ := c60b0
                rw [show (x120007_12.toList == ([] : List UInt8)) = x120007_12.toList.isEmpty by cases x120007_12.toList <;> rfl, show (x120008_12.toList == ([] : List UInt8)) = x120008_12.toList.isEmpty by cases x120008_12.toList <;> rfl] at h_
                generalize x120007_12.toList.isEmpty = p_ at h_ ⊢
                generalize x120008_12.toList.isEmpty = q_ at h_ ⊢
                revert h_
                cases p_ <;> cases q_ <;> simp
               clear c60
               obtain rfl := Option.some.inj H
               have hnb65 := NB116_119.out
               have hnc65 := NB119_116.out
               obtain ⟨y66_0, y66_1, y66_2, y66_3, y66_4, y66_5, y66_6, y66_7, y66_8, v66_0, v66_1, v66_2, v66_3, v66_4, v66_5, v66_6, v66_7, v66_8⟩ := Z9 BK116.out
               go_wp2_with (first | (go_at_call 61; (with_reducible refine (tree_outer.calls a0_5 a0_6 true _ A58.out).mono ?_); rintro e w67 ⟨rfl, hb⟩; replace BK116 := Qv BK116 hb; replace BK119 := Qv BK119 hb; replace HB := Qy hb; (try clear hb); (try clear hb2); (try clear hk); (try clear hi); obtain ⟨y68_0, y68_1, y68_2, y68_3, y68_4, y68_5, y68_6, y68_7, y68_8, v68_0, v68_1, v68_2, v68_3, v68_4, v68_5, v68_6, v68_7, v68_8⟩ := Z9 BK119.out))
               go_ret
               exact ⟨Qe, Qh⟩
           · replace c59 := Bool.eq_false_iff.mpr c59
             subst c59
             have H1 : ((tree_fine.f a0_5 a0_6).bind fun t123 => (if t123 = true then (if (!(0 == 0) || ((!(0 == 0) || (!(0 == 0))) || ((!(0 == 0) || (!(0 == 0))) || (!(x120007_12.toList == ([] : List UInt8)) || (!(x120008_12.toList == ([] : List UInt8))))))) = true then (some 1) else (some 0)) else (some 1))) = some r := by rw [if_neg (show ¬ (false = true) by decide)] at H; exact H
             clear H
             have H := H1
             clear H1
             replace H := Option.bind_eq_some_iff.mp H
             obtain ⟨t123, A690, H⟩ := H
             replace H : (if t123 = true then (if (!(0 == 0) || ((!(0 == 0) || (!(0 == 0))) || ((!(0 == 0) || (!(0 == 0))) || (!(x120007_12.toList == ([] : List UInt8)) || (!(x120008_12.toList == ([] : List UInt8))))))) = true then (some 1) else (some 0)) else (some 1)) = some r := H
             have A69 := Aside0.mk A690
             clear A690
             by_cases c70 : t123 = true
             · subst c70
               have H1 : (if (!(0 == 0) || ((!(0 == 0) || (!(0 == 0))) || ((!(0 == 0) || (!(0 == 0))) || (!(x120007_12.toList == ([] : List UInt8)) || (!(x120008_12.toList == ([] : List UInt8))))))) = true then (some 1) else (some 0)) = some r := by rw [if_pos rfl] at H; exact H
               clear H
               have H := H1
               clear H1
               by_cases c71 : (!(0 == 0) || ((!(0 == 0) || (!(0 == 0))) || ((!(0 == 0) || (!(0 == 0))) || (!(x120007_12.toList == ([] : List UInt8)) || (!(x120008_12.toList == ([] : List UInt8))))))) = true
               · rw [if_pos c71] at H
                 have c71b0 : (!(0 == 0) || ((!(0 == 0) || (!(0 == 0))) || ((!(0 == 0) || (!(0 == 0))) || (!(x120007_12.toList == ([] : List UInt8)) || (!(x120008_12.toList == ([] : List UInt8))))))) = true := c71
                 have c71e : ((!x120007_12.toList.isEmpty) = true ∨ (!x120008_12.toList.isEmpty) = true) = True := by
                  have h_ := c71b0
                  rw [show (x120007_12.toList == ([] : List UInt8)) = x120007_12.toList.isEmpty by cases x120007_12.toList <;> rfl, show (x120008_12.toList == ([] : List UInt8)) = x120008_12.toList.isEmpty by cases x120008_12.toList <;> rfl] at h_
                  generalize x120007_12.toList.isEmpty = p_ at h_ ⊢
                  generalize x120008_12.toList.isEmpty = q_ at h_ ⊢
                  revert h_
                  cases p_ <;> cases q_ <;> simp
                 have c71g : ((!x120007_12.toList.isEmpty) || (!x120008_12.toList.isEmpty)) = true := by
                  have h_ := c71b0
                  rw [show (x120007_12.toList == ([] : List UInt8)) = x120007_12.toList.isEmpty by cases x120007_12.toList <;> rfl, show (x120008_12.toList == ([] : List UInt8)) = x120008_12.toList.isEmpty by cases x120008_12.toList <;> rfl] at h_
                  generalize x120007_12.toList.isEmpty = p_ at h_ ⊢
                  generalize x120008_12.toList.isEmpty = q_ at h_ ⊢
                  revert h_
                  cases p_ <;> cases q_ <;> simp
                 clear c71
                 obtain rfl := Option.some.inj H
                 have hnb72 := NB116_119.out
                 have hnc72 := NB119_116.out
                 obtain ⟨y73_0, y73_1, y73_2, y73_3, y73_4, y73_5, y73_6, y73_7, y73_8, v73_0, v73_1, v73_2, v73_3, v73_4, v73_5, v73_6, v73_7, v73_8⟩ := Z9 BK116.out
                 go_wp2_with (first | (go_at_call 61; (with_reducible refine (tree_outer.calls a0_5 a0_6 false _ A58.out).mono ?_); rintro e w74 ⟨rfl, hb⟩; replace BK116 := Qv BK116 hb; replace BK119 := Qv BK119 hb; replace HB := Qy hb; (try clear hb); (try clear hb2); (try clear hk); (try clear hi); obtain ⟨y75_0, y75_1, y75_2, y75_3, y75_4, y75_5, y75_6, y75_7, y75_8, v75_0, v75_1, v75_2, v75_3, v75_4, v75_5, v75_6, v75_7, v75_8⟩ := Z9 BK116.out) | (go_at_call 59; (with_reducible refine (tree_fine.calls a0_5 a0_6 true _ A69.out).mono ?_); rintro e w76 ⟨rfl, hb⟩; replace BK116 := Qv BK116 hb; replace BK119 := Qv BK119 hb; replace HB := Qy hb; (try clear hb); (try clear hb2); (try clear hk); (try clear hi); obtain ⟨y77_0, y77_1, y77_2, y77_3, y77_4, y77_5, y77_6, y77_7, y77_8, v77_0, v77_1, v77_2, v77_3, v77_4, v77_5, v77_6, v77_7, v77_8⟩ := Z9 BK119.out))
                 go_ret
                 exact ⟨Qe, Qh⟩
               · rw [if_neg c71] at H
                 have c71b0 : (!(0 == 0) || ((!(0 == 0) || (!(0 == 0))) || ((!(0 == 0) || (!(0 == 0))) || (!(x120007_12.toList == ([] : List UInt8)) || (!(x120008_12.toList == ([] : List UInt8))))))) = false := by simpa using c71
                 have c71e : ((!x120007_12.toList.isEmpty) = true ∨ (!x120008_12.toList.isEmpty) = true) = False := by
                  have h_ := c71b0
                  rw [show (x120007_12.toList == ([] : List UInt8)) = x120007_12.toList.isEmpty by cases x120007_12.toList <;> rfl, show (x120008_12.toList == ([] : List UInt8)) = x120008_12.toList.isEmpty by cases x120008_12.toList <;> rfl] at h_
                  generalize x120007_12.toList.isEmpty = p_ at h_ ⊢
                  generalize x120008_12.toList.isEmpty = q_ at h_ ⊢
                  revert h_
                  cases p_ <;> cases q_ <;> simp
                 have c71g : ((!x120007_12.toList.isEmpty) || (!x120008_12.toList.isEmpty)) = false := by
                  have h_ := c71b0
                  rw [show (x120007_12.toList == ([] : List UInt8)) = x120007_12.toList.isEmpty by cases x120007_12.toList <;> rfl, show (x120008_12.toList == ([] : List UInt8)) = x120008_12.toList.isEmpty by cases x120008_12.toList <;> rfl] at h_
                  generalize x120007_12.toList.isEmpty = p_ at h_ ⊢
                  generalize x120008_12.toList.isEmpty = q_ at h_ ⊢
                  revert h_
                  cases p_ <;> cases q_ <;> simp
                 clear c71
                 obtain rfl := Option.some.inj H
                 have hnb78 := NB116_119.out
                 have hnc78 := NB119_116.out
                 obtain ⟨y79_0, y79_1, y79_2, y79_3, y79_4, y79_5, y79_6, y79_7, y79_8, v79_0, v79_1, v79_2, v79_3, v79_4, v79_5, v79_6, v79_7, v79_8⟩ := Z9 BK116.out
                 go_wp2_with (first | (go_at_call 61; (with_reducible refine (tree_outer.calls a0_5 a0_6 false _ A58.out).mono ?_); rintro e w80 ⟨rfl, hb⟩; replace BK116 := Qv BK116 hb; replace BK119 := Qv BK119 hb; replace HB := Qy hb; (try clear hb); (try clear hb2); (try clear hk); (try clear hi); obtain ⟨y81_0, y81_1, y81_2, y81_3, y81_4, y81_5, y81_6, y81_7, y81_8, v81_0, v81_1, v81_2, v81_3, v81_4, v81_5, v81_6, v81_7, v81_8⟩ := Z9 BK116.out) | (go_at_call 59; (with_reducible refine (tree_fine.calls a0_5 a0_6 true _ A69.out).mono ?_); rintro e w82 ⟨rfl, hb⟩; replace BK116 := Qv BK116 hb; replace BK119 := Qv BK119 hb; replace HB := Qy hb; (try clear hb); (try clear hb2); (try clear hk); (try clear hi); obtain ⟨y83_0, y83_1, y83_2, y83_3, y83_4, y83_5, y83_6, y83_7, y83_8, v83_0, v83_1, v83_2, v83_3, v83_4, v83_5, v83_6, v83_7, v83_8⟩ := Z9 BK119.out))
                 go_ret
                 exact ⟨Qe, Qh⟩
             · replace c70 := Bool.eq_false_iff.mpr c70
               subst c70
               have H1 : (some 1) = some r := by rw [if_neg (show ¬ (false = true) by decide)] at H; exact H
               clear H
               have H := H1
               clear H1
               obtain rfl := Option.some.inj H
               have hnb84 := NB116_119.out
               have hnc84 := NB119_116.out
               obtain ⟨y85_0, y85_1, y85_2, y85_3, y85_4, y85_5, y85_6, y85_7, y85_8, v85_0, v85_1, v85_2, v85_3, v85_4, v85_5, v85_6, v85_7, v85_8⟩ := Z9 BK116.out
               go_wp2_with (first | (go_at_call 61; (with_reducible refine (tree_outer.calls a0_5 a0_6 false _ A58.out).mono ?_); rintro e w86 ⟨rfl, hb⟩; replace BK116 := Qv BK116 hb; replace BK119 := Qv BK119 hb; replace HB := Qy hb; (try clear hb); (try clear hb2); (try clear hk); (try clear hi); obtain ⟨y87_0, y87_1, y87_2, y87_3, y87_4, y87_5, y87_6, y87_7, y87_8, v87_0, v87_1, v87_2, v87_3, v87_4, v87_5, v87_6, v87_7, v87_8⟩ := Z9 BK116.out) | (go_at_call 59; (with_reducible refine (tree_fine.calls a0_5 a0_6 false _ A69.out).mono ?_); rintro e w88 ⟨rfl, hb⟩; replace BK116 := Qv BK116 hb; replace BK119 := Qv BK119 hb; replace HB := Qy hb; (try clear hb); (try clear hb2); (try clear hk); (try clear hi); obtain ⟨y89_0, y89_1, y89_2, y89_3, y89_4, y89_5, y89_6, y89_7, y89_8, v89_0, v89_1, v89_2, v89_3, v89_4, v89_5, v89_6, v89_7, v89_8⟩ := Z9 BK119.out))
               go_ret
               exact ⟨Qe, Qh⟩
         · replace c57 := Bool.eq_false_iff.mpr c57
           subst c57
           have H1 : (some 1) = some r := by rw [if_neg (show ¬ (false = true) by decide)] at H; exact H
           clear H
           have H := H1
           clear H1
           obtain rfl := Option.some.inj H
           have hnb90 := NB119_116.out
           have hnc90 := NB116_119.out
           obtain ⟨y91_0, y91_1, y91_2, y91_3, y91_4, y91_5, y91_6, y91_7, y91_8, v91_0, v91_1, v91_2, v91_3, v91_4, v91_5, v91_6, v91_7, v91_8⟩ := Z9 BK119.out
           go_wp2
           go_ret
           exact ⟨Qe, Qh⟩
       · replace c56 := Bool.eq_false_iff.mpr c56
         subst c56
         have H1 : (if x3_12 = true then (if (!(0 == 0) || ((!(0 == 0) || (!(0 == 0))) || ((!(0 == 0) || (!(0 == 0))) || ((!(a0_5 == 0) || (!(a0_6 == 0))) || (!(x120007_12.toList == ([] : List UInt8)) || (!(x120008_12.toList == ([] : List UInt8)))))))) = true then (some 1) else (some 0)) else (some 1)) = some r := by rw [if_neg (show ¬ (false = true) by decide)] at H; exact H
         clear H
         have H := H1
         clear H1
         by_cases c92 : x3_12 = true
         · subst c92
           have H1 : (if (!(0 == 0) || ((!(0 == 0) || (!(0 == 0))) || ((!(0 == 0) || (!(0 == 0))) || ((!(a0_5 == 0) || (!(a0_6 == 0))) || (!(x120007_12.toList == ([] : List UInt8)) || (!(x120008_12.toList == ([] : List UInt8)))))))) = true then (some 1) else (some 0)) = some r := by rw [if_pos rfl] at H; exact H
           clear H
           have H := H1
           clear H1
           by_cases c93 : (!(0 == 0) || ((!(0 == 0) || (!(0 == 0))) || ((!(0 == 0) || (!(0 == 0))) || ((!(a0_5 == 0) || (!(a0_6 == 0))) || (!(x120007_12.toList == ([] : List UInt8)) || (!(x120008_12.toList == ([] : List UInt8)))))))) = true
           · rw [if_pos c93] at H
             have c93b0 : (!(0 == 0) || ((!(0 == 0) || (!(0 == 0))) || ((!(0 == 0) || (!(0 == 0))) || ((!(a0_5 == 0) || (!(a0_6 == 0))) || (!(x120007_12.toList == ([] : List UInt8)) || (!(x120008_12.toList == ([] : List UInt8)))))))) = true := c93
             have c93e : (((!a0_5 == 0) = true ∨ (!a0_6 == 0) = true) ∨ (!x120007_12.toList.isEmpty) = true ∨ (!x120008_12.toList.isEmpty) = true) = True := by
              have h_ := c93b0
              rw [show (x120007_12.toList == ([] : List UInt8)) = x120007_12.toList.isEmpty by cases x120007_12.toList <;> rfl, show (x120008_12.toList == ([] : List UInt8)) = x120008_12.toList.isEmpty by cases x120008_12.toList <;> rfl] at h_
              generalize x120007_12.toList.isEmpty = p_ at h_ ⊢
              generalize x120008_12.toList.isEmpty = q_ at h_ ⊢
              generalize (a0_5 == 0) = u_ at h_ ⊢
              generalize (a0_6 == 0) = v_ at h_ ⊢
              revert h_
              cases u_ <;> cases v_ <;> cases p_ <;> cases q_ <;> simp
             have c93g : (((!(a0_5 == 0)) || (!(a0_6 == 0))) || ((!x120007_12.toList.isEmpty) || (!x120008_12.toList.isEmpty))) = true := by
              have h_ := c93b0
              rw [show (x120007_12.toList == ([] : List UInt8)) = x120007_12.toList.isEmpty by cases x120007_12.toList <;> rfl, show (x120008_12.toList == ([] : List UInt8)) = x120008_12.toList.isEmpty by cases x120008_12.toList <;> rfl] at h_
              generalize x120007_12.toList.isEmpty = p_ at h_ ⊢
              generalize x120008_12.toList.isEmpty = q_ at h_ ⊢
              generalize (a0_5 == 0) = u_ at h_ ⊢
              generalize (a0_6 == 0) = v_ at h_ ⊢
              revert h_
              cases u_ <;> cases v_ <;> cases p_ <;> cases q_ <;> simp
             clear c93
             obtain rfl := Option.some.inj H
             have hnb94 := NB119_116.out
             have hnc94 := NB116_119.out
             obtain ⟨y95_0, y95_1, y95_2, y95_3, y95_4, y95_5, y95_6, y95_7, y95_8, v95_0, v95_1, v95_2, v95_3, v95_4, v95_5, v95_6, v95_7, v95_8⟩ := Z9 BK119.out
             go_wp2
             go_ret
             exact ⟨Qe, Qh⟩
           · rw [if_neg c93] at H
             have c93b0 : (!(0 == 0) || ((!(0 == 0) || (!(0 == 0))) || ((!(0 == 0) || (!(0 == 0))) || ((!(a0_5 == 0) || (!(a0_6 == 0))) || (!(x120007_12.toList == ([] : List UInt8)) || (!(x120008_12.toList == ([] : List UInt8)))))))) = false := by simpa using c93
             have c93e : (((!a0_5 == 0) = true ∨ (!a0_6 == 0) = true) ∨ (!x120007_12.toList.isEmpty) = true ∨ (!x120008_12.toList.isEmpty) = true) = False := by
              have h_ := c93b0
              rw [show (x120007_12.toList == ([] : List UInt8)) = x120007_12.toList.isEmpty by cases x120007_12.toList <;> rfl, show (x120008_12.toList == ([] : List UInt8)) = x120008_12.toList.isEmpty by cases x120008_12.toList <;> rfl] at h_
              generalize x120007_12.toList.isEmpty = p_ at h_ ⊢
              generalize x120008_12.toList.isEmpty = q_ at h_ ⊢
              generalize (a0_5 == 0) = u_ at h_ ⊢
              generalize (a0_6 == 0) = v_ at h_ ⊢
              revert h_
              cases u_ <;> cases v_ <;> cases p_ <;> cases q_ <;> simp
             have c93g : (((!(a0_5 == 0)) || (!(a0_6 == 0))) || ((!x120007_12.toList.isEmpty) || (!x120008_12.toList.isEmpty))) = false := by
              have h_ := c93b0
              rw [show (x120007_12.toList == ([] : List UInt8)) = x120007_12.toList.isEmpty by cases x120007_12.toList <;> rfl, show (x120008_12.toList == ([] : List UInt8)) = x120008_12.toList.isEmpty by cases x120008_12.toList <;> rfl] at h_
              generalize x120007_12.toList.isEmpty = p_ at h_ ⊢
              generalize x120008_12.toList.isEmpty = q_ at h_ ⊢
              generalize (a0_5 == 0) = u_ at h_ ⊢
              generalize (a0_6 == 0) = v_ at h_ ⊢
              revert h_
              cases u_ <;> cases v_ <;> cases p_ <;> cases q_ <;> simp
             clear c93
             obtain rfl := Option.some.inj H
             have hnb96 := NB119_116.out
             have hnc96 := NB116_119.out
             obtain ⟨y97_0, y97_1, y97_2, y97_3, y97_4, y97_5, y97_6, y97_7, y97_8, v97_0, v97_1, v97_2, v97_3, v97_4, v97_5, v97_6, v97_7, v97_8⟩ := Z9 BK119.out
             go_wp2
             go_ret
             exact ⟨Qe, Qh⟩
         · replace c92 := Bool.eq_false_iff.mpr c92
           subst c92
           have H1 : (some 1) = some r := by rw [if_neg (show ¬ (false = true) by decide)] at H; exact H
           clear H
           have H := H1
           clear H1
           obtain rfl := Option.some.inj H
           go_wp2
           go_ret
           exact ⟨Qe, Qh⟩
end Go.Proofs.YtlfgdaiegefjiaaDoor.S
