/- Functions of the translation as plain Lean functions, and that each call comes to what they say: for every argument. Written by a program of this session's own; Lean checks it. -/
import Derived.Test.YtiffeljmeahmkaaDoorSx0
import Derived.Test.YtiffeljmeahmkaaDoorQa
import Derived.Test.YtiffeljmeahmkaaDoorSx1
import Derived.Test.YtiffeljmeahmkaaDoorSx2
import Derived.Test.YtiffeljmeahmkaaDoorSx4
import Derived.Test.YtiffeljmeahmkaaDoorNc
namespace Go.Proofs.YtiffeljmeahmkaaDoor.S
open Go.RowKit Go.Proofs.YtiffeljmeahmkaaDoorW.PrintWords Go.Proofs.YtiffeljmeahmkaaDoorW.PrintLast
set_option linter.unusedVariables false
set_option linter.unusedSimpArgs false

attribute [local go_sem high] eqA25 eqA28
/-! ### tree_Check: function 22 -/
mutual
def tree_Check.j0 : Nat → Bool → Int → Int → Int → Int → Int → Int → Int → ByteArray → ByteArray → Option (Int)
  | 0, _, _, _, _, _, _, _, _, _, _ => none
  | k + 1, x3, x118000, x118001, x118002, x118003, x118004, x118005, x118006, x118007, x118008 => if x118000 = 1 then (if x3 = true then (if (x118003 == x118001 && (x118004 == x118002)) = true then ((name_Check.f x118007).bind fun t121 => (tree_Check.j1 k (t121 == 0) x118000 x118001 x118002 x118003 x118004 x118005 x118006 x118007 x118008 0 0 0 0 0 x118005 x118006 (⟨#[]⟩ : ByteArray) x118008)) else (tree_Check.j1 k false x118000 x118001 x118002 x118003 x118004 x118005 x118006 x118007 x118008 0 0 0 0 0 x118005 x118006 (⟨#[]⟩ : ByteArray) x118008)) else (tree_Check.j1 k false x118000 x118001 x118002 x118003 x118004 x118005 x118006 x118007 x118008 0 0 0 0 0 x118005 x118006 (⟨#[]⟩ : ByteArray) x118008)) else (if x118000 = 3 then (if x3 = true then ((name_Check.f x118007).bind fun t122 => (tree_Check.j1 k (t122 == 0) x118000 x118001 x118002 x118003 x118004 x118005 x118006 x118007 x118008 0 0 0 0 0 x118005 x118006 (⟨#[]⟩ : ByteArray) x118008)) else (tree_Check.j1 k false x118000 x118001 x118002 x118003 x118004 x118005 x118006 x118007 x118008 0 0 0 0 0 x118005 x118006 (⟨#[]⟩ : ByteArray) x118008)) else (if x118000 = 4 then (if x3 = true then (tree_Check.j1 k (decide ((x118008.size : Int) ≤ 64)) x118000 x118001 x118002 x118003 x118004 x118005 x118006 x118007 x118008 0 0 0 0 0 x118005 x118006 x118007 (⟨#[]⟩ : ByteArray)) else (tree_Check.j1 k false x118000 x118001 x118002 x118003 x118004 x118005 x118006 x118007 x118008 0 0 0 0 0 x118005 x118006 x118007 (⟨#[]⟩ : ByteArray))) else (if x118000 = 2 then (tree_Check.j1 k x3 x118000 x118001 x118002 x118003 x118004 x118005 x118006 x118007 x118008 0 0 0 0 0 x118005 x118006 x118007 x118008) else (if x118000 = 5 then (tree_Check.j1 k x3 x118000 x118001 x118002 x118003 x118004 x118005 x118006 x118007 x118008 0 0 0 0 0 x118005 x118006 x118007 x118008) else (tree_Check.j1 k false x118000 x118001 x118002 x118003 x118004 x118005 x118006 x118007 x118008 0 0 0 0 0 x118005 x118006 x118007 x118008)))))
def tree_Check.j1 : Nat → Bool → Int → Int → Int → Int → Int → Int → Int → ByteArray → ByteArray → Int → Int → Int → Int → Int → Int → Int → ByteArray → ByteArray → Option (Int)
  | 0, _, _, _, _, _, _, _, _, _, _, _, _, _, _, _, _, _, _, _ => none
  | k + 1, x3, x118000, x118001, x118002, x118003, x118004, x118005, x118006, x118007, x118008, x121000, x121001, x121002, x121003, x121004, x121005, x121006, x121007, x121008 => if x118000 = 1 then (tree_Check.j2 k x3 true x118000 x118001 x118002 x118003 x118004 x118005 x118006 x118007 x118008 x121000 x121001 x121002 x121003 x121004 x121005 x121006 x121007 x121008) else (tree_Check.j2 k x3 (x118000 == 2) x118000 x118001 x118002 x118003 x118004 x118005 x118006 x118007 x118008 x121000 x121001 x121002 x121003 x121004 x121005 x121006 x121007 x121008)
def tree_Check.j2 : Nat → Bool → Bool → Int → Int → Int → Int → Int → Int → Int → ByteArray → ByteArray → Int → Int → Int → Int → Int → Int → Int → ByteArray → ByteArray → Option (Int)
  | 0, _, _, _, _, _, _, _, _, _, _, _, _, _, _, _, _, _, _, _, _ => none
  | k + 1, x3, x68, x118000, x118001, x118002, x118003, x118004, x118005, x118006, x118007, x118008, x121000, x121001, x121002, x121003, x121004, x121005, x121006, x121007, x121008 => if x68 = true then (if x3 = true then ((tree_outer.f x118005 x118006).bind fun t123 => (if t123 = true then (if (!(x121000 == 0) || ((!(x121001 == 0) || (!(x121002 == 0))) || ((!(x121003 == 0) || (!(x121004 == 0))) || (!(x121007.toList == ([] : List UInt8)) || (!(x121008.toList == ([] : List UInt8))))))) = true then (some 1) else (some 0)) else ((tree_fine.f x118005 x118006).bind fun t124 => (if t124 = true then (if (!(x121000 == 0) || ((!(x121001 == 0) || (!(x121002 == 0))) || ((!(x121003 == 0) || (!(x121004 == 0))) || (!(x121007.toList == ([] : List UInt8)) || (!(x121008.toList == ([] : List UInt8))))))) = true then (some 1) else (some 0)) else (some 1))))) else (some 1)) else (if x3 = true then (if (!(x121000 == 0) || ((!(x121001 == 0) || (!(x121002 == 0))) || ((!(x121003 == 0) || (!(x121004 == 0))) || ((!(x121005 == 0) || (!(x121006 == 0))) || (!(x121007.toList == ([] : List UInt8)) || (!(x121008.toList == ([] : List UInt8)))))))) = true then (some 1) else (some 0)) else (some 1))
end
def tree_Check.f (k : Nat) (a0_0 : Int) (a0_1 : Int) (a0_2 : Int) (a0_3 : Int) (a0_4 : Int) (a0_5 : Int) (a0_6 : Int) (a0_7 : ByteArray) (a0_8 : ByteArray) : Option (Int) := (tree_fine.f a0_1 a0_2).bind fun t118 => (if t118 = true then ((tree_fine.f a0_3 a0_4).bind fun t119 => (tree_Check.j0 k t119 a0_0 a0_1 a0_2 a0_3 a0_4 a0_5 a0_6 a0_7 a0_8)) else (tree_Check.j0 k false a0_0 a0_1 a0_2 a0_3 a0_4 a0_5 a0_6 a0_7 a0_8))
set_option maxHeartbeats 8000000 in
set_option maxRecDepth 100000 in
theorem tree_Check.calls (k : Nat) (a0_0 : Int) (a0_1 : Int) (a0_2 : Int) (a0_3 : Int) (a0_4 : Int) (a0_5 : Int) (a0_6 : Int) (a0_7 : ByteArray) (a0_8 : ByteArray) (r : Int) (w : World) (h : tree_Check.f k a0_0 a0_1 a0_2 a0_3 a0_4 a0_5 a0_6 a0_7 a0_8 = some r) (hL : Laid w) :
    Calls Tryd.prog 22 #[.agg #[.int .i64 a0_0, .int .i64 a0_1, .int .i64 a0_2, .int .i64 a0_3, .int .i64 a0_4, .int .i64 a0_5, .int .i64 a0_6, .string a0_7, .string a0_8]] w fun e w' => e = .returned (.int .i64 r) ∧ Below w.heap.size w w' := by
  have hu28 := Tryd.underlying28
  have hu25 := Tryd.underlying25
  have HB := Aside0.mk (Below.refl w.heap.size w)
  have H : ((tree_fine.f a0_1 a0_2).bind fun t118 => (if t118 = true then ((tree_fine.f a0_3 a0_4).bind fun t119 => (tree_Check.j0 k t119 a0_0 a0_1 a0_2 a0_3 a0_4 a0_5 a0_6 a0_7 a0_8)) else (tree_Check.j0 k false a0_0 a0_1 a0_2 a0_3 a0_4 a0_5 a0_6 a0_7 a0_8))) = some r := h
  clear h
  have HC2 := Aside0.mk H
  clear H
  go_enter Tryd.func22, Tryd.ntmps22
  go_upto_region 1 with (first | ((with_reducible refine gate_dst (N := 1) rfl ?_); (try (refine gate_guard (by rfl) ?_; dsimp only)); refine boxQ (N := 1) (cs := #[.int .i64 a0_0, .int .i64 a0_1, .int .i64 a0_2, .int .i64 a0_3, .int .i64 a0_4, .int .i64 a0_5, .int .i64 a0_6, .string a0_7, .string a0_8]) (t := 28) ?_; intro gb117 hg w3 hbox hb; have n0_ := Aside0.mk (below_step Qh hb); have n1_ := Aside0.mk (hbox); have n2_ := Aside0.mk (Qs (w := w) hg); have n3_ := Aside0.mk (Qs (w := w) hg); clear HB; have HB := n0_; have BK117 := n1_; have GW117 := n2_; have GE117 := n3_; clear n0_ n1_ n2_ n3_; clear hb hbox hg))
  (try simp only [Act.put, List.setIfInBounds_toArray, List.set_cons_zero, List.set_cons_succ])
  go_cut [3] (fun v3 wc => ∃ (kq : Nat) (x3_1 : Bool), v3 = .bool x3_1 ∧ Aside0 (tree_Check.j0 kq x3_1 a0_0 a0_1 a0_2 a0_3 a0_4 a0_5 a0_6 a0_7 a0_8 = some r) ∧ Aside0 (kq ≤ k) ∧ Aside0 (wc.heap[gb117]? = some (.cells #[.int .i64 a0_0, .int .i64 a0_1, .int .i64 a0_2, .int .i64 a0_3, .int .i64 a0_4, .int .i64 a0_5, .int .i64 a0_6, .string a0_7, .string a0_8] 28 (0, 0))) ∧ Aside0 (Below w.heap.size w wc))
  case first =>
    have H := HC2.out
    clear HC2
    replace H := Option.bind_eq_some_iff.mp H
    obtain ⟨t118, A40, H⟩ := H
    replace H : (if t118 = true then ((tree_fine.f a0_3 a0_4).bind fun t119 => (tree_Check.j0 k t119 a0_0 a0_1 a0_2 a0_3 a0_4 a0_5 a0_6 a0_7 a0_8)) else (tree_Check.j0 k false a0_0 a0_1 a0_2 a0_3 a0_4 a0_5 a0_6 a0_7 a0_8)) = some r := H
    have A4 := Aside0.mk A40
    clear A40
    by_cases c5 : t118 = true
    · subst c5
      have H1 : ((tree_fine.f a0_3 a0_4).bind fun t119 => (tree_Check.j0 k t119 a0_0 a0_1 a0_2 a0_3 a0_4 a0_5 a0_6 a0_7 a0_8)) = some r := by rw [if_pos rfl] at H; exact H
      clear H
      have H := H1
      clear H1
      replace H := Option.bind_eq_some_iff.mp H
      obtain ⟨t119, A60, H⟩ := H
      replace H : (tree_Check.j0 k t119 a0_0 a0_1 a0_2 a0_3 a0_4 a0_5 a0_6 a0_7 a0_8) = some r := H
      have A6 := Aside0.mk A60
      clear A60
      have H' := Aside0.mk H
      clear H
      obtain ⟨hcz7_0, hcz7_1, hcz7_2, hcz7_3, hcz7_4, hcz7_5, hcz7_6, hcz7_7, hcz7_8, hfz7_0, hfz7_1, hfz7_2, hfz7_3, hfz7_4, hfz7_5, hfz7_6, hfz7_7, hfz7_8⟩ := Z9 BK117.out
      go_wp2_with (first | ((with_reducible refine gate_callee (f := 43) rfl ?_); refine goesL_ (some 7) rfl rfl Tryd.func43 (by kernel_rfl) rfl #[.agg #[.int .i64 a0_1, .int .i64 a0_2]] rfl Qm ?_; (with_reducible refine (tree_fine.calls a0_1 a0_2 true _ A4.out).mono ?_); rintro e w8 ⟨rfl, hb⟩; refine ⟨_, rfl, ?_⟩; have n0_ := Aside0.mk (Qb BK117 hb); have n1_ := Aside0.mk (below_step Qh hb); clear BK117; clear HB; have BK117 := n0_; have HB := n1_; clear n0_ n1_; (try clear hb); (try clear hb2); (try clear hk); (try clear hi); obtain ⟨hcz9_0, hcz9_1, hcz9_2, hcz9_3, hcz9_4, hcz9_5, hcz9_6, hcz9_7, hcz9_8, hfz9_0, hfz9_1, hfz9_2, hfz9_3, hfz9_4, hfz9_5, hfz9_6, hfz9_7, hfz9_8⟩ := Z9 BK117.out) | (go_at_call 43; (with_reducible refine (tree_fine.calls a0_3 a0_4 t119 _ A6.out).mono ?_); rintro e w10 ⟨rfl, hb⟩; have n0_ := Aside0.mk (Qb BK117 hb); have n1_ := Aside0.mk (below_step Qh hb); clear BK117; clear HB; have BK117 := n0_; have HB := n1_; clear n0_ n1_; (try clear hb); (try clear hb2); (try clear hk); (try clear hi)))
      go_meet
      case rel => exact ⟨_, (t119), (by first | rfl | (simp; done) | (simp [*]; done)), H', ⟨by first | omega | exact Nat.le_refl _⟩, ⟨Qk⟩, ⟨Qh⟩⟩
    · replace c5 := Bool.eq_false_iff.mpr c5
      subst c5
      have H1 : (tree_Check.j0 k false a0_0 a0_1 a0_2 a0_3 a0_4 a0_5 a0_6 a0_7 a0_8) = some r := by rw [if_neg (show ¬ (false = true) by decide)] at H; exact H
      clear H
      have H := H1
      clear H1
      have H' := Aside0.mk H
      clear H
      obtain ⟨hcz11_0, hcz11_1, hcz11_2, hcz11_3, hcz11_4, hcz11_5, hcz11_6, hcz11_7, hcz11_8, hfz11_0, hfz11_1, hfz11_2, hfz11_3, hfz11_4, hfz11_5, hfz11_6, hfz11_7, hfz11_8⟩ := Z9 BK117.out
      go_wp2_with (first | ((with_reducible refine gate_callee (f := 43) rfl ?_); refine goesL_ (some 7) rfl rfl Tryd.func43 (by kernel_rfl) rfl #[.agg #[.int .i64 a0_1, .int .i64 a0_2]] rfl Qm ?_; (with_reducible refine (tree_fine.calls a0_1 a0_2 false _ A4.out).mono ?_); rintro e w12 ⟨rfl, hb⟩; refine ⟨_, rfl, ?_⟩; have n0_ := Aside0.mk (Qb BK117 hb); have n1_ := Aside0.mk (below_step Qh hb); clear BK117; clear HB; have BK117 := n0_; have HB := n1_; clear n0_ n1_; (try clear hb); (try clear hb2); (try clear hk); (try clear hi)))
      go_meet
      case rel => exact ⟨_, (false), (by first | rfl | (simp; done) | (simp [*]; done)), H', ⟨by first | omega | exact Nat.le_refl _⟩, ⟨Qk⟩, ⟨Qh⟩⟩
  case rest =>
    clear HC2
    try clear c2
    try clear p2
    try clear c4
    try clear c5
    try clear hcz11_0 hcz11_1 hcz11_2 hcz11_3 hcz11_4 hcz11_5 hcz11_6 hcz11_7 hcz11_8
    try clear hcz7_0 hcz7_1 hcz7_2 hcz7_3 hcz7_4 hcz7_5 hcz7_6 hcz7_7 hcz7_8
    try clear hcz9_0 hcz9_1 hcz9_2 hcz9_3 hcz9_4 hcz9_5 hcz9_6 hcz9_7 hcz9_8
    try clear hfz11_0 hfz11_1 hfz11_2 hfz11_3 hfz11_4 hfz11_5 hfz11_6 hfz11_7 hfz11_8
    try clear hfz7_0 hfz7_1 hfz7_2 hfz7_3 hfz7_4 hfz7_5 hfz7_6 hfz7_7 hfz7_8
    try clear hfz9_0 hfz9_1 hfz9_2 hfz9_3 hfz9_4 hfz9_5 hfz9_6 hfz9_7 hfz9_8
    obtain ⟨kq, x3_1, rfl, HA, HJ1, BK117, HB⟩ := hcut
    cases kq with
    | zero => exact absurd HA.out (by simp [tree_Check.j0])
    | succ kj1 =>
      have H := HA.out
      clear HA
      simp only [tree_Check.j0] at H
      have HC13 := Aside0.mk H
      clear H
      obtain ⟨hcz14_0, hcz14_1, hcz14_2, hcz14_3, hcz14_4, hcz14_5, hcz14_6, hcz14_7, hcz14_8, hfz14_0, hfz14_1, hfz14_2, hfz14_3, hfz14_4, hfz14_5, hfz14_6, hfz14_7, hfz14_8⟩ := Z9 BK117.out
      go_upto_block 0 with (first | ((with_reducible refine gate_dst (N := 4) rfl ?_); (try (refine gate_guard (by rfl) ?_; dsimp only)); refine boxQ (N := 4) (cs := #[.int .i64 0, .int .i64 0, .int .i64 0, .int .i64 0, .int .i64 0, .int .i64 0, .int .i64 0, .string (⟨#[]⟩ : ByteArray), .string (⟨#[]⟩ : ByteArray)]) (t := 28) ?_; intro gb120 hg w15 hbox hb; have n0_ := Aside0.mk (Qb BK117 hb); have n1_ := Aside0.mk (below_step Qh hb); have n2_ := Aside0.mk (hbox); have n3_ := Aside0.mk (Qs (w := w) hg); have n4_ := Aside0.mk (Qs (w := w) hg); have n5_ := Aside0.mk (Qn hg BK117); have n6_ := Aside0.mk (Qn hg BK117).symm; clear BK117; clear HB; have BK117 := n0_; have HB := n1_; have BK120 := n2_; have GW120 := n3_; have GE120 := n4_; have NB117_120 := n5_; have NB120_117 := n6_; clear n0_ n1_ n2_ n3_ n4_ n5_ n6_; clear hb hbox hg; have hnb16 := NB120_117.out; have hnc16 := NB117_120.out; obtain ⟨hcz17_0, hcz17_1, hcz17_2, hcz17_3, hcz17_4, hcz17_5, hcz17_6, hcz17_7, hcz17_8, hfz17_0, hfz17_1, hfz17_2, hfz17_3, hfz17_4, hfz17_5, hfz17_6, hfz17_7, hfz17_8⟩ := Z9 BK120.out; obtain ⟨hcz18_0, hcz18_1, hcz18_2, hcz18_3, hcz18_4, hcz18_5, hcz18_6, hcz18_7, hcz18_8, hfz18_0, hfz18_1, hfz18_2, hfz18_3, hfz18_4, hfz18_5, hfz18_6, hfz18_7, hfz18_8⟩ := Z9 BK117.out))
      (try simp only [Act.put, List.setIfInBounds_toArray, List.set_cons_zero, List.set_cons_succ])
      go_cut [3] (fun v3 wc => ∃ (kq : Nat) (x3_12 : Bool) (x121007_12 : ByteArray) (x121008_12 : ByteArray), v3 = .bool x3_12 ∧ Aside0 (tree_Check.j1 kq x3_12 a0_0 a0_1 a0_2 a0_3 a0_4 a0_5 a0_6 a0_7 a0_8 0 0 0 0 0 a0_5 a0_6 x121007_12 x121008_12 = some r) ∧ Aside0 (kq ≤ kj1) ∧ Aside0 (wc.heap[gb117]? = some (.cells #[.int .i64 a0_0, .int .i64 a0_1, .int .i64 a0_2, .int .i64 a0_3, .int .i64 a0_4, .int .i64 a0_5, .int .i64 a0_6, .string a0_7, .string a0_8] 28 (0, 0))) ∧ Aside0 (wc.heap[gb120]? = some (.cells #[.int .i64 0, .int .i64 0, .int .i64 0, .int .i64 0, .int .i64 0, .int .i64 a0_5, .int .i64 a0_6, .string x121007_12, .string x121008_12] 28 (0, 0))) ∧ Aside0 (Below w.heap.size w wc))
      case first =>
        have H := HC13.out
        clear HC13
        by_cases c19 : a0_0 = 1
        · rw [if_pos c19] at H
          have c19b0 : (a0_0 == 1) = true := beq_iff_eq.mpr c19
          have c19b1 : (a0_0 != 1) = false := bne_eq_false_iff_eq.mpr c19
          clear c19
          (first | rw [c19b0] | (simp only [i64_w, i32_w]; rw [c19b0]) | skip)
          by_cases c20 : x3_1 = true
          · subst c20
            have H1 : (if (a0_3 == a0_1 && (a0_4 == a0_2)) = true then ((name_Check.f a0_7).bind fun t121 => (tree_Check.j1 kj1 (t121 == 0) a0_0 a0_1 a0_2 a0_3 a0_4 a0_5 a0_6 a0_7 a0_8 0 0 0 0 0 a0_5 a0_6 (⟨#[]⟩ : ByteArray) a0_8)) else (tree_Check.j1 kj1 false a0_0 a0_1 a0_2 a0_3 a0_4 a0_5 a0_6 a0_7 a0_8 0 0 0 0 0 a0_5 a0_6 (⟨#[]⟩ : ByteArray) a0_8)) = some r := by rw [if_pos rfl] at H; exact H
            clear H
            have H := H1
            clear H1
            by_cases c21 : (a0_3 == a0_1 && (a0_4 == a0_2)) = true
            · rw [if_pos c21] at H
              have c21b0 : (a0_3 == a0_1 && (a0_4 == a0_2)) = true := c21
              (try (have c21b1 : decide (a0_3 = a0_1 && (a0_4 == a0_2)) = true := by simpa using c21))
              (try (have c21b2 : (a0_3 == a0_1 && (a0_4 == a0_2)) = true := by simpa using c21))
              clear c21
              replace H := Option.bind_eq_some_iff.mp H
              obtain ⟨t121, A220, H⟩ := H
              replace H : (tree_Check.j1 kj1 (t121 == 0) a0_0 a0_1 a0_2 a0_3 a0_4 a0_5 a0_6 a0_7 a0_8 0 0 0 0 0 a0_5 a0_6 (⟨#[]⟩ : ByteArray) a0_8) = some r := H
              have A22 := Aside0.mk A220
              clear A220
              have H' := Aside0.mk H
              clear H
              have hnb23 := NB117_120.out
              have hnc23 := NB120_117.out
              obtain ⟨hcz24_0, hcz24_1, hcz24_2, hcz24_3, hcz24_4, hcz24_5, hcz24_6, hcz24_7, hcz24_8, hfz24_0, hfz24_1, hfz24_2, hfz24_3, hfz24_4, hfz24_5, hfz24_6, hfz24_7, hfz24_8⟩ := Z9 BK117.out
              go_wp2_with (first | (go_at_call 48; (with_reducible refine (name_Check.calls a0_7 t121 _ A22.out (by first | assumption | exact Laid.below (by assumption) (by repeat (first | (with_reducible first | exact Aside0.out (by assumption) | apply below_alloc | apply pw_below_drewN | apply below_drew1 | refine below_set ?_ (Aside0.out (by assumption))) | exact Aside0.out (by assumption))))).mono ?_); rintro e w25 ⟨rfl, hb⟩; have n0_ := Aside0.mk (blk_below (g := gb117) (o := .cells #[.int .i64 a0_0, .int .i64 a0_1, .int .i64 a0_2, .int .i64 a0_3, .int .i64 a0_4, .int .i64 a0_5, .int .i64 a0_6, .string a0_7, .string a0_8] 28 (0, 0)) Qk hb); have n1_ := Aside0.mk (blk_below (g := gb120) (o := .cells #[.int .i64 0, .int .i64 0, .int .i64 0, .int .i64 0, .int .i64 0, .int .i64 a0_5, .int .i64 a0_6, .string a0_7, .string a0_8] 28 (0, 0)) Qk hb); have n2_ := Aside0.mk (below_step Qh hb); clear BK117; clear BK120; clear HB; have BK117 := n0_; have BK120 := n1_; have HB := n2_; clear n0_ n1_ n2_; (try clear hb); (try clear hb2); (try clear hk); (try clear hi); obtain ⟨hcz26_0, hcz26_1, hcz26_2, hcz26_3, hcz26_4, hcz26_5, hcz26_6, hcz26_7, hcz26_8, hfz26_0, hfz26_1, hfz26_2, hfz26_3, hfz26_4, hfz26_5, hfz26_6, hfz26_7, hfz26_8⟩ := Z9 BK120.out))
              go_meet
              case rel => exact ⟨_, ((t121 == 0)), ((⟨#[]⟩ : ByteArray)), (a0_8), (by first | rfl | (simp; done) | (simp [*]; done)), H', ⟨by have := HJ1.out; first | omega | exact Nat.le_refl _⟩, ⟨Qk⟩, ⟨Qk⟩, ⟨Qh⟩⟩
            · rw [if_neg c21] at H
              have c21b0 : (a0_3 == a0_1 && (a0_4 == a0_2)) = false := by simpa using c21
              (try (have c21b1 : decide (a0_3 = a0_1 && (a0_4 == a0_2)) = false := by simpa using c21))
              (try (have c21b2 : (a0_3 == a0_1 && (a0_4 == a0_2)) = false := by simpa using c21))
              (try (have c21b3 : ¬ (a0_3 = a0_1 && (a0_4 == a0_2)) := by simpa using c21))
              clear c21
              have H' := Aside0.mk H
              clear H
              have hnb27 := NB117_120.out
              have hnc27 := NB120_117.out
              obtain ⟨hcz28_0, hcz28_1, hcz28_2, hcz28_3, hcz28_4, hcz28_5, hcz28_6, hcz28_7, hcz28_8, hfz28_0, hfz28_1, hfz28_2, hfz28_3, hfz28_4, hfz28_5, hfz28_6, hfz28_7, hfz28_8⟩ := Z9 BK117.out
              obtain ⟨hcz29_0, hcz29_1, hcz29_2, hcz29_3, hcz29_4, hcz29_5, hcz29_6, hcz29_7, hcz29_8, hfz29_0, hfz29_1, hfz29_2, hfz29_3, hfz29_4, hfz29_5, hfz29_6, hfz29_7, hfz29_8⟩ := Z9 BK120.out
              go_wp2
              go_meet
              case rel => exact ⟨_, (false), ((⟨#[]⟩ : ByteArray)), (a0_8), (by first | rfl | (simp; done) | (simp [*]; done)), H', ⟨by have := HJ1.out; first | omega | exact Nat.le_refl _⟩, ⟨Qk⟩, ⟨Qk⟩, ⟨Qh⟩⟩
          · replace c20 := Bool.eq_false_iff.mpr c20
            subst c20
            have H1 : (tree_Check.j1 kj1 false a0_0 a0_1 a0_2 a0_3 a0_4 a0_5 a0_6 a0_7 a0_8 0 0 0 0 0 a0_5 a0_6 (⟨#[]⟩ : ByteArray) a0_8) = some r := by rw [if_neg (show ¬ (false = true) by decide)] at H; exact H
            clear H
            have H := H1
            clear H1
            have H' := Aside0.mk H
            clear H
            have hnb30 := NB120_117.out
            have hnc30 := NB117_120.out
            obtain ⟨hcz31_0, hcz31_1, hcz31_2, hcz31_3, hcz31_4, hcz31_5, hcz31_6, hcz31_7, hcz31_8, hfz31_0, hfz31_1, hfz31_2, hfz31_3, hfz31_4, hfz31_5, hfz31_6, hfz31_7, hfz31_8⟩ := Z9 BK120.out
            go_wp2
            go_meet
            case rel => exact ⟨_, (false), ((⟨#[]⟩ : ByteArray)), (a0_8), (by first | rfl | (simp; done) | (simp [*]; done)), H', ⟨by have := HJ1.out; first | omega | exact Nat.le_refl _⟩, ⟨Qk⟩, ⟨Qk⟩, ⟨Qh⟩⟩
        · rw [if_neg c19] at H
          have c19b0 : (a0_0 == 1) = false := beq_eq_false_iff_ne.mpr c19
          have c19b1 : (a0_0 != 1) = true := bne_iff_ne.mpr c19
          (first | rw [c19b0] | (simp only [i64_w, i32_w]; rw [c19b0]) | skip)
          by_cases c32 : a0_0 = 3
          · rw [if_pos c32] at H
            have c32b0 : (a0_0 == 3) = true := beq_iff_eq.mpr c32
            have c32b1 : (a0_0 != 3) = false := bne_eq_false_iff_eq.mpr c32
            clear c32
            by_cases c33 : x3_1 = true
            · subst c33
              have H1 : ((name_Check.f a0_7).bind fun t122 => (tree_Check.j1 kj1 (t122 == 0) a0_0 a0_1 a0_2 a0_3 a0_4 a0_5 a0_6 a0_7 a0_8 0 0 0 0 0 a0_5 a0_6 (⟨#[]⟩ : ByteArray) a0_8)) = some r := by rw [if_pos rfl] at H; exact H
              clear H
              have H := H1
              clear H1
              replace H := Option.bind_eq_some_iff.mp H
              obtain ⟨t122, A340, H⟩ := H
              replace H : (tree_Check.j1 kj1 (t122 == 0) a0_0 a0_1 a0_2 a0_3 a0_4 a0_5 a0_6 a0_7 a0_8 0 0 0 0 0 a0_5 a0_6 (⟨#[]⟩ : ByteArray) a0_8) = some r := H
              have A34 := Aside0.mk A340
              clear A340
              have H' := Aside0.mk H
              clear H
              have hnb35 := NB117_120.out
              have hnc35 := NB120_117.out
              obtain ⟨hcz36_0, hcz36_1, hcz36_2, hcz36_3, hcz36_4, hcz36_5, hcz36_6, hcz36_7, hcz36_8, hfz36_0, hfz36_1, hfz36_2, hfz36_3, hfz36_4, hfz36_5, hfz36_6, hfz36_7, hfz36_8⟩ := Z9 BK117.out
              go_wp2_with (first | (go_at_call 48; (with_reducible refine (name_Check.calls a0_7 t122 _ A34.out (by first | assumption | exact Laid.below (by assumption) (by repeat (first | (with_reducible first | exact Aside0.out (by assumption) | apply below_alloc | apply pw_below_drewN | apply below_drew1 | refine below_set ?_ (Aside0.out (by assumption))) | exact Aside0.out (by assumption))))).mono ?_); rintro e w37 ⟨rfl, hb⟩; have n0_ := Aside0.mk (blk_below (g := gb117) (o := .cells #[.int .i64 a0_0, .int .i64 a0_1, .int .i64 a0_2, .int .i64 a0_3, .int .i64 a0_4, .int .i64 a0_5, .int .i64 a0_6, .string a0_7, .string a0_8] 28 (0, 0)) Qk hb); have n1_ := Aside0.mk (blk_below (g := gb120) (o := .cells #[.int .i64 0, .int .i64 0, .int .i64 0, .int .i64 0, .int .i64 0, .int .i64 a0_5, .int .i64 a0_6, .string a0_7, .string a0_8] 28 (0, 0)) Qk hb); have n2_ := Aside0.mk (below_step Qh hb); clear BK117; clear BK120; clear HB; have BK117 := n0_; have BK120 := n1_; have HB := n2_; clear n0_ n1_ n2_; (try clear hb); (try clear hb2); (try clear hk); (try clear hi); obtain ⟨hcz38_0, hcz38_1, hcz38_2, hcz38_3, hcz38_4, hcz38_5, hcz38_6, hcz38_7, hcz38_8, hfz38_0, hfz38_1, hfz38_2, hfz38_3, hfz38_4, hfz38_5, hfz38_6, hfz38_7, hfz38_8⟩ := Z9 BK120.out))
              go_meet
              case rel => exact ⟨_, ((t122 == 0)), ((⟨#[]⟩ : ByteArray)), (a0_8), (by first | rfl | (simp; done) | (simp [*]; done)), H', ⟨by have := HJ1.out; first | omega | exact Nat.le_refl _⟩, ⟨Qk⟩, ⟨Qk⟩, ⟨Qh⟩⟩
            · replace c33 := Bool.eq_false_iff.mpr c33
              subst c33
              have H1 : (tree_Check.j1 kj1 false a0_0 a0_1 a0_2 a0_3 a0_4 a0_5 a0_6 a0_7 a0_8 0 0 0 0 0 a0_5 a0_6 (⟨#[]⟩ : ByteArray) a0_8) = some r := by rw [if_neg (show ¬ (false = true) by decide)] at H; exact H
              clear H
              have H := H1
              clear H1
              have H' := Aside0.mk H
              clear H
              have hnb39 := NB120_117.out
              have hnc39 := NB117_120.out
              obtain ⟨hcz40_0, hcz40_1, hcz40_2, hcz40_3, hcz40_4, hcz40_5, hcz40_6, hcz40_7, hcz40_8, hfz40_0, hfz40_1, hfz40_2, hfz40_3, hfz40_4, hfz40_5, hfz40_6, hfz40_7, hfz40_8⟩ := Z9 BK120.out
              go_wp2
              go_meet
              case rel => exact ⟨_, (false), ((⟨#[]⟩ : ByteArray)), (a0_8), (by first | rfl | (simp; done) | (simp [*]; done)), H', ⟨by have := HJ1.out; first | omega | exact Nat.le_refl _⟩, ⟨Qk⟩, ⟨Qk⟩, ⟨Qh⟩⟩
          · rw [if_neg c32] at H
            have c32b0 : (a0_0 == 3) = false := beq_eq_false_iff_ne.mpr c32
            have c32b1 : (a0_0 != 3) = true := bne_iff_ne.mpr c32
            by_cases c41 : a0_0 = 4
            · rw [if_pos c41] at H
              have c41b0 : (a0_0 == 4) = true := beq_iff_eq.mpr c41
              have c41b1 : (a0_0 != 4) = false := bne_eq_false_iff_eq.mpr c41
              clear c41
              by_cases c42 : x3_1 = true
              · subst c42
                have H1 : (tree_Check.j1 kj1 (decide ((a0_8.size : Int) ≤ 64)) a0_0 a0_1 a0_2 a0_3 a0_4 a0_5 a0_6 a0_7 a0_8 0 0 0 0 0 a0_5 a0_6 a0_7 (⟨#[]⟩ : ByteArray)) = some r := by rw [if_pos rfl] at H; exact H
                clear H
                have H := H1
                clear H1
                have H' := Aside0.mk H
                clear H
                have hnb43 := NB117_120.out
                have hnc43 := NB120_117.out
                obtain ⟨hcz44_0, hcz44_1, hcz44_2, hcz44_3, hcz44_4, hcz44_5, hcz44_6, hcz44_7, hcz44_8, hfz44_0, hfz44_1, hfz44_2, hfz44_3, hfz44_4, hfz44_5, hfz44_6, hfz44_7, hfz44_8⟩ := Z9 BK117.out
                obtain ⟨hcz45_0, hcz45_1, hcz45_2, hcz45_3, hcz45_4, hcz45_5, hcz45_6, hcz45_7, hcz45_8, hfz45_0, hfz45_1, hfz45_2, hfz45_3, hfz45_4, hfz45_5, hfz45_6, hfz45_7, hfz45_8⟩ := Z9 BK120.out
                go_wp2
                go_meet
                case rel => exact ⟨_, (decide ((a0_8.size : Int) ≤ 64)), (a0_7), ((⟨#[]⟩ : ByteArray)), (by first | rfl | (simp; done) | (simp [*]; done)), H', ⟨by have := HJ1.out; first | omega | exact Nat.le_refl _⟩, ⟨Qk⟩, ⟨Qk⟩, ⟨Qh⟩⟩
              · replace c42 := Bool.eq_false_iff.mpr c42
                subst c42
                have H1 : (tree_Check.j1 kj1 false a0_0 a0_1 a0_2 a0_3 a0_4 a0_5 a0_6 a0_7 a0_8 0 0 0 0 0 a0_5 a0_6 a0_7 (⟨#[]⟩ : ByteArray)) = some r := by rw [if_neg (show ¬ (false = true) by decide)] at H; exact H
                clear H
                have H := H1
                clear H1
                have H' := Aside0.mk H
                clear H
                have hnb46 := NB120_117.out
                have hnc46 := NB117_120.out
                obtain ⟨hcz47_0, hcz47_1, hcz47_2, hcz47_3, hcz47_4, hcz47_5, hcz47_6, hcz47_7, hcz47_8, hfz47_0, hfz47_1, hfz47_2, hfz47_3, hfz47_4, hfz47_5, hfz47_6, hfz47_7, hfz47_8⟩ := Z9 BK120.out
                go_wp2
                go_meet
                case rel => exact ⟨_, (false), (a0_7), ((⟨#[]⟩ : ByteArray)), (by first | rfl | (simp; done) | (simp [*]; done)), H', ⟨by have := HJ1.out; first | omega | exact Nat.le_refl _⟩, ⟨Qk⟩, ⟨Qk⟩, ⟨Qh⟩⟩
            · rw [if_neg c41] at H
              have c41b0 : (a0_0 == 4) = false := beq_eq_false_iff_ne.mpr c41
              have c41b1 : (a0_0 != 4) = true := bne_iff_ne.mpr c41
              by_cases c48 : a0_0 = 2
              · rw [if_pos c48] at H
                have c48b0 : (a0_0 == 2) = true := beq_iff_eq.mpr c48
                have c48b1 : (a0_0 != 2) = false := bne_eq_false_iff_eq.mpr c48
                clear c48
                have H' := Aside0.mk H
                clear H
                go_wp2
                go_meet
                case rel => exact ⟨_, (x3_1), (a0_7), (a0_8), (by first | rfl | (simp; done) | (simp [*]; done)), H', ⟨by have := HJ1.out; first | omega | exact Nat.le_refl _⟩, ⟨Qk⟩, ⟨Qk⟩, ⟨Qh⟩⟩
              · rw [if_neg c48] at H
                have c48b0 : (a0_0 == 2) = false := beq_eq_false_iff_ne.mpr c48
                have c48b1 : (a0_0 != 2) = true := bne_iff_ne.mpr c48
                by_cases c49 : a0_0 = 5
                · rw [if_pos c49] at H
                  have c49b0 : (a0_0 == 5) = true := beq_iff_eq.mpr c49
                  have c49b1 : (a0_0 != 5) = false := bne_eq_false_iff_eq.mpr c49
                  clear c49
                  have H' := Aside0.mk H
                  clear H
                  go_wp2
                  go_meet
                  case rel => exact ⟨_, (x3_1), (a0_7), (a0_8), (by first | rfl | (simp; done) | (simp [*]; done)), H', ⟨by have := HJ1.out; first | omega | exact Nat.le_refl _⟩, ⟨Qk⟩, ⟨Qk⟩, ⟨Qh⟩⟩
                · rw [if_neg c49] at H
                  have c49b0 : (a0_0 == 5) = false := beq_eq_false_iff_ne.mpr c49
                  have c49b1 : (a0_0 != 5) = true := bne_iff_ne.mpr c49
                  have H' := Aside0.mk H
                  clear H
                  go_wp2
                  go_meet
                  case rel => exact ⟨_, (false), (a0_7), (a0_8), (by first | rfl | (simp; done) | (simp [*]; done)), H', ⟨by have := HJ1.out; first | omega | exact Nat.le_refl _⟩, ⟨Qk⟩, ⟨Qk⟩, ⟨Qh⟩⟩
      case rest =>
        clear HC13
        try clear c1
        try clear c2
        try clear p2
        try clear c3
        try clear c4
        try clear c5
        try clear c16
        try clear c19
        try clear c19b0
        try clear c19b1
        try clear c20
        try clear c21
        try clear c21b0
        try clear c21b1
        try clear c21b2
        try clear c22
        try clear c23
        try clear c27
        try clear c30
        try clear c32
        try clear c32b0
        try clear c32b1
        try clear c33
        try clear c35
        try clear c39
        try clear c41
        try clear c41b0
        try clear c41b1
        try clear c42
        try clear c43
        try clear c46
        try clear c48
        try clear c48b0
        try clear c48b1
        try clear c49
        try clear c49b0
        try clear c49b1
        try clear hcz11_0 hcz11_1 hcz11_2 hcz11_3 hcz11_4 hcz11_5 hcz11_6 hcz11_7 hcz11_8
        try clear hcz14_0 hcz14_1 hcz14_2 hcz14_3 hcz14_4 hcz14_5 hcz14_6 hcz14_7 hcz14_8
        try clear hcz17_0 hcz17_1 hcz17_2 hcz17_3 hcz17_4 hcz17_5 hcz17_6 hcz17_7 hcz17_8
        try clear hcz18_0 hcz18_1 hcz18_2 hcz18_3 hcz18_4 hcz18_5 hcz18_6 hcz18_7 hcz18_8
        try clear hcz24_0 hcz24_1 hcz24_2 hcz24_3 hcz24_4 hcz24_5 hcz24_6 hcz24_7 hcz24_8
        try clear hcz26_0 hcz26_1 hcz26_2 hcz26_3 hcz26_4 hcz26_5 hcz26_6 hcz26_7 hcz26_8
        try clear hcz28_0 hcz28_1 hcz28_2 hcz28_3 hcz28_4 hcz28_5 hcz28_6 hcz28_7 hcz28_8
        try clear hcz29_0 hcz29_1 hcz29_2 hcz29_3 hcz29_4 hcz29_5 hcz29_6 hcz29_7 hcz29_8
        try clear hcz31_0 hcz31_1 hcz31_2 hcz31_3 hcz31_4 hcz31_5 hcz31_6 hcz31_7 hcz31_8
        try clear hcz36_0 hcz36_1 hcz36_2 hcz36_3 hcz36_4 hcz36_5 hcz36_6 hcz36_7 hcz36_8
        try clear hcz38_0 hcz38_1 hcz38_2 hcz38_3 hcz38_4 hcz38_5 hcz38_6 hcz38_7 hcz38_8
        try clear hcz40_0 hcz40_1 hcz40_2 hcz40_3 hcz40_4 hcz40_5 hcz40_6 hcz40_7 hcz40_8
        try clear hcz44_0 hcz44_1 hcz44_2 hcz44_3 hcz44_4 hcz44_5 hcz44_6 hcz44_7 hcz44_8
        try clear hcz45_0 hcz45_1 hcz45_2 hcz45_3 hcz45_4 hcz45_5 hcz45_6 hcz45_7 hcz45_8
        try clear hcz47_0 hcz47_1 hcz47_2 hcz47_3 hcz47_4 hcz47_5 hcz47_6 hcz47_7 hcz47_8
        try clear hcz7_0 hcz7_1 hcz7_2 hcz7_3 hcz7_4 hcz7_5 hcz7_6 hcz7_7 hcz7_8
        try clear hcz9_0 hcz9_1 hcz9_2 hcz9_3 hcz9_4 hcz9_5 hcz9_6 hcz9_7 hcz9_8
        try clear hfz11_0 hfz11_1 hfz11_2 hfz11_3 hfz11_4 hfz11_5 hfz11_6 hfz11_7 hfz11_8
        try clear hfz14_0 hfz14_1 hfz14_2 hfz14_3 hfz14_4 hfz14_5 hfz14_6 hfz14_7 hfz14_8
        try clear hfz17_0 hfz17_1 hfz17_2 hfz17_3 hfz17_4 hfz17_5 hfz17_6 hfz17_7 hfz17_8
        try clear hfz18_0 hfz18_1 hfz18_2 hfz18_3 hfz18_4 hfz18_5 hfz18_6 hfz18_7 hfz18_8
        try clear hfz24_0 hfz24_1 hfz24_2 hfz24_3 hfz24_4 hfz24_5 hfz24_6 hfz24_7 hfz24_8
        try clear hfz26_0 hfz26_1 hfz26_2 hfz26_3 hfz26_4 hfz26_5 hfz26_6 hfz26_7 hfz26_8
        try clear hfz28_0 hfz28_1 hfz28_2 hfz28_3 hfz28_4 hfz28_5 hfz28_6 hfz28_7 hfz28_8
        try clear hfz29_0 hfz29_1 hfz29_2 hfz29_3 hfz29_4 hfz29_5 hfz29_6 hfz29_7 hfz29_8
        try clear hfz31_0 hfz31_1 hfz31_2 hfz31_3 hfz31_4 hfz31_5 hfz31_6 hfz31_7 hfz31_8
        try clear hfz36_0 hfz36_1 hfz36_2 hfz36_3 hfz36_4 hfz36_5 hfz36_6 hfz36_7 hfz36_8
        try clear hfz38_0 hfz38_1 hfz38_2 hfz38_3 hfz38_4 hfz38_5 hfz38_6 hfz38_7 hfz38_8
        try clear hfz40_0 hfz40_1 hfz40_2 hfz40_3 hfz40_4 hfz40_5 hfz40_6 hfz40_7 hfz40_8
        try clear hfz44_0 hfz44_1 hfz44_2 hfz44_3 hfz44_4 hfz44_5 hfz44_6 hfz44_7 hfz44_8
        try clear hfz45_0 hfz45_1 hfz45_2 hfz45_3 hfz45_4 hfz45_5 hfz45_6 hfz45_7 hfz45_8
        try clear hfz47_0 hfz47_1 hfz47_2 hfz47_3 hfz47_4 hfz47_5 hfz47_6 hfz47_7 hfz47_8
        try clear hfz7_0 hfz7_1 hfz7_2 hfz7_3 hfz7_4 hfz7_5 hfz7_6 hfz7_7 hfz7_8
        try clear hfz9_0 hfz9_1 hfz9_2 hfz9_3 hfz9_4 hfz9_5 hfz9_6 hfz9_7 hfz9_8
        try clear p2
        obtain ⟨kq, x3_12, x121007_12, x121008_12, rfl, HA, HJ12, BK117, BK120, HB⟩ := hcut
        cases kq with
        | zero => exact absurd HA.out (by simp [tree_Check.j1])
        | succ kj12 =>
          have H := HA.out
          clear HA
          simp only [tree_Check.j1] at H
          have HC50 := Aside0.mk H
          clear H
          go_upto_region 17 with (fail)
          go_cut [68] (fun v68 wc => ∃ (kq : Nat) (x68_49 : Bool), v68 = .bool x68_49 ∧ Aside0 (tree_Check.j2 kq x3_12 x68_49 a0_0 a0_1 a0_2 a0_3 a0_4 a0_5 a0_6 a0_7 a0_8 0 0 0 0 0 a0_5 a0_6 x121007_12 x121008_12 = some r) ∧ Aside0 (kq ≤ kj12) ∧ Aside0 (wc.heap[gb117]? = some (.cells #[.int .i64 a0_0, .int .i64 a0_1, .int .i64 a0_2, .int .i64 a0_3, .int .i64 a0_4, .int .i64 a0_5, .int .i64 a0_6, .string a0_7, .string a0_8] 28 (0, 0))) ∧ Aside0 (wc.heap[gb120]? = some (.cells #[.int .i64 0, .int .i64 0, .int .i64 0, .int .i64 0, .int .i64 0, .int .i64 a0_5, .int .i64 a0_6, .string x121007_12, .string x121008_12] 28 (0, 0))) ∧ Aside0 (Below w.heap.size w wc))
          case first =>
            have H := HC50.out
            clear HC50
            by_cases c51 : a0_0 = 1
            · rw [if_pos c51] at H
              have c51b0 : (a0_0 == 1) = true := beq_iff_eq.mpr c51
              have c51b1 : (a0_0 != 1) = false := bne_eq_false_iff_eq.mpr c51
              clear c51
              (first | rw [c51b0] | (simp only [i64_w, i32_w]; rw [c51b0]) | skip)
              have H' := Aside0.mk H
              clear H
              have hnb52 := NB117_120.out
              have hnc52 := NB120_117.out
              obtain ⟨hcz53_0, hcz53_1, hcz53_2, hcz53_3, hcz53_4, hcz53_5, hcz53_6, hcz53_7, hcz53_8, hfz53_0, hfz53_1, hfz53_2, hfz53_3, hfz53_4, hfz53_5, hfz53_6, hfz53_7, hfz53_8⟩ := Z9 BK117.out
              go_wp2
              go_meet
              case rel => exact ⟨_, (true), (by first | rfl | (simp; done) | (simp [*]; done)), H', ⟨by have := HJ1.out; have := HJ12.out; first | omega | exact Nat.le_refl _⟩, ⟨Qk⟩, ⟨Qk⟩, ⟨Qh⟩⟩
            · rw [if_neg c51] at H
              have c51b0 : (a0_0 == 1) = false := beq_eq_false_iff_ne.mpr c51
              have c51b1 : (a0_0 != 1) = true := bne_iff_ne.mpr c51
              (first | rw [c51b0] | (simp only [i64_w, i32_w]; rw [c51b0]) | skip)
              have H' := Aside0.mk H
              clear H
              have hnb54 := NB117_120.out
              have hnc54 := NB120_117.out
              obtain ⟨hcz55_0, hcz55_1, hcz55_2, hcz55_3, hcz55_4, hcz55_5, hcz55_6, hcz55_7, hcz55_8, hfz55_0, hfz55_1, hfz55_2, hfz55_3, hfz55_4, hfz55_5, hfz55_6, hfz55_7, hfz55_8⟩ := Z9 BK117.out
              go_wp2
              go_meet
              case rel => exact ⟨_, ((a0_0 == 2)), (by first | rfl | (simp; done) | (simp [*]; done)), H', ⟨by have := HJ1.out; have := HJ12.out; first | omega | exact Nat.le_refl _⟩, ⟨Qk⟩, ⟨Qk⟩, ⟨Qh⟩⟩
          case rest =>
            clear HC50
            try clear c1
            try clear c2
            try clear p2
            try clear c3
            try clear c4
            try clear c5
            try clear c16
            try clear c19
            try clear c19b0
            try clear c19b1
            try clear c20
            try clear c21
            try clear c21b0
            try clear c21b1
            try clear c21b2
            try clear c22
            try clear c23
            try clear c27
            try clear c30
            try clear c32
            try clear c32b0
            try clear c32b1
            try clear c33
            try clear c35
            try clear c39
            try clear c41
            try clear c41b0
            try clear c41b1
            try clear c42
            try clear c43
            try clear c46
            try clear c48
            try clear c48b0
            try clear c48b1
            try clear c49
            try clear c49b0
            try clear c49b1
            try clear c51
            try clear c51b0
            try clear c51b1
            try clear c52
            try clear c54
            try clear hcz11_0 hcz11_1 hcz11_2 hcz11_3 hcz11_4 hcz11_5 hcz11_6 hcz11_7 hcz11_8
            try clear hcz14_0 hcz14_1 hcz14_2 hcz14_3 hcz14_4 hcz14_5 hcz14_6 hcz14_7 hcz14_8
            try clear hcz17_0 hcz17_1 hcz17_2 hcz17_3 hcz17_4 hcz17_5 hcz17_6 hcz17_7 hcz17_8
            try clear hcz18_0 hcz18_1 hcz18_2 hcz18_3 hcz18_4 hcz18_5 hcz18_6 hcz18_7 hcz18_8
            try clear hcz24_0 hcz24_1 hcz24_2 hcz24_3 hcz24_4 hcz24_5 hcz24_6 hcz24_7 hcz24_8
            try clear hcz26_0 hcz26_1 hcz26_2 hcz26_3 hcz26_4 hcz26_5 hcz26_6 hcz26_7 hcz26_8
            try clear hcz28_0 hcz28_1 hcz28_2 hcz28_3 hcz28_4 hcz28_5 hcz28_6 hcz28_7 hcz28_8
            try clear hcz29_0 hcz29_1 hcz29_2 hcz29_3 hcz29_4 hcz29_5 hcz29_6 hcz29_7 hcz29_8
            try clear hcz31_0 hcz31_1 hcz31_2 hcz31_3 hcz31_4 hcz31_5 hcz31_6 hcz31_7 hcz31_8
            try clear hcz36_0 hcz36_1 hcz36_2 hcz36_3 hcz36_4 hcz36_5 hcz36_6 hcz36_7 hcz36_8
            try clear hcz38_0 hcz38_1 hcz38_2 hcz38_3 hcz38_4 hcz38_5 hcz38_6 hcz38_7 hcz38_8
            try clear hcz40_0 hcz40_1 hcz40_2 hcz40_3 hcz40_4 hcz40_5 hcz40_6 hcz40_7 hcz40_8
            try clear hcz44_0 hcz44_1 hcz44_2 hcz44_3 hcz44_4 hcz44_5 hcz44_6 hcz44_7 hcz44_8
            try clear hcz45_0 hcz45_1 hcz45_2 hcz45_3 hcz45_4 hcz45_5 hcz45_6 hcz45_7 hcz45_8
            try clear hcz47_0 hcz47_1 hcz47_2 hcz47_3 hcz47_4 hcz47_5 hcz47_6 hcz47_7 hcz47_8
            try clear hcz53_0 hcz53_1 hcz53_2 hcz53_3 hcz53_4 hcz53_5 hcz53_6 hcz53_7 hcz53_8
            try clear hcz55_0 hcz55_1 hcz55_2 hcz55_3 hcz55_4 hcz55_5 hcz55_6 hcz55_7 hcz55_8
            try clear hcz7_0 hcz7_1 hcz7_2 hcz7_3 hcz7_4 hcz7_5 hcz7_6 hcz7_7 hcz7_8
            try clear hcz9_0 hcz9_1 hcz9_2 hcz9_3 hcz9_4 hcz9_5 hcz9_6 hcz9_7 hcz9_8
            try clear hfz11_0 hfz11_1 hfz11_2 hfz11_3 hfz11_4 hfz11_5 hfz11_6 hfz11_7 hfz11_8
            try clear hfz14_0 hfz14_1 hfz14_2 hfz14_3 hfz14_4 hfz14_5 hfz14_6 hfz14_7 hfz14_8
            try clear hfz17_0 hfz17_1 hfz17_2 hfz17_3 hfz17_4 hfz17_5 hfz17_6 hfz17_7 hfz17_8
            try clear hfz18_0 hfz18_1 hfz18_2 hfz18_3 hfz18_4 hfz18_5 hfz18_6 hfz18_7 hfz18_8
            try clear hfz24_0 hfz24_1 hfz24_2 hfz24_3 hfz24_4 hfz24_5 hfz24_6 hfz24_7 hfz24_8
            try clear hfz26_0 hfz26_1 hfz26_2 hfz26_3 hfz26_4 hfz26_5 hfz26_6 hfz26_7 hfz26_8
            try clear hfz28_0 hfz28_1 hfz28_2 hfz28_3 hfz28_4 hfz28_5 hfz28_6 hfz28_7 hfz28_8
            try clear hfz29_0 hfz29_1 hfz29_2 hfz29_3 hfz29_4 hfz29_5 hfz29_6 hfz29_7 hfz29_8
            try clear hfz31_0 hfz31_1 hfz31_2 hfz31_3 hfz31_4 hfz31_5 hfz31_6 hfz31_7 hfz31_8
            try clear hfz36_0 hfz36_1 hfz36_2 hfz36_3 hfz36_4 hfz36_5 hfz36_6 hfz36_7 hfz36_8
            try clear hfz38_0 hfz38_1 hfz38_2 hfz38_3 hfz38_4 hfz38_5 hfz38_6 hfz38_7 hfz38_8
            try clear hfz40_0 hfz40_1 hfz40_2 hfz40_3 hfz40_4 hfz40_5 hfz40_6 hfz40_7 hfz40_8
            try clear hfz44_0 hfz44_1 hfz44_2 hfz44_3 hfz44_4 hfz44_5 hfz44_6 hfz44_7 hfz44_8
            try clear hfz45_0 hfz45_1 hfz45_2 hfz45_3 hfz45_4 hfz45_5 hfz45_6 hfz45_7 hfz45_8
            try clear hfz47_0 hfz47_1 hfz47_2 hfz47_3 hfz47_4 hfz47_5 hfz47_6 hfz47_7 hfz47_8
            try clear hfz53_0 hfz53_1 hfz53_2 hfz53_3 hfz53_4 hfz53_5 hfz53_6 hfz53_7 hfz53_8
            try clear hfz55_0 hfz55_1 hfz55_2 hfz55_3 hfz55_4 hfz55_5 hfz55_6 hfz55_7 hfz55_8
            try clear hfz7_0 hfz7_1 hfz7_2 hfz7_3 hfz7_4 hfz7_5 hfz7_6 hfz7_7 hfz7_8
            try clear hfz9_0 hfz9_1 hfz9_2 hfz9_3 hfz9_4 hfz9_5 hfz9_6 hfz9_7 hfz9_8
            try clear p2
            obtain ⟨kq, x68_49, rfl, HA, HJ49, BK117, BK120, HB⟩ := hcut
            cases kq with
            | zero => exact absurd HA.out (by simp [tree_Check.j2])
            | succ kj49 =>
              have H := HA.out
              clear HA
              simp only [tree_Check.j2] at H
              by_cases c56 : x68_49 = true
              · subst c56
                have H1 : (if x3_12 = true then ((tree_outer.f a0_5 a0_6).bind fun t123 => (if t123 = true then (if (!(0 == 0) || ((!(0 == 0) || (!(0 == 0))) || ((!(0 == 0) || (!(0 == 0))) || (!(x121007_12.toList == ([] : List UInt8)) || (!(x121008_12.toList == ([] : List UInt8))))))) = true then (some 1) else (some 0)) else ((tree_fine.f a0_5 a0_6).bind fun t124 => (if t124 = true then (if (!(0 == 0) || ((!(0 == 0) || (!(0 == 0))) || ((!(0 == 0) || (!(0 == 0))) || (!(x121007_12.toList == ([] : List UInt8)) || (!(x121008_12.toList == ([] : List UInt8))))))) = true then (some 1) else (some 0)) else (some 1))))) else (some 1)) = some r := by rw [if_pos rfl] at H; exact H
                clear H
                have H := H1
                clear H1
                by_cases c57 : x3_12 = true
                · subst c57
                  have H1 : ((tree_outer.f a0_5 a0_6).bind fun t123 => (if t123 = true then (if (!(0 == 0) || ((!(0 == 0) || (!(0 == 0))) || ((!(0 == 0) || (!(0 == 0))) || (!(x121007_12.toList == ([] : List UInt8)) || (!(x121008_12.toList == ([] : List UInt8))))))) = true then (some 1) else (some 0)) else ((tree_fine.f a0_5 a0_6).bind fun t124 => (if t124 = true then (if (!(0 == 0) || ((!(0 == 0) || (!(0 == 0))) || ((!(0 == 0) || (!(0 == 0))) || (!(x121007_12.toList == ([] : List UInt8)) || (!(x121008_12.toList == ([] : List UInt8))))))) = true then (some 1) else (some 0)) else (some 1))))) = some r := by rw [if_pos rfl] at H; exact H
                  clear H
                  have H := H1
                  clear H1
                  replace H := Option.bind_eq_some_iff.mp H
                  obtain ⟨t123, A580, H⟩ := H
                  replace H : (if t123 = true then (if (!(0 == 0) || ((!(0 == 0) || (!(0 == 0))) || ((!(0 == 0) || (!(0 == 0))) || (!(x121007_12.toList == ([] : List UInt8)) || (!(x121008_12.toList == ([] : List UInt8))))))) = true then (some 1) else (some 0)) else ((tree_fine.f a0_5 a0_6).bind fun t124 => (if t124 = true then (if (!(0 == 0) || ((!(0 == 0) || (!(0 == 0))) || ((!(0 == 0) || (!(0 == 0))) || (!(x121007_12.toList == ([] : List UInt8)) || (!(x121008_12.toList == ([] : List UInt8))))))) = true then (some 1) else (some 0)) else (some 1)))) = some r := H
                  have A58 := Aside0.mk A580
                  clear A580
                  by_cases c59 : t123 = true
                  · subst c59
                    have H1 : (if (!(0 == 0) || ((!(0 == 0) || (!(0 == 0))) || ((!(0 == 0) || (!(0 == 0))) || (!(x121007_12.toList == ([] : List UInt8)) || (!(x121008_12.toList == ([] : List UInt8))))))) = true then (some 1) else (some 0)) = some r := by rw [if_pos rfl] at H; exact H
                    clear H
                    have H := H1
                    clear H1
                    by_cases c60 : (!(0 == 0) || ((!(0 == 0) || (!(0 == 0))) || ((!(0 == 0) || (!(0 == 0))) || (!(x121007_12.toList == ([] : List UInt8)) || (!(x121008_12.toList == ([] : List UInt8))))))) = true
                    · rw [if_pos c60] at H
                      have c60b0 : (!(0 == 0) || ((!(0 == 0) || (!(0 == 0))) || ((!(0 == 0) || (!(0 == 0))) || (!(x121007_12.toList == ([] : List UInt8)) || (!(x121008_12.toList == ([] : List UInt8))))))) = true := c60
                      have c60e : ((!x121007_12.toList.isEmpty) = true ∨ (!x121008_12.toList.isEmpty) = true) = True := by
                        have h_ := c60b0
                        rw [show (x121007_12.toList == ([] : List UInt8)) = x121007_12.toList.isEmpty by cases x121007_12.toList <;> rfl, show (x121008_12.toList == ([] : List UInt8)) = x121008_12.toList.isEmpty by cases x121008_12.toList <;> rfl] at h_
                        generalize x121007_12.toList.isEmpty = p_ at h_ ⊢
                        generalize x121008_12.toList.isEmpty = q_ at h_ ⊢
                        revert h_
                        cases p_ <;> cases q_ <;> simp
                      have c60g : ((!x121007_12.toList.isEmpty) || (!x121008_12.toList.isEmpty)) = true := by
                        have h_ := c60b0
                        rw [show (x121007_12.toList == ([] : List UInt8)) = x121007_12.toList.isEmpty by cases x121007_12.toList <;> rfl, show (x121008_12.toList == ([] : List UInt8)) = x121008_12.toList.isEmpty by cases x121008_12.toList <;> rfl] at h_
                        generalize x121007_12.toList.isEmpty = p_ at h_ ⊢
                        generalize x121008_12.toList.isEmpty = q_ at h_ ⊢
                        revert h_
                        cases p_ <;> cases q_ <;> simp
                      clear c60
                      obtain rfl := Option.some.inj H
                      have hnb61 := NB117_120.out
                      have hnc61 := NB120_117.out
                      obtain ⟨hcz62_0, hcz62_1, hcz62_2, hcz62_3, hcz62_4, hcz62_5, hcz62_6, hcz62_7, hcz62_8, hfz62_0, hfz62_1, hfz62_2, hfz62_3, hfz62_4, hfz62_5, hfz62_6, hfz62_7, hfz62_8⟩ := Z9 BK117.out
                      go_wp2_with (first | (go_at_call 49; (with_reducible refine (tree_outer.calls a0_5 a0_6 true _ A58.out).mono ?_); rintro e w63 ⟨rfl, hb⟩; have n0_ := Aside0.mk (Qb BK117 hb); have n1_ := Aside0.mk (Qb BK120 hb); have n2_ := Aside0.mk (below_step Qh hb); clear BK117; clear BK120; clear HB; have BK117 := n0_; have BK120 := n1_; have HB := n2_; clear n0_ n1_ n2_; (try clear hb); (try clear hb2); (try clear hk); (try clear hi); obtain ⟨hcz64_0, hcz64_1, hcz64_2, hcz64_3, hcz64_4, hcz64_5, hcz64_6, hcz64_7, hcz64_8, hfz64_0, hfz64_1, hfz64_2, hfz64_3, hfz64_4, hfz64_5, hfz64_6, hfz64_7, hfz64_8⟩ := Z9 BK120.out))
                      go_ret
                      exact ⟨Qe, Qh⟩
                    · rw [if_neg c60] at H
                      have c60b0 : (!(0 == 0) || ((!(0 == 0) || (!(0 == 0))) || ((!(0 == 0) || (!(0 == 0))) || (!(x121007_12.toList == ([] : List UInt8)) || (!(x121008_12.toList == ([] : List UInt8))))))) = false := by simpa using c60
                      have c60e : ((!x121007_12.toList.isEmpty) = true ∨ (!x121008_12.toList.isEmpty) = true) = False := by
                        have h_ := c60b0
                        rw [show (x121007_12.toList == ([] : List UInt8)) = x121007_12.toList.isEmpty by cases x121007_12.toList <;> rfl, show (x121008_12.toList == ([] : List UInt8)) = x121008_12.toList.isEmpty by cases x121008_12.toList <;> rfl] at h_
                        generalize x121007_12.toList.isEmpty = p_ at h_ ⊢
                        generalize x121008_12.toList.isEmpty = q_ at h_ ⊢
                        revert h_
                        cases p_ <;> cases q_ <;> simp
                      have c60g : ((!x121007_12.toList.isEmpty) || (!x121008_12.toList.isEmpty)) = false := by
                        have h_ := c60b0
                        rw [show (x121007_12.toList == ([] : List UInt8)) = x121007_12.toList.isEmpty by cases x121007_12.toList <;> rfl, show (x121008_12.toList == ([] : List UInt8)) = x121008_12.toList.isEmpty by cases x121008_12.toList <;> rfl] at h_
                        generalize x121007_12.toList.isEmpty = p_ at h_ ⊢
                        generalize x121008_12.toList.isEmpty = q_ at h_ ⊢
                        revert h_
                        cases p_ <;> cases q_ <;> simp
                      clear c60
                      obtain rfl := Option.some.inj H
                      have hnb65 := NB117_120.out
                      have hnc65 := NB120_117.out
                      obtain ⟨hcz66_0, hcz66_1, hcz66_2, hcz66_3, hcz66_4, hcz66_5, hcz66_6, hcz66_7, hcz66_8, hfz66_0, hfz66_1, hfz66_2, hfz66_3, hfz66_4, hfz66_5, hfz66_6, hfz66_7, hfz66_8⟩ := Z9 BK117.out
                      go_wp2_with (first | (go_at_call 49; (with_reducible refine (tree_outer.calls a0_5 a0_6 true _ A58.out).mono ?_); rintro e w67 ⟨rfl, hb⟩; have n0_ := Aside0.mk (Qb BK117 hb); have n1_ := Aside0.mk (Qb BK120 hb); have n2_ := Aside0.mk (below_step Qh hb); clear BK117; clear BK120; clear HB; have BK117 := n0_; have BK120 := n1_; have HB := n2_; clear n0_ n1_ n2_; (try clear hb); (try clear hb2); (try clear hk); (try clear hi); obtain ⟨hcz68_0, hcz68_1, hcz68_2, hcz68_3, hcz68_4, hcz68_5, hcz68_6, hcz68_7, hcz68_8, hfz68_0, hfz68_1, hfz68_2, hfz68_3, hfz68_4, hfz68_5, hfz68_6, hfz68_7, hfz68_8⟩ := Z9 BK120.out))
                      go_ret
                      exact ⟨Qe, Qh⟩
                  · replace c59 := Bool.eq_false_iff.mpr c59
                    subst c59
                    have H1 : ((tree_fine.f a0_5 a0_6).bind fun t124 => (if t124 = true then (if (!(0 == 0) || ((!(0 == 0) || (!(0 == 0))) || ((!(0 == 0) || (!(0 == 0))) || (!(x121007_12.toList == ([] : List UInt8)) || (!(x121008_12.toList == ([] : List UInt8))))))) = true then (some 1) else (some 0)) else (some 1))) = some r := by rw [if_neg (show ¬ (false = true) by decide)] at H; exact H
                    clear H
                    have H := H1
                    clear H1
                    replace H := Option.bind_eq_some_iff.mp H
                    obtain ⟨t124, A690, H⟩ := H
                    replace H : (if t124 = true then (if (!(0 == 0) || ((!(0 == 0) || (!(0 == 0))) || ((!(0 == 0) || (!(0 == 0))) || (!(x121007_12.toList == ([] : List UInt8)) || (!(x121008_12.toList == ([] : List UInt8))))))) = true then (some 1) else (some 0)) else (some 1)) = some r := H
                    have A69 := Aside0.mk A690
                    clear A690
                    by_cases c70 : t124 = true
                    · subst c70
                      have H1 : (if (!(0 == 0) || ((!(0 == 0) || (!(0 == 0))) || ((!(0 == 0) || (!(0 == 0))) || (!(x121007_12.toList == ([] : List UInt8)) || (!(x121008_12.toList == ([] : List UInt8))))))) = true then (some 1) else (some 0)) = some r := by rw [if_pos rfl] at H; exact H
                      clear H
                      have H := H1
                      clear H1
                      by_cases c71 : (!(0 == 0) || ((!(0 == 0) || (!(0 == 0))) || ((!(0 == 0) || (!(0 == 0))) || (!(x121007_12.toList == ([] : List UInt8)) || (!(x121008_12.toList == ([] : List UInt8))))))) = true
                      · rw [if_pos c71] at H
                        have c71b0 : (!(0 == 0) || ((!(0 == 0) || (!(0 == 0))) || ((!(0 == 0) || (!(0 == 0))) || (!(x121007_12.toList == ([] : List UInt8)) || (!(x121008_12.toList == ([] : List UInt8))))))) = true := c71
                        have c71e : ((!x121007_12.toList.isEmpty) = true ∨ (!x121008_12.toList.isEmpty) = true) = True := by
                          have h_ := c71b0
                          rw [show (x121007_12.toList == ([] : List UInt8)) = x121007_12.toList.isEmpty by cases x121007_12.toList <;> rfl, show (x121008_12.toList == ([] : List UInt8)) = x121008_12.toList.isEmpty by cases x121008_12.toList <;> rfl] at h_
                          generalize x121007_12.toList.isEmpty = p_ at h_ ⊢
                          generalize x121008_12.toList.isEmpty = q_ at h_ ⊢
                          revert h_
                          cases p_ <;> cases q_ <;> simp
                        have c71g : ((!x121007_12.toList.isEmpty) || (!x121008_12.toList.isEmpty)) = true := by
                          have h_ := c71b0
                          rw [show (x121007_12.toList == ([] : List UInt8)) = x121007_12.toList.isEmpty by cases x121007_12.toList <;> rfl, show (x121008_12.toList == ([] : List UInt8)) = x121008_12.toList.isEmpty by cases x121008_12.toList <;> rfl] at h_
                          generalize x121007_12.toList.isEmpty = p_ at h_ ⊢
                          generalize x121008_12.toList.isEmpty = q_ at h_ ⊢
                          revert h_
                          cases p_ <;> cases q_ <;> simp
                        clear c71
                        obtain rfl := Option.some.inj H
                        have hnb72 := NB117_120.out
                        have hnc72 := NB120_117.out
                        obtain ⟨hcz73_0, hcz73_1, hcz73_2, hcz73_3, hcz73_4, hcz73_5, hcz73_6, hcz73_7, hcz73_8, hfz73_0, hfz73_1, hfz73_2, hfz73_3, hfz73_4, hfz73_5, hfz73_6, hfz73_7, hfz73_8⟩ := Z9 BK117.out
                        go_wp2_with (first | (go_at_call 49; (with_reducible refine (tree_outer.calls a0_5 a0_6 false _ A58.out).mono ?_); rintro e w74 ⟨rfl, hb⟩; have n0_ := Aside0.mk (Qb BK117 hb); have n1_ := Aside0.mk (Qb BK120 hb); have n2_ := Aside0.mk (below_step Qh hb); clear BK117; clear BK120; clear HB; have BK117 := n0_; have BK120 := n1_; have HB := n2_; clear n0_ n1_ n2_; (try clear hb); (try clear hb2); (try clear hk); (try clear hi); obtain ⟨hcz75_0, hcz75_1, hcz75_2, hcz75_3, hcz75_4, hcz75_5, hcz75_6, hcz75_7, hcz75_8, hfz75_0, hfz75_1, hfz75_2, hfz75_3, hfz75_4, hfz75_5, hfz75_6, hfz75_7, hfz75_8⟩ := Z9 BK117.out) | (go_at_call 43; (with_reducible refine (tree_fine.calls a0_5 a0_6 true _ A69.out).mono ?_); rintro e w76 ⟨rfl, hb⟩; have n0_ := Aside0.mk (Qb BK117 hb); have n1_ := Aside0.mk (Qb BK120 hb); have n2_ := Aside0.mk (below_step Qh hb); clear BK117; clear BK120; clear HB; have BK117 := n0_; have BK120 := n1_; have HB := n2_; clear n0_ n1_ n2_; (try clear hb); (try clear hb2); (try clear hk); (try clear hi); obtain ⟨hcz77_0, hcz77_1, hcz77_2, hcz77_3, hcz77_4, hcz77_5, hcz77_6, hcz77_7, hcz77_8, hfz77_0, hfz77_1, hfz77_2, hfz77_3, hfz77_4, hfz77_5, hfz77_6, hfz77_7, hfz77_8⟩ := Z9 BK120.out))
                        go_ret
                        exact ⟨Qe, Qh⟩
                      · rw [if_neg c71] at H
                        have c71b0 : (!(0 == 0) || ((!(0 == 0) || (!(0 == 0))) || ((!(0 == 0) || (!(0 == 0))) || (!(x121007_12.toList == ([] : List UInt8)) || (!(x121008_12.toList == ([] : List UInt8))))))) = false := by simpa using c71
                        have c71e : ((!x121007_12.toList.isEmpty) = true ∨ (!x121008_12.toList.isEmpty) = true) = False := by
                          have h_ := c71b0
                          rw [show (x121007_12.toList == ([] : List UInt8)) = x121007_12.toList.isEmpty by cases x121007_12.toList <;> rfl, show (x121008_12.toList == ([] : List UInt8)) = x121008_12.toList.isEmpty by cases x121008_12.toList <;> rfl] at h_
                          generalize x121007_12.toList.isEmpty = p_ at h_ ⊢
                          generalize x121008_12.toList.isEmpty = q_ at h_ ⊢
                          revert h_
                          cases p_ <;> cases q_ <;> simp
                        have c71g : ((!x121007_12.toList.isEmpty) || (!x121008_12.toList.isEmpty)) = false := by
                          have h_ := c71b0
                          rw [show (x121007_12.toList == ([] : List UInt8)) = x121007_12.toList.isEmpty by cases x121007_12.toList <;> rfl, show (x121008_12.toList == ([] : List UInt8)) = x121008_12.toList.isEmpty by cases x121008_12.toList <;> rfl] at h_
                          generalize x121007_12.toList.isEmpty = p_ at h_ ⊢
                          generalize x121008_12.toList.isEmpty = q_ at h_ ⊢
                          revert h_
                          cases p_ <;> cases q_ <;> simp
                        clear c71
                        obtain rfl := Option.some.inj H
                        have hnb78 := NB117_120.out
                        have hnc78 := NB120_117.out
                        obtain ⟨hcz79_0, hcz79_1, hcz79_2, hcz79_3, hcz79_4, hcz79_5, hcz79_6, hcz79_7, hcz79_8, hfz79_0, hfz79_1, hfz79_2, hfz79_3, hfz79_4, hfz79_5, hfz79_6, hfz79_7, hfz79_8⟩ := Z9 BK117.out
                        go_wp2_with (first | (go_at_call 49; (with_reducible refine (tree_outer.calls a0_5 a0_6 false _ A58.out).mono ?_); rintro e w80 ⟨rfl, hb⟩; have n0_ := Aside0.mk (Qb BK117 hb); have n1_ := Aside0.mk (Qb BK120 hb); have n2_ := Aside0.mk (below_step Qh hb); clear BK117; clear BK120; clear HB; have BK117 := n0_; have BK120 := n1_; have HB := n2_; clear n0_ n1_ n2_; (try clear hb); (try clear hb2); (try clear hk); (try clear hi); obtain ⟨hcz81_0, hcz81_1, hcz81_2, hcz81_3, hcz81_4, hcz81_5, hcz81_6, hcz81_7, hcz81_8, hfz81_0, hfz81_1, hfz81_2, hfz81_3, hfz81_4, hfz81_5, hfz81_6, hfz81_7, hfz81_8⟩ := Z9 BK117.out) | (go_at_call 43; (with_reducible refine (tree_fine.calls a0_5 a0_6 true _ A69.out).mono ?_); rintro e w82 ⟨rfl, hb⟩; have n0_ := Aside0.mk (Qb BK117 hb); have n1_ := Aside0.mk (Qb BK120 hb); have n2_ := Aside0.mk (below_step Qh hb); clear BK117; clear BK120; clear HB; have BK117 := n0_; have BK120 := n1_; have HB := n2_; clear n0_ n1_ n2_; (try clear hb); (try clear hb2); (try clear hk); (try clear hi); obtain ⟨hcz83_0, hcz83_1, hcz83_2, hcz83_3, hcz83_4, hcz83_5, hcz83_6, hcz83_7, hcz83_8, hfz83_0, hfz83_1, hfz83_2, hfz83_3, hfz83_4, hfz83_5, hfz83_6, hfz83_7, hfz83_8⟩ := Z9 BK120.out))
                        go_ret
                        exact ⟨Qe, Qh⟩
                    · replace c70 := Bool.eq_false_iff.mpr c70
                      subst c70
                      have H1 : (some 1) = some r := by rw [if_neg (show ¬ (false = true) by decide)] at H; exact H
                      clear H
                      have H := H1
                      clear H1
                      obtain rfl := Option.some.inj H
                      have hnb84 := NB117_120.out
                      have hnc84 := NB120_117.out
                      obtain ⟨hcz85_0, hcz85_1, hcz85_2, hcz85_3, hcz85_4, hcz85_5, hcz85_6, hcz85_7, hcz85_8, hfz85_0, hfz85_1, hfz85_2, hfz85_3, hfz85_4, hfz85_5, hfz85_6, hfz85_7, hfz85_8⟩ := Z9 BK117.out
                      go_wp2_with (first | (go_at_call 49; (with_reducible refine (tree_outer.calls a0_5 a0_6 false _ A58.out).mono ?_); rintro e w86 ⟨rfl, hb⟩; have n0_ := Aside0.mk (Qb BK117 hb); have n1_ := Aside0.mk (Qb BK120 hb); have n2_ := Aside0.mk (below_step Qh hb); clear BK117; clear BK120; clear HB; have BK117 := n0_; have BK120 := n1_; have HB := n2_; clear n0_ n1_ n2_; (try clear hb); (try clear hb2); (try clear hk); (try clear hi); obtain ⟨hcz87_0, hcz87_1, hcz87_2, hcz87_3, hcz87_4, hcz87_5, hcz87_6, hcz87_7, hcz87_8, hfz87_0, hfz87_1, hfz87_2, hfz87_3, hfz87_4, hfz87_5, hfz87_6, hfz87_7, hfz87_8⟩ := Z9 BK117.out) | (go_at_call 43; (with_reducible refine (tree_fine.calls a0_5 a0_6 false _ A69.out).mono ?_); rintro e w88 ⟨rfl, hb⟩; have n0_ := Aside0.mk (Qb BK117 hb); have n1_ := Aside0.mk (Qb BK120 hb); have n2_ := Aside0.mk (below_step Qh hb); clear BK117; clear BK120; clear HB; have BK117 := n0_; have BK120 := n1_; have HB := n2_; clear n0_ n1_ n2_; (try clear hb); (try clear hb2); (try clear hk); (try clear hi); obtain ⟨hcz89_0, hcz89_1, hcz89_2, hcz89_3, hcz89_4, hcz89_5, hcz89_6, hcz89_7, hcz89_8, hfz89_0, hfz89_1, hfz89_2, hfz89_3, hfz89_4, hfz89_5, hfz89_6, hfz89_7, hfz89_8⟩ := Z9 BK120.out))
                      go_ret
                      exact ⟨Qe, Qh⟩
                · replace c57 := Bool.eq_false_iff.mpr c57
                  subst c57
                  have H1 : (some 1) = some r := by rw [if_neg (show ¬ (false = true) by decide)] at H; exact H
                  clear H
                  have H := H1
                  clear H1
                  obtain rfl := Option.some.inj H
                  have hnb90 := NB120_117.out
                  have hnc90 := NB117_120.out
                  obtain ⟨hcz91_0, hcz91_1, hcz91_2, hcz91_3, hcz91_4, hcz91_5, hcz91_6, hcz91_7, hcz91_8, hfz91_0, hfz91_1, hfz91_2, hfz91_3, hfz91_4, hfz91_5, hfz91_6, hfz91_7, hfz91_8⟩ := Z9 BK120.out
                  go_wp2
                  go_ret
                  exact ⟨Qe, Qh⟩
              · replace c56 := Bool.eq_false_iff.mpr c56
                subst c56
                have H1 : (if x3_12 = true then (if (!(0 == 0) || ((!(0 == 0) || (!(0 == 0))) || ((!(0 == 0) || (!(0 == 0))) || ((!(a0_5 == 0) || (!(a0_6 == 0))) || (!(x121007_12.toList == ([] : List UInt8)) || (!(x121008_12.toList == ([] : List UInt8)))))))) = true then (some 1) else (some 0)) else (some 1)) = some r := by rw [if_neg (show ¬ (false = true) by decide)] at H; exact H
                clear H
                have H := H1
                clear H1
                by_cases c92 : x3_12 = true
                · subst c92
                  have H1 : (if (!(0 == 0) || ((!(0 == 0) || (!(0 == 0))) || ((!(0 == 0) || (!(0 == 0))) || ((!(a0_5 == 0) || (!(a0_6 == 0))) || (!(x121007_12.toList == ([] : List UInt8)) || (!(x121008_12.toList == ([] : List UInt8)))))))) = true then (some 1) else (some 0)) = some r := by rw [if_pos rfl] at H; exact H
                  clear H
                  have H := H1
                  clear H1
                  by_cases c93 : (!(0 == 0) || ((!(0 == 0) || (!(0 == 0))) || ((!(0 == 0) || (!(0 == 0))) || ((!(a0_5 == 0) || (!(a0_6 == 0))) || (!(x121007_12.toList == ([] : List UInt8)) || (!(x121008_12.toList == ([] : List UInt8)))))))) = true
                  · rw [if_pos c93] at H
                    have c93b0 : (!(0 == 0) || ((!(0 == 0) || (!(0 == 0))) || ((!(0 == 0) || (!(0 == 0))) || ((!(a0_5 == 0) || (!(a0_6 == 0))) || (!(x121007_12.toList == ([] : List UInt8)) || (!(x121008_12.toList == ([] : List UInt8)))))))) = true := c93
                    have c93e : (((!a0_5 == 0) = true ∨ (!a0_6 == 0) = true) ∨ (!x121007_12.toList.isEmpty) = true ∨ (!x121008_12.toList.isEmpty) = true) = True := by
                      have h_ := c93b0
                      rw [show (x121007_12.toList == ([] : List UInt8)) = x121007_12.toList.isEmpty by cases x121007_12.toList <;> rfl, show (x121008_12.toList == ([] : List UInt8)) = x121008_12.toList.isEmpty by cases x121008_12.toList <;> rfl] at h_
                      generalize x121007_12.toList.isEmpty = p_ at h_ ⊢
                      generalize x121008_12.toList.isEmpty = q_ at h_ ⊢
                      generalize (a0_5 == 0) = u_ at h_ ⊢
                      generalize (a0_6 == 0) = v_ at h_ ⊢
                      revert h_
                      cases u_ <;> cases v_ <;> cases p_ <;> cases q_ <;> simp
                    have c93g : (((!(a0_5 == 0)) || (!(a0_6 == 0))) || ((!x121007_12.toList.isEmpty) || (!x121008_12.toList.isEmpty))) = true := by
                      have h_ := c93b0
                      rw [show (x121007_12.toList == ([] : List UInt8)) = x121007_12.toList.isEmpty by cases x121007_12.toList <;> rfl, show (x121008_12.toList == ([] : List UInt8)) = x121008_12.toList.isEmpty by cases x121008_12.toList <;> rfl] at h_
                      generalize x121007_12.toList.isEmpty = p_ at h_ ⊢
                      generalize x121008_12.toList.isEmpty = q_ at h_ ⊢
                      generalize (a0_5 == 0) = u_ at h_ ⊢
                      generalize (a0_6 == 0) = v_ at h_ ⊢
                      revert h_
                      cases u_ <;> cases v_ <;> cases p_ <;> cases q_ <;> simp
                    clear c93
                    obtain rfl := Option.some.inj H
                    have hnb94 := NB120_117.out
                    have hnc94 := NB117_120.out
                    obtain ⟨hcz95_0, hcz95_1, hcz95_2, hcz95_3, hcz95_4, hcz95_5, hcz95_6, hcz95_7, hcz95_8, hfz95_0, hfz95_1, hfz95_2, hfz95_3, hfz95_4, hfz95_5, hfz95_6, hfz95_7, hfz95_8⟩ := Z9 BK120.out
                    go_wp2
                    go_ret
                    exact ⟨Qe, Qh⟩
                  · rw [if_neg c93] at H
                    have c93b0 : (!(0 == 0) || ((!(0 == 0) || (!(0 == 0))) || ((!(0 == 0) || (!(0 == 0))) || ((!(a0_5 == 0) || (!(a0_6 == 0))) || (!(x121007_12.toList == ([] : List UInt8)) || (!(x121008_12.toList == ([] : List UInt8)))))))) = false := by simpa using c93
                    have c93e : (((!a0_5 == 0) = true ∨ (!a0_6 == 0) = true) ∨ (!x121007_12.toList.isEmpty) = true ∨ (!x121008_12.toList.isEmpty) = true) = False := by
                      have h_ := c93b0
                      rw [show (x121007_12.toList == ([] : List UInt8)) = x121007_12.toList.isEmpty by cases x121007_12.toList <;> rfl, show (x121008_12.toList == ([] : List UInt8)) = x121008_12.toList.isEmpty by cases x121008_12.toList <;> rfl] at h_
                      generalize x121007_12.toList.isEmpty = p_ at h_ ⊢
                      generalize x121008_12.toList.isEmpty = q_ at h_ ⊢
                      generalize (a0_5 == 0) = u_ at h_ ⊢
                      generalize (a0_6 == 0) = v_ at h_ ⊢
                      revert h_
                      cases u_ <;> cases v_ <;> cases p_ <;> cases q_ <;> simp
                    have c93g : (((!(a0_5 == 0)) || (!(a0_6 == 0))) || ((!x121007_12.toList.isEmpty) || (!x121008_12.toList.isEmpty))) = false := by
                      have h_ := c93b0
                      rw [show (x121007_12.toList == ([] : List UInt8)) = x121007_12.toList.isEmpty by cases x121007_12.toList <;> rfl, show (x121008_12.toList == ([] : List UInt8)) = x121008_12.toList.isEmpty by cases x121008_12.toList <;> rfl] at h_
                      generalize x121007_12.toList.isEmpty = p_ at h_ ⊢
                      generalize x121008_12.toList.isEmpty = q_ at h_ ⊢
                      generalize (a0_5 == 0) = u_ at h_ ⊢
                      generalize (a0_6 == 0) = v_ at h_ ⊢
                      revert h_
                      cases u_ <;> cases v_ <;> cases p_ <;> cases q_ <;> simp
                    clear c93
                    obtain rfl := Option.some.inj H
                    have hnb96 := NB120_117.out
                    have hnc96 := NB117_120.out
                    obtain ⟨hcz97_0, hcz97_1, hcz97_2, hcz97_3, hcz97_4, hcz97_5, hcz97_6, hcz97_7, hcz97_8, hfz97_0, hfz97_1, hfz97_2, hfz97_3, hfz97_4, hfz97_5, hfz97_6, hfz97_7, hfz97_8⟩ := Z9 BK120.out
                    go_wp2
                    go_ret
                    exact ⟨Qe, Qh⟩
                · replace c92 := Bool.eq_false_iff.mpr c92
                  subst c92
                  have H1 : (some 1) = some r := by rw [if_neg (show ¬ (false = true) by decide)] at H; exact H
                  clear H
                  have H := H1
                  clear H1
                  obtain rfl := Option.some.inj H
                  go_wp2
                  go_ret
                  exact ⟨Qe, Qh⟩

end Go.Proofs.YtiffeljmeahmkaaDoor.S
