/- Functions of the translation as plain Lean functions, and that each call comes to what they say: for every argument. Written by a program of this session's own; Lean checks it. -/
import Derived.Test.YtiffeljmeahmkaaDoorSx0
import Derived.Test.YtiffeljmeahmkaaDoorSx2
import Derived.Test.YtiffeljmeahmkaaDoorSx3
namespace Go.Proofs.YtiffeljmeahmkaaDoor.S
open Go.RowKit Go.Proofs.YtiffeljmeahmkaaDoorW.PrintWords Go.Proofs.YtiffeljmeahmkaaDoorW.PrintLast
set_option linter.unusedVariables false
set_option linter.unusedSimpArgs false

attribute [local go_sem high] eqA28 eqA36
/-! ### samphireref11_SameNodes: function 27 -/
def samphireref11_SameNodes.l0 : Nat → List (S36) → List (S36) → Int → Option (Bool)
  | 0, _, _, _ => none
  | k + 1, x0, x1, x5 => if x5 < (x0.length : Int) then (if 0 ≤ x5 then (if x5 < (x1.length : Int) then (if ((!(((rd_T36 x0 x5).f0.f0) == ((rd_T36 x1 x5).f0.f0)) || (!(((rd_T36 x0 x5).f0.f1) == ((rd_T36 x1 x5).f0.f1)))) || ((!(((rd_T36 x0 x5).f1.f0) == ((rd_T36 x1 x5).f1.f0)) || (!(((rd_T36 x0 x5).f1.f1) == ((rd_T36 x1 x5).f1.f1)))) || (!((((rd_T36 x0 x5).f2).toList) == (((rd_T36 x1 x5).f2).toList)) || (!((((rd_T36 x0 x5).f3).toList) == (((rd_T36 x1 x5).f3).toList)))))) = true then (some false) else (samphireref11_SameNodes.l0 k x0 x1 (wrap64 (x5 + 1)))) else (none)) else (none)) else (some true)
def samphireref11_SameNodes.f (k : Nat) (l0 : List (S36)) (l1 : List (S36)) : Option (Bool) := if (l0.length : Int) = (l1.length : Int) then (samphireref11_SameNodes.l0 k l0 l1 0) else (some false)
set_option maxHeartbeats 8000000 in
set_option maxRecDepth 100000 in
theorem samphireref11_SameNodes.calls (k : Nat) (A0 : Option Addr) (c0 : Nat) (l0 : List (S36)) (A1 : Option Addr) (c1 : Nat) (l1 : List (S36)) (r : Bool) (w : World) (hr0 : Kd.C k36 w A0 l0.length l0) (hc0 : l0.length ≤ c0) (hr1 : Kd.C k36 w A1 l1.length l1) (hc1 : l1.length ≤ c1) (h : samphireref11_SameNodes.f k l0 l1 = some r) :
    Calls Tryd.prog 27 #[.slice A0 l0.length c0, .slice A1 l1.length c1] w fun e w' => e = .returned (.bool r) ∧ Drawn0 w w' := by
  have hu36 := Tryd.underlying36
  have HR0 := Aside0.mk hr0
  have HC0 := Aside0.mk hc0
  clear hr0 hc0
  have HR1 := Aside0.mk hr1
  have HC1 := Aside0.mk hc1
  clear hr1 hc1
  have H : (if (l0.length : Int) = (l1.length : Int) then (samphireref11_SameNodes.l0 k l0 l1 0) else (some false)) = some r := h
  clear h
  by_cases c3 : (l0.length : Int) = (l1.length : Int)
  · rw [if_pos c3] at H
    have c3b0 : ((l0.length : Int) == (l1.length : Int)) = true := beq_iff_eq.mpr c3
    have c3b1 : ((l0.length : Int) != (l1.length : Int)) = false := bne_eq_false_iff_eq.mpr c3
    have c3b2 : (l0.length == l1.length) = true := by first | simpa using c3 | (simp at c3 ⊢; omega)
    clear c3
    have H' := Aside0.mk H
    clear H
    go_enter Tryd.func27, Tryd.ntmps27
    go_wp2
    repeat (go_quiet (fail); try go_wp2)
    go_loopg [5] k (fun kq v5 w' => ∃ (x5_1 : Int), v5 = .int .i64 x5_1 ∧ Aside0 (samphireref11_SameNodes.l0 kq l0 l1 x5_1 = some r) ∧ Aside0 (kq ≤ k) ∧ Drawn0 w w')
    case atStart => exact ⟨(0), (by first | rfl | (simp; done) | (simp [*]; done)), H', ⟨Nat.le_refl _⟩, by repeat (first | exact Drawn0.refl _ | apply Drawn0.step)⟩
    case round =>
      clear H'
      try clear c1
      try clear c2
      try clear p2
      try clear c3
      try clear c3b0
      try clear c3b1
      try clear c3b2
      obtain ⟨x5_1, rfl, HA, HK1, ⟨m1, rfl⟩⟩ := hrel
      cases gk with
      | zero => exact absurd HA.out (by simp [samphireref11_SameNodes.l0])
      | succ k1 =>
        have H := HA.out
        clear HA
        simp only [samphireref11_SameNodes.l0] at H
        by_cases c4 : x5_1 < (l0.length : Int)
        · rw [if_pos c4] at H
          have c4b0 : decide (x5_1 < (l0.length : Int)) = true := decide_eq_true c4
          clear c4
          by_cases c5 : 0 ≤ x5_1
          · rw [if_pos c5] at H
            have c5b0 : decide (0 ≤ x5_1) = true := decide_eq_true c5
            clear c5
            by_cases c6 : x5_1 < (l1.length : Int)
            · rw [if_pos c6] at H
              have c6b0 : decide (x5_1 < (l1.length : Int)) = true := decide_eq_true c6
              clear c6
              by_cases c7 : ((!(((rd_T36 l0 x5_1).f0.f0) == ((rd_T36 l1 x5_1).f0.f0)) || (!(((rd_T36 l0 x5_1).f0.f1) == ((rd_T36 l1 x5_1).f0.f1)))) || ((!(((rd_T36 l0 x5_1).f1.f0) == ((rd_T36 l1 x5_1).f1.f0)) || (!(((rd_T36 l0 x5_1).f1.f1) == ((rd_T36 l1 x5_1).f1.f1)))) || (!((((rd_T36 l0 x5_1).f2).toList) == (((rd_T36 l1 x5_1).f2).toList)) || (!((((rd_T36 l0 x5_1).f3).toList) == (((rd_T36 l1 x5_1).f3).toList)))))) = true
              · rw [if_pos c7] at H
                have c7b0 : ((!(((rd_T36 l0 x5_1).f0.f0) == ((rd_T36 l1 x5_1).f0.f0)) || (!(((rd_T36 l0 x5_1).f0.f1) == ((rd_T36 l1 x5_1).f0.f1)))) || ((!(((rd_T36 l0 x5_1).f1.f0) == ((rd_T36 l1 x5_1).f1.f0)) || (!(((rd_T36 l0 x5_1).f1.f1) == ((rd_T36 l1 x5_1).f1.f1)))) || (!((((rd_T36 l0 x5_1).f2).toList) == (((rd_T36 l1 x5_1).f2).toList)) || (!((((rd_T36 l0 x5_1).f3).toList) == (((rd_T36 l1 x5_1).f3).toList)))))) = true := c7
                clear c7
                obtain rfl := Option.some.inj H
                have p143 : 0 ≤ (x5_1 : Int) := of_decide_eq_true (by first | (with_reducible assumption) | assumption)
                have q143 : x5_1 < (l0.length : Int) := of_decide_eq_true (by first | (with_reducible assumption) | assumption)
                obtain ⟨ad143, e143, hx143_0, hx143_1, hx143_2, hx143_3, hx143_4, hx143_5⟩ := at_T36 HR0.out x5_1 p143 q143
                cases e143
                replace p143 := eq_true p143
                replace q143 := eq_true q143
                have p144 : 0 ≤ (x5_1 : Int) := of_decide_eq_true (by first | (with_reducible assumption) | assumption)
                have q144 : x5_1 < (l1.length : Int) := of_decide_eq_true (by first | (with_reducible assumption) | assumption)
                obtain ⟨ad144, e144, hx144_0, hx144_1, hx144_2, hx144_3, hx144_4, hx144_5⟩ := at_T36 HR1.out x5_1 p144 q144
                cases e144
                replace p144 := eq_true p144
                replace q144 := eq_true q144
                go_wp2
                repeat (go_quiet (fail); try go_wp2)
                go_ret
                exact ⟨by first | rfl | (simp; done) | (simp [*]; done), by repeat (first | exact Drawn0.refl _ | apply Drawn0.step)⟩
              · rw [if_neg c7] at H
                have c7b0 : ((!(((rd_T36 l0 x5_1).f0.f0) == ((rd_T36 l1 x5_1).f0.f0)) || (!(((rd_T36 l0 x5_1).f0.f1) == ((rd_T36 l1 x5_1).f0.f1)))) || ((!(((rd_T36 l0 x5_1).f1.f0) == ((rd_T36 l1 x5_1).f1.f0)) || (!(((rd_T36 l0 x5_1).f1.f1) == ((rd_T36 l1 x5_1).f1.f1)))) || (!((((rd_T36 l0 x5_1).f2).toList) == (((rd_T36 l1 x5_1).f2).toList)) || (!((((rd_T36 l0 x5_1).f3).toList) == (((rd_T36 l1 x5_1).f3).toList)))))) = false := by simpa using c7
                clear c7
                have H' := Aside0.mk H
                clear H
                have p143 : 0 ≤ (x5_1 : Int) := of_decide_eq_true (by first | (with_reducible assumption) | assumption)
                have q143 : x5_1 < (l0.length : Int) := of_decide_eq_true (by first | (with_reducible assumption) | assumption)
                obtain ⟨ad143, e143, hx143_0, hx143_1, hx143_2, hx143_3, hx143_4, hx143_5⟩ := at_T36 HR0.out x5_1 p143 q143
                cases e143
                replace p143 := eq_true p143
                replace q143 := eq_true q143
                have p144 : 0 ≤ (x5_1 : Int) := of_decide_eq_true (by first | (with_reducible assumption) | assumption)
                have q144 : x5_1 < (l1.length : Int) := of_decide_eq_true (by first | (with_reducible assumption) | assumption)
                obtain ⟨ad144, e144, hx144_0, hx144_1, hx144_2, hx144_3, hx144_4, hx144_5⟩ := at_T36 HR1.out x5_1 p144 q144
                cases e144
                replace p144 := eq_true p144
                replace q144 := eq_true q144
                go_wp2
                repeat (go_quiet (fail); try go_wp2)
                go_roundg k1
                case measure => have := HK1.out; omega
                case rel => exact ⟨(wrap64 (x5_1 + 1)), (by first | rfl | (simp; done) | (simp [*]; done)), H', ⟨by have := HK1.out; omega⟩, by repeat (first | exact Drawn0.refl _ | apply Drawn0.step)⟩
            · rw [if_neg c6] at H
              exact absurd H (by simp)
          · rw [if_neg c5] at H
            exact absurd H (by simp)
        · rw [if_neg c4] at H
          have c4b0 : decide (x5_1 < (l0.length : Int)) = false := decide_eq_false c4
          clear c4
          obtain rfl := Option.some.inj H
          go_wp2
          repeat (go_quiet (fail); try go_wp2)
          go_ret
          exact ⟨by first | rfl | (simp; done) | (simp [*]; done), by repeat (first | exact Drawn0.refl _ | apply Drawn0.step)⟩
  · rw [if_neg c3] at H
    have c3b0 : ((l0.length : Int) == (l1.length : Int)) = false := beq_eq_false_iff_ne.mpr c3
    have c3b1 : ((l0.length : Int) != (l1.length : Int)) = true := bne_iff_ne.mpr c3
    have c3b2 : (l0.length == l1.length) = false := by first | simpa using c3 | (simp at c3 ⊢; omega)
    obtain rfl := Option.some.inj H
    go_enter Tryd.func27, Tryd.ntmps27
    go_wp2
    repeat (go_quiet (fail); try go_wp2)
    go_ret
    exact ⟨by first | rfl | (simp; done) | (simp [*]; done), by repeat (first | exact Drawn0.refl _ | apply Drawn0.step)⟩

-- NOT PRINTED: function 28 (tree_Tree_Nodes)

/-! ### samphireref11_SameOps: function 29 -/
def samphireref11_SameOps.l0 : Nat → List (S28) → List (S28) → Int → Option (Bool)
  | 0, _, _, _ => none
  | k + 1, x0, x1, x5 => if x5 < (x0.length : Int) then (if 0 ≤ x5 then (if x5 < (x1.length : Int) then (if (!(((rd_T28 x0 x5).f0) == ((rd_T28 x1 x5).f0)) || ((!(((rd_T28 x0 x5).f1.f0) == ((rd_T28 x1 x5).f1.f0)) || (!(((rd_T28 x0 x5).f1.f1) == ((rd_T28 x1 x5).f1.f1)))) || ((!(((rd_T28 x0 x5).f2.f0) == ((rd_T28 x1 x5).f2.f0)) || (!(((rd_T28 x0 x5).f2.f1) == ((rd_T28 x1 x5).f2.f1)))) || ((!(((rd_T28 x0 x5).f3.f0) == ((rd_T28 x1 x5).f3.f0)) || (!(((rd_T28 x0 x5).f3.f1) == ((rd_T28 x1 x5).f3.f1)))) || (!((((rd_T28 x0 x5).f4).toList) == (((rd_T28 x1 x5).f4).toList)) || (!((((rd_T28 x0 x5).f5).toList) == (((rd_T28 x1 x5).f5).toList)))))))) = true then (some false) else (samphireref11_SameOps.l0 k x0 x1 (wrap64 (x5 + 1)))) else (none)) else (none)) else (some true)
def samphireref11_SameOps.f (k : Nat) (l0 : List (S28)) (l1 : List (S28)) : Option (Bool) := if (l0.length : Int) = (l1.length : Int) then (samphireref11_SameOps.l0 k l0 l1 0) else (some false)
set_option maxHeartbeats 8000000 in
set_option maxRecDepth 100000 in
theorem samphireref11_SameOps.calls (k : Nat) (A0 : Option Addr) (c0 : Nat) (l0 : List (S28)) (A1 : Option Addr) (c1 : Nat) (l1 : List (S28)) (r : Bool) (w : World) (hr0 : Kd.C k28 w A0 l0.length l0) (hc0 : l0.length ≤ c0) (hr1 : Kd.C k28 w A1 l1.length l1) (hc1 : l1.length ≤ c1) (h : samphireref11_SameOps.f k l0 l1 = some r) :
    Calls Tryd.prog 29 #[.slice A0 l0.length c0, .slice A1 l1.length c1] w fun e w' => e = .returned (.bool r) ∧ Drawn0 w w' := by
  have hu28 := Tryd.underlying28
  have HR0 := Aside0.mk hr0
  have HC0 := Aside0.mk hc0
  clear hr0 hc0
  have HR1 := Aside0.mk hr1
  have HC1 := Aside0.mk hc1
  clear hr1 hc1
  have H : (if (l0.length : Int) = (l1.length : Int) then (samphireref11_SameOps.l0 k l0 l1 0) else (some false)) = some r := h
  clear h
  by_cases c3 : (l0.length : Int) = (l1.length : Int)
  · rw [if_pos c3] at H
    have c3b0 : ((l0.length : Int) == (l1.length : Int)) = true := beq_iff_eq.mpr c3
    have c3b1 : ((l0.length : Int) != (l1.length : Int)) = false := bne_eq_false_iff_eq.mpr c3
    have c3b2 : (l0.length == l1.length) = true := by first | simpa using c3 | (simp at c3 ⊢; omega)
    clear c3
    have H' := Aside0.mk H
    clear H
    go_enter Tryd.func29, Tryd.ntmps29
    go_wp2
    repeat (go_quiet (fail); try go_wp2)
    go_loopg [5] k (fun kq v5 w' => ∃ (x5_1 : Int), v5 = .int .i64 x5_1 ∧ Aside0 (samphireref11_SameOps.l0 kq l0 l1 x5_1 = some r) ∧ Aside0 (kq ≤ k) ∧ Drawn0 w w')
    case atStart => exact ⟨(0), (by first | rfl | (simp; done) | (simp [*]; done)), H', ⟨Nat.le_refl _⟩, by repeat (first | exact Drawn0.refl _ | apply Drawn0.step)⟩
    case round =>
      clear H'
      try clear c1
      try clear c2
      try clear p2
      try clear c3
      try clear c3b0
      try clear c3b1
      try clear c3b2
      obtain ⟨x5_1, rfl, HA, HK1, ⟨m1, rfl⟩⟩ := hrel
      cases gk with
      | zero => exact absurd HA.out (by simp [samphireref11_SameOps.l0])
      | succ k1 =>
        have H := HA.out
        clear HA
        simp only [samphireref11_SameOps.l0] at H
        by_cases c4 : x5_1 < (l0.length : Int)
        · rw [if_pos c4] at H
          have c4b0 : decide (x5_1 < (l0.length : Int)) = true := decide_eq_true c4
          clear c4
          by_cases c5 : 0 ≤ x5_1
          · rw [if_pos c5] at H
            have c5b0 : decide (0 ≤ x5_1) = true := decide_eq_true c5
            clear c5
            by_cases c6 : x5_1 < (l1.length : Int)
            · rw [if_pos c6] at H
              have c6b0 : decide (x5_1 < (l1.length : Int)) = true := decide_eq_true c6
              clear c6
              by_cases c7 : (!(((rd_T28 l0 x5_1).f0) == ((rd_T28 l1 x5_1).f0)) || ((!(((rd_T28 l0 x5_1).f1.f0) == ((rd_T28 l1 x5_1).f1.f0)) || (!(((rd_T28 l0 x5_1).f1.f1) == ((rd_T28 l1 x5_1).f1.f1)))) || ((!(((rd_T28 l0 x5_1).f2.f0) == ((rd_T28 l1 x5_1).f2.f0)) || (!(((rd_T28 l0 x5_1).f2.f1) == ((rd_T28 l1 x5_1).f2.f1)))) || ((!(((rd_T28 l0 x5_1).f3.f0) == ((rd_T28 l1 x5_1).f3.f0)) || (!(((rd_T28 l0 x5_1).f3.f1) == ((rd_T28 l1 x5_1).f3.f1)))) || (!((((rd_T28 l0 x5_1).f4).toList) == (((rd_T28 l1 x5_1).f4).toList)) || (!((((rd_T28 l0 x5_1).f5).toList) == (((rd_T28 l1 x5_1).f5).toList)))))))) = true
              · rw [if_pos c7] at H
                have c7b0 : (!(((rd_T28 l0 x5_1).f0) == ((rd_T28 l1 x5_1).f0)) || ((!(((rd_T28 l0 x5_1).f1.f0) == ((rd_T28 l1 x5_1).f1.f0)) || (!(((rd_T28 l0 x5_1).f1.f1) == ((rd_T28 l1 x5_1).f1.f1)))) || ((!(((rd_T28 l0 x5_1).f2.f0) == ((rd_T28 l1 x5_1).f2.f0)) || (!(((rd_T28 l0 x5_1).f2.f1) == ((rd_T28 l1 x5_1).f2.f1)))) || ((!(((rd_T28 l0 x5_1).f3.f0) == ((rd_T28 l1 x5_1).f3.f0)) || (!(((rd_T28 l0 x5_1).f3.f1) == ((rd_T28 l1 x5_1).f3.f1)))) || (!((((rd_T28 l0 x5_1).f4).toList) == (((rd_T28 l1 x5_1).f4).toList)) || (!((((rd_T28 l0 x5_1).f5).toList) == (((rd_T28 l1 x5_1).f5).toList)))))))) = true := c7
                clear c7
                obtain rfl := Option.some.inj H
                have p145 : 0 ≤ (x5_1 : Int) := of_decide_eq_true (by first | (with_reducible assumption) | assumption)
                have q145 : x5_1 < (l0.length : Int) := of_decide_eq_true (by first | (with_reducible assumption) | assumption)
                obtain ⟨ad145, e145, hx145_0, hx145_1, hx145_2, hx145_3, hx145_4, hx145_5, hx145_6, hx145_7, hx145_8⟩ := at_T28 HR0.out x5_1 p145 q145
                cases e145
                replace p145 := eq_true p145
                replace q145 := eq_true q145
                have p146 : 0 ≤ (x5_1 : Int) := of_decide_eq_true (by first | (with_reducible assumption) | assumption)
                have q146 : x5_1 < (l1.length : Int) := of_decide_eq_true (by first | (with_reducible assumption) | assumption)
                obtain ⟨ad146, e146, hx146_0, hx146_1, hx146_2, hx146_3, hx146_4, hx146_5, hx146_6, hx146_7, hx146_8⟩ := at_T28 HR1.out x5_1 p146 q146
                cases e146
                replace p146 := eq_true p146
                replace q146 := eq_true q146
                go_wp2
                repeat (go_quiet (fail); try go_wp2)
                go_ret
                exact ⟨by first | rfl | (simp; done) | (simp [*]; done), by repeat (first | exact Drawn0.refl _ | apply Drawn0.step)⟩
              · rw [if_neg c7] at H
                have c7b0 : (!(((rd_T28 l0 x5_1).f0) == ((rd_T28 l1 x5_1).f0)) || ((!(((rd_T28 l0 x5_1).f1.f0) == ((rd_T28 l1 x5_1).f1.f0)) || (!(((rd_T28 l0 x5_1).f1.f1) == ((rd_T28 l1 x5_1).f1.f1)))) || ((!(((rd_T28 l0 x5_1).f2.f0) == ((rd_T28 l1 x5_1).f2.f0)) || (!(((rd_T28 l0 x5_1).f2.f1) == ((rd_T28 l1 x5_1).f2.f1)))) || ((!(((rd_T28 l0 x5_1).f3.f0) == ((rd_T28 l1 x5_1).f3.f0)) || (!(((rd_T28 l0 x5_1).f3.f1) == ((rd_T28 l1 x5_1).f3.f1)))) || (!((((rd_T28 l0 x5_1).f4).toList) == (((rd_T28 l1 x5_1).f4).toList)) || (!((((rd_T28 l0 x5_1).f5).toList) == (((rd_T28 l1 x5_1).f5).toList)))))))) = false := by simpa using c7
                clear c7
                have H' := Aside0.mk H
                clear H
                have p145 : 0 ≤ (x5_1 : Int) := of_decide_eq_true (by first | (with_reducible assumption) | assumption)
                have q145 : x5_1 < (l0.length : Int) := of_decide_eq_true (by first | (with_reducible assumption) | assumption)
                obtain ⟨ad145, e145, hx145_0, hx145_1, hx145_2, hx145_3, hx145_4, hx145_5, hx145_6, hx145_7, hx145_8⟩ := at_T28 HR0.out x5_1 p145 q145
                cases e145
                replace p145 := eq_true p145
                replace q145 := eq_true q145
                have p146 : 0 ≤ (x5_1 : Int) := of_decide_eq_true (by first | (with_reducible assumption) | assumption)
                have q146 : x5_1 < (l1.length : Int) := of_decide_eq_true (by first | (with_reducible assumption) | assumption)
                obtain ⟨ad146, e146, hx146_0, hx146_1, hx146_2, hx146_3, hx146_4, hx146_5, hx146_6, hx146_7, hx146_8⟩ := at_T28 HR1.out x5_1 p146 q146
                cases e146
                replace p146 := eq_true p146
                replace q146 := eq_true q146
                go_wp2
                repeat (go_quiet (fail); try go_wp2)
                go_roundg k1
                case measure => have := HK1.out; omega
                case rel => exact ⟨(wrap64 (x5_1 + 1)), (by first | rfl | (simp; done) | (simp [*]; done)), H', ⟨by have := HK1.out; omega⟩, by repeat (first | exact Drawn0.refl _ | apply Drawn0.step)⟩
            · rw [if_neg c6] at H
              exact absurd H (by simp)
          · rw [if_neg c5] at H
            exact absurd H (by simp)
        · rw [if_neg c4] at H
          have c4b0 : decide (x5_1 < (l0.length : Int)) = false := decide_eq_false c4
          clear c4
          obtain rfl := Option.some.inj H
          go_wp2
          repeat (go_quiet (fail); try go_wp2)
          go_ret
          exact ⟨by first | rfl | (simp; done) | (simp [*]; done), by repeat (first | exact Drawn0.refl _ | apply Drawn0.step)⟩
  · rw [if_neg c3] at H
    have c3b0 : ((l0.length : Int) == (l1.length : Int)) = false := beq_eq_false_iff_ne.mpr c3
    have c3b1 : ((l0.length : Int) != (l1.length : Int)) = true := bne_iff_ne.mpr c3
    have c3b2 : (l0.length == l1.length) = false := by first | simpa using c3 | (simp at c3 ⊢; omega)
    obtain rfl := Option.some.inj H
    go_enter Tryd.func29, Tryd.ntmps29
    go_wp2
    repeat (go_quiet (fail); try go_wp2)
    go_ret
    exact ⟨by first | rfl | (simp; done) | (simp [*]; done), by repeat (first | exact Drawn0.refl _ | apply Drawn0.step)⟩

end Go.Proofs.YtiffeljmeahmkaaDoor.S
