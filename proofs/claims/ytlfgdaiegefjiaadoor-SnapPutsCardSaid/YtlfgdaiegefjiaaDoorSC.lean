/- Functions of the translation as plain Lean functions, and that each call comes to what they say: for every argument. Written by a program of this session's own; Lean checks it. -/
import Derived.Test.YtlfgdaiegefjiaaDoorSA
import Derived.Test.YtlfgdaiegefjiaaDoorQc
import Derived.Test.YtlfgdaiegefjiaaDoorQa
import Derived.Test.YtlfgdaiegefjiaaDoorSx8
namespace Go.Proofs.YtlfgdaiegefjiaaDoor.S
open Go.RowKit Go.Proofs.YtlfgdaiegefjiaaDoorW.PrintWords Go.Proofs.YtlfgdaiegefjiaaDoorW.PrintLast
set_option linter.unusedVariables false
set_option linter.unusedSimpArgs false
/-! ### samphireref08_one: function 91 -/
mutual
def samphireref08_one.j0 : Nat → ByteArray → Int → Bool → Option (Int × Int)
 | 0, _, _, _ => none
 | k + 1, x0, x4, x20 => if x20 = true then (samphireref08_one.j2 k x0 1 128 (Go.bits .and .i64 x4 31)) else (if x4 ≥ 224 then (samphireref08_one.j1 k x0 x4 (decide (x4 ≤ 239))) else (samphireref08_one.j1 k x0 x4 false))
def samphireref08_one.j2 : Nat → ByteArray → Int → Int → Int → Option (Int × Int)
 | 0, _, _, _, _ => none
 | k + 1, x0, x5, x6, x7 => samphireref08_one.l0 k x0 x5 x6 x7 1
def samphireref08_one.l0 : Nat → ByteArray → Int → Int → Int → Int → Option (Int × Int)
 | 0, _, _, _, _, _ => none
 | k + 1, x0, x5, x6, x7, x8 => if x8 ≤ x5 then (if x8 ≥ (x0.size : Int) then (some ((-1), 1)) else (if 0 ≤ x8 then (if x8 < (x0.size : Int) then (if (bt x0 x8) < 128 then (some ((-1), 1)) else (if (bt x0 x8) > 191 then (some ((-1), 1)) else (samphireref08_one.l0 k x0 x5 x6 (Go.bits .or .i64 (wrap64 (x7 * 64)) (wrap64 (Go.bits .and .u8 (bt x0 x8) 63))) (wrap64 (x8 + 1))))) else (none)) else (none))) else (if x7 < x6 then (some ((-1), 1)) else (if x7 > 1114111 then (some ((-1), 1)) else (if x7 ≥ 55296 then (if x7 ≤ 57343 then (some ((-1), 1)) else (some (x7, wrap64 (x5 + 1)))) else (some (x7, wrap64 (x5 + 1))))))
def samphireref08_one.j1 : Nat → ByteArray → Int → Bool → Option (Int × Int)
 | 0, _, _, _ => none
 | k + 1, x0, x4, x28 => if x28 = true then (samphireref08_one.j2 k x0 2 2048 (Go.bits .and .i64 x4 15)) else (if x4 ≥ 240 then (if x4 ≤ 244 then (samphireref08_one.j2 k x0 3 65536 (Go.bits .and .i64 x4 7)) else (some ((-1), 1))) else (some ((-1), 1)))
end
def samphireref08_one.f (k : Nat) (a0 : ByteArray) : Option (Int × Int) := if 0 < (a0.size : Int) then (if (wrap64 (bt a0 0)) < 128 then (some (wrap64 (bt a0 0), 1)) else (if (wrap64 (bt a0 0)) ≥ 194 then (samphireref08_one.j0 k a0 (wrap64 (bt a0 0)) (decide ((wrap64 (bt a0 0)) ≤ 223))) else (samphireref08_one.j0 k a0 (wrap64 (bt a0 0)) false))) else (none)
set_option maxHeartbeats 8000000 in
set_option maxRecDepth 100000 in
theorem samphireref08_one.calls (k : Nat) (a0 : ByteArray) (r1 : Int) (r2 : Int) (w : World) (h : samphireref08_one.f k a0 = some (r1, r2)) :
 Calls Tryd.prog 91 #[.string a0] w fun e w' => e = .returned (.tuple #[.int .i64 r1, .int .i64 r2]) ∧ Drawn0 w w' := by
 have H : (if 0 < (a0.size : Int) then (if (wrap64 (bt a0 0)) < 128 then (some (wrap64 (bt a0 0), 1)) else (if (wrap64 (bt a0 0)) ≥ 194 then (samphireref08_one.j0 k a0 (wrap64 (bt a0 0)) (decide ((wrap64 (bt a0 0)) ≤ 223))) else (samphireref08_one.j0 k a0 (wrap64 (bt a0 0)) false))) else (none)) = some (r1, r2) := h
 clear h
 by_cases c2 : 0 < (a0.size : Int)
 · rw [if_pos c2] at H
   have c2b0 : decide (0 < (a0.size : Int)) = true := decide_eq_true c2
   have c2b1 : decide (0 < a0.size) = true := decide_eq_true (by omega)
   clear c2
   by_cases c4 : (wrap64 (bt a0 0)) < 128
   · rw [if_pos c4] at H
     have c4b0 : decide ((wrap64 (bt a0 0)) < 128) = true := decide_eq_true c4
     clear c4
     simp only [Option.some.injEq, Prod.mk.injEq] at H
     obtain ⟨rfl, rfl⟩ := H
     have p3 : 0 ≤ (0 : Int) := (by omega)
     have q3 : 0 < a0.size := (by have : (0 : Int) < (a0.size : Int) := of_decide_eq_true (by first | (with_reducible assumption) | assumption); omega)
     have hx3 : ∀ h : 0 < a0.size, ((a0[0]'h).toNat : Int) = bt a0 0 := bt_at a0 0
     clear p3
     have qi3 : (0 < (a0.size : Int)) = True := eq_true (of_decide_eq_true (by first | (with_reducible assumption) | assumption))
     replace q3 := eq_true q3
     go_enter Tryd.func91, Tryd.ntmps91
     go_wp2
     go_ret2
     exact ⟨by first | rfl | (simp; done) | (simp [*]; done), by repeat (first | exact Drawn0.refl _ | apply Drawn0.step)⟩
   · rw [if_neg c4] at H
     have c4b0 : decide ((wrap64 (bt a0 0)) < 128) = false := decide_eq_false c4
     clear c4
     have HC5 := Aside0.mk H
     clear H
     have p3 : 0 ≤ (0 : Int) := (by omega)
     have q3 : 0 < a0.size := (by have : (0 : Int) < (a0.size : Int) := of_decide_eq_true (by first | (with_reducible assumption) | assumption); omega)
     have hx3 : ∀ h : 0 < a0.size, ((a0[0]'h).toNat : Int) = bt a0 0 := bt_at a0 0
     clear p3
     have qi3 : (0 < (a0.size : Int)) = True := eq_true (of_decide_eq_true (by first | (with_reducible assumption) | assumption))
     replace q3 := eq_true q3
     go_enter Tryd.func91, Tryd.ntmps91
     go_upto_region 5 with (fail)
     go_cut [20] (fun v20 wc => ∃ (kq : Nat) (x20_4 : Bool), v20 = .bool x20_4 ∧ Aside0 (samphireref08_one.j0 kq a0 (wrap64 (bt a0 0)) x20_4 = some (r1, r2)) ∧ Aside0 (kq ≤ k) ∧ Drawn0 w wc)
     case first =>
      have H := HC5.out
      clear HC5
      by_cases c6 : (wrap64 (bt a0 0)) ≥ 194
      · rw [if_pos c6] at H
        have c6b0 : decide (194 ≤ (wrap64 (bt a0 0))) = true := decide_eq_true c6
        clear c6
        (first | rw [c6b0] | (simp only [i64_w, i32_w]; rw [c6b0]) | skip)
        have H' := Aside0.mk H
        clear H
        go_wp2
        go_meet
        case rel => exact ⟨_, (decide ((wrap64 (bt a0 0)) ≤ 223)), (by first | rfl | (simp; done) | (simp [*]; done)), H', ⟨by first | omega | exact Nat.le_refl _⟩, by repeat (first | exact Drawn0.refl _ | apply Drawn0.step)⟩
      · rw [if_neg c6] at H
        have c6b0 : decide (194 ≤ (wrap64 (bt a0 0))) = false := decide_eq_false c6
        clear c6
        (first | rw [c6b0] | (simp only [i64_w, i32_w]; rw [c6b0]) | skip)
        have H' := Aside0.mk H
        clear H
        go_wp2
        go_meet
        case rel => exact ⟨_, (false), (by first | rfl | (simp; done) | (simp [*]; done)), H', ⟨by first | omega | exact Nat.le_refl _⟩, by repeat (first | exact Drawn0.refl _ | apply Drawn0.step)⟩
     case rest =>
      clear HC5
      try clear c2
      try clear c2b0
      try clear c2b1
      try clear p2
      try clear p3
      try clear q3
      try clear hx3
      try clear qi3
      try clear c4
      try clear c4b0
      try clear c6
      try clear c6b0
      try clear p6
      try clear p3
      try clear q3
      obtain ⟨kq, x20_4, rfl, HA, HJ4, ⟨mc4, rfl⟩⟩ := hcut
      cases kq with
      | zero => exact absurd HA.out (by simp [samphireref08_one.j0])
      | succ kj4 =>
       have H := HA.out
       clear HA
       simp only [samphireref08_one.j0] at H
       have HC7 := Aside0.mk H
       clear H
       go_upto_if 20 with (fail)
       go_cut [5, 6, 7] (fun v5 v6 v7 wc => ∃ (kq : Nat) (x5_6 : Int) (x6_6 : Int) (x7_6 : Int), v5 = .int .i64 x5_6 ∧ v6 = .int .i64 x6_6 ∧ v7 = .int .i64 x7_6 ∧ Aside0 (samphireref08_one.j2 kq a0 x5_6 x6_6 x7_6 = some (r1, r2)) ∧ Aside0 (kq ≤ kj4) ∧ Drawn0 w wc)
       case first =>
        have H := HC7.out
        clear HC7
        by_cases c8 : x20_4 = true
        · subst c8
          have H1 : (samphireref08_one.j2 kj4 a0 1 128 (Go.bits .and .i64 (wrap64 (bt a0 0)) 31)) = some (r1, r2) := by rw [if_pos rfl] at H; exact H
          clear H
          have H := H1
          clear H1
          have H' := Aside0.mk H
          clear H
          go_wp2
          go_meet
          case rel => exact ⟨_, (1), (128), (Go.bits .and .i64 (wrap64 (bt a0 0)) 31), (by first | rfl | (simp; done) | (simp [*]; done)), (by first | rfl | (simp; done) | (simp [*]; done)), (by first | rfl | (simp; done) | (simp [*]; done)), H', ⟨by have := HJ4.out; first | omega | exact Nat.le_refl _⟩, by repeat (first | exact Drawn0.refl _ | apply Drawn0.step)⟩
        · replace c8 := Bool.eq_false_iff.mpr c8
          subst c8
          have H1 : (if (wrap64 (bt a0 0)) ≥ 224 then (samphireref08_one.j1 kj4 a0 (wrap64 (bt a0 0)) (decide ((wrap64 (bt a0 0)) ≤ 239))) else (samphireref08_one.j1 kj4 a0 (wrap64 (bt a0 0)) false)) = some (r1, r2) := by rw [if_neg (show ¬ (false = true) by decide)] at H; exact H
          clear H
          have H := H1
          clear H1
          have HC9 := Aside0.mk H
          clear H
          go_upto_region 7 with (fail)
          go_cut [28] (fun v28 wc => ∃ (kq : Nat) (x28_8 : Bool), v28 = .bool x28_8 ∧ Aside0 (samphireref08_one.j1 kq a0 (wrap64 (bt a0 0)) x28_8 = some (r1, r2)) ∧ Aside0 (kq ≤ kj4) ∧ Drawn0 w wc)
          case first =>
           have H := HC9.out
           clear HC9
           by_cases c10 : (wrap64 (bt a0 0)) ≥ 224
           · rw [if_pos c10] at H
             have c10b0 : decide (224 ≤ (wrap64 (bt a0 0))) = true := decide_eq_true c10
             clear c10
             (first | rw [c10b0] | (simp only [i64_w, i32_w]; rw [c10b0]) | skip)
             have H' := Aside0.mk H
             clear H
             go_wp2
             go_meet
             case rel => exact ⟨_, (decide ((wrap64 (bt a0 0)) ≤ 239)), (by first | rfl | (simp; done) | (simp [*]; done)), H', ⟨by have := HJ4.out; first | omega | exact Nat.le_refl _⟩, by repeat (first | exact Drawn0.refl _ | apply Drawn0.step)⟩
           · rw [if_neg c10] at H
             have c10b0 : decide (224 ≤ (wrap64 (bt a0 0))) = false := decide_eq_false c10
             clear c10
             (first | rw [c10b0] | (simp only [i64_w, i32_w]; rw [c10b0]) | skip)
             have H' := Aside0.mk H
             clear H
             go_wp2
             go_meet
             case rel => exact ⟨_, (false), (by first | rfl | (simp; done) | (simp [*]; done)), H', ⟨by have := HJ4.out; first | omega | exact Nat.le_refl _⟩, by repeat (first | exact Drawn0.refl _ | apply Drawn0.step)⟩
          case rest =>
           clear HC9
           try clear c1
           try clear c2
           try clear c2b0
           try clear c2b1
           try clear p2
           try clear p3
           try clear q3
           try clear hx3
           try clear qi3
           try clear c4
           try clear c4b0
           try clear c6
           try clear c6b0
           try clear p6
           try clear c8
           try clear c9
           try clear c10
           try clear c10b0
           try clear p2
           try clear p3
           try clear p6
           try clear q3
           obtain ⟨kq, x28_8, rfl, HA, HJ8, ⟨mc8, rfl⟩⟩ := hcut
           cases kq with
           | zero => exact absurd HA.out (by simp [samphireref08_one.j1])
           | succ kj8 =>
            have H := HA.out
            clear HA
            simp only [samphireref08_one.j1] at H
            by_cases c11 : x28_8 = true
            · subst c11
              have H1 : (samphireref08_one.j2 kj8 a0 2 2048 (Go.bits .and .i64 (wrap64 (bt a0 0)) 15)) = some (r1, r2) := by rw [if_pos rfl] at H; exact H
              clear H
              have H := H1
              clear H1
              have H' := Aside0.mk H
              clear H
              go_wp2
              go_meet
              case rel => exact ⟨_, (2), (2048), (Go.bits .and .i64 (wrap64 (bt a0 0)) 15), (by first | rfl | (simp; done) | (simp [*]; done)), (by first | rfl | (simp; done) | (simp [*]; done)), (by first | rfl | (simp; done) | (simp [*]; done)), H', ⟨by have := HJ4.out; have := HJ8.out; first | omega | exact Nat.le_refl _⟩, by repeat (first | exact Drawn0.refl _ | apply Drawn0.step)⟩
            · replace c11 := Bool.eq_false_iff.mpr c11
              subst c11
              have H1 : (if (wrap64 (bt a0 0)) ≥ 240 then (if (wrap64 (bt a0 0)) ≤ 244 then (samphireref08_one.j2 kj8 a0 3 65536 (Go.bits .and .i64 (wrap64 (bt a0 0)) 7)) else (some ((-1), 1))) else (some ((-1), 1))) = some (r1, r2) := by rw [if_neg (show ¬ (false = true) by decide)] at H; exact H
              clear H
              have H := H1
              clear H1
              by_cases c12 : (wrap64 (bt a0 0)) ≥ 240
              · rw [if_pos c12] at H
                have c12b0 : decide (240 ≤ (wrap64 (bt a0 0))) = true := decide_eq_true c12
                clear c12
                by_cases c13 : (wrap64 (bt a0 0)) ≤ 244
                · rw [if_pos c13] at H
                  have c13b0 : decide ((wrap64 (bt a0 0)) ≤ 244) = true := decide_eq_true c13
                  clear c13
                  have H' := Aside0.mk H
                  clear H
                  go_wp2
                  go_meet
                  case rel => exact ⟨_, (3), (65536), (Go.bits .and .i64 (wrap64 (bt a0 0)) 7), (by first | rfl | (simp; done) | (simp [*]; done)), (by first | rfl | (simp; done) | (simp [*]; done)), (by first | rfl | (simp; done) | (simp [*]; done)), H', ⟨by have := HJ4.out; have := HJ8.out; first | omega | exact Nat.le_refl _⟩, by repeat (first | exact Drawn0.refl _ | apply Drawn0.step)⟩
                · rw [if_neg c13] at H
                  have c13b0 : decide ((wrap64 (bt a0 0)) ≤ 244) = false := decide_eq_false c13
                  clear c13
                  simp only [Option.some.injEq, Prod.mk.injEq] at H
                  obtain ⟨rfl, rfl⟩ := H
                  go_wp2
                  go_ret2
                  exact ⟨by first | rfl | (simp; done) | (simp [*]; done), by repeat (first | exact Drawn0.refl _ | apply Drawn0.step)⟩
              · rw [if_neg c12] at H
                have c12b0 : decide (240 ≤ (wrap64 (bt a0 0))) = false := decide_eq_false c12
                clear c12
                simp only [Option.some.injEq, Prod.mk.injEq] at H
                obtain ⟨rfl, rfl⟩ := H
                go_wp2
                go_ret2
                exact ⟨by first | rfl | (simp; done) | (simp [*]; done), by repeat (first | exact Drawn0.refl _ | apply Drawn0.step)⟩
       case rest =>
        clear HC7
        try clear c1
        try clear c2
        try clear c2b0
        try clear c2b1
        try clear p2
        try clear p3
        try clear q3
        try clear hx3
        try clear qi3
        try clear c4
        try clear c4b0
        try clear c6
        try clear c6b0
        try clear p6
        try clear c8
        try clear c9
        try clear c10
        try clear c10b0
        try clear c11
        try clear c12
        try clear c12b0
        try clear c13
        try clear c13b0
        try clear p2
        try clear p3
        try clear p6
        try clear q3
        obtain ⟨kq, x5_6, x6_6, x7_6, rfl, rfl, rfl, HA, HJ6, ⟨mc6, rfl⟩⟩ := hcut
        cases kq with
        | zero => exact absurd HA.out (by simp [samphireref08_one.j2])
        | succ kj6 =>
         have H := HA.out
         clear HA
         simp only [samphireref08_one.j2] at H
         have H' := Aside0.mk H
         clear H
         go_wp2
         go_loopg [7, 8] kj6 (fun kq v7 v8 w' => ∃ (x7_3 : Int) (x8_3 : Int), v7 = .int .i64 x7_3 ∧ v8 = .int .i64 x8_3 ∧ Aside0 (samphireref08_one.l0 kq a0 x5_6 x6_6 x7_3 x8_3 = some (r1, r2)) ∧ Aside0 (kq ≤ kj6) ∧ Drawn0 w w')
         case atStart => exact ⟨(x7_6), (1), (by first | rfl | (simp; done) | (simp [*]; done)), (by first | rfl | (simp; done) | (simp [*]; done)), H', ⟨Nat.le_refl _⟩, by repeat (first | exact Drawn0.refl _ | apply Drawn0.step)⟩
         case round =>
          clear H'
          try clear c1
          try clear c2
          try clear c2b0
          try clear c2b1
          try clear p2
          try clear p3
          try clear q3
          try clear hx3
          try clear qi3
          try clear c4
          try clear c4b0
          try clear c6
          try clear c6b0
          try clear p6
          try clear c8
          try clear c9
          try clear c10
          try clear c10b0
          try clear c11
          try clear c12
          try clear c12b0
          try clear c13
          try clear c13b0
          try clear p2
          try clear p3
          try clear p6
          try clear q3
          obtain ⟨x7_3, x8_3, rfl, rfl, HA, HK3, ⟨m3, rfl⟩⟩ := hrel
          cases gk with
          | zero => exact absurd HA.out (by simp [samphireref08_one.l0])
          | succ k3 =>
           have H := HA.out
           clear HA
           simp only [samphireref08_one.l0] at H
           by_cases c14 : x8_3 ≤ x5_6
           · rw [if_pos c14] at H
             have c14b0 : decide (x8_3 ≤ x5_6) = true := decide_eq_true c14
             clear c14
             by_cases c15 : x8_3 ≥ (a0.size : Int)
             · rw [if_pos c15] at H
               have c15b0 : decide ((a0.size : Int) ≤ x8_3) = true := decide_eq_true c15
               clear c15
               simp only [Option.some.injEq, Prod.mk.injEq] at H
               obtain ⟨rfl, rfl⟩ := H
               go_wp2
               go_ret2
               exact ⟨by first | rfl | (simp; done) | (simp [*]; done), by repeat (first | exact Drawn0.refl _ | apply Drawn0.step)⟩
             · rw [if_neg c15] at H
               have c15b0 : decide ((a0.size : Int) ≤ x8_3) = false := decide_eq_false c15
               clear c15
               by_cases c16 : 0 ≤ x8_3
               · rw [if_pos c16] at H
                 have c16b0 : decide (0 ≤ x8_3) = true := decide_eq_true c16
                 clear c16
                 by_cases c17 : x8_3 < (a0.size : Int)
                 · rw [if_pos c17] at H
                   have c17b0 : decide (x8_3 < (a0.size : Int)) = true := decide_eq_true c17
                   clear c17
                   by_cases c19 : (bt a0 x8_3) < 128
                   · rw [if_pos c19] at H
                     have c19b0 : decide ((bt a0 x8_3) < 128) = true := decide_eq_true c19
                     clear c19
                     simp only [Option.some.injEq, Prod.mk.injEq] at H
                     obtain ⟨rfl, rfl⟩ := H
                     have p18 : 0 ≤ (x8_3 : Int) := of_decide_eq_true (by first | (with_reducible assumption) | assumption)
                     have q18 : x8_3 < (a0.size : Int) := of_decide_eq_true (by first | (with_reducible assumption) | assumption)
                     have hx18 := bt_at a0 x8_3
                     replace p18 := eq_true p18
                     replace q18 := eq_true q18
                     go_wp2
                     go_ret2
                     exact ⟨by first | rfl | (simp; done) | (simp [*]; done), by repeat (first | exact Drawn0.refl _ | apply Drawn0.step)⟩
                   · rw [if_neg c19] at H
                     have c19b0 : decide ((bt a0 x8_3) < 128) = false := decide_eq_false c19
                     clear c19
                     by_cases c21 : (bt a0 x8_3) > 191
                     · rw [if_pos c21] at H
                       have c21b0 : decide (191 < (bt a0 x8_3)) = true := decide_eq_true c21
                       clear c21
                       simp only [Option.some.injEq, Prod.mk.injEq] at H
                       obtain ⟨rfl, rfl⟩ := H
                       have p18 : 0 ≤ (x8_3 : Int) := of_decide_eq_true (by first | (with_reducible assumption) | assumption)
                       have q18 : x8_3 < (a0.size : Int) := of_decide_eq_true (by first | (with_reducible assumption) | assumption)
                       have hx18 := bt_at a0 x8_3
                       replace p18 := eq_true p18
                       replace q18 := eq_true q18
                       have p20 : 0 ≤ (x8_3 : Int) := of_decide_eq_true (by first | (with_reducible assumption) | assumption)
                       have q20 : x8_3 < (a0.size : Int) := of_decide_eq_true (by first | (with_reducible assumption) | assumption)
                       have hx20 := bt_at a0 x8_3
                       replace p20 := eq_true p20
                       replace q20 := eq_true q20
                       go_wp2
                       go_ret2
                       exact ⟨by first | rfl | (simp; done) | (simp [*]; done), by repeat (first | exact Drawn0.refl _ | apply Drawn0.step)⟩
                     · rw [if_neg c21] at H
                       have c21b0 : decide (191 < (bt a0 x8_3)) = false := decide_eq_false c21
                       clear c21
                       have H' := Aside0.mk H
                       clear H
                       have p18 : 0 ≤ (x8_3 : Int) := of_decide_eq_true (by first | (with_reducible assumption) | assumption)
                       have q18 : x8_3 < (a0.size : Int) := of_decide_eq_true (by first | (with_reducible assumption) | assumption)
                       have hx18 := bt_at a0 x8_3
                       replace p18 := eq_true p18
                       replace q18 := eq_true q18
                       have p20 : 0 ≤ (x8_3 : Int) := of_decide_eq_true (by first | (with_reducible assumption) | assumption)
                       have q20 : x8_3 < (a0.size : Int) := of_decide_eq_true (by first | (with_reducible assumption) | assumption)
                       have hx20 := bt_at a0 x8_3
                       replace p20 := eq_true p20
                       replace q20 := eq_true q20
                       have p22 : 0 ≤ (x8_3 : Int) := of_decide_eq_true (by first | (with_reducible assumption) | assumption)
                       have q22 : x8_3 < (a0.size : Int) := of_decide_eq_true (by first | (with_reducible assumption) | assumption)
                       have hx22 := bt_at a0 x8_3
                       replace p22 := eq_true p22
                       replace q22 := eq_true q22
                       go_wp2
                       go_roundg k3
                       case measure => have := HJ4.out; have := HJ6.out; have := HK3.out; omega
                       case rel => exact ⟨(Go.bits .or .i64 (wrap64 (x7_3 * 64)) (wrap64 (Go.bits .and .u8 (bt a0 x8_3) 63))), (wrap64 (x8_3 + 1)), (by first | rfl | (simp; done) | (simp [*]; done)), (by first | rfl | (simp; done) | (simp [*]; done)), H', ⟨by have := HJ4.out; have := HJ6.out; have := HK3.out; omega⟩, by repeat (first | exact Drawn0.refl _ | apply Drawn0.step)⟩
                 · rw [if_neg c17] at H
                   exact absurd H (by simp)
               · rw [if_neg c16] at H
                 exact absurd H (by simp)
           · rw [if_neg c14] at H
             have c14b0 : decide (x8_3 ≤ x5_6) = false := decide_eq_false c14
             clear c14
             by_cases c23 : x7_3 < x6_6
             · rw [if_pos c23] at H
               have c23b0 : decide (x7_3 < x6_6) = true := decide_eq_true c23
               clear c23
               simp only [Option.some.injEq, Prod.mk.injEq] at H
               obtain ⟨rfl, rfl⟩ := H
               go_wp2
               go_ret2
               exact ⟨by first | rfl | (simp; done) | (simp [*]; done), by repeat (first | exact Drawn0.refl _ | apply Drawn0.step)⟩
             · rw [if_neg c23] at H
               have c23b0 : decide (x7_3 < x6_6) = false := decide_eq_false c23
               clear c23
               by_cases c24 : x7_3 > 1114111
               · rw [if_pos c24] at H
                 have c24b0 : decide (1114111 < x7_3) = true := decide_eq_true c24
                 clear c24
                 simp only [Option.some.injEq, Prod.mk.injEq] at H
                 obtain ⟨rfl, rfl⟩ := H
                 go_wp2
                 go_ret2
                 exact ⟨by first | rfl | (simp; done) | (simp [*]; done), by repeat (first | exact Drawn0.refl _ | apply Drawn0.step)⟩
               · rw [if_neg c24] at H
                 have c24b0 : decide (1114111 < x7_3) = false := decide_eq_false c24
                 clear c24
                 by_cases c25 : x7_3 ≥ 55296
                 · rw [if_pos c25] at H
                   have c25b0 : decide (55296 ≤ x7_3) = true := decide_eq_true c25
                   clear c25
                   by_cases c26 : x7_3 ≤ 57343
                   · rw [if_pos c26] at H
                     have c26b0 : decide (x7_3 ≤ 57343) = true := decide_eq_true c26
                     clear c26
                     simp only [Option.some.injEq, Prod.mk.injEq] at H
                     obtain ⟨rfl, rfl⟩ := H
                     go_wp2
                     go_ret2
                     exact ⟨by first | rfl | (simp; done) | (simp [*]; done), by repeat (first | exact Drawn0.refl _ | apply Drawn0.step)⟩
                   · rw [if_neg c26] at H
                     have c26b0 : decide (x7_3 ≤ 57343) = false := decide_eq_false c26
                     clear c26
                     simp only [Option.some.injEq, Prod.mk.injEq] at H
                     obtain ⟨rfl, rfl⟩ := H
                     go_wp2
                     go_ret2
                     exact ⟨by first | rfl | (simp; done) | (simp [*]; done), by repeat (first | exact Drawn0.refl _ | apply Drawn0.step)⟩
                 · rw [if_neg c25] at H
                   have c25b0 : decide (55296 ≤ x7_3) = false := decide_eq_false c25
                   clear c25
                   simp only [Option.some.injEq, Prod.mk.injEq] at H
                   obtain ⟨rfl, rfl⟩ := H
                   go_wp2
                   go_ret2
                   exact ⟨by first | rfl | (simp; done) | (simp [*]; done), by repeat (first | exact Drawn0.refl _ | apply Drawn0.step)⟩
 · rw [if_neg c2] at H
   exact absurd H (by simp)
end Go.Proofs.YtlfgdaiegefjiaaDoor.S
/- Functions of the translation as plain Lean functions, and that each call comes to what they say: for every argument. Written by a program of this session's own; Lean checks it. -/
namespace Go.Proofs.YtlfgdaiegefjiaaDoor.S
open Go.RowKit Go.Proofs.YtlfgdaiegefjiaaDoorW.PrintWords Go.Proofs.YtlfgdaiegefjiaaDoorW.PrintLast
set_option linter.unusedVariables false
set_option linter.unusedSimpArgs false
/-! ### samphireref08_Check: function 64 -/
mutual
def samphireref08_Check.j0 : Nat → ByteArray → Bool → Option (Int)
 | 0, _, _ => none
 | k + 1, x0, x29 => if x29 = true then (some 80) else (samphireref08_Check.l0 k 0 x0)
def samphireref08_Check.l0 : Nat → Int → ByteArray → Option (Int)
 | 0, _, _ => none
 | k + 1, x3, x4 => if x4.toList = ([] : List UInt8) then (some 0) else ((samphireref08_one.f k x4).bind fun bt312 => (if bt312.1 < 32 then (some 80) else (if bt312.1 = 47 then (some 80) else (if bt312.1 ≥ 127 then (if bt312.1 ≤ 159 then (some 80) else (if x3 ≥ 32 then (some 80) else (if 0 ≤ bt312.2 then (if bt312.2 ≤ (x4.size : Int) then (samphireref08_Check.l0 k (wrap64 (x3 + 1)) (x4.extract (bt312.2 : Int).toNat x4.size)) else (none)) else (none)))) else (if x3 ≥ 32 then (some 80) else (if 0 ≤ bt312.2 then (if bt312.2 ≤ (x4.size : Int) then (samphireref08_Check.l0 k (wrap64 (x3 + 1)) (x4.extract (bt312.2 : Int).toNat x4.size)) else (none)) else (none)))))))
end
def samphireref08_Check.f (k : Nat) (a0 : ByteArray) : Option (Int) := if a0.toList = ([46] : List UInt8) then (samphireref08_Check.j0 k a0 true) else (if a0.toList = ([46, 46] : List UInt8) then (samphireref08_Check.j0 k a0 true) else (if a0.toList = ([] : List UInt8) then (samphireref08_Check.j0 k a0 true) else (if 0 < (a0.size : Int) then (if (bt a0 0) = 32 then (samphireref08_Check.j0 k a0 true) else (if 0 ≤ (wrap64 ((a0.size : Int) - 1)) then (if (wrap64 ((a0.size : Int) - 1)) < (a0.size : Int) then (samphireref08_Check.j0 k a0 ((bt a0 (wrap64 ((a0.size : Int) - 1))) == 32)) else (none)) else (none))) else (none))))
set_option maxHeartbeats 8000000 in
set_option maxRecDepth 100000 in
theorem samphireref08_Check.calls (k : Nat) (a0 : ByteArray) (r : Int) (w : World) (h : samphireref08_Check.f k a0 = some r) :
 Calls Tryd.prog 64 #[.string a0] w fun e w' => e = .returned (.int .i64 r) ∧ Drawn0 w w' := by
 have H : (if a0.toList = ([46] : List UInt8) then (samphireref08_Check.j0 k a0 true) else (if a0.toList = ([46, 46] : List UInt8) then (samphireref08_Check.j0 k a0 true) else (if a0.toList = ([] : List UInt8) then (samphireref08_Check.j0 k a0 true) else (if 0 < (a0.size : Int) then (if (bt a0 0) = 32 then (samphireref08_Check.j0 k a0 true) else (if 0 ≤ (wrap64 ((a0.size : Int) - 1)) then (if (wrap64 ((a0.size : Int) - 1)) < (a0.size : Int) then (samphireref08_Check.j0 k a0 ((bt a0 (wrap64 ((a0.size : Int) - 1))) == 32)) else (none)) else (none))) else (none))))) = some r := h
 clear h
 have HC2 := Aside0.mk H
 clear H
 go_enter Tryd.func64, Tryd.ntmps64
 go_upto_region 1 with (fail)
 go_cut [29] (fun v29 wc => ∃ (kq : Nat) (x29_1 : Bool), v29 = .bool x29_1 ∧ Aside0 (samphireref08_Check.j0 kq a0 x29_1 = some r) ∧ Aside0 (kq ≤ k) ∧ Drawn0 w wc)
 case first =>
  have H := HC2.out
  clear HC2
  by_cases c3 : a0.toList = ([46] : List UInt8)
  · rw [if_pos c3] at H
    have c3b0 : (a0.toList == ([46] : List UInt8)) = true := beq_iff_eq.mpr c3
    have c3b1 : (a0.toList != ([46] : List UInt8)) = false := bne_eq_false_iff_eq.mpr c3
    clear c3
    (first | rw [c3b0] | (simp only [i64_w, i32_w]; rw [c3b0]) | skip)
    have H' := Aside0.mk H
    clear H
    go_wp2
    go_meet
    case rel => exact ⟨_, (true), (by first | rfl | (simp; done) | (simp [*]; done)), H', ⟨by first | omega | exact Nat.le_refl _⟩, by repeat (first | exact Drawn0.refl _ | apply Drawn0.step)⟩
  · rw [if_neg c3] at H
    have c3b0 : (a0.toList == ([46] : List UInt8)) = false := beq_eq_false_iff_ne.mpr c3
    have c3b1 : (a0.toList != ([46] : List UInt8)) = true := bne_iff_ne.mpr c3
    (first | rw [c3b0] | (simp only [i64_w, i32_w]; rw [c3b0]) | skip)
    by_cases c4 : a0.toList = ([46, 46] : List UInt8)
    · rw [if_pos c4] at H
      have c4b0 : (a0.toList == ([46, 46] : List UInt8)) = true := beq_iff_eq.mpr c4
      have c4b1 : (a0.toList != ([46, 46] : List UInt8)) = false := bne_eq_false_iff_eq.mpr c4
      clear c4
      have H' := Aside0.mk H
      clear H
      go_wp2
      go_meet
      case rel => exact ⟨_, (true), (by first | rfl | (simp; done) | (simp [*]; done)), H', ⟨by first | omega | exact Nat.le_refl _⟩, by repeat (first | exact Drawn0.refl _ | apply Drawn0.step)⟩
    · rw [if_neg c4] at H
      have c4b0 : (a0.toList == ([46, 46] : List UInt8)) = false := beq_eq_false_iff_ne.mpr c4
      have c4b1 : (a0.toList != ([46, 46] : List UInt8)) = true := bne_iff_ne.mpr c4
      by_cases c5 : a0.toList = ([] : List UInt8)
      · rw [if_pos c5] at H
        have c5b0 : (a0.toList == ([] : List UInt8)) = true := beq_iff_eq.mpr c5
        have c5b1 : (a0.toList != ([] : List UInt8)) = false := bne_eq_false_iff_eq.mpr c5
        clear c5
        have H' := Aside0.mk H
        clear H
        go_wp2
        go_meet
        case rel => exact ⟨_, (true), (by first | rfl | (simp; done) | (simp [*]; done)), H', ⟨by first | omega | exact Nat.le_refl _⟩, by repeat (first | exact Drawn0.refl _ | apply Drawn0.step)⟩
      · rw [if_neg c5] at H
        have c5b0 : (a0.toList == ([] : List UInt8)) = false := beq_eq_false_iff_ne.mpr c5
        have c5b1 : (a0.toList != ([] : List UInt8)) = true := bne_iff_ne.mpr c5
        by_cases c6 : 0 < (a0.size : Int)
        · rw [if_pos c6] at H
          have c6b0 : decide (0 < (a0.size : Int)) = true := decide_eq_true c6
          have c6b1 : decide (0 < a0.size) = true := decide_eq_true (by omega)
          clear c6
          by_cases c8 : (bt a0 0) = 32
          · rw [if_pos c8] at H
            have c8b0 : ((bt a0 0) == 32) = true := beq_iff_eq.mpr c8
            have c8b1 : ((bt a0 0) != 32) = false := bne_eq_false_iff_eq.mpr c8
            clear c8
            have H' := Aside0.mk H
            clear H
            have p7 : 0 ≤ (0 : Int) := (by omega)
            have q7 : 0 < a0.size := (by have : (0 : Int) < (a0.size : Int) := of_decide_eq_true (by first | (with_reducible assumption) | assumption); omega)
            have hx7 : ∀ h : 0 < a0.size, ((a0[0]'h).toNat : Int) = bt a0 0 := bt_at a0 0
            clear p7
            have qi7 : (0 < (a0.size : Int)) = True := eq_true (of_decide_eq_true (by first | (with_reducible assumption) | assumption))
            replace q7 := eq_true q7
            go_wp2
            go_meet
            case rel => exact ⟨_, (true), (by first | rfl | (simp; done) | (simp [*]; done)), H', ⟨by first | omega | exact Nat.le_refl _⟩, by repeat (first | exact Drawn0.refl _ | apply Drawn0.step)⟩
          · rw [if_neg c8] at H
            have c8b0 : ((bt a0 0) == 32) = false := beq_eq_false_iff_ne.mpr c8
            have c8b1 : ((bt a0 0) != 32) = true := bne_iff_ne.mpr c8
            obtain ⟨ji9, hji9⟩ : ∃ j_ : Int, (wrap64 ((a0.size : Int) - 1)) = j_ := ⟨_, rfl⟩
            replace H : (if 0 ≤ (ji9) then (if (ji9) < (a0.size : Int) then (samphireref08_Check.j0 k a0 ((bt a0 (ji9)) == 32)) else (none)) else (none)) = some r := by first | (rw [hji9] at H; exact H) | (simp only [hji9] at H ⊢; exact H)
            have hji9w : (IntKind.i64.wrap ((a0.size : Int) - 1)) = ji9 := (i64_w _).trans hji9
            by_cases c10 : 0 ≤ (ji9)
            · rw [if_pos c10] at H
              have c10b0 : decide (0 ≤ (ji9)) = true := decide_eq_true c10
              clear c10
              by_cases c11 : (ji9) < (a0.size : Int)
              · rw [if_pos c11] at H
                have c11b0 : decide ((ji9) < (a0.size : Int)) = true := decide_eq_true c11
                clear c11
                have H' := Aside0.mk H
                clear H
                have p7 : 0 ≤ (0 : Int) := (by omega)
                have q7 : 0 < a0.size := (by have : (0 : Int) < (a0.size : Int) := of_decide_eq_true (by first | (with_reducible assumption) | assumption); omega)
                have hx7 : ∀ h : 0 < a0.size, ((a0[0]'h).toNat : Int) = bt a0 0 := bt_at a0 0
                clear p7
                have qi7 : (0 < (a0.size : Int)) = True := eq_true (of_decide_eq_true (by first | (with_reducible assumption) | assumption))
                replace q7 := eq_true q7
                have p12 : 0 ≤ ((ji9) : Int) := of_decide_eq_true (by first | (with_reducible assumption) | assumption)
                have q12 : (ji9) < (a0.size : Int) := of_decide_eq_true (by first | (with_reducible assumption) | assumption)
                have hx12 := bt_at a0 (ji9)
                replace p12 := eq_true p12
                replace q12 := eq_true q12
                go_wp2
                go_meet
                case rel => exact ⟨_, (((bt a0 (ji9)) == 32)), (by first | rfl | (simp; done) | (simp only [← hji9] <;> (first | rfl | simp)) | (simp [*]; done)), H', ⟨by first | omega | exact Nat.le_refl _⟩, by repeat (first | exact Drawn0.refl _ | apply Drawn0.step)⟩
              · rw [if_neg c11] at H
                exact absurd H (by simp)
            · rw [if_neg c10] at H
              exact absurd H (by simp)
        · rw [if_neg c6] at H
          exact absurd H (by simp)
 case rest =>
  clear HC2
  try clear c1
  try clear p1
  try clear q1
  try clear hx1
  try clear p2
  try clear c3
  try clear c3b0
  try clear c3b1
  try clear c4
  try clear c4b0
  try clear c4b1
  try clear c5
  try clear c5b0
  try clear c5b1
  try clear c6
  try clear c6b0
  try clear c6b1
  try clear p6
  try clear p7
  try clear q7
  try clear hx7
  try clear qi7
  try clear c8
  try clear c8b0
  try clear c8b1
  try clear c10
  try clear c10b0
  try clear c11
  try clear c11b0
  try clear p12
  try clear q12
  try clear hx12
  try clear p12
  try clear p7
  try clear q12
  try clear q7
  obtain ⟨kq, x29_1, rfl, HA, HJ1, ⟨mc1, rfl⟩⟩ := hcut
  cases kq with
  | zero => exact absurd HA.out (by simp [samphireref08_Check.j0])
  | succ kj1 =>
   have H := HA.out
   clear HA
   simp only [samphireref08_Check.j0] at H
   by_cases c13 : x29_1 = true
   · subst c13
     have H1 : (some 80) = some r := by rw [if_pos rfl] at H; exact H
     clear H
     have H := H1
     clear H1
     obtain rfl := Option.some.inj H
     go_wp2
     go_ret
     exact ⟨by first | rfl | (simp; done) | (simp [*]; done), by repeat (first | exact Drawn0.refl _ | apply Drawn0.step)⟩
   · replace c13 := Bool.eq_false_iff.mpr c13
     subst c13
     have H1 : (samphireref08_Check.l0 kj1 0 a0) = some r := by rw [if_neg (show ¬ (false = true) by decide)] at H; exact H
     clear H
     have H := H1
     clear H1
     have H' := Aside0.mk H
     clear H
     go_wp2
     go_loopg [3, 4] kj1 (fun kq v3 v4 w' => ∃ (x3_2 : Int) (x4_2 : ByteArray), v3 = .int .i64 x3_2 ∧ v4 = .string x4_2 ∧ Aside0 (samphireref08_Check.l0 kq x3_2 x4_2 = some r) ∧ Aside0 (kq ≤ kj1) ∧ Drawn0 w w')
     case atStart => exact ⟨(0), (a0), (by first | rfl | (simp; done) | (simp [*]; done)), (by first | rfl | (simp; done) | (simp [*]; done)), H', ⟨Nat.le_refl _⟩, by repeat (first | exact Drawn0.refl _ | apply Drawn0.step)⟩
     case round =>
      clear H'
      try clear c1
      try clear p1
      try clear q1
      try clear hx1
      try clear p2
      try clear c3
      try clear c3b0
      try clear c3b1
      try clear c4
      try clear c4b0
      try clear c4b1
      try clear c5
      try clear c5b0
      try clear c5b1
      try clear c6
      try clear c6b0
      try clear c6b1
      try clear p6
      try clear p7
      try clear q7
      try clear hx7
      try clear qi7
      try clear c8
      try clear c8b0
      try clear c8b1
      try clear c10
      try clear c10b0
      try clear c11
      try clear c11b0
      try clear p12
      try clear q12
      try clear hx12
      try clear c13
      try clear p1
      try clear p12
      try clear p2
      try clear p6
      try clear p7
      try clear q1
      try clear q12
      try clear q7
      obtain ⟨x3_2, x4_2, rfl, rfl, HA, HK2, ⟨m2, rfl⟩⟩ := hrel
      cases gk with
      | zero => exact absurd HA.out (by simp [samphireref08_Check.l0])
      | succ k2 =>
       have H := HA.out
       clear HA
       simp only [samphireref08_Check.l0] at H
       by_cases c14 : x4_2.toList = ([] : List UInt8)
       · rw [if_pos c14] at H
         have c14b0 : (x4_2.toList == ([] : List UInt8)) = true := beq_iff_eq.mpr c14
         have c14b1 : (x4_2.toList != ([] : List UInt8)) = false := bne_eq_false_iff_eq.mpr c14
         clear c14
         obtain rfl := Option.some.inj H
         go_wp2
         go_ret
         exact ⟨by first | rfl | (simp; done) | (simp [*]; done), by repeat (first | exact Drawn0.refl _ | apply Drawn0.step)⟩
       · rw [if_neg c14] at H
         have c14b0 : (x4_2.toList == ([] : List UInt8)) = false := beq_eq_false_iff_ne.mpr c14
         have c14b1 : (x4_2.toList != ([] : List UInt8)) = true := bne_iff_ne.mpr c14
         replace H := Option.bind_eq_some_iff.mp H
         obtain ⟨⟨t312, t313⟩, A150, H⟩ := H
         replace H : (if t312 < 32 then (some 80) else (if t312 = 47 then (some 80) else (if t312 ≥ 127 then (if t312 ≤ 159 then (some 80) else (if x3_2 ≥ 32 then (some 80) else (if 0 ≤ t313 then (if t313 ≤ (x4_2.size : Int) then (samphireref08_Check.l0 k2 (wrap64 (x3_2 + 1)) (x4_2.extract (t313 : Int).toNat x4_2.size)) else (none)) else (none)))) else (if x3_2 ≥ 32 then (some 80) else (if 0 ≤ t313 then (if t313 ≤ (x4_2.size : Int) then (samphireref08_Check.l0 k2 (wrap64 (x3_2 + 1)) (x4_2.extract (t313 : Int).toNat x4_2.size)) else (none)) else (none)))))) = some r := H
         have A15 := Aside0.mk A150
         clear A150
         by_cases c16 : t312 < 32
         · rw [if_pos c16] at H
           have c16b0 : decide (t312 < 32) = true := decide_eq_true c16
           clear c16
           obtain rfl := Option.some.inj H
           go_wp2_with (first | ((with_reducible refine gate_callee (f := 91) rfl ?_); refine gL 35 Tryd.func91 #[.string x4_2] ?_; (with_reducible refine (samphireref08_one.calls k2 x4_2 t312 t313 _ A15.out).mono ?_); rintro e w' ⟨rfl, ⟨nd, rfl⟩⟩; refine ⟨_, rfl, ?_⟩))
           go_ret
           exact ⟨by first | rfl | (simp; done) | (simp [*]; done), by repeat (first | exact Drawn0.refl _ | apply Drawn0.step)⟩
         · rw [if_neg c16] at H
           have c16b0 : decide (t312 < 32) = false := decide_eq_false c16
           clear c16
           by_cases c17 : t312 = 47
           · rw [if_pos c17] at H
             have c17b0 : (t312 == 47) = true := beq_iff_eq.mpr c17
             have c17b1 : (t312 != 47) = false := bne_eq_false_iff_eq.mpr c17
             clear c17
             obtain rfl := Option.some.inj H
             go_wp2_with (first | ((with_reducible refine gate_callee (f := 91) rfl ?_); refine gL 35 Tryd.func91 #[.string x4_2] ?_; (with_reducible refine (samphireref08_one.calls k2 x4_2 t312 t313 _ A15.out).mono ?_); rintro e w' ⟨rfl, ⟨nd, rfl⟩⟩; refine ⟨_, rfl, ?_⟩))
             go_ret
             exact ⟨by first | rfl | (simp; done) | (simp [*]; done), by repeat (first | exact Drawn0.refl _ | apply Drawn0.step)⟩
           · rw [if_neg c17] at H
             have c17b0 : (t312 == 47) = false := beq_eq_false_iff_ne.mpr c17
             have c17b1 : (t312 != 47) = true := bne_iff_ne.mpr c17
             by_cases c18 : t312 ≥ 127
             · rw [if_pos c18] at H
               have c18b0 : decide (127 ≤ t312) = true := decide_eq_true c18
               clear c18
               by_cases c19 : t312 ≤ 159
               · rw [if_pos c19] at H
                 have c19b0 : decide (t312 ≤ 159) = true := decide_eq_true c19
                 clear c19
                 obtain rfl := Option.some.inj H
                 go_wp2_with (first | ((with_reducible refine gate_callee (f := 91) rfl ?_); refine gL 35 Tryd.func91 #[.string x4_2] ?_; (with_reducible refine (samphireref08_one.calls k2 x4_2 t312 t313 _ A15.out).mono ?_); rintro e w' ⟨rfl, ⟨nd, rfl⟩⟩; refine ⟨_, rfl, ?_⟩))
                 go_ret
                 exact ⟨by first | rfl | (simp; done) | (simp [*]; done), by repeat (first | exact Drawn0.refl _ | apply Drawn0.step)⟩
               · rw [if_neg c19] at H
                 have c19b0 : decide (t312 ≤ 159) = false := decide_eq_false c19
                 clear c19
                 by_cases c20 : x3_2 ≥ 32
                 · rw [if_pos c20] at H
                   have c20b0 : decide (32 ≤ x3_2) = true := decide_eq_true c20
                   clear c20
                   obtain rfl := Option.some.inj H
                   go_wp2_with (first | ((with_reducible refine gate_callee (f := 91) rfl ?_); refine gL 35 Tryd.func91 #[.string x4_2] ?_; (with_reducible refine (samphireref08_one.calls k2 x4_2 t312 t313 _ A15.out).mono ?_); rintro e w' ⟨rfl, ⟨nd, rfl⟩⟩; refine ⟨_, rfl, ?_⟩))
                   go_ret
                   exact ⟨by first | rfl | (simp; done) | (simp [*]; done), by repeat (first | exact Drawn0.refl _ | apply Drawn0.step)⟩
                 · rw [if_neg c20] at H
                   have c20b0 : decide (32 ≤ x3_2) = false := decide_eq_false c20
                   clear c20
                   by_cases c21 : 0 ≤ t313
                   · rw [if_pos c21] at H
                     have c21b0 := eq_true c21
                     have c21b1 : decide (0 ≤ t313) = true := decide_eq_true c21
                     clear c21
                     by_cases c22 : t313 ≤ (x4_2.size : Int)
                     · rw [if_pos c22] at H
                       have c22b0 := eq_true c22
                       have c22b1 : decide (t313 ≤ (x4_2.size : Int)) = true := decide_eq_true c22
                       clear c22
                       have H' := Aside0.mk H
                       clear H
                       go_wp2_with (first | ((with_reducible refine gate_callee (f := 91) rfl ?_); refine gL 35 Tryd.func91 #[.string x4_2] ?_; (with_reducible refine (samphireref08_one.calls k2 x4_2 t312 t313 _ A15.out).mono ?_); rintro e w' ⟨rfl, ⟨nd, rfl⟩⟩; refine ⟨_, rfl, ?_⟩))
                       go_roundg k2
                       case measure => have := HJ1.out; have := HK2.out; omega
                       case rel => exact ⟨(wrap64 (x3_2 + 1)), (x4_2.extract (t313 : Int).toNat x4_2.size), (by first | rfl | (simp; done) | (simp [*]; done)), (by first | rfl | (simp; done) | (simp [*]; done)), H', ⟨by have := HJ1.out; have := HK2.out; omega⟩, by repeat (first | exact Drawn0.refl _ | apply Drawn0.step)⟩
                     · rw [if_neg c22] at H
                       exact absurd H (by simp)
                   · rw [if_neg c21] at H
                     exact absurd H (by simp)
             · rw [if_neg c18] at H
               have c18b0 : decide (127 ≤ t312) = false := decide_eq_false c18
               clear c18
               by_cases c23 : x3_2 ≥ 32
               · rw [if_pos c23] at H
                 have c23b0 : decide (32 ≤ x3_2) = true := decide_eq_true c23
                 clear c23
                 obtain rfl := Option.some.inj H
                 go_wp2_with (first | ((with_reducible refine gate_callee (f := 91) rfl ?_); refine gL 35 Tryd.func91 #[.string x4_2] ?_; (with_reducible refine (samphireref08_one.calls k2 x4_2 t312 t313 _ A15.out).mono ?_); rintro e w' ⟨rfl, ⟨nd, rfl⟩⟩; refine ⟨_, rfl, ?_⟩))
                 go_ret
                 exact ⟨by first | rfl | (simp; done) | (simp [*]; done), by repeat (first | exact Drawn0.refl _ | apply Drawn0.step)⟩
               · rw [if_neg c23] at H
                 have c23b0 : decide (32 ≤ x3_2) = false := decide_eq_false c23
                 clear c23
                 by_cases c24 : 0 ≤ t313
                 · rw [if_pos c24] at H
                   have c24b0 := eq_true c24
                   have c24b1 : decide (0 ≤ t313) = true := decide_eq_true c24
                   clear c24
                   by_cases c25 : t313 ≤ (x4_2.size : Int)
                   · rw [if_pos c25] at H
                     have c25b0 := eq_true c25
                     have c25b1 : decide (t313 ≤ (x4_2.size : Int)) = true := decide_eq_true c25
                     clear c25
                     have H' := Aside0.mk H
                     clear H
                     go_wp2_with (first | ((with_reducible refine gate_callee (f := 91) rfl ?_); refine gL 35 Tryd.func91 #[.string x4_2] ?_; (with_reducible refine (samphireref08_one.calls k2 x4_2 t312 t313 _ A15.out).mono ?_); rintro e w' ⟨rfl, ⟨nd, rfl⟩⟩; refine ⟨_, rfl, ?_⟩))
                     go_roundg k2
                     case measure => have := HJ1.out; have := HK2.out; omega
                     case rel => exact ⟨(wrap64 (x3_2 + 1)), (x4_2.extract (t313 : Int).toNat x4_2.size), (by first | rfl | (simp; done) | (simp [*]; done)), (by first | rfl | (simp; done) | (simp [*]; done)), H', ⟨by have := HJ1.out; have := HK2.out; omega⟩, by repeat (first | exact Drawn0.refl _ | apply Drawn0.step)⟩
                   · rw [if_neg c25] at H
                     exact absurd H (by simp)
                 · rw [if_neg c24] at H
                   exact absurd H (by simp)
end Go.Proofs.YtlfgdaiegefjiaaDoor.S
/- Functions of the translation as plain Lean functions, and that each call comes to what they say: for every argument. Written by a program of this session's own; Lean checks it. -/
namespace Go.Proofs.YtlfgdaiegefjiaaDoor.S
open Go.RowKit Go.Proofs.YtlfgdaiegefjiaaDoorW.PrintWords Go.Proofs.YtlfgdaiegefjiaaDoorW.PrintLast
set_option linter.unusedVariables false
set_option linter.unusedSimpArgs false
attribute [local go_sem high] eqA23
/-! ### samphireref11_May: function 26 -/
def samphireref11_May.j0 : Nat → Bool → Int → Int → Int → Int → Int → Int → Int → ByteArray → ByteArray → Option (Bool)
 | 0, _, _, _, _, _, _, _, _, _, _ => none
 | k + 1, x13, x315000, x315001, x315002, x315003, x315004, x315005, x315006, x315007, x315008 => if x13 = true then (some false) else (if x315000 = 1 then (if (x315003 == x315001 && (x315004 == x315002)) = true then ((samphireref11_parent.f x315005 x315006).bind fun t317 => (if t317 = true then ((samphireref08_Check.f k x315007).bind fun t318 => (if t318 = 0 then (some (x315008.toList == ([] : List UInt8))) else (some false))) else (some false))) else (some false)) else (if x315000 = 2 then ((samphireref11_parent.f x315005 x315006).bind fun t319 => (if t319 = true then (if x315007.toList = ([] : List UInt8) then (some (x315008.toList == ([] : List UInt8))) else (some false)) else (some false))) else (if x315000 = 3 then (if (x315005 == 0 && (x315006 == 0)) = true then ((samphireref08_Check.f k x315007).bind fun t320 => (if t320 = 0 then (some (x315008.toList == ([] : List UInt8))) else (some false))) else (some false)) else (if x315000 = 4 then (if (x315005 == 0 && (x315006 == 0)) = true then (if x315007.toList = ([] : List UInt8) then (some (decide ((x315008.size : Int) ≤ 64))) else (some false)) else (some false)) else (if x315000 = 5 then (if (x315005 == 0 && (x315006 == 0)) = true then (if x315007.toList = ([] : List UInt8) then (some (x315008.toList == ([] : List UInt8))) else (some false)) else (some false)) else (some false))))))
def samphireref11_May.f (k : Nat) (a0_0 : Int) (a0_1 : Int) (a0_2 : Int) (a0_3 : Int) (a0_4 : Int) (a0_5 : Int) (a0_6 : Int) (a0_7 : ByteArray) (a0_8 : ByteArray) : Option (Bool) := (samphireref10_May.f a0_1 a0_2).bind fun t315 => (if t315 = true then ((samphireref10_May.f a0_3 a0_4).bind fun t316 => (samphireref11_May.j0 k (!t316) a0_0 a0_1 a0_2 a0_3 a0_4 a0_5 a0_6 a0_7 a0_8)) else (samphireref11_May.j0 k true a0_0 a0_1 a0_2 a0_3 a0_4 a0_5 a0_6 a0_7 a0_8))
set_option maxHeartbeats 8000000 in
set_option maxRecDepth 100000 in
theorem samphireref11_May.calls (k : Nat) (a0_0 : Int) (a0_1 : Int) (a0_2 : Int) (a0_3 : Int) (a0_4 : Int) (a0_5 : Int) (a0_6 : Int) (a0_7 : ByteArray) (a0_8 : ByteArray) (r : Bool) (w : World) (h : samphireref11_May.f k a0_0 a0_1 a0_2 a0_3 a0_4 a0_5 a0_6 a0_7 a0_8 = some r) :
 Calls Tryd.prog 26 #[.agg #[.int .i64 a0_0, .int .i64 a0_1, .int .i64 a0_2, .int .i64 a0_3, .int .i64 a0_4, .int .i64 a0_5, .int .i64 a0_6, .string a0_7, .string a0_8]] w fun e w' => e = .returned (.bool r) ∧ Below w.heap.size w w' := by
 have hu25 := Tryd.underlying25
 have hu23 := Tryd.underlying23
 have HB := Aside0.mk (Below.refl w.heap.size w)
 have H : ((samphireref10_May.f a0_1 a0_2).bind fun t315 => (if t315 = true then ((samphireref10_May.f a0_3 a0_4).bind fun t316 => (samphireref11_May.j0 k (!t316) a0_0 a0_1 a0_2 a0_3 a0_4 a0_5 a0_6 a0_7 a0_8)) else (samphireref11_May.j0 k true a0_0 a0_1 a0_2 a0_3 a0_4 a0_5 a0_6 a0_7 a0_8))) = some r := h
 clear h
 have HC2 := Aside0.mk H
 clear H
 go_enter Tryd.func26, Tryd.ntmps26
 go_upto_region 1 with (first | ((with_reducible refine gate_dst (N := 1) rfl ?_); (try (refine gate_guard (by rfl) ?_; dsimp only)); refine boxQ (N := 1) (cs := #[.int .i64 a0_0, .int .i64 a0_1, .int .i64 a0_2, .int .i64 a0_3, .int .i64 a0_4, .int .i64 a0_5, .int .i64 a0_6, .string a0_7, .string a0_8]) (t := 25) ?_; intro gb314 hg w3 hbox hb; have BK314 := Aside0.mk hbox; have GW314 := Qt w hg; have GE314 := GW314; replace HB := Qy hb; clear hb hbox hg))
 (try simp only [Act.put, List.setIfInBounds_toArray, List.set_cons_zero, List.set_cons_succ])
 go_cut [13] (fun v13 wc => ∃ (kq : Nat) (x13_1 : Bool), v13 = .bool x13_1 ∧ Aside0 (samphireref11_May.j0 kq x13_1 a0_0 a0_1 a0_2 a0_3 a0_4 a0_5 a0_6 a0_7 a0_8 = some r) ∧ Aside0 (kq ≤ k) ∧ Aside0 (wc.heap[gb314]? = some (.cells #[.int .i64 a0_0, .int .i64 a0_1, .int .i64 a0_2, .int .i64 a0_3, .int .i64 a0_4, .int .i64 a0_5, .int .i64 a0_6, .string a0_7, .string a0_8] 25 (0, 0))) ∧ Aside0 (Below w.heap.size w wc))
 case first =>
  have H := HC2.out
  clear HC2
  replace H := Option.bind_eq_some_iff.mp H
  obtain ⟨t315, A40, H⟩ := H
  replace H : (if t315 = true then ((samphireref10_May.f a0_3 a0_4).bind fun t316 => (samphireref11_May.j0 k (!t316) a0_0 a0_1 a0_2 a0_3 a0_4 a0_5 a0_6 a0_7 a0_8)) else (samphireref11_May.j0 k true a0_0 a0_1 a0_2 a0_3 a0_4 a0_5 a0_6 a0_7 a0_8)) = some r := H
  have A4 := Aside0.mk A40
  clear A40
  by_cases c5 : t315 = true
  · subst c5
    have H1 : ((samphireref10_May.f a0_3 a0_4).bind fun t316 => (samphireref11_May.j0 k (!t316) a0_0 a0_1 a0_2 a0_3 a0_4 a0_5 a0_6 a0_7 a0_8)) = some r := by rw [if_pos rfl] at H; exact H
    clear H
    have H := H1
    clear H1
    replace H := Option.bind_eq_some_iff.mp H
    obtain ⟨t316, A60, H⟩ := H
    replace H : (samphireref11_May.j0 k (!t316) a0_0 a0_1 a0_2 a0_3 a0_4 a0_5 a0_6 a0_7 a0_8) = some r := H
    have A6 := Aside0.mk A60
    clear A60
    have H' := Aside0.mk H
    clear H
    obtain ⟨y7_0, y7_1, y7_2, y7_3, y7_4, y7_5, y7_6, y7_7, y7_8, v7_0, v7_1, v7_2, v7_3, v7_4, v7_5, v7_6, v7_7, v7_8⟩ := Z9 BK314.out
    go_wp2_with (first | ((with_reducible refine gate_callee (f := 57) rfl ?_); refine gL 6 Tryd.func57 #[.agg #[.int .i64 a0_1, .int .i64 a0_2]] ?_; (with_reducible refine (samphireref10_May.calls a0_1 a0_2 true _ A4.out).mono ?_); rintro e w8 ⟨rfl, hb⟩; refine ⟨_, rfl, ?_⟩; replace BK314 := Qv BK314 hb; replace HB := Qy hb; (try clear hb); (try clear hb2); (try clear hk); (try clear hi); obtain ⟨y9_0, y9_1, y9_2, y9_3, y9_4, y9_5, y9_6, y9_7, y9_8, v9_0, v9_1, v9_2, v9_3, v9_4, v9_5, v9_6, v9_7, v9_8⟩ := Z9 BK314.out) | (go_at_call 57; (with_reducible refine (samphireref10_May.calls a0_3 a0_4 t316 _ A6.out).mono ?_); rintro e w10 ⟨rfl, hb⟩; replace BK314 := Qv BK314 hb; replace HB := Qy hb; (try clear hb); (try clear hb2); (try clear hk); (try clear hi)))
    go_meet
    case rel => exact ⟨_, (!t316), (by first | rfl | (simp; done) | (simp [*]; done)), H', ⟨by first | omega | exact Nat.le_refl _⟩, ⟨Qk⟩, ⟨Qh⟩⟩
  · replace c5 := Bool.eq_false_iff.mpr c5
    subst c5
    have H1 : (samphireref11_May.j0 k true a0_0 a0_1 a0_2 a0_3 a0_4 a0_5 a0_6 a0_7 a0_8) = some r := by rw [if_neg (show ¬ (false = true) by decide)] at H; exact H
    clear H
    have H := H1
    clear H1
    have H' := Aside0.mk H
    clear H
    obtain ⟨y11_0, y11_1, y11_2, y11_3, y11_4, y11_5, y11_6, y11_7, y11_8, v11_0, v11_1, v11_2, v11_3, v11_4, v11_5, v11_6, v11_7, v11_8⟩ := Z9 BK314.out
    go_wp2_with (first | ((with_reducible refine gate_callee (f := 57) rfl ?_); refine gL 6 Tryd.func57 #[.agg #[.int .i64 a0_1, .int .i64 a0_2]] ?_; (with_reducible refine (samphireref10_May.calls a0_1 a0_2 false _ A4.out).mono ?_); rintro e w12 ⟨rfl, hb⟩; refine ⟨_, rfl, ?_⟩; replace BK314 := Qv BK314 hb; replace HB := Qy hb; (try clear hb); (try clear hb2); (try clear hk); (try clear hi)))
    go_meet
    case rel => exact ⟨_, (true), (by first | rfl | (simp; done) | (simp [*]; done)), H', ⟨by first | omega | exact Nat.le_refl _⟩, ⟨Qk⟩, ⟨Qh⟩⟩
 case rest =>
  clear HC2
  try clear c2
  try clear p2
  try clear c5
  try clear y11_0 y11_1 y11_2 y11_3 y11_4 y11_5 y11_6 y11_7 y11_8
  try clear y7_0 y7_1 y7_2 y7_3 y7_4 y7_5 y7_6 y7_7 y7_8
  try clear y9_0 y9_1 y9_2 y9_3 y9_4 y9_5 y9_6 y9_7 y9_8
  try clear v11_0 v11_1 v11_2 v11_3 v11_4 v11_5 v11_6 v11_7 v11_8
  try clear v7_0 v7_1 v7_2 v7_3 v7_4 v7_5 v7_6 v7_7 v7_8
  try clear v9_0 v9_1 v9_2 v9_3 v9_4 v9_5 v9_6 v9_7 v9_8
  obtain ⟨kq, x13_1, rfl, HA, HJ1, BK314, HB⟩ := hcut
  cases kq with
  | zero => exact absurd HA.out (by simp [samphireref11_May.j0])
  | succ kj1 =>
   have H := HA.out
   clear HA
   simp only [samphireref11_May.j0] at H
   by_cases c13 : x13_1 = true
   · subst c13
     have H1 : (some false) = some r := by rw [if_pos rfl] at H; exact H
     clear H
     have H := H1
     clear H1
     obtain rfl := Option.some.inj H
     go_wp2
     go_ret
     exact ⟨Qe, Qh⟩
   · replace c13 := Bool.eq_false_iff.mpr c13
     subst c13
     have H1 : (if a0_0 = 1 then (if (a0_3 == a0_1 && (a0_4 == a0_2)) = true then ((samphireref11_parent.f a0_5 a0_6).bind fun t317 => (if t317 = true then ((samphireref08_Check.f kj1 a0_7).bind fun t318 => (if t318 = 0 then (some (a0_8.toList == ([] : List UInt8))) else (some false))) else (some false))) else (some false)) else (if a0_0 = 2 then ((samphireref11_parent.f a0_5 a0_6).bind fun t319 => (if t319 = true then (if a0_7.toList = ([] : List UInt8) then (some (a0_8.toList == ([] : List UInt8))) else (some false)) else (some false))) else (if a0_0 = 3 then (if (a0_5 == 0 && (a0_6 == 0)) = true then ((samphireref08_Check.f kj1 a0_7).bind fun t320 => (if t320 = 0 then (some (a0_8.toList == ([] : List UInt8))) else (some false))) else (some false)) else (if a0_0 = 4 then (if (a0_5 == 0 && (a0_6 == 0)) = true then (if a0_7.toList = ([] : List UInt8) then (some (decide ((a0_8.size : Int) ≤ 64))) else (some false)) else (some false)) else (if a0_0 = 5 then (if (a0_5 == 0 && (a0_6 == 0)) = true then (if a0_7.toList = ([] : List UInt8) then (some (a0_8.toList == ([] : List UInt8))) else (some false)) else (some false)) else (some false)))))) = some r := by rw [if_neg (show ¬ (false = true) by decide)] at H; exact H
     clear H
     have H := H1
     clear H1
     by_cases c14 : a0_0 = 1
     · rw [if_pos c14] at H
       have c14b0 : (a0_0 == 1) = true := beq_iff_eq.mpr c14
       have c14b1 : (a0_0 != 1) = false := bne_eq_false_iff_eq.mpr c14
       clear c14
       by_cases c15 : (a0_3 == a0_1 && (a0_4 == a0_2)) = true
       · rw [if_pos c15] at H
         have c15b0 : (a0_3 == a0_1 && (a0_4 == a0_2)) = true := c15
         (try (have c15b1 : decide (a0_3 = a0_1 && (a0_4 == a0_2)) = true := by simpa using c15))
         (try (have c15b2 : (a0_3 == a0_1 && (a0_4 == a0_2)) = true := by simpa using c15))
         clear c15
         replace H := Option.bind_eq_some_iff.mp H
         obtain ⟨t317, A160, H⟩ := H
         replace H : (if t317 = true then ((samphireref08_Check.f kj1 a0_7).bind fun t318 => (if t318 = 0 then (some (a0_8.toList == ([] : List UInt8))) else (some false))) else (some false)) = some r := H
         have A16 := Aside0.mk A160
         clear A160
         by_cases c17 : t317 = true
         · subst c17
           have H1 : ((samphireref08_Check.f kj1 a0_7).bind fun t318 => (if t318 = 0 then (some (a0_8.toList == ([] : List UInt8))) else (some false))) = some r := by rw [if_pos rfl] at H; exact H
           clear H
           have H := H1
           clear H1
           replace H := Option.bind_eq_some_iff.mp H
           obtain ⟨t318, A180, H⟩ := H
           replace H : (if t318 = 0 then (some (a0_8.toList == ([] : List UInt8))) else (some false)) = some r := H
           have A18 := Aside0.mk A180
           clear A180
           by_cases c19 : t318 = 0
           · rw [if_pos c19] at H
             have c19b0 : (t318 == 0) = true := beq_iff_eq.mpr c19
             have c19b1 : (t318 != 0) = false := bne_eq_false_iff_eq.mpr c19
             clear c19
             obtain rfl := Option.some.inj H
             obtain ⟨y20_0, y20_1, y20_2, y20_3, y20_4, y20_5, y20_6, y20_7, y20_8, v20_0, v20_1, v20_2, v20_3, v20_4, v20_5, v20_6, v20_7, v20_8⟩ := Z9 BK314.out
             go_wp2_with (first | (go_at_call 63; (with_reducible refine (samphireref11_parent.calls a0_5 a0_6 true _ A16.out).mono ?_); rintro e w21 ⟨rfl, hb⟩; replace BK314 := Qv BK314 hb; replace HB := Qy hb; (try clear hb); (try clear hb2); (try clear hk); (try clear hi); obtain ⟨y22_0, y22_1, y22_2, y22_3, y22_4, y22_5, y22_6, y22_7, y22_8, v22_0, v22_1, v22_2, v22_3, v22_4, v22_5, v22_6, v22_7, v22_8⟩ := Z9 BK314.out) | (go_at_call 64; (with_reducible refine (samphireref08_Check.calls kj1 a0_7 t318 _ A18.out).mono ?_); rintro e w' ⟨rfl, ⟨nd, rfl⟩⟩))
             go_ret
             exact ⟨Qe, Qh⟩
           · rw [if_neg c19] at H
             have c19b0 : (t318 == 0) = false := beq_eq_false_iff_ne.mpr c19
             have c19b1 : (t318 != 0) = true := bne_iff_ne.mpr c19
             obtain rfl := Option.some.inj H
             obtain ⟨y23_0, y23_1, y23_2, y23_3, y23_4, y23_5, y23_6, y23_7, y23_8, v23_0, v23_1, v23_2, v23_3, v23_4, v23_5, v23_6, v23_7, v23_8⟩ := Z9 BK314.out
             go_wp2_with (first | (go_at_call 63; (with_reducible refine (samphireref11_parent.calls a0_5 a0_6 true _ A16.out).mono ?_); rintro e w24 ⟨rfl, hb⟩; replace BK314 := Qv BK314 hb; replace HB := Qy hb; (try clear hb); (try clear hb2); (try clear hk); (try clear hi); obtain ⟨y25_0, y25_1, y25_2, y25_3, y25_4, y25_5, y25_6, y25_7, y25_8, v25_0, v25_1, v25_2, v25_3, v25_4, v25_5, v25_6, v25_7, v25_8⟩ := Z9 BK314.out) | (go_at_call 64; (with_reducible refine (samphireref08_Check.calls kj1 a0_7 t318 _ A18.out).mono ?_); rintro e w' ⟨rfl, ⟨nd, rfl⟩⟩))
             go_ret
             exact ⟨Qe, Qh⟩
         · replace c17 := Bool.eq_false_iff.mpr c17
           subst c17
           have H1 : (some false) = some r := by rw [if_neg (show ¬ (false = true) by decide)] at H; exact H
           clear H
           have H := H1
           clear H1
           obtain rfl := Option.some.inj H
           obtain ⟨y26_0, y26_1, y26_2, y26_3, y26_4, y26_5, y26_6, y26_7, y26_8, v26_0, v26_1, v26_2, v26_3, v26_4, v26_5, v26_6, v26_7, v26_8⟩ := Z9 BK314.out
           go_wp2_with (first | (go_at_call 63; (with_reducible refine (samphireref11_parent.calls a0_5 a0_6 false _ A16.out).mono ?_); rintro e w27 ⟨rfl, hb⟩; replace BK314 := Qv BK314 hb; replace HB := Qy hb; (try clear hb); (try clear hb2); (try clear hk); (try clear hi)))
           go_ret
           exact ⟨Qe, Qh⟩
       · rw [if_neg c15] at H
         have c15b0 : (a0_3 == a0_1 && (a0_4 == a0_2)) = false := by simpa using c15
         (try (have c15b1 : decide (a0_3 = a0_1 && (a0_4 == a0_2)) = false := by simpa using c15))
         (try (have c15b2 : (a0_3 == a0_1 && (a0_4 == a0_2)) = false := by simpa using c15))
         (try (have c15b3 : ¬ (a0_3 = a0_1 && (a0_4 == a0_2)) := by simpa using c15))
         clear c15
         obtain rfl := Option.some.inj H
         obtain ⟨y28_0, y28_1, y28_2, y28_3, y28_4, y28_5, y28_6, y28_7, y28_8, v28_0, v28_1, v28_2, v28_3, v28_4, v28_5, v28_6, v28_7, v28_8⟩ := Z9 BK314.out
         go_wp2
         go_ret
         exact ⟨Qe, Qh⟩
     · rw [if_neg c14] at H
       have c14b0 : (a0_0 == 1) = false := beq_eq_false_iff_ne.mpr c14
       have c14b1 : (a0_0 != 1) = true := bne_iff_ne.mpr c14
       by_cases c29 : a0_0 = 2
       · rw [if_pos c29] at H
         have c29b0 : (a0_0 == 2) = true := beq_iff_eq.mpr c29
         have c29b1 : (a0_0 != 2) = false := bne_eq_false_iff_eq.mpr c29
         clear c29
         replace H := Option.bind_eq_some_iff.mp H
         obtain ⟨t319, A300, H⟩ := H
         replace H : (if t319 = true then (if a0_7.toList = ([] : List UInt8) then (some (a0_8.toList == ([] : List UInt8))) else (some false)) else (some false)) = some r := H
         have A30 := Aside0.mk A300
         clear A300
         by_cases c31 : t319 = true
         · subst c31
           have H1 : (if a0_7.toList = ([] : List UInt8) then (some (a0_8.toList == ([] : List UInt8))) else (some false)) = some r := by rw [if_pos rfl] at H; exact H
           clear H
           have H := H1
           clear H1
           by_cases c32 : a0_7.toList = ([] : List UInt8)
           · rw [if_pos c32] at H
             have c32b0 : (a0_7.toList == ([] : List UInt8)) = true := beq_iff_eq.mpr c32
             have c32b1 : (a0_7.toList != ([] : List UInt8)) = false := bne_eq_false_iff_eq.mpr c32
             clear c32
             obtain rfl := Option.some.inj H
             obtain ⟨y33_0, y33_1, y33_2, y33_3, y33_4, y33_5, y33_6, y33_7, y33_8, v33_0, v33_1, v33_2, v33_3, v33_4, v33_5, v33_6, v33_7, v33_8⟩ := Z9 BK314.out
             go_wp2_with (first | ((with_reducible refine gate_callee (f := 63) rfl ?_); refine gL 47 Tryd.func63 #[.agg #[.int .i64 a0_5, .int .i64 a0_6]] ?_; (with_reducible refine (samphireref11_parent.calls a0_5 a0_6 true _ A30.out).mono ?_); rintro e w34 ⟨rfl, hb⟩; refine ⟨_, rfl, ?_⟩; replace BK314 := Qv BK314 hb; replace HB := Qy hb; (try clear hb); (try clear hb2); (try clear hk); (try clear hi); obtain ⟨y35_0, y35_1, y35_2, y35_3, y35_4, y35_5, y35_6, y35_7, y35_8, v35_0, v35_1, v35_2, v35_3, v35_4, v35_5, v35_6, v35_7, v35_8⟩ := Z9 BK314.out))
             go_ret
             exact ⟨Qe, Qh⟩
           · rw [if_neg c32] at H
             have c32b0 : (a0_7.toList == ([] : List UInt8)) = false := beq_eq_false_iff_ne.mpr c32
             have c32b1 : (a0_7.toList != ([] : List UInt8)) = true := bne_iff_ne.mpr c32
             obtain rfl := Option.some.inj H
             obtain ⟨y36_0, y36_1, y36_2, y36_3, y36_4, y36_5, y36_6, y36_7, y36_8, v36_0, v36_1, v36_2, v36_3, v36_4, v36_5, v36_6, v36_7, v36_8⟩ := Z9 BK314.out
             go_wp2_with (first | ((with_reducible refine gate_callee (f := 63) rfl ?_); refine gL 47 Tryd.func63 #[.agg #[.int .i64 a0_5, .int .i64 a0_6]] ?_; (with_reducible refine (samphireref11_parent.calls a0_5 a0_6 true _ A30.out).mono ?_); rintro e w37 ⟨rfl, hb⟩; refine ⟨_, rfl, ?_⟩; replace BK314 := Qv BK314 hb; replace HB := Qy hb; (try clear hb); (try clear hb2); (try clear hk); (try clear hi); obtain ⟨y38_0, y38_1, y38_2, y38_3, y38_4, y38_5, y38_6, y38_7, y38_8, v38_0, v38_1, v38_2, v38_3, v38_4, v38_5, v38_6, v38_7, v38_8⟩ := Z9 BK314.out))
             go_ret
             exact ⟨Qe, Qh⟩
         · replace c31 := Bool.eq_false_iff.mpr c31
           subst c31
           have H1 : (some false) = some r := by rw [if_neg (show ¬ (false = true) by decide)] at H; exact H
           clear H
           have H := H1
           clear H1
           obtain rfl := Option.some.inj H
           obtain ⟨y39_0, y39_1, y39_2, y39_3, y39_4, y39_5, y39_6, y39_7, y39_8, v39_0, v39_1, v39_2, v39_3, v39_4, v39_5, v39_6, v39_7, v39_8⟩ := Z9 BK314.out
           go_wp2_with (first | ((with_reducible refine gate_callee (f := 63) rfl ?_); refine gL 47 Tryd.func63 #[.agg #[.int .i64 a0_5, .int .i64 a0_6]] ?_; (with_reducible refine (samphireref11_parent.calls a0_5 a0_6 false _ A30.out).mono ?_); rintro e w40 ⟨rfl, hb⟩; refine ⟨_, rfl, ?_⟩; replace BK314 := Qv BK314 hb; replace HB := Qy hb; (try clear hb); (try clear hb2); (try clear hk); (try clear hi)))
           go_ret
           exact ⟨Qe, Qh⟩
       · rw [if_neg c29] at H
         have c29b0 : (a0_0 == 2) = false := beq_eq_false_iff_ne.mpr c29
         have c29b1 : (a0_0 != 2) = true := bne_iff_ne.mpr c29
         by_cases c41 : a0_0 = 3
         · rw [if_pos c41] at H
           have c41b0 : (a0_0 == 3) = true := beq_iff_eq.mpr c41
           have c41b1 : (a0_0 != 3) = false := bne_eq_false_iff_eq.mpr c41
           clear c41
           by_cases c42 : (a0_5 == 0 && (a0_6 == 0)) = true
           · rw [if_pos c42] at H
             have c42b0 : (a0_5 == 0 && (a0_6 == 0)) = true := c42
             (try (have c42b1 : decide (a0_5 = 0 && (a0_6 == 0)) = true := by simpa using c42))
             (try (have c42b2 : (a0_5 == 0 && (a0_6 == 0)) = true := by simpa using c42))
             clear c42
             replace H := Option.bind_eq_some_iff.mp H
             obtain ⟨t320, A430, H⟩ := H
             replace H : (if t320 = 0 then (some (a0_8.toList == ([] : List UInt8))) else (some false)) = some r := H
             have A43 := Aside0.mk A430
             clear A430
             by_cases c44 : t320 = 0
             · rw [if_pos c44] at H
               have c44b0 : (t320 == 0) = true := beq_iff_eq.mpr c44
               have c44b1 : (t320 != 0) = false := bne_eq_false_iff_eq.mpr c44
               clear c44
               obtain rfl := Option.some.inj H
               obtain ⟨y45_0, y45_1, y45_2, y45_3, y45_4, y45_5, y45_6, y45_7, y45_8, v45_0, v45_1, v45_2, v45_3, v45_4, v45_5, v45_6, v45_7, v45_8⟩ := Z9 BK314.out
               go_wp2_with (first | (go_at_call 64; (with_reducible refine (samphireref08_Check.calls kj1 a0_7 t320 _ A43.out).mono ?_); rintro e w' ⟨rfl, ⟨nd, rfl⟩⟩))
               go_ret
               exact ⟨Qe, Qh⟩
             · rw [if_neg c44] at H
               have c44b0 : (t320 == 0) = false := beq_eq_false_iff_ne.mpr c44
               have c44b1 : (t320 != 0) = true := bne_iff_ne.mpr c44
               obtain rfl := Option.some.inj H
               obtain ⟨y46_0, y46_1, y46_2, y46_3, y46_4, y46_5, y46_6, y46_7, y46_8, v46_0, v46_1, v46_2, v46_3, v46_4, v46_5, v46_6, v46_7, v46_8⟩ := Z9 BK314.out
               go_wp2_with (first | (go_at_call 64; (with_reducible refine (samphireref08_Check.calls kj1 a0_7 t320 _ A43.out).mono ?_); rintro e w' ⟨rfl, ⟨nd, rfl⟩⟩))
               go_ret
               exact ⟨Qe, Qh⟩
           · rw [if_neg c42] at H
             have c42b0 : (a0_5 == 0 && (a0_6 == 0)) = false := by simpa using c42
             (try (have c42b1 : decide (a0_5 = 0 && (a0_6 == 0)) = false := by simpa using c42))
             (try (have c42b2 : (a0_5 == 0 && (a0_6 == 0)) = false := by simpa using c42))
             (try (have c42b3 : ¬ (a0_5 = 0 && (a0_6 == 0)) := by simpa using c42))
             clear c42
             obtain rfl := Option.some.inj H
             obtain ⟨y47_0, y47_1, y47_2, y47_3, y47_4, y47_5, y47_6, y47_7, y47_8, v47_0, v47_1, v47_2, v47_3, v47_4, v47_5, v47_6, v47_7, v47_8⟩ := Z9 BK314.out
             go_wp2
             go_ret
             exact ⟨Qe, Qh⟩
         · rw [if_neg c41] at H
           have c41b0 : (a0_0 == 3) = false := beq_eq_false_iff_ne.mpr c41
           have c41b1 : (a0_0 != 3) = true := bne_iff_ne.mpr c41
           by_cases c48 : a0_0 = 4
           · rw [if_pos c48] at H
             have c48b0 : (a0_0 == 4) = true := beq_iff_eq.mpr c48
             have c48b1 : (a0_0 != 4) = false := bne_eq_false_iff_eq.mpr c48
             clear c48
             by_cases c49 : (a0_5 == 0 && (a0_6 == 0)) = true
             · rw [if_pos c49] at H
               have c49b0 : (a0_5 == 0 && (a0_6 == 0)) = true := c49
               (try (have c49b1 : decide (a0_5 = 0 && (a0_6 == 0)) = true := by simpa using c49))
               (try (have c49b2 : (a0_5 == 0 && (a0_6 == 0)) = true := by simpa using c49))
               clear c49
               by_cases c50 : a0_7.toList = ([] : List UInt8)
               · rw [if_pos c50] at H
                 have c50b0 : (a0_7.toList == ([] : List UInt8)) = true := beq_iff_eq.mpr c50
                 have c50b1 : (a0_7.toList != ([] : List UInt8)) = false := bne_eq_false_iff_eq.mpr c50
                 clear c50
                 obtain rfl := Option.some.inj H
                 obtain ⟨y51_0, y51_1, y51_2, y51_3, y51_4, y51_5, y51_6, y51_7, y51_8, v51_0, v51_1, v51_2, v51_3, v51_4, v51_5, v51_6, v51_7, v51_8⟩ := Z9 BK314.out
                 go_wp2
                 go_ret
                 exact ⟨Qe, Qh⟩
               · rw [if_neg c50] at H
                 have c50b0 : (a0_7.toList == ([] : List UInt8)) = false := beq_eq_false_iff_ne.mpr c50
                 have c50b1 : (a0_7.toList != ([] : List UInt8)) = true := bne_iff_ne.mpr c50
                 obtain rfl := Option.some.inj H
                 obtain ⟨y52_0, y52_1, y52_2, y52_3, y52_4, y52_5, y52_6, y52_7, y52_8, v52_0, v52_1, v52_2, v52_3, v52_4, v52_5, v52_6, v52_7, v52_8⟩ := Z9 BK314.out
                 go_wp2
                 go_ret
                 exact ⟨Qe, Qh⟩
             · rw [if_neg c49] at H
               have c49b0 : (a0_5 == 0 && (a0_6 == 0)) = false := by simpa using c49
               (try (have c49b1 : decide (a0_5 = 0 && (a0_6 == 0)) = false := by simpa using c49))
               (try (have c49b2 : (a0_5 == 0 && (a0_6 == 0)) = false := by simpa using c49))
               (try (have c49b3 : ¬ (a0_5 = 0 && (a0_6 == 0)) := by simpa using c49))
               clear c49
               obtain rfl := Option.some.inj H
               obtain ⟨y53_0, y53_1, y53_2, y53_3, y53_4, y53_5, y53_6, y53_7, y53_8, v53_0, v53_1, v53_2, v53_3, v53_4, v53_5, v53_6, v53_7, v53_8⟩ := Z9 BK314.out
               go_wp2
               go_ret
               exact ⟨Qe, Qh⟩
           · rw [if_neg c48] at H
             have c48b0 : (a0_0 == 4) = false := beq_eq_false_iff_ne.mpr c48
             have c48b1 : (a0_0 != 4) = true := bne_iff_ne.mpr c48
             by_cases c54 : a0_0 = 5
             · rw [if_pos c54] at H
               have c54b0 : (a0_0 == 5) = true := beq_iff_eq.mpr c54
               have c54b1 : (a0_0 != 5) = false := bne_eq_false_iff_eq.mpr c54
               clear c54
               by_cases c55 : (a0_5 == 0 && (a0_6 == 0)) = true
               · rw [if_pos c55] at H
                 have c55b0 : (a0_5 == 0 && (a0_6 == 0)) = true := c55
                 (try (have c55b1 : decide (a0_5 = 0 && (a0_6 == 0)) = true := by simpa using c55))
                 (try (have c55b2 : (a0_5 == 0 && (a0_6 == 0)) = true := by simpa using c55))
                 clear c55
                 by_cases c56 : a0_7.toList = ([] : List UInt8)
                 · rw [if_pos c56] at H
                   have c56b0 : (a0_7.toList == ([] : List UInt8)) = true := beq_iff_eq.mpr c56
                   have c56b1 : (a0_7.toList != ([] : List UInt8)) = false := bne_eq_false_iff_eq.mpr c56
                   clear c56
                   obtain rfl := Option.some.inj H
                   obtain ⟨y57_0, y57_1, y57_2, y57_3, y57_4, y57_5, y57_6, y57_7, y57_8, v57_0, v57_1, v57_2, v57_3, v57_4, v57_5, v57_6, v57_7, v57_8⟩ := Z9 BK314.out
                   go_wp2
                   go_ret
                   exact ⟨Qe, Qh⟩
                 · rw [if_neg c56] at H
                   have c56b0 : (a0_7.toList == ([] : List UInt8)) = false := beq_eq_false_iff_ne.mpr c56
                   have c56b1 : (a0_7.toList != ([] : List UInt8)) = true := bne_iff_ne.mpr c56
                   obtain rfl := Option.some.inj H
                   obtain ⟨y58_0, y58_1, y58_2, y58_3, y58_4, y58_5, y58_6, y58_7, y58_8, v58_0, v58_1, v58_2, v58_3, v58_4, v58_5, v58_6, v58_7, v58_8⟩ := Z9 BK314.out
                   go_wp2
                   go_ret
                   exact ⟨Qe, Qh⟩
               · rw [if_neg c55] at H
                 have c55b0 : (a0_5 == 0 && (a0_6 == 0)) = false := by simpa using c55
                 (try (have c55b1 : decide (a0_5 = 0 && (a0_6 == 0)) = false := by simpa using c55))
                 (try (have c55b2 : (a0_5 == 0 && (a0_6 == 0)) = false := by simpa using c55))
                 (try (have c55b3 : ¬ (a0_5 = 0 && (a0_6 == 0)) := by simpa using c55))
                 clear c55
                 obtain rfl := Option.some.inj H
                 obtain ⟨y59_0, y59_1, y59_2, y59_3, y59_4, y59_5, y59_6, y59_7, y59_8, v59_0, v59_1, v59_2, v59_3, v59_4, v59_5, v59_6, v59_7, v59_8⟩ := Z9 BK314.out
                 go_wp2
                 go_ret
                 exact ⟨Qe, Qh⟩
             · rw [if_neg c54] at H
               have c54b0 : (a0_0 == 5) = false := beq_eq_false_iff_ne.mpr c54
               have c54b1 : (a0_0 != 5) = true := bne_iff_ne.mpr c54
               obtain rfl := Option.some.inj H
               obtain ⟨y60_0, y60_1, y60_2, y60_3, y60_4, y60_5, y60_6, y60_7, y60_8, v60_0, v60_1, v60_2, v60_3, v60_4, v60_5, v60_6, v60_7, v60_8⟩ := Z9 BK314.out
               go_wp2
               go_ret
               exact ⟨Qe, Qh⟩
end Go.Proofs.YtlfgdaiegefjiaaDoor.S
