/- name.Check, as the machine walks it: every text. -/
import Derived.Test.YtlfgdaiegefjiaaDoorSL1
import Derived.Lib.RuneCount
import Derived.Laws.RangeString
import Derived.Laws.RangeAny
import Derived.Test.YtlfgdaiegefjiaaDoorNL
import Derived.LoopTactic
namespace Go.Proofs.YtlfgdaiegefjiaaDoor.S
open Go.RowKit Go.Proofs.YtlfgdaiegefjiaaDoorW.PrintWords Go.Proofs.YtlfgdaiegefjiaaDoorW.PrintLast Go.Proofs.YtlfgdaiegefjiaaDoorW.PrintMore
set_option linter.unusedVariables false
set_option linter.unusedSimpArgs false
theorem below_iter (w : World) (s : ByteArray) (pos : Nat) : Below w.heap.size w (w.iter s pos) := below_alloc (Below.refl _ _) _
def oddB (c : Int) : Bool := decide (c = 47) || (decide (c < 32) || (decide (127 ≤ c) && decide (c ≤ 159)))
set_option maxHeartbeats 8000000 in
set_option maxRecDepth 100000 in
theorem odd_calls (a0 : Int) (w : World) : Calls Tryd.prog 87 #[.int .i32 a0] w fun e w' => e = .returned (.bool (oddB a0)) ∧ w = w' := by
 by_cases c2 : a0 = 47
 · have hr : oddB a0 = true := by simp [oddB, c2]
   rw [hr]
   have c2b0 : (a0 == 47) = true := beq_iff_eq.mpr c2
   have c2b1 : (a0 != 47) = false := bne_eq_false_iff_eq.mpr c2
   clear c2 hr
   go_enter Tryd.func87, Tryd.ntmps87
   go_wp2
   go_ret
   exact ⟨rfl, rfl⟩
 · have c2b0 : (a0 == 47) = false := beq_eq_false_iff_ne.mpr c2
   have c2b1 : (a0 != 47) = true := bne_iff_ne.mpr c2
   by_cases c3 : a0 < 32
   · have hr : oddB a0 = true := by simp [oddB, c3]
     rw [hr]
     have c3b0 : decide (a0 < 32) = true := decide_eq_true c3
     clear c3 hr
     go_enter Tryd.func87, Tryd.ntmps87
     go_wp2
     go_ret
     exact ⟨rfl, rfl⟩
   · have c3b0 : decide (a0 < 32) = false := decide_eq_false c3
     by_cases c4 : 127 ≤ a0
     · have c4b0 : decide (127 ≤ a0) = true := decide_eq_true c4
       by_cases c5 : a0 ≤ 159
       · have hr : oddB a0 = true := by simp [oddB, c4, c5]
         rw [hr]
         have c5b0 : decide (a0 ≤ 159) = true := decide_eq_true c5
         clear c2 c3 c4 c5 hr
         go_enter Tryd.func87, Tryd.ntmps87
         go_wp2
         go_ret
         exact ⟨rfl, rfl⟩
       · have hr : oddB a0 = false := by simp [oddB, c2, c3, c4, c5]
         rw [hr]
         have c5b0 : decide (a0 ≤ 159) = false := decide_eq_false c5
         clear c2 c3 c4 c5 hr
         go_enter Tryd.func87, Tryd.ntmps87
         go_wp2
         go_ret
         exact ⟨rfl, rfl⟩
     · have hr : oddB a0 = false := by simp [oddB, c2, c3, c4]
       rw [hr]
       have c4b0 : decide (127 ≤ a0) = false := decide_eq_false c4
       clear c2 c3 c4 hr
       go_enter Tryd.func87, Tryd.ntmps87
       go_wp2
       go_ret
       exact ⟨rfl, rfl⟩
/-- Is there a rune from a place on that is none of a name's? -/
def anyOdd (s : ByteArray) : Nat → Nat → Bool
 | 0, _ => false
 | f + 1, pos => if pos < s.size then oddB (Utf8.decode s pos).1 || anyOdd s f (pos + (Utf8.decode s pos).2) else false
theorem anyOdd_end (s : ByteArray) (f pos : Nat) (h : ¬ pos < s.size) : anyOdd s f pos = false := by
 cases f <;> simp [anyOdd, h]
def name_Check.f (s : ByteArray) : Option Int :=
 if s.size < 9223372036854775807 then
  if anyOdd s s.size 0 = true then some 80
  else if Lib.runeCount s < 1 then some 80
  else if 32 < Lib.runeCount s then some 80
  else if Lib.validD s.data.toList = false then some 80
  else if s.toList = ([46] : List UInt8) then some 80
  else if s.toList = ([46, 46] : List UInt8) then some 80
  else (strings_HasPrefix.f s ⟨#[32]⟩).bind fun p => if p = true then some 80 else (strings_HasSuffix.f s ⟨#[32]⟩).bind fun q => if q = true then some 80 else some 0
 else none
set_option maxHeartbeats 8000000 in
set_option maxRecDepth 100000 in
theorem name_Check.calls (s : ByteArray) (r : Int) (w : World) (h : name_Check.f s = some r) (hL : Laid w) :
 Calls Tryd.prog 60 #[.string s] w fun e w' => e = .returned (.int .i64 r) ∧ Below w.heap.size w w' := by
 unfold name_Check.f at h
 split at h
 case isFalse => cases h
 rename_i hs
 replace h := Aside0.mk h
 go_enter Tryd.func60, Tryd.ntmps60
 go_wp2
 go_loopw [3] (fun n w' => ∃ (pos b acc : Nat), w' = w.iter s pos ∧ n = .int .i64 acc ∧ acc + Lib.runeCountFrom s b pos = Lib.runeCount s ∧ Aside0 (anyOdd s b pos = anyOdd s s.size 0) ∧ s.size ≤ pos + b ∧ acc ≤ pos) (fun _ w' => s.size - w'.iterPos w.heap.size)
 case atStart => exact ⟨0, s.size, 0, rfl, rfl, by simp [Lib.runeCount], ⟨rfl⟩, by omega, Nat.le_refl _⟩
 case round =>
  obtain ⟨pos, b, acc, rfl, rfl, hc, ho, hb, ha⟩ := hrel
  by_cases hp : pos < s.size
  · have hnx := fun ty => run_next_any (P := Tryd.prog) w s pos ty hp
    have hwd := Lib.decode_width_pos s pos hp
    obtain ⟨b, rfl⟩ : ∃ b', b = b' + 1 := ⟨b - 1, by omega⟩
    obtain ⟨rn, hrn⟩ : ∃ x : Int, x = ((Utf8.decode s pos).1 : Int) := ⟨_, rfl⟩
    rw [← hrn] at hnx
    have HRN := Aside0.mk hrn
    clear hrn
    by_cases hod : oddB rn = true
    · have hr : r = 80 := by
       have h1 := h.out
       have h2 : anyOdd s s.size 0 = true := by
        rw [← ho.out]
        simp [anyOdd, hp, ← HRN.out, hod]
       rw [if_pos h2] at h1
       exact (Option.some.inj h1).symm
      subst hr
      go_wp2_with (go_at_call 87; (with_reducible refine (odd_calls rn _).mono ?_); rintro e w1 ⟨rfl, rfl⟩)
      go_ret
      exact ⟨rfl, below_iter _ _ _⟩
    · replace hod := Bool.eq_false_iff.mpr hod
      have ho2 : Aside0 (anyOdd s b (pos + (Utf8.decode s pos).2) = anyOdd s s.size 0) := ⟨by
       rw [← ho.out]
       simp [anyOdd, hp, ← HRN.out, hod]⟩
      clear ho
      go_wp2_with (go_at_call 87; (with_reducible refine (odd_calls rn _).mono ?_); rintro e w1 ⟨rfl, rfl⟩)
      go_roundw
      case rel =>
       refine ⟨pos + (Utf8.decode s pos).2, b, acc + 1, rfl, by go_num, ?_, ho2, by omega, by omega⟩
       rw [← hc]
       simp [Lib.runeCountFrom, hp]
       omega
      case measure =>
       simp
       omega
  · have hnx := fun ty => run_next_end (P := Tryd.prog) w s pos ty hp
    rw [Lib.runeCountFrom_end s b pos hp, Nat.add_zero] at hc
    have h1 := h.out
    rw [← ho.out, anyOdd_end s b pos hp, ← hc, if_neg (by simp)] at h1
    clear h ho hc
    have hLi : Laid (w.iter s pos) := hL.below (below_iter _ _ _)
    by_cases c1 : acc < 1
    · rw [if_pos c1] at h1
      obtain rfl := Option.some.inj h1
      have b1 : decide ((acc : Int) < 1) = true := decide_eq_true (by omega)
      clear h1
      go_wp2
      go_ret
      exact ⟨rfl, below_iter _ _ _⟩
    rw [if_neg c1] at h1
    have b1 : decide ((acc : Int) < 1) = false := decide_eq_false (by omega)
    by_cases c2 : 32 < acc
    · rw [if_pos c2] at h1
      obtain rfl := Option.some.inj h1
      have b2 : decide (32 < (acc : Int)) = true := decide_eq_true (by omega)
      clear h1
      go_wp2
      go_ret
      exact ⟨rfl, below_iter _ _ _⟩
    rw [if_neg c2] at h1
    have b2 : decide (32 < (acc : Int)) = false := decide_eq_false (by omega)
    clear c1 c2
    have hvc : ∀ v, Lib.validD s.data.toList = v → Calls Tryd.prog 88 #[.string s] (w.iter s pos) fun e w' => e = .returned (.bool v) ∧ Below (w.iter s pos).heap.size (w.iter s pos) w' := by
     rintro v rfl
     exact valid_calls s _ (by omega) hLi
    by_cases c3 : Lib.validD s.data.toList = false
    · rw [if_pos c3] at h1
      obtain rfl := Option.some.inj h1
      have hv := hvc _ c3
      clear h1 c3 hvc
      replace hv := Aside0.mk hv
      go_wp2_with (go_at_call 88; (with_reducible refine hv.out.mono ?_); rintro e w1 ⟨rfl, hb1⟩)
      go_ret
      exact ⟨rfl, below_then (below_iter _ _ _) (below_iter _ _ _).size hb1⟩
    rw [if_neg c3] at h1
    have hv := hvc true (by simpa using c3)
    clear c3 hvc
    replace hv := Aside0.mk hv
    by_cases c4 : s.toList = ([46] : List UInt8)
    · rw [if_pos c4] at h1
      obtain rfl := Option.some.inj h1
      clear h1
      have b4 : (s.toList == ([46] : List UInt8)) = true := beq_iff_eq.mpr c4
      go_wp2_with (go_at_call 88; (with_reducible refine hv.out.mono ?_); rintro e w1 ⟨rfl, hb1⟩)
      go_ret
      exact ⟨rfl, below_then (below_iter _ _ _) (below_iter _ _ _).size hb1⟩
    rw [if_neg c4] at h1
    have b4 : (s.toList == ([46] : List UInt8)) = false := beq_eq_false_iff_ne.mpr c4
    clear c4
    by_cases c5 : s.toList = ([46, 46] : List UInt8)
    · rw [if_pos c5] at h1
      obtain rfl := Option.some.inj h1
      clear h1
      have b5 : (s.toList == ([46, 46] : List UInt8)) = true := beq_iff_eq.mpr c5
      clear c5
      go_wp2_with (go_at_call 88; (with_reducible refine hv.out.mono ?_); rintro e w1 ⟨rfl, hb1⟩)
      go_ret
      exact ⟨rfl, below_then (below_iter _ _ _) (below_iter _ _ _).size hb1⟩
    rw [if_neg c5] at h1
    have b5 : (s.toList == ([46, 46] : List UInt8)) = false := beq_eq_false_iff_ne.mpr c5
    clear c5
    obtain ⟨p, hpr, h1⟩ := Option.bind_eq_some_iff.mp h1
    replace hpr := Aside0.mk hpr
    cases p with
    | true =>
     rw [if_pos rfl] at h1
     obtain rfl := Option.some.inj h1
     clear h1
     go_wp2_with (first | (go_at_call 88; (with_reducible refine hv.out.mono ?_); rintro e w1 ⟨rfl, hb1⟩) | (go_at_call 89; (with_reducible refine (strings_HasPrefix.calls _ _ _ _ hpr.out).mono ?_); rintro e w2 ⟨rfl, ⟨nd, rfl⟩⟩))
     go_ret
     exact ⟨rfl, pw_below_drewN (below_then (below_iter _ _ _) (below_iter _ _ _).size hb1) _⟩
    | false =>
     rw [if_neg (by simp)] at h1
     obtain ⟨q, hq, h1⟩ := Option.bind_eq_some_iff.mp h1
     replace hq := Aside0.mk hq
     cases q with
     | true =>
      rw [if_pos rfl] at h1
      obtain rfl := Option.some.inj h1
      clear h1
      go_wp2_with (first | (go_at_call 88; (with_reducible refine hv.out.mono ?_); rintro e w1 ⟨rfl, hb1⟩) | (go_at_call 89; (with_reducible refine (strings_HasPrefix.calls _ _ _ _ hpr.out).mono ?_); rintro e w2 ⟨rfl, ⟨nd, rfl⟩⟩) | (go_at_call 90; (with_reducible refine (strings_HasSuffix.calls _ _ _ _ hq.out).mono ?_); rintro e w3 ⟨rfl, ⟨nd3, rfl⟩⟩))
      go_ret
      exact ⟨rfl, pw_below_drewN (below_then (below_iter _ _ _) (below_iter _ _ _).size hb1) _⟩
     | false =>
      rw [if_neg (by simp)] at h1
      obtain rfl := Option.some.inj h1
      clear h1
      go_wp2_with (first | (go_at_call 88; (with_reducible refine hv.out.mono ?_); rintro e w1 ⟨rfl, hb1⟩) | (go_at_call 89; (with_reducible refine (strings_HasPrefix.calls _ _ _ _ hpr.out).mono ?_); rintro e w2 ⟨rfl, ⟨nd, rfl⟩⟩) | (go_at_call 90; (with_reducible refine (strings_HasSuffix.calls _ _ _ _ hq.out).mono ?_); rintro e w3 ⟨rfl, ⟨nd3, rfl⟩⟩))
      go_ret
      exact ⟨rfl, pw_below_drewN (below_then (below_iter _ _ _) (below_iter _ _ _).size hb1) _⟩
end Go.Proofs.YtlfgdaiegefjiaaDoor.S
