/- name.Count and name.Cut, as the machine walks them: every text, every number. -/
import Derived.Test.YtlipgfahjmgekabDoorSL1
import Derived.Lib.RuneCount
import Derived.Laws.RangeString
import Derived.Laws.RangeAny
import Derived.LoopTactic
namespace Go.Proofs.YtlipgfahjmgekabDoor.S
open Go.RowKit Go.Proofs.YtlipgfahjmgekabDoorW.PrintWords Go.Proofs.YtlipgfahjmgekabDoorW.PrintLast Go.Proofs.YtlipgfahjmgekabDoorW.PrintMore
set_option linter.unusedVariables false
set_option linter.unusedSimpArgs false
theorem below_iter (w : World) (s : ByteArray) (pos : Nat) : Below w.heap.size w (w.iter s pos) := below_alloc (Below.refl _ _) _
def name_Count.f (s : ByteArray) : Option Int := if s.size < 9223372036854775807 then some (Lib.runeCount s) else none
set_option maxHeartbeats 4000000 in
set_option maxRecDepth 1000000 in
theorem name_Count.calls (s : ByteArray) (r : Int) (w : World) (h : name_Count.f s = some r) :
    Calls Tryd.prog 12 #[.string s] w fun e w' => e = .returned (.int .i64 r) ∧ Below w.heap.size w w' := by
  unfold name_Count.f at h
  split at h
  case isFalse => cases h
  rename_i hs
  obtain rfl := Option.some.inj h
  clear h
  go_enter Tryd.func12, Tryd.ntmps12
  go_wp2
  go_loopw [3] (fun n w' => ∃ (pos b acc : Nat), w' = w.iter s pos ∧ n = .int .i64 acc ∧ acc + Lib.runeCountFrom s b pos = Lib.runeCount s ∧ s.size ≤ pos + b ∧ acc ≤ pos) (fun _ w' => s.size - w'.iterPos w.heap.size)
  case atStart => exact ⟨0, s.size, 0, rfl, rfl, by simp [Lib.runeCount], by omega, Nat.le_refl _⟩
  case round =>
    obtain ⟨pos, b, acc, rfl, rfl, hc, hb, ha⟩ := hrel
    by_cases hp : pos < s.size
    · have hnx : ∀ ty, (Instr.next (.pointer (some ⟨w.heap.size, 0, none⟩)) true ty).run Tryd.prog (w.iter s pos) = _ := fun ty => run_next_any w s pos ty hp
      have hwd := Lib.decode_width_pos s pos hp
      go_wp2
      go_roundw
      case rel =>
        cases b with
        | zero => omega
        | succ b =>
          refine ⟨pos + (Utf8.decode s pos).2, b, acc + 1, rfl, by go_num, ?_, by omega, by omega⟩
          rw [← hc]
          simp [Lib.runeCountFrom, hp]
          omega
      case measure =>
        simp
        omega
    · have hnx : ∀ ty, (Instr.next (.pointer (some ⟨w.heap.size, 0, none⟩)) true ty).run Tryd.prog (w.iter s pos) = _ := fun ty => run_next_end w s pos ty hp
      go_wp2
      go_ret
      rw [Lib.runeCountFrom_end s b pos hp, Nat.add_zero] at hc
      subst hc
      exact ⟨rfl, below_iter _ _ _⟩
/-- Behind how many bytes a text is cut. -/
def cutFrom (s : ByteArray) : Nat → Nat → Int → Nat
  | 0, _, _ => s.size
  | fuel + 1, pos, n => if pos < s.size then (if n < 1 then pos else cutFrom s fuel (pos + (Utf8.decode s pos).2) (n - 1)) else s.size
def name_Cut.f (s : ByteArray) (n : Int) : Option ByteArray := if s.size < 9223372036854775807 ∧ n < 9223372036854775808 then some (s.extract 0 (cutFrom s s.size 0 n)) else none
theorem cutFrom_end (s : ByteArray) (fuel pos : Nat) (n : Int) (h : ¬ pos < s.size) : cutFrom s fuel pos n = s.size := by
  cases fuel <;> simp [cutFrom, h]
set_option maxHeartbeats 4000000 in
set_option maxRecDepth 1000000 in
theorem name_Cut.calls (s : ByteArray) (n : Int) (r : ByteArray) (w : World) (h : name_Cut.f s n = some r) :
    Calls Tryd.prog 14 #[.string s, .int .i64 n] w fun e w' => e = .returned (.string r) ∧ Below w.heap.size w w' := by
  unfold name_Cut.f at h
  split at h
  case isFalse => cases h
  rename_i hs
  have hn := hs.2
  replace hs := hs.1
  obtain rfl := Option.some.inj h
  clear h
  go_enter Tryd.func14, Tryd.ntmps14
  go_wp2
  go_loopw [1] (fun v w' => ∃ (pos b : Nat) (m : Int), w' = w.iter s pos ∧ v = .int .i64 m ∧ cutFrom s b pos m = cutFrom s s.size 0 n ∧ s.size ≤ pos + b ∧ m ≤ n) (fun _ w' => s.size - w'.iterPos w.heap.size)
  case atStart => exact ⟨0, s.size, n, rfl, rfl, rfl, by omega, Int.le_refl _⟩
  case round =>
    obtain ⟨pos, b, m, rfl, rfl, hc, hb, ha⟩ := hrel
    by_cases hp : pos < s.size
    · have hnx : ∀ ty, (Instr.next (.pointer (some ⟨w.heap.size, 0, none⟩)) true ty).run Tryd.prog (w.iter s pos) = _ := fun ty => run_next_any w s pos ty hp
      have hwd := Lib.decode_width_pos s pos hp
      obtain ⟨b, rfl⟩ : ∃ b', b = b' + 1 := ⟨b - 1, by omega⟩
      by_cases h1 : m < 1
      · have h1b := decide_eq_true h1
        have k1 : (0 ≤ (pos : Int)) = True := eq_true (by omega)
        have k2 : ((pos : Int) ≤ (s.size : Int)) = True := eq_true (by omega)
        have hcc : cutFrom s s.size 0 n = pos := by rw [← hc]; simp [cutFrom, hp, h1]
        go_wp2
        go_ret
        rw [hcc]
        exact ⟨rfl, below_iter _ _ _⟩
      · have h1b := decide_eq_false h1
        have e1 : wrap64 (m - 1) = m - 1 := by unfold wrap64; omega
        go_wp2
        go_roundw
        case rel =>
          refine ⟨pos + (Utf8.decode s pos).2, b, m - 1, rfl, rfl, ?_, by omega, by omega⟩
          rw [← hc]
          simp [cutFrom, hp, h1]
        case measure =>
          simp
          omega
    · have hnx : ∀ ty, (Instr.next (.pointer (some ⟨w.heap.size, 0, none⟩)) true ty).run Tryd.prog (w.iter s pos) = _ := fun ty => run_next_end w s pos ty hp
      go_wp2
      go_ret
      rw [cutFrom_end s b pos m hp] at hc
      rw [← hc]
      exact ⟨by simp, below_iter _ _ _⟩
end Go.Proofs.YtlipgfahjmgekabDoor.S
