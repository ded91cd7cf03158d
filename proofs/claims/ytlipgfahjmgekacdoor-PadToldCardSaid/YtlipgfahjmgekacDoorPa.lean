/- pad's iterator over its sizes: which come, and that it stops when it is told to. -/
import Derived.Test.YtlipgfahjmgekacDoorSx0
import Derived.RangeFuncNested
import Derived.RangeFuncBound
import Derived.RangeFuncCalls
import Derived.RangeFuncLeaves
import Derived.Shelf.Abstract
import Derived.Shelf.RegionOpen
import Derived.WalkKit
import Derived.OwnWalkIn
import Derived.TacticsInMore
import Derived.LoopNIn
import Derived.LoopIn
namespace Go.Proofs.YtlipgfahjmgekacDoor.S
open Go.RowKit Go.Shelf Go.Proofs.YtlipgfahjmgekacDoorW.PrintWords Go.Proofs.YtlipgfahjmgekacDoorW.PrintLast Go.Proofs.YtlipgfahjmgekacDoorW.PrintMore
attribute [local go_sem] Oper.semAt_some
set_option linter.unusedVariables false
set_option linter.unusedSimpArgs false
/-- The first sizes. -/
def upto (k : Nat) : List Int := (List.range k).map fun i => 64 * 2 ^ i
theorem upto_succ (k : Nat) : upto (k + 1) = upto k ++ [64 * 2 ^ k] := by simp [upto, List.range_succ]
theorem upto_length (k : Nat) : (upto k).length = k := by simp [upto]
theorem pow_le (k : Nat) (h : k ≤ 9) : (1 : Int) ≤ 2 ^ k ∧ (2 : Int) ^ k ≤ 512 := by
  have : ∀ k : Fin 10, (1 : Int) ≤ 2 ^ k.val ∧ (2 : Int) ^ k.val ≤ 512 := by decide
  exact this ⟨k, by omega⟩
theorem pow_lt (k : Nat) (h : k < 9) : (2 : Int) ^ k ≤ 256 := by
  have : ∀ k : Fin 9, (2 : Int) ^ k.val ≤ 256 := by decide
  exact this ⟨k, by omega⟩
set_option maxRecDepth 100000 in
set_option maxHeartbeats 2000000 in
theorem sizes_stops (F : Fence) (n : Nat) (h24 : F.fn 24) (hro : F.round = none) (hn : 1 ≤ n) (w : World) :
    SeqStops F n Tryd.prog 24 #[] (fun v : Int => Value.int .i64 v) (fun xs => xs = upto 9) (fun pre => ∃ k, k ≤ 9 ∧ pre = upto k) 9 w := fun l J Jx W hW hJ hJx hY h0 => by
  refine callsIn_of_wp Tryd.func24 rfl h24 ?_ hro
  simp only [Tryd.ntmps24, List.size_toArray, List.length_cons, List.length_nil, Nat.reduceAdd, Nat.reduceSub, Array.replicate_succ, Array.replicate_zero, List.push_toArray, List.append_toArray, List.nil_append, List.cons_append]
  gi_wp2
  gi_loopw [2] (fun p wr => ∃ (k : Nat) (m : Int), k ≤ 9 ∧ Aside0 (m = 64 * 2 ^ k) ∧ p = .int .i64 m ∧ J (upto k) wr) (fun p _ => (65536 - intOf p).toNat)
  case atStart => exact ⟨0, 64, by omega, ⟨by decide⟩, rfl, h0⟩
  case round =>
    obtain ⟨k, m, hk, hm, rfl, hJs⟩ := hrel
    have hp := pow_le k hk
    have hm1 : 64 ≤ m ∧ m ≤ 32768 := by rw [hm.out]; omega
    by_cases hlt : k < 9
    · have hp2 := pow_lt k hlt
      have c1 : decide (m ≤ 16384) = true := decide_eq_true (by rw [hm.out]; omega)
      obtain ⟨fn, tmps, assign, body, hy, hR⟩ := hY (upto k) m wr hJs (by rw [upto_length]; exact hlt)
      have hs : upto (k + 1) = upto k ++ [m] := by rw [upto_succ, hm.out]
      rw [← hs] at hR
      have hm2 : Aside0 (m * 2 = 64 * 2 ^ (k + 1)) := ⟨by rw [hm.out, Int.pow_succ]; omega⟩
      clear hs hp hp2
      gi_wp2
      refine hR.mono ?_
      rintro e W3 (⟨rfl, hJ3, hk3⟩ | ⟨rfl, hJx3⟩)
      · gi_wp2
        go_roundw
        case rel => exact ⟨k + 1, m * 2, by omega, hm2, rfl, hJ3⟩
        case measure => simp [intOf]; omega
      · gi_wp2
        go_end0
        exact ⟨⟨_, rfl⟩, .inr ⟨upto (k + 1), ⟨k + 1, by omega, rfl⟩, hJx3⟩⟩
    · obtain rfl : k = 9 := by omega
      have c1 : decide (m ≤ 16384) = false := decide_eq_false (by rw [hm.out]; omega)
      gi_wp2
      all_goals
        refine ⟨fun _ h => (by cases h), ?_⟩
        gi_wp2
        go_end0
        exact ⟨⟨_, rfl⟩, .inl ⟨upto 9, rfl, hJs⟩⟩
end Go.Proofs.YtlipgfahjmgekacDoor.S
