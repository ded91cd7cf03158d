/- A slice of numbers as an argument, opened: for the seat's card TreeLast. -/
import Derived.Test.YtiffeljmeahmkaaDoorCd
import Derived.Test.YtiffeljmeahmkaaDoorOa
import Derived.ChangeSlices
namespace Go.Proofs.YtiffeljmeahmkaaDoor.S
open Go.RowKit Go.Proofs.YtiffeljmeahmkaaDoorW.PrintWords
theorem laidOut : laidOutB Tryd.prog = true := by kernel_rfl
theorem open_ints34 {H : Type} {enc : TypeId × Value → H} {W : World} {A : Option Addr} {len cap : Nat} {d : DataW H} {ps : List MemPlace} (h : DataW.Trod enc Tryd.prog W 0 (fun _ => true) true 34 (.slice A len cap) d ps) : ∃ l : List Int, len = l.length ∧ Kd.C (Kd.int .i64) W A l.length l ∧ l.length ≤ cap := by
  obtain ⟨fuel, hf⟩ := h
  rcases Go.ChangeShapes.open_ints Tryd.underlying34 Tryd.underlying3 (by kernel_rfl) hf with ⟨hcs, _⟩ | ⟨a, n, c, zs, hcs, _, hl, hm, hz, _, hc, _⟩
  · simp [Value.cells] at hcs
    obtain ⟨rfl, rfl, rfl⟩ := hcs
    exact ⟨[], rfl, ⟨rfl, by simp, fun h => absurd h (by simp)⟩, Nat.le_refl _⟩
  · simp [Value.cells] at hcs
    obtain ⟨rfl, rfl, rfl⟩ := hcs
    simp only [if_true] at hz
    have hlen : (zs.take len).length = len := by rw [List.length_take]; omega
    refine ⟨zs.take len, hlen.symm, ⟨rfl, by rw [hlen]; unfold maxLen at hm; omega, fun _ => ⟨a, rfl, fun j p hj => ⟨[.int .i64 p], rfl, rfl, fun i u hu => ?_⟩⟩⟩, by omega⟩
    have hj2 : j < len := by
      have := (List.getElem?_eq_some_iff.1 hj).1
      omega
    have h0 := hc j (by omega)
    rw [List.getElem?_take, if_pos hj2] at hj
    rw [show zs.getD j 0 = p by rw [List.getD_eq_getElem?_getD, hj]; rfl] at h0
    match i, hu with
    | 0, hu =>
      simp at hu
      subst hu
      show W.cell? (a.add (j * 1 + 0)) = _
      rw [Nat.mul_one]
      exact h0
end Go.Proofs.YtiffeljmeahmkaaDoor.S
