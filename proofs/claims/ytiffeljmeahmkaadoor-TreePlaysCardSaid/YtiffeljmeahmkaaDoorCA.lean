/- A slice of operations as an argument, opened: for the seat's cards. -/
import Derived.Test.YtiffeljmeahmkaaDoorCd
import Derived.Test.YtiffeljmeahmkaaDoorOa
import Derived.Deep.Slices
namespace Go.Proofs.YtiffeljmeahmkaaDoor.S
open Go.RowKit Go.Proofs.YtiffeljmeahmkaaDoorW.PrintWords
theorem laidOut : laidOutB Tryd.prog = true := by kernel_rfl
theorem list_of {α : Type} {p : Nat → α → Prop} : ∀ n, (∀ i, i < n → ∃ x, p i x) → ∃ l : List α, l.length = n ∧ ∀ i x, l[i]? = some x → p i x
  | 0, _ => ⟨[], rfl, fun i x h => by simp at h⟩
  | n + 1, h => by
    obtain ⟨l, hl, hp⟩ := list_of n (fun i hi => h i (by omega))
    obtain ⟨x, hx⟩ := h n (by omega)
    refine ⟨l ++ [x], by simp [hl], fun i y hy => ?_⟩
    rcases Nat.lt_or_ge i n with hi | hi
    · rw [List.getElem?_append_left (by omega)] at hy
      exact hp i y hy
    · rw [List.getElem?_append_right (by omega)] at hy
      obtain rfl : i = n := by
        have := (List.getElem?_eq_some_iff.1 hy).1
        simp at this
        omega
      rw [hl, Nat.sub_self] at hy
      cases hy
      exact hx
theorem open_ops {H : Type} {enc : TypeId × Value → H} {W : World} {A : Option Addr} {len cap : Nat} {d : DataW H} {ps : List MemPlace} (h : DataW.Trod enc Tryd.prog W 0 (fun _ => true) true 39 (.slice A len cap) d ps) : ∃ l : List Opn, len = l.length ∧ Kd.C k28 W A l.length l ∧ l.length ≤ cap := by
  obtain ⟨fuel, hf⟩ := h
  rcases Go.Deep.open_slice Tryd.underlying39 hf with ⟨hcs, _⟩ | ⟨a, n, c, m, k, D, Pl, hcs, _, hl, hm, hmm, _, he⟩
  · simp [Value.cells] at hcs
    obtain ⟨rfl, rfl, rfl⟩ := hcs
    exact ⟨[], rfl, ⟨rfl, by simp, fun h => absurd h (by simp)⟩, Nat.le_refl _⟩
  · simp [Value.cells] at hcs
    obtain ⟨rfl, rfl, rfl⟩ := hcs
    simp only [if_true] at hmm
    have h9 : Tryd.prog.cellsOf 28 = 9 := by kernel_rfl
    rw [h9] at he
    have each : ∀ i, i < len → ∃ o : Opn, ∀ j u, (opC o)[j]? = some u → W.cell? (a.add (i * 9 + j)) = some u := by
      intro i hi
      obtain ⟨cs', h1, h2⟩ := he i (by omega)
      obtain ⟨hb, hlen, hc⟩ := World.cells?_some h1
      obtain ⟨k0, t1, w1, t2, w2, t3, w3, nm, vl, rfl, _, _⟩ := one_op isStamp isOp hlen h2
      refine ⟨⟨k0, ⟨t1, w1⟩, ⟨t2, w2⟩, ⟨t3, w3⟩, nm, vl⟩, fun j u hu => ?_⟩
      have hj : j < 9 := (List.getElem?_eq_some_iff.1 hu).1
      have h3 := hc j hj
      rw [Go.Deep.add_add] at h3
      rw [h3]
      exact hu
    obtain ⟨l, hl1, hl2⟩ := list_of len each
    refine ⟨l, hl1.symm, ⟨rfl, by unfold maxLen at hm; omega, fun _ => ⟨a, rfl, fun j p hj => ⟨opC p, rfl, k28_mk W p, fun i u hu => ?_⟩⟩⟩, by omega⟩
    exact hl2 j p hj i u hu
end Go.Proofs.YtiffeljmeahmkaaDoor.S
/- A slice of stamps as an argument, opened: for the seat's card TreePlays. -/
namespace Go.Proofs.YtiffeljmeahmkaaDoor.S
open Go.RowKit Go.Proofs.YtiffeljmeahmkaaDoorW.PrintWords
theorem open_stamps {H : Type} {enc : TypeId × Value → H} {W : World} {A : Option Addr} {len cap : Nat} {d : DataW H} {ps : List MemPlace} (h : DataW.Trod enc Tryd.prog W 0 (fun _ => true) true 46 (.slice A len cap) d ps) : ∃ l : List Stp, len = l.length ∧ Kd.C k25 W A l.length l ∧ l.length ≤ cap := by
  obtain ⟨fuel, hf⟩ := h
  rcases Go.Deep.open_slice Tryd.underlying46 hf with ⟨hcs, _⟩ | ⟨a, n, c, m, k, D, Pl, hcs, _, hl, hm, hmm, _, he⟩
  · simp [Value.cells] at hcs
    obtain ⟨rfl, rfl, rfl⟩ := hcs
    exact ⟨[], rfl, ⟨rfl, by simp, fun h => absurd h (by simp)⟩, Nat.le_refl _⟩
  · simp [Value.cells] at hcs
    obtain ⟨rfl, rfl, rfl⟩ := hcs
    simp only [if_true] at hmm
    have h2 : Tryd.prog.cellsOf 25 = 2 := by kernel_rfl
    rw [h2] at he
    have each : ∀ i, i < len → ∃ s : Stp, ∀ j u, ([.int .i64 s.f0, .int .i64 s.f1] : List Value)[j]? = some u → W.cell? (a.add (i * 2 + j)) = some u := by
      intro i hi
      obtain ⟨cs', h1, h3⟩ := he i (by omega)
      obtain ⟨hb, hlen, hc⟩ := World.cells?_some h1
      match cs', hlen with
      | [c0, c1], hlen =>
        obtain ⟨x, y, rfl, rfl, _, _, _⟩ := one_stamp isStamp h3
        refine ⟨⟨x, y⟩, fun j u hu => ?_⟩
        have hj : j < 2 := (List.getElem?_eq_some_iff.1 hu).1
        have h3 := hc j hj
        rw [Go.Deep.add_add] at h3
        rw [h3]
        exact hu
    obtain ⟨l, hl1, hl2⟩ := list_of len each
    refine ⟨l, hl1.symm, ⟨rfl, by unfold maxLen at hm; omega, fun _ => ⟨a, rfl, fun j p hj => ⟨[.int .i64 p.f0, .int .i64 p.f1], rfl, k25_mk W p, fun i u hu => ?_⟩⟩⟩, by omega⟩
    exact hl2 j p hj i u hu
end Go.Proofs.YtiffeljmeahmkaaDoor.S
