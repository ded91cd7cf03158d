/- A slice of operations as an argument, opened: for the seat's cards. -/
import Derived.Test.YtlfgdaiegefjiaaDoorCd
import Derived.Test.YtlfgdaiegefjiaaDoorOA
import Derived.Deep.Slices
namespace Go.Proofs.YtlfgdaiegefjiaaDoor.S
open Go.RowKit Go.Proofs.YtlfgdaiegefjiaaDoorW.PrintWords
theorem laidOut : laidOutB Tryd.prog = true := by kernel_rfl
theorem list_of {α : Type} {p : Nat → α → Prop} : ∀ n, (∀ i, i < n → ∃ x, p i x) → ∃ l : List α, l.length = n ∧ ∀ i x, l[i]? = some x → p i x
 | 0, _ => ⟨[], rfl, fun i x h => by simp at h⟩
 | n + 1, h => by
  obtain ⟨l, hl, hp⟩ := list_of n (fun i hi => h i (by omega))
  obtain ⟨x, hx⟩ := h n (by omega)
  refine ⟨l ++ [x], by simp [hl], fun i y hy => ?_⟩
  rcases Nat.lt_or_ge i n with hi | hi
  · rw [List.getElem?_append_left (by omega)] at hy
    exact hp i y hy
  · rw [List.getElem?_append_right (by omega)] at hy
    obtain rfl : i = n := by
     have := (List.getElem?_eq_some_iff.1 hy).1
     simp at this
     omega
    rw [hl, Nat.sub_self] at hy
    cases hy
    exact hx
theorem open_ops {H : Type} {enc : TypeId × Value → H} {W : World} {A : Option Addr} {len cap : Nat} {d : DataW H} {ps : List MemPlace} (h : DataW.Trod enc Tryd.prog W 0 (fun _ => true) true 35 (.slice A len cap) d ps) : ∃ l : List Opn, len = l.length ∧ Kd.C k25 W A l.length l ∧ l.length ≤ cap := by
 obtain ⟨fuel, hf⟩ := h
 rcases Go.Deep.open_slice Tryd.underlying35 hf with ⟨hcs, _⟩ | ⟨a, n, c, m, k, D, Pl, hcs, _, hl, hm, hmm, _, he⟩
 · simp [Value.cells] at hcs
   obtain ⟨rfl, rfl, rfl⟩ := hcs
   exact ⟨[], rfl, ⟨rfl, by simp, fun h => absurd h (by simp)⟩, Nat.le_refl _⟩
 · simp [Value.cells] at hcs
   obtain ⟨rfl, rfl, rfl⟩ := hcs
   simp only [if_true] at hmm
   have h9 : Tryd.prog.cellsOf 25 = 9 := by kernel_rfl
   rw [h9] at he
   have each : ∀ i, i < len → ∃ o : Opn, ∀ j u, (opC o)[j]? = some u → W.cell? (a.add (i * 9 + j)) = some u := by
    intro i hi
    obtain ⟨cs', h1, h2⟩ := he i (by omega)
    obtain ⟨hb, hlen, hc⟩ := World.cells?_some h1
    obtain ⟨k0, t1, w1, t2, w2, t3, w3, nm, vl, rfl, _, _⟩ := one_op isStamp isOp hlen h2
    refine ⟨⟨k0, ⟨t1, w1⟩, ⟨t2, w2⟩, ⟨t3, w3⟩, nm, vl⟩, fun j u hu => ?_⟩
    have hj : j < 9 := (List.getElem?_eq_some_iff.1 hu).1
    have h3 := hc j hj
    rw [Go.Deep.add_add] at h3
    rw [h3]
    exact hu
   obtain ⟨l, hl1, hl2⟩ := list_of len each
   refine ⟨l, hl1.symm, ⟨rfl, by unfold maxLen at hm; omega, fun _ => ⟨a, rfl, fun j p hj => ⟨opC p, rfl, k25_mk W p, fun i u hu => ?_⟩⟩⟩, by omega⟩
   exact hl2 j p hj i u hu
end Go.Proofs.YtlfgdaiegefjiaaDoor.S
/- A snapshot (a struct of two slices and a stamp) as an argument, opened: for the seat's card TreeOf. -/
namespace Go.Proofs.YtlfgdaiegefjiaaDoor.S
open Go.RowKit Go.Proofs.YtlfgdaiegefjiaaDoorW.PrintWords
section
variable {H : Type} {enc : TypeId × Value → H} {w : World} {base : Nat} {sp : Nat → Bool} {held : Bool}
theorem node_of {P : Program} {tI tS tT tN : TypeId} {n0 n1 n2 n3 g0 g1 g2 g3 k0 k1 k2 k3 : String} {b0 b1 b2 b3 : Nat} (hS : IsStamp P tI tS) (hT : P.underlying tT = some .string) (cT : P.cellsOf tT = 1) (cN : P.cellsOf tN = 6)
 (hu : P.underlying tN = some (.struct #[⟨n0, tS, 0, false, g0, k0, b0⟩, ⟨n1, tS, 2, false, g1, k1, b1⟩, ⟨n2, tT, 4, false, g2, k2, b2⟩, ⟨n3, tT, 5, false, g3, k3, b3⟩])) {fuel : Nat} {cs : List Value} (hcs : cs.length = 6) {x : DataW H × List MemPlace} (h : DataW.trod enc P w base sp held fuel tN cs = some x) : ∃ m : Nod, cs = nodC m := by
 have cS := hS.2.2.1
 match cs, hcs with
 | [c0, c1, c2, c3, c4, c5], _ =>
  cases fuel with
  | zero => simp [DataW.trod] at h
  | succ m =>
   unfold DataW.trod at h
   rw [hu] at h
   simp only [cS, cT, cN, List.length_cons, List.length_nil, List.mapM_cons, List.mapM_nil, List.drop, List.take, if_true, Nat.zero_add, Nat.reduceAdd] at h
   cases h1 : DataW.trod enc P w base sp held m tS [c0, c1] with
   | none => simp [h1] at h
   | some x1 =>
   cases h2 : DataW.trod enc P w base sp held m tS [c2, c3] with
   | none => simp [h1, h2] at h
   | some x2 =>
   cases h3 : DataW.trod enc P w base sp held m tT [c4] with
   | none => simp [h1, h2, h3] at h
   | some x3 =>
   cases h4 : DataW.trod enc P w base sp held m tT [c5] with
   | none => simp [h1, h2, h3, h4] at h
   | some x4 =>
   obtain ⟨t1, w1, rfl, rfl, _, _, _⟩ := one_stamp hS h1
   obtain ⟨t2, w2, rfl, rfl, _, _, _⟩ := one_stamp hS h2
   obtain ⟨nm, rfl, _, _⟩ := one_text hT h3
   obtain ⟨vl, rfl, _, _⟩ := one_text hT h4
   exact ⟨⟨⟨t1, w1⟩, ⟨t2, w2⟩, nm, vl⟩, rfl⟩
theorem three_of {P : Program} {t0 t1 t2 tP : TypeId} {n0 n1 n2 g0 g1 g2 k0 k1 k2 : String} {b0 b1 b2 : Nat} (c0 : P.cellsOf t0 = 1) (c1 : P.cellsOf t1 = 1) (c2 : P.cellsOf t2 = 2) (cP : P.cellsOf tP = 4)
 (hu : P.underlying tP = some (.struct #[⟨n0, t0, 0, false, g0, k0, b0⟩, ⟨n1, t1, 1, false, g1, k1, b1⟩, ⟨n2, t2, 2, false, g2, k2, b2⟩])) {fuel : Nat} {e0 e1 e2 e3 : Value} {x : DataW H × List MemPlace} (h : DataW.trod enc P w base sp held fuel tP [e0, e1, e2, e3] = some x) :
 ∃ m x1 x2 x3, DataW.trod enc P w base sp held m t0 [e0] = some x1 ∧ DataW.trod enc P w base sp held m t1 [e1] = some x2 ∧ DataW.trod enc P w base sp held m t2 [e2, e3] = some x3 := by
 cases fuel with
 | zero => simp [DataW.trod] at h
 | succ m =>
  unfold DataW.trod at h
  rw [hu] at h
  simp only [c0, c1, c2, cP, List.length_cons, List.length_nil, List.mapM_cons, List.mapM_nil, List.drop, List.take, if_true, Nat.zero_add, Nat.reduceAdd] at h
  cases h1 : DataW.trod enc P w base sp held m t0 [e0] with
  | none => simp [h1] at h
  | some x1 =>
  cases h2 : DataW.trod enc P w base sp held m t1 [e1] with
  | none => simp [h1, h2] at h
  | some x2 =>
  cases h3 : DataW.trod enc P w base sp held m t2 [e2, e3] with
  | none => simp [h1, h2, h3] at h
  | some x3 => exact ⟨m, x1, x2, x3, h1, h2, h3⟩
theorem one_node {fuel : Nat} {cs : List Value} (hcs : cs.length = 6) {x : DataW H × List MemPlace} (h : DataW.trod enc Tryd.prog w base sp held fuel 72 cs = some x) : ∃ m : Nod, cs = nodC m :=
 node_of isStamp Tryd.underlying9 (by kernel_rfl) (by kernel_rfl) Tryd.underlying72 hcs h
end
section
variable {H : Type} {enc : TypeId × Value → H} {W : World}
theorem slice_ops {c : Value} {fuel : Nat} {x : DataW H × List MemPlace} (h : DataW.trod enc Tryd.prog W 0 (fun _ => true) true fuel 35 [c] = some x) : ∃ A l cap, c = .slice A l.length cap ∧ Kd.C k25 W A l.length l ∧ l.length ≤ cap := by
 have hc : ∃ A len cap, c = .slice A len cap := by
  rcases Go.Deep.open_slice Tryd.underlying35 h with ⟨hcs, _⟩ | ⟨a, n, c', m, k, D, Pl, hcs, _⟩
  · exact ⟨_, _, _, (List.cons.inj hcs).1⟩
  · exact ⟨_, _, _, (List.cons.inj hcs).1⟩
 obtain ⟨A, len, cap, rfl⟩ := hc
 obtain ⟨l, rfl, h1, h2⟩ := open_ops (A := A) (len := len) (cap := cap) (d := x.1) (ps := x.2) ⟨fuel, h⟩
 exact ⟨A, l, cap, rfl, h1, h2⟩
theorem slice_nodes {c : Value} {fuel : Nat} {x : DataW H × List MemPlace} (h : DataW.trod enc Tryd.prog W 0 (fun _ => true) true fuel 34 [c] = some x) : ∃ A l cap, c = .slice A l.length cap ∧ Kd.C k72 W A l.length l ∧ l.length ≤ cap := by
 rcases Go.Deep.open_slice Tryd.underlying34 h with ⟨hcs, _⟩ | ⟨a, n, c', m, k, D, Pl, hcs, _, hl, hm, hmm, _, he⟩
 · obtain ⟨rfl, _⟩ := List.cons.inj hcs
   exact ⟨none, [], 0, rfl, ⟨rfl, by simp, fun h => absurd h (by simp)⟩, Nat.le_refl _⟩
 · obtain ⟨rfl, _⟩ := List.cons.inj hcs
   simp only [if_true] at hmm
   have h6 : Tryd.prog.cellsOf 72 = 6 := by kernel_rfl
   rw [h6] at he
   have each : ∀ i, i < n → ∃ o : Nod, ∀ j u, (nodC o)[j]? = some u → W.cell? (a.add (i * 6 + j)) = some u := by
    intro i hi
    obtain ⟨cs', h1, h2⟩ := he i (by omega)
    obtain ⟨hb, hlen, hc⟩ := World.cells?_some h1
    obtain ⟨o, rfl⟩ := one_node hlen h2
    refine ⟨o, fun j u hu => ?_⟩
    have hj : j < 6 := (List.getElem?_eq_some_iff.1 hu).1
    have h3 := hc j hj
    rw [Go.Deep.add_add] at h3
    rw [h3]
    exact hu
   obtain ⟨l, hl1, hl2⟩ := list_of n each
   refine ⟨some a, l, c', by rw [hl1], ⟨rfl, by unfold maxLen at hm; omega, fun _ => ⟨a, rfl, fun j p hj => ⟨nodC p, rfl, k72_mk W p, fun i u hu => ?_⟩⟩⟩, by omega⟩
   exact hl2 j p hj i u hu
set_option maxRecDepth 100000 in
/-- A snapshot as an argument, opened. -/
theorem open_snap {r : Reach} {b0 : Nat} {v : Value} {d : DataW H} {ps : List MemPlace} (hval : Value.okWide Tryd.prog W r b0 37 v) (hd : DataW.Trod enc Tryd.prog W 0 (fun _ => true) true 37 v d ps) :
 ∃ (A0 A1 : Option Addr) (c0 c1 : Nat) (nodes : List Nod) (ops : List Opn) (b : Stp), v = .agg #[.slice A0 nodes.length c0, .slice A1 ops.length c1, .int .i64 b.f0, .int .i64 b.f1] ∧ Kd.C k72 W A0 nodes.length nodes ∧ nodes.length ≤ c0 ∧ Kd.C k25 W A1 ops.length ops ∧ ops.length ≤ c1 := by
 have c37 : Tryd.prog.cellsOf 37 = 4 := by kernel_rfl
 have cS : Tryd.prog.cellsOf 23 = 2 := by kernel_rfl
 have c34 : Tryd.prog.cellsOf 34 = 1 := by kernel_rfl
 have c35 : Tryd.prog.cellsOf 35 = 1 := by kernel_rfl
 obtain ⟨cs, rfl, hcs⟩ := WideShapes.okWide_struct Tryd.underlying37 hval
 rw [c37] at hcs
 obtain ⟨fuel, h⟩ := hd
 obtain ⟨l⟩ := cs
 match l, hcs with
 | [e0, e1, e2, e3], _ =>
  obtain ⟨m, x1, x2, x3, h1, h2, h3⟩ := three_of c34 c35 cS c37 Tryd.underlying37 (show DataW.trod enc Tryd.prog W 0 (fun _ => true) true fuel 37 [e0, e1, e2, e3] = some (d, ps) from h)
  obtain ⟨A0, nodes, c0, rfl, r0, q0⟩ := slice_nodes h1
  obtain ⟨A1, ops, c1, rfl, r1, q1⟩ := slice_ops h2
  obtain ⟨a, b, rfl, rfl, _, _, _⟩ := one_stamp isStamp h3
  exact ⟨A0, A1, c0, c1, nodes, ops, ⟨a, b⟩, rfl, r0, q0, r1, q1⟩
end
end Go.Proofs.YtlfgdaiegefjiaaDoor.S
