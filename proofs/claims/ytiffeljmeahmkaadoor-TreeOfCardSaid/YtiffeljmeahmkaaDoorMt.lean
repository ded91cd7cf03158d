/- maps.Values' iterator over nodes, for every loop body. -/
import Derived.Test.YtiffeljmeahmkaaDoorMs
namespace Go.Proofs.YtiffeljmeahmkaaDoor.S
open Go.RowKit Go.Shelf Go.Proofs.YtiffeljmeahmkaaDoorW.PrintWords Go.Proofs.YtiffeljmeahmkaaDoorW.PrintLast Go.Proofs.YtiffeljmeahmkaaDoorW.PrintMore
attribute [local go_sem] Oper.semAt_some
set_option linter.unusedVariables false
set_option linter.unusedSimpArgs false
def encN (x : Nod) : Value := .agg #[.int .i64 x.f0.f0, .int .i64 x.f0.f1, .int .i64 x.f1.f0, .int .i64 x.f1.f1, .string x.f2, .string x.f3]
theorem Rng.walks {w w1 : World} {r f : Nat} {l done rest : List Nod} (h : Rng w r f l done rest) (hk : KeepsWalks w w1) : Rng w1 r f l done rest := by
  obtain ⟨p, dp, rp, c, e1, e2, e3, hp, hf, h1, h2, h3, hr⟩ := h
  exact ⟨p, dp, rp, c, e1, e2, e3, hp, hk.same _ _ hf rfl, h1, h2, h3, hk.same _ _ hr rfl⟩
theorem Rng.iter_walk {w : World} {r f : Nat} {l done rest : List Nod} (h : Rng w r f l done rest) : ∃ o, w.heap[r]? = some o ∧ o.isWalk = true := by
  obtain ⟨p, dp, rp, c, e1, e2, e3, hp, hf, h1, h2, h3, hr⟩ := h
  exact ⟨_, hr, rfl⟩
theorem Stay.grown {w w1 : World} {r : Nat} (h : Stay w w1 (· = r)) : w.grownBy w1 (some r) := ⟨h.os, h.tape, h.output, h.size, fun k hk hn => h.block k hk (fun e => hn (by rw [e]))⟩
theorem below_grown {w w1 : World} (h : Below w.heap.size w w1) (row : Option Nat) : w.grownBy w1 row := ⟨h.os, h.tape, h.output, h.size, fun k hk _ => h.block k hk⟩
/-- How many have not come up. -/
def leftM (w : World) (r f : Nat) : Nat := match w.heap[r]?, w.heap[f]? with
  | some (.mapIter _ _ s _), some (.map es _) => es.size - s.size
  | _, _ => 0
theorem Rng.left {w : World} {r f : Nat} {l done rest : List Nod} (h : Rng w r f l done rest) : leftM w r f = rest.length := by
  obtain ⟨p, dp, rp, c, rfl, rfl, rfl, hp, hf, h1, h2, h3, hr⟩ := h
  have := hp.length_eq
  simp [leftM, hf, hr] at *
  omega
set_option maxRecDepth 100000 in
set_option maxHeartbeats 4000000 in
theorem values_stops (F : Fence) (n : Nat) (h8 : F.fn 81) (hro : F.round = none) (hn : 1 ≤ n) (Bm b : Nat) (l : List Nod) (w : World) (hBm : Bm < w.heap.size) (hm : w.cell? ⟨Bm, 0, none⟩ = some (.map (some b))) (hl : Lies w b l) :
    SeqStops F n Tryd.prog 81 #[.pointer (some ⟨Bm, 0, none⟩)] encN (fun xs => xs.Perm l) (fun pre => ∃ rst, (pre ++ rst).Perm l) l.length w := fun lp J Jx W hW hJ hJx hY h0 => by
  have hu := Tryd.underlying36
  have hm' : W.cell? ⟨Bm, 0, none⟩ = some (.map (some b)) := (hW.cell (p := ⟨Bm, 0, none⟩) hBm).trans hm
  have HL := Aside0.mk (hl.below hW)
  clear hl hm
  refine callsIn_of_wp Tryd.func81 rfl h8 ?_ hro
  simp only [Tryd.ntmps81, List.size_toArray, List.length_cons, List.length_nil, Nat.reduceAdd, Nat.reduceSub, Array.replicate_succ, Array.replicate_zero, List.push_toArray, List.append_toArray, List.nil_append, List.cons_append]
  gi_wp2_with (first | (gi_at_range; refine wli_range b l _ rfl rfl HL.out ?_; intro w0 hrg0 hb0) | gi_in)
  go_frame
  have HR0 := Aside0.mk hrg0
  have HJ0 := Aside0.mk (hJ [] W w0 none h0 (below_grown hb0 _) (fun r e => by cases e))
  clear hrg0 hb0 h0
  gi_loopw [4] (fun _ wr => ∃ done rst : List Nod, Aside0 (Rng wr W.heap.size b l done rst) ∧ Aside0 (J done wr)) (fun _ wr => leftM wr W.heap.size b)
  case atStart => exact ⟨[], l, HR0, HJ0⟩
  case round =>
    clear HR0 HJ0
    obtain ⟨done, rst, HR, HJ⟩ := hrel
    have HY := Aside0.mk hY
    clear hY hm'
    gi_wp2_with (first | (gi_at_next; refine wli_next W.heap.size b l done rst _ rfl rfl HR.out ?_ ?_) | gi_in)
    · intro e0
      have E0 := Aside0.mk e0
      clear e0
      gi_wp2
      go_end0
      refine ⟨⟨_, rfl⟩, .inl ⟨done, ?_, HJ.out⟩⟩
      have := HR.out.perm
      rwa [E0.out, List.append_nil] at this
    · intro x rst' w2 hp hr2 hs2 hz2 hen
      have HP := Aside0.mk hp
      have HR2 := Aside0.mk hr2
      have HJ2 := Aside0.mk (hJ done wr w2 (some W.heap.size) HJ.out hs2.grown (fun r e => by cases e; exact ⟨Nat.le_refl _, HR.out.iter_walk⟩))
      clear hp hr2 hs2 hz2
      have hlt : done.length < l.length := by
        have h1 := HR2.out.perm.length_eq
        simp only [List.length_append, List.length_cons, List.length_nil] at h1
        omega
      have HJ3 := hJ done w2 (w2.alloc (.cells #[.int .i64 x.f0.f0, .int .i64 x.f0.f1, .int .i64 x.f1.f0, .int .i64 x.f1.f1, .string x.f2, .string x.f3] 36)) none HJ2.out (World.grownBy_alloc _ _ _) (fun r e => by cases e)
      obtain ⟨fn, tmps, assign, body, hy, hR⟩ := HY.out done x _ HJ3 hlt
      dsimp only [encN] at hy
      clear HJ3 hlt
      gi_wp2
      refine hR.mono ?_
      rintro e W3 (⟨rfl, hJ3, hk3⟩ | ⟨rfl, hJx3⟩)
      · have HJ3 := Aside0.mk hJ3
        have HR3 := Aside0.mk (HR2.out.walks ((KeepsWalks.alloc w2 _).trans hk3))
        clear hJ3 hk3 hR hy
        gi_wp2
        have hY := HY.out
        go_roundw
        case rel => exact ⟨done ++ [x], rst', HR3, HJ3⟩
        case measure =>
          rw [HR3.out.left, HR.out.left, ← HP.out.length_eq]
          simp
      · have HJ3 := Aside0.mk hJx3
        clear hJx3 hR hy
        gi_wp2
        refine bodyPost_ret (results_none rfl _ _ _) rfl ?_
        exact ⟨⟨_, rfl⟩, .inr ⟨done ++ [x], ⟨rst', HR2.out.perm⟩, HJ3.out⟩⟩
end Go.Proofs.YtiffeljmeahmkaaDoor.S
