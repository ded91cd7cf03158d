/- snap.PutOp, as the machine walks it. -/
import Derived.Test.YtmogpfhhmekbiaaDoorSx15
import Derived.Test.YtmogpfhhmekbiaaDoorHc
namespace Go.Proofs.YtmogpfhhmekbiaaDoor.S
open Go.RowKit Go.Proofs.YtmogpfhhmekbiaaDoorW.PrintWords Go.Proofs.YtmogpfhhmekbiaaDoorW.PrintLast Go.Proofs.YtmogpfhhmekbiaaDoorW.PrintMore
set_option linter.unusedVariables false
set_option linter.unusedSimpArgs false
def putOp (c : Int) (a0 a1 a2 a3 a4 a5 a6 : Int) (a7 a8 : ByteArray) : Option (ByteArray × Int) :=
  if c = 0 then (if a7.size ≤ 140737488355328 ∧ a8.size ≤ 140737488355328 then some (St.done (St.op (false, []) a0 a1 a2 a3 a4 a5 a6 a7 a8)) else none) else some (⟨#[]⟩, c)
def snap_PutOp.f (k : Nat) (a0_0 : Int) (a0_1 : Int) (a0_2 : Int) (a0_3 : Int) (a0_4 : Int) (a0_5 : Int) (a0_6 : Int) (a0_7 : ByteArray) (a0_8 : ByteArray) : Option (ByteArray × Int) :=
  (tree_Check.f k a0_0 a0_1 a0_2 a0_3 a0_4 a0_5 a0_6 a0_7 a0_8).bind fun c => putOp c a0_0 a0_1 a0_2 a0_3 a0_4 a0_5 a0_6 a0_7 a0_8
theorem snap_PutOp.mono : ∀ a0 a1 a2 a3 a4 a5 a6 a7 a8 k, LeO (snap_PutOp.f k a0 a1 a2 a3 a4 a5 a6 a7 a8) (snap_PutOp.f (k + 1) a0 a1 a2 a3 a4 a5 a6 a7 a8) := by
  intro a0 a1 a2 a3 a4 a5 a6 a7 a8 k r h
  unfold snap_PutOp.f at h ⊢
  obtain ⟨c, hc, h⟩ := Option.bind_eq_some_iff.1 h
  rw [tree_Check.mono a0 a1 a2 a3 a4 a5 a6 a7 a8 k c hc]
  exact h
set_option maxHeartbeats 8000000 in
set_option maxRecDepth 100000 in
theorem snap_PutOp.calls (k : Nat) (a0_0 : Int) (a0_1 : Int) (a0_2 : Int) (a0_3 : Int) (a0_4 : Int) (a0_5 : Int) (a0_6 : Int) (a0_7 : ByteArray) (a0_8 : ByteArray) (r1 : ByteArray) (r2 : Int) (w : World) (h : snap_PutOp.f k a0_0 a0_1 a0_2 a0_3 a0_4 a0_5 a0_6 a0_7 a0_8 = some (r1, r2)) (hL : Laid w) :
    Calls Tryd.prog 10 #[.agg #[.int .i64 a0_0, .int .i64 a0_1, .int .i64 a0_2, .int .i64 a0_3, .int .i64 a0_4, .int .i64 a0_5, .int .i64 a0_6, .string a0_7, .string a0_8]] w fun e w' => e = .returned (.tuple #[.string r1, .int .i64 r2]) ∧ Below w.heap.size w w' := by
  obtain ⟨c, hc, h⟩ := Option.bind_eq_some_iff.1 h
  have hnew := heap_alloc_new w (.cells #[.int .i64 a0_0, .int .i64 a0_1, .int .i64 a0_2, .int .i64 a0_3, .int .i64 a0_4, .int .i64 a0_5, .int .i64 a0_6, .string a0_7, .string a0_8] 25)
  have hB1 := below_alloc (Below.refl w.heap.size w) (.cells #[.int .i64 a0_0, .int .i64 a0_1, .int .i64 a0_2, .int .i64 a0_3, .int .i64 a0_4, .int .i64 a0_5, .int .i64 a0_6, .string a0_7, .string a0_8] 25)
  have hck := fun hL1 => tree_Check.calls k a0_0 a0_1 a0_2 a0_3 a0_4 a0_5 a0_6 a0_7 a0_8 c (w.alloc (.cells #[.int .i64 a0_0, .int .i64 a0_1, .int .i64 a0_2, .int .i64 a0_3, .int .i64 a0_4, .int .i64 a0_5, .int .i64 a0_6, .string a0_7, .string a0_8] 25)) hc hL1
  replace hck := Aside0.mk (hck (hL.below hB1))
  clear hc hL
  have HH := Aside0.mk h
  clear h
  go_enter Tryd.func10, Tryd.ntmps10
  go_upto_region 1 with fail
  generalize hr : w.heap.size = r at hnew ⊢
  generalize hw1 : w.alloc (.cells #[.int .i64 a0_0, .int .i64 a0_1, .int .i64 a0_2, .int .i64 a0_3, .int .i64 a0_4, .int .i64 a0_5, .int .i64 a0_6, .string a0_7, .string a0_8] 25) = w1 at hnew hB1 hck ⊢
  have Hr1 := Aside0.mk hnew
  have HB1 := Aside0.mk hB1
  have e0 : w1.cell? ⟨r, 0, none⟩ = some (.int .i64 a0_0) := (blk_cell hnew 0).trans rfl
  have e1 : w1.cell? ⟨r, 1, none⟩ = some (.int .i64 a0_1) := (blk_cell hnew 1).trans rfl
  have e2 : w1.cell? ⟨r, 2, none⟩ = some (.int .i64 a0_2) := (blk_cell hnew 2).trans rfl
  have e3 : w1.cell? ⟨r, 3, none⟩ = some (.int .i64 a0_3) := (blk_cell hnew 3).trans rfl
  have e4 : w1.cell? ⟨r, 4, none⟩ = some (.int .i64 a0_4) := (blk_cell hnew 4).trans rfl
  have e5 : w1.cell? ⟨r, 5, none⟩ = some (.int .i64 a0_5) := (blk_cell hnew 5).trans rfl
  have e6 : w1.cell? ⟨r, 6, none⟩ = some (.int .i64 a0_6) := (blk_cell hnew 6).trans rfl
  have e7 : w1.cell? ⟨r, 7, none⟩ = some (.string a0_7) := (blk_cell hnew 7).trans rfl
  have e8 : w1.cell? ⟨r, 8, none⟩ = some (.string a0_8) := (blk_cell hnew 8).trans rfl
  clear hnew hB1 hw1
  go_upto_region 2 with ((with_reducible refine gate_callee (f := 22) rfl ?_); refine goesL_ (some 7) rfl rfl Tryd.func22 (by kernel_rfl) rfl #[.agg #[.int .i64 a0_0, .int .i64 a0_1, .int .i64 a0_2, .int .i64 a0_3, .int .i64 a0_4, .int .i64 a0_5, .int .i64 a0_6, .string a0_7, .string a0_8]] rfl (by (try simp only [List.map_toArray, List.map_cons, List.map_nil]); first | done | rfl) ?_; refine Calls.mono (hck.out) ?_; rintro e w2 ⟨rfl, hb⟩; refine ⟨_, rfl, ?_⟩)
  have HB2 := Aside0.mk (below_then HB1.out HB1.out.size hb)
  have Hr2 := Aside0.mk (blk_below Hr1.out hb)
  clear hb e0 e1 e2 e3 e4 e5 e6 e7 e8
  by_cases hc : c = 0
  · subst hc
    have hh := HH.out
    unfold putOp at hh
    rw [if_pos rfl] at hh
    by_cases hsz : a0_7.size ≤ 140737488355328 ∧ a0_8.size ≤ 140737488355328
    · rw [if_pos hsz] at hh
      obtain ⟨h7, h8⟩ := hsz
      have HD := Aside0.mk (Option.some.inj hh)
      clear hh
      go_upto_region 5 with ((with_reducible refine gate_callee (f := 23) rfl ?_); refine goesL_ (some 11) rfl rfl Tryd.func23 (by kernel_rfl) rfl #[] rfl (by (try simp only [List.map_toArray, List.map_cons, List.map_nil]); first | done | rfl) ?_; refine Calls.mono (NewOut_calls w _ HB2.out) ?_; rintro e w3 ⟨g, rfl, hO, hge, hb⟩; refine ⟨_, rfl, ?_⟩)
      have Hr3 := Aside0.mk (blk_below Hr2.out hb)
      have e0 : w3.cell? ⟨r, 0, none⟩ = some (.int .i64 a0_0) := (blk_cell Hr3.out 0).trans rfl
      have e1 : w3.cell? ⟨r, 1, none⟩ = some (.int .i64 a0_1) := (blk_cell Hr3.out 1).trans rfl
      have e2 : w3.cell? ⟨r, 2, none⟩ = some (.int .i64 a0_2) := (blk_cell Hr3.out 2).trans rfl
      have e3 : w3.cell? ⟨r, 3, none⟩ = some (.int .i64 a0_3) := (blk_cell Hr3.out 3).trans rfl
      have e4 : w3.cell? ⟨r, 4, none⟩ = some (.int .i64 a0_4) := (blk_cell Hr3.out 4).trans rfl
      have e5 : w3.cell? ⟨r, 5, none⟩ = some (.int .i64 a0_5) := (blk_cell Hr3.out 5).trans rfl
      have e6 : w3.cell? ⟨r, 6, none⟩ = some (.int .i64 a0_6) := (blk_cell Hr3.out 6).trans rfl
      have e7 : w3.cell? ⟨r, 7, none⟩ = some (.string a0_7) := (blk_cell Hr3.out 7).trans rfl
      have e8 : w3.cell? ⟨r, 8, none⟩ = some (.string a0_8) := (blk_cell Hr3.out 8).trans rfl
      have hw := Aside0.mk ((putsOp_calls g a0_0 a0_1 a0_2 a0_3 a0_4 a0_5 a0_6 a0_7 a0_8 h7 h8 (false, [])) true w w3 hO (below_then HB2.out HB2.out.size hb) (by simp))
      clear hO hb
      go_upto_region 6 with ((with_reducible refine gate_callee (f := 24) rfl ?_); refine goesL_ (some 14) rfl rfl Tryd.func24 (by kernel_rfl) rfl #[.pointer (some ⟨g, 0, none⟩), .agg #[.int .i64 a0_0, .int .i64 a0_1, .int .i64 a0_2, .int .i64 a0_3, .int .i64 a0_4, .int .i64 a0_5, .int .i64 a0_6, .string a0_7, .string a0_8]] rfl (by (try simp only [List.map_toArray, List.map_cons, List.map_nil]); first | done | rfl) ?_; refine Calls.mono (hw.out) ?_; rintro e w4 ⟨rfl, h1, h2, h3⟩; refine ⟨_, rfl, ?_⟩)
      have hd := Aside0.mk (Done_calls g (St.op (false, []) a0_0 a0_1 a0_2 a0_3 a0_4 a0_5 a0_6 a0_7 a0_8) w w4 h1)
      have HB4 := Aside0.mk h3
      clear h1 h2 h3 e0 e1 e2 e3 e4 e5 e6 e7 e8
      go_wp2_with ((with_reducible refine gate_callee (f := 25) rfl ?_); refine goesL_ (some 16) rfl rfl Tryd.func25 (by kernel_rfl) rfl #[.pointer (some ⟨g, 0, none⟩)] rfl (by (try simp only [List.map_toArray, List.map_cons, List.map_nil]); first | done | rfl) ?_; refine Calls.mono (hd.out) ?_; rintro e w5 ⟨rfl, hb⟩; refine ⟨_, rfl, ?_⟩)
      go_ret2
      rw [HD.out]
      exact ⟨rfl, below_then HB4.out HB4.out.size hb⟩
    · rw [if_neg hsz] at hh
      exact absurd hh (by simp)
  · have hh := HH.out
    unfold putOp at hh
    rw [if_neg hc] at hh
    have c0 : (c == 0) = false := by simpa using hc
    have c1 : (c != 0) = true := by simpa using hc
    go_wp2
    go_ret2
    obtain ⟨rfl, rfl⟩ := Prod.mk.inj (Option.some.inj hh)
    exact ⟨rfl, HB2.out⟩
end Go.Proofs.YtmogpfhhmekbiaaDoor.S
