/- The law's awake, as the machine walks it. -/
import Derived.Test.YtmogpfhhmekbiaaDoorHd
import Derived.Test.YtmogpfhhmekbiaaDoorTe
import Derived.Test.YtmogpfhhmekbiaaDoorSx16
import Derived.Test.YtmogpfhhmekbiaaDoorSx6
namespace Go.Proofs.YtmogpfhhmekbiaaDoor.S
open Go.RowKit Go.Proofs.YtmogpfhhmekbiaaDoorW.PrintWords Go.Proofs.YtmogpfhhmekbiaaDoorW.PrintLast Go.Proofs.YtmogpfhhmekbiaaDoorW.PrintMore
set_option linter.unusedVariables false
set_option linter.unusedSimpArgs false
def set27 : ByteArray := (St.done (St.op (false, []) 4 2 1 1 1 0 0 ⟨#[]⟩ ⟨#[118]⟩)).1
theorem set27_put : snap_PutOp.f 40 4 2 1 1 1 0 0 ⟨#[]⟩ ⟨#[118]⟩ = some (set27, 0) := by kernel_rfl
theorem set27_take : snap_TakeOp.f 40 set27 = some (4, 2, 1, 1, 1, 0, 0, ⟨#[]⟩, ⟨#[118]⟩, 0) := by kernel_rfl
theorem set27_size : set27.size = 27 := by kernel_rfl
theorem same0 : samphireref13_Same.f 40 [] [] 0 0 [] [] 0 0 = some true := by kernel_rfl
set_option maxHeartbeats 8000000 in
set_option maxRecDepth 100000 in
theorem awake_calls (w : World) (hL : Laid w) : Calls Tryd.prog 9 #[] w fun e w' => e = .returned (.bool true) ∧ Below w.heap.size w w' := by
  have HL := Aside0.mk hL
  clear hL
  go_enter Tryd.func9, Tryd.ntmps9
  go_upto_region 2 with ((with_reducible refine gate_callee (f := 15) rfl ?_); refine goesL_ (some 12) rfl rfl Tryd.func15 (by kernel_rfl) rfl #[.agg #[.slice none 0 0, .slice none 0 0, .int .i64 0, .int .i64 0]] rfl (by (try simp only [List.map_toArray, List.map_cons, List.map_nil]); first | done | rfl) ?_; refine Calls.mono (Put_calls _) ?_; rintro e w1 ⟨rfl, hb⟩; refine ⟨_, rfl, ?_⟩)
  have HB1 := Aside0.mk hb
  clear hb
  go_upto_region 3 with ((with_reducible refine gate_callee (f := 17) rfl ?_); refine goesL_ (some 17) rfl rfl Tryd.func17 (by kernel_rfl) rfl #[.string zeros19] rfl (by (try simp only [List.map_toArray, List.map_cons, List.map_nil]); first | done | rfl) ?_; refine Calls.mono (Take_calls _) ?_; rintro e w2 ⟨rfl, hb⟩; refine ⟨_, rfl, ?_⟩)
  have hn := heap_alloc_new w2 (.cells #[.slice none 0 0, .slice none 0 0, .int .i64 0, .int .i64 0] 37)
  have HB2 := Aside0.mk (below_alloc (below_then HB1.out HB1.out.size hb) (.cells #[.slice none 0 0, .slice none 0 0, .int .i64 0, .int .i64 0] 37))
  clear hb
  generalize hs : w2.heap.size = s at hn ⊢
  generalize hw3 : w2.alloc (.cells #[.slice none 0 0, .slice none 0 0, .int .i64 0, .int .i64 0] 37) = w3 at hn HB2 ⊢
  have Hs3 := Aside0.mk hn
  clear hn hs hw3
  go_upto_region 4 with fail
  have hn := heap_alloc_new w3 (.cells #[.int .i64 4, .int .i64 2, .int .i64 1, .int .i64 1, .int .i64 1, .int .i64 0, .int .i64 0, .string ⟨#[]⟩, .string ⟨#[118]⟩] 25)
  have hb := below_alloc (Below.refl w3.heap.size w3) (.cells #[.int .i64 4, .int .i64 2, .int .i64 1, .int .i64 1, .int .i64 1, .int .i64 0, .int .i64 0, .string ⟨#[]⟩, .string ⟨#[118]⟩] 25)
  generalize ho : w3.heap.size = o at hn ⊢
  generalize hw4 : w3.alloc (.cells #[.int .i64 4, .int .i64 2, .int .i64 1, .int .i64 1, .int .i64 1, .int .i64 0, .int .i64 0, .string ⟨#[]⟩, .string ⟨#[118]⟩] 25) = w4 at hn hb ⊢
  have Ho4 := Aside0.mk hn
  have Hs4 := Aside0.mk (blk_below Hs3.out hb)
  have HB4 := Aside0.mk (below_then HB2.out HB2.out.size hb)
  clear hb hw4 hn ho
  have o0 : w4.cell? ⟨o, 0, none⟩ = some (.int .i64 4) := (blk_cell Ho4.out 0).trans rfl
  have o1 : w4.cell? ⟨o, 1, none⟩ = some (.int .i64 2) := (blk_cell Ho4.out 1).trans rfl
  have o2 : w4.cell? ⟨o, 2, none⟩ = some (.int .i64 1) := (blk_cell Ho4.out 2).trans rfl
  have o3 : w4.cell? ⟨o, 3, none⟩ = some (.int .i64 1) := (blk_cell Ho4.out 3).trans rfl
  have o4 : w4.cell? ⟨o, 4, none⟩ = some (.int .i64 1) := (blk_cell Ho4.out 4).trans rfl
  have o5 : w4.cell? ⟨o, 5, none⟩ = some (.int .i64 0) := (blk_cell Ho4.out 5).trans rfl
  have o6 : w4.cell? ⟨o, 6, none⟩ = some (.int .i64 0) := (blk_cell Ho4.out 6).trans rfl
  have o7 : w4.cell? ⟨o, 7, none⟩ = some (.string ⟨#[]⟩) := (blk_cell Ho4.out 7).trans rfl
  have o8 : w4.cell? ⟨o, 8, none⟩ = some (.string ⟨#[118]⟩) := (blk_cell Ho4.out 8).trans rfl
  go_upto_region 5 with ((with_reducible refine gate_callee (f := 10) rfl ?_); refine goesL_ (some 25) rfl rfl Tryd.func10 (by kernel_rfl) rfl #[.agg #[.int .i64 4, .int .i64 2, .int .i64 1, .int .i64 1, .int .i64 1, .int .i64 0, .int .i64 0, .string ⟨#[]⟩, .string ⟨#[118]⟩]] rfl (by (try simp only [List.map_toArray, List.map_cons, List.map_nil]); first | done | rfl) ?_; refine Calls.mono (snap_PutOp.calls 40 4 2 1 1 1 0 0 ⟨#[]⟩ ⟨#[118]⟩ set27 0 _ set27_put (HL.out.below HB4.out)) ?_; rintro e w5 ⟨rfl, hb⟩; refine ⟨_, rfl, ?_⟩)
  have Ho5 := Aside0.mk (blk_below Ho4.out hb)
  have Hs5 := Aside0.mk (blk_below Hs4.out hb)
  have HB5 := Aside0.mk (below_then HB4.out HB4.out.size hb)
  clear hb o0 o1 o2 o3 o4 o5 o6 o7 o8
  go_upto_region 6 with ((with_reducible refine gate_callee (f := 12) rfl ?_); refine goesL_ (some 30) rfl rfl Tryd.func12 (by kernel_rfl) rfl #[.string set27] rfl (by (try simp only [List.map_toArray, List.map_cons, List.map_nil]); first | done | rfl) ?_; refine Calls.mono (snap_TakeOp.calls 40 set27 4 2 1 1 1 0 0 ⟨#[]⟩ ⟨#[118]⟩ 0 _ set27_take (HL.out.below HB5.out)) ?_; rintro e w6 ⟨rfl, hb⟩; refine ⟨_, rfl, ?_⟩)
  have hn := heap_alloc_new w6 (.cells #[.int .i64 4, .int .i64 2, .int .i64 1, .int .i64 1, .int .i64 1, .int .i64 0, .int .i64 0, .string ⟨#[]⟩, .string ⟨#[118]⟩] 25)
  have hb' := below_alloc hb (.cells #[.int .i64 4, .int .i64 2, .int .i64 1, .int .i64 1, .int .i64 1, .int .i64 0, .int .i64 0, .string ⟨#[]⟩, .string ⟨#[118]⟩] 25)
  clear hb
  generalize hp : w6.heap.size = p at hn ⊢
  generalize hw7 : w6.alloc (.cells #[.int .i64 4, .int .i64 2, .int .i64 1, .int .i64 1, .int .i64 1, .int .i64 0, .int .i64 0, .string ⟨#[]⟩, .string ⟨#[118]⟩] 25) = w7 at hn hb' ⊢
  have Hp7 := Aside0.mk hn
  have Ho7 := Aside0.mk (blk_below Ho5.out hb')
  have Hs7 := Aside0.mk (blk_below Hs5.out hb')
  have HB7 := Aside0.mk (below_then HB5.out HB5.out.size hb')
  clear hb' hn hp hw7
  have s0 : w7.cell? ⟨s, 0, none⟩ = some (.slice none 0 0) := (blk_cell Hs7.out 0).trans rfl
  have s1 : w7.cell? ⟨s, 1, none⟩ = some (.slice none 0 0) := (blk_cell Hs7.out 1).trans rfl
  have s2 : w7.cell? ⟨s, 2, none⟩ = some (.int .i64 0) := (blk_cell Hs7.out 2).trans rfl
  have s3 : w7.cell? ⟨s, 3, none⟩ = some (.int .i64 0) := (blk_cell Hs7.out 3).trans rfl
  have o0 : w7.cell? ⟨o, 0, none⟩ = some (.int .i64 4) := (blk_cell Ho7.out 0).trans rfl
  have o1 : w7.cell? ⟨o, 1, none⟩ = some (.int .i64 2) := (blk_cell Ho7.out 1).trans rfl
  have o2 : w7.cell? ⟨o, 2, none⟩ = some (.int .i64 1) := (blk_cell Ho7.out 2).trans rfl
  have o3 : w7.cell? ⟨o, 3, none⟩ = some (.int .i64 1) := (blk_cell Ho7.out 3).trans rfl
  have o4 : w7.cell? ⟨o, 4, none⟩ = some (.int .i64 1) := (blk_cell Ho7.out 4).trans rfl
  have o5 : w7.cell? ⟨o, 5, none⟩ = some (.int .i64 0) := (blk_cell Ho7.out 5).trans rfl
  have o6 : w7.cell? ⟨o, 6, none⟩ = some (.int .i64 0) := (blk_cell Ho7.out 6).trans rfl
  have o7 : w7.cell? ⟨o, 7, none⟩ = some (.string ⟨#[]⟩) := (blk_cell Ho7.out 7).trans rfl
  have o8 : w7.cell? ⟨o, 8, none⟩ = some (.string ⟨#[118]⟩) := (blk_cell Ho7.out 8).trans rfl
  have p0 : w7.cell? ⟨p, 0, none⟩ = some (.int .i64 4) := (blk_cell Hp7.out 0).trans rfl
  have p1 : w7.cell? ⟨p, 1, none⟩ = some (.int .i64 2) := (blk_cell Hp7.out 1).trans rfl
  have p2 : w7.cell? ⟨p, 2, none⟩ = some (.int .i64 1) := (blk_cell Hp7.out 2).trans rfl
  have p3 : w7.cell? ⟨p, 3, none⟩ = some (.int .i64 1) := (blk_cell Hp7.out 3).trans rfl
  have p4 : w7.cell? ⟨p, 4, none⟩ = some (.int .i64 1) := (blk_cell Hp7.out 4).trans rfl
  have p5 : w7.cell? ⟨p, 5, none⟩ = some (.int .i64 0) := (blk_cell Hp7.out 5).trans rfl
  have p6 : w7.cell? ⟨p, 6, none⟩ = some (.int .i64 0) := (blk_cell Hp7.out 6).trans rfl
  have p7 : w7.cell? ⟨p, 7, none⟩ = some (.string ⟨#[]⟩) := (blk_cell Hp7.out 7).trans rfl
  have p8 : w7.cell? ⟨p, 8, none⟩ = some (.string ⟨#[118]⟩) := (blk_cell Hp7.out 8).trans rfl
  have hmk : (Instr.makeSlice 51 (.int .i64 19) (.int .i64 19)).run Tryd.prog w7 = .ok (.slice (some ⟨w7.heap.size, 0, none⟩) 19 19) (w7.alloc (.cells (nums .u8 (List.replicate 19 0)).toArray 5)) := by
    obtain ⟨i5, h5, h5'⟩ := Option.map_eq_some_iff.1 info5
    simp only [Prod.mk.injEq] at h5'
    obtain ⟨hz, hs, hb⟩ := h5'
    have hm := run_makeSlice (P := Tryd.prog) w7 51 5 i5 (.int .u8 0) Tryd.underlying51 h5 hz .i64 .i64 19 19 (by decide) (by decide) (by rw [hs]; decide) (by rw [hb]; decide) (by decide)
    rw [hm, hs, show madeCells (Value.int .u8 0).cells (Int.toNat 19 * 1) = (nums .u8 (List.replicate 19 0)).toArray by kernel_rfl]
    rfl
  have hcv := own_string (P := Tryd.prog) Tryd.underlying51 Tryd.underlying5 Tryd.underlying9 (own_lit w7 0 5 .u8 (List.replicate 19 0) (Nat.zero_le _) (by decide))
  rw [show strOfNums (List.replicate 19 0) = zeros19 from rfl] at hcv
  simp only [List.length_replicate] at hcv
  have hb8 := below_alloc (Below.refl w7.heap.size w7) (.cells (nums .u8 (List.replicate 19 0)).toArray 5)
  have Hs8 := Aside0.mk (blk_below Hs7.out hb8)
  have Ho8 := Aside0.mk (blk_below Ho7.out hb8)
  have Hp8 := Aside0.mk (blk_below Hp7.out hb8)
  have HB8 := Aside0.mk (below_then HB7.out HB7.out.size hb8)
  generalize w7.alloc (.cells (nums .u8 (List.replicate 19 0)).toArray 5) = w8 at hmk hcv Hs8 Ho8 Hp8 HB8
  generalize w7.heap.size = z at hmk hcv
  clear hb8 s0 s1 s2 s3 o0 o1 o2 o3 o4 o5 o6 o7 o8 p0 p1 p2 p3 p4 p5 p6 p7 p8
  have s0 : w8.cell? ⟨s, 0, none⟩ = some (.slice none 0 0) := (blk_cell Hs8.out 0).trans rfl
  have s1 : w8.cell? ⟨s, 1, none⟩ = some (.slice none 0 0) := (blk_cell Hs8.out 1).trans rfl
  have s2 : w8.cell? ⟨s, 2, none⟩ = some (.int .i64 0) := (blk_cell Hs8.out 2).trans rfl
  have s3 : w8.cell? ⟨s, 3, none⟩ = some (.int .i64 0) := (blk_cell Hs8.out 3).trans rfl
  go_upto_region 7 with fail
  refine (samphireref13_Same.calls 40 none 0 [] none 0 [] 0 0 none 0 [] none 0 [] 0 0 true w8 (Kd.C_nil _ _) (Nat.le_refl _) (Kd.C_nil _ _) (Nat.le_refl _) (Kd.C_nil _ _) (Nat.le_refl _) (Kd.C_nil _ _) (Nat.le_refl _) same0).mono ?_
  rintro e w9 ⟨rfl, hb⟩
  dsimp only
  have Ho9 := Aside0.mk (blk_below Ho8.out hb)
  have Hp9 := Aside0.mk (blk_below Hp8.out hb)
  have HB9 := Aside0.mk (below_then HB8.out HB8.out.size hb)
  clear hb s0 s1 s2 s3
  have o0 : w9.cell? ⟨o, 0, none⟩ = some (.int .i64 4) := (blk_cell Ho9.out 0).trans rfl
  have o1 : w9.cell? ⟨o, 1, none⟩ = some (.int .i64 2) := (blk_cell Ho9.out 1).trans rfl
  have o2 : w9.cell? ⟨o, 2, none⟩ = some (.int .i64 1) := (blk_cell Ho9.out 2).trans rfl
  have o3 : w9.cell? ⟨o, 3, none⟩ = some (.int .i64 1) := (blk_cell Ho9.out 3).trans rfl
  have o4 : w9.cell? ⟨o, 4, none⟩ = some (.int .i64 1) := (blk_cell Ho9.out 4).trans rfl
  have o5 : w9.cell? ⟨o, 5, none⟩ = some (.int .i64 0) := (blk_cell Ho9.out 5).trans rfl
  have o6 : w9.cell? ⟨o, 6, none⟩ = some (.int .i64 0) := (blk_cell Ho9.out 6).trans rfl
  have o7 : w9.cell? ⟨o, 7, none⟩ = some (.string ⟨#[]⟩) := (blk_cell Ho9.out 7).trans rfl
  have o8 : w9.cell? ⟨o, 8, none⟩ = some (.string ⟨#[118]⟩) := (blk_cell Ho9.out 8).trans rfl
  have p0 : w9.cell? ⟨p, 0, none⟩ = some (.int .i64 4) := (blk_cell Hp9.out 0).trans rfl
  have p1 : w9.cell? ⟨p, 1, none⟩ = some (.int .i64 2) := (blk_cell Hp9.out 1).trans rfl
  have p2 : w9.cell? ⟨p, 2, none⟩ = some (.int .i64 1) := (blk_cell Hp9.out 2).trans rfl
  have p3 : w9.cell? ⟨p, 3, none⟩ = some (.int .i64 1) := (blk_cell Hp9.out 3).trans rfl
  have p4 : w9.cell? ⟨p, 4, none⟩ = some (.int .i64 1) := (blk_cell Hp9.out 4).trans rfl
  have p5 : w9.cell? ⟨p, 5, none⟩ = some (.int .i64 0) := (blk_cell Hp9.out 5).trans rfl
  have p6 : w9.cell? ⟨p, 6, none⟩ = some (.int .i64 0) := (blk_cell Hp9.out 6).trans rfl
  have p7 : w9.cell? ⟨p, 7, none⟩ = some (.string ⟨#[]⟩) := (blk_cell Hp9.out 7).trans rfl
  have p8 : w9.cell? ⟨p, 8, none⟩ = some (.string ⟨#[118]⟩) := (blk_cell Hp9.out 8).trans rfl
  have hz := set27_size
  go_wp2
  go_ret
  exact ⟨rfl, HB9.out⟩
def samphirelaw13_awake.f : Option Bool := some true
theorem samphirelaw13_awake.calls (r : Bool) (w : World) (h : samphirelaw13_awake.f = some r) (hL : Laid w) : Calls Tryd.prog 9 #[] w fun e w' => e = .returned (.bool r) ∧ Below w.heap.size w w' := by
  obtain rfl := Option.some.inj h
  exact awake_calls w hL
end Go.Proofs.YtmogpfhhmekbiaaDoor.S
