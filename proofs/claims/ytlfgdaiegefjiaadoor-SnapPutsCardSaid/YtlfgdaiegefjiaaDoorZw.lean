/- The law's awake, as the machine walks it. -/
import Derived.Test.YtlfgdaiegefjiaaDoorQc
import Derived.Test.YtlfgdaiegefjiaaDoorSA
import Derived.Test.YtlfgdaiegefjiaaDoorSx15
import Derived.Test.YtlfgdaiegefjiaaDoorSx6
import Derived.Test.YtlfgdaiegefjiaaDoorHC
import Derived.Test.YtlfgdaiegefjiaaDoorZE
namespace Go.Proofs.YtlfgdaiegefjiaaDoor.S
open Go.RowKit Go.Proofs.YtlfgdaiegefjiaaDoorW.PrintWords Go.Proofs.YtlfgdaiegefjiaaDoorW.PrintLast Go.Proofs.YtlfgdaiegefjiaaDoorW.PrintMore
set_option linter.unusedVariables false
set_option linter.unusedSimpArgs false
def zeros19 : ByteArray := strOfNums (List.replicate 19 0)
theorem put0 : putP [] [] ⟨0, 0⟩ = (zeros19, 0) := by kernel_rfl
theorem take0 : takeP zeros19 = (([], [], ⟨0, 0⟩), 0) := by kernel_rfl
theorem cnN (w : World) (A : Option Addr) : Kd.C k72 w A 0 [] := ⟨rfl, by simp, fun h => absurd h (by simp)⟩
theorem cnO (w : World) (A : Option Addr) : Kd.C k25 w A 0 [] := ⟨rfl, by simp, fun h => absurd h (by simp)⟩
theorem Put0_calls (w : World) (hL : Laid w) : Calls Tryd.prog 15 #[.agg #[.slice none 0 0, .slice none 0 0, .int .i64 0, .int .i64 0]] w fun e w' => e = .returned (.tuple #[.string zeros19, .int .i64 0]) ∧ Below w.heap.size w w' := by
 have h := Put_calls w (.slice none 0 0) (.slice none 0 0) [] [] ⟨0, 0⟩ (RowN.nil w) (RowO.nil w) (fun m hm => by cases hm) (fun m hm => by cases hm) (by decide) (by decide) hL
 rw [put0] at h
 exact h
theorem Take0_calls (w : World) (hL : Laid w) : Calls Tryd.prog 17 #[.string zeros19] w fun e w' => ∃ AN cN AO cO, e = .returned (.tuple #[.agg #[.slice AN 0 cN, .slice AO 0 cO, .int .i64 0, .int .i64 0], .int .i64 0]) ∧ Below w.heap.size w w' := by
 have h := Take_calls w zeros19 (by rw [show zeros19.size = 19 from rfl]; decide) hL
 rw [take0] at h
 refine h.mono ?_
 rintro e w' ⟨vN, vO, rfl, hn, ho, hb⟩
 obtain ⟨AN, cN, rfl, _⟩ := NodesAt.reads hn
 obtain ⟨AO, cO, rfl, _⟩ := own_row ho.row
 exact ⟨AN, cN, AO, cO, rfl, hb⟩
def set27 : ByteArray := (St.done (St.op (false, []) 4 2 1 1 1 0 0 ⟨#[]⟩ ⟨#[118]⟩)).1
theorem set27_put : snap_PutOp.f 40 4 2 1 1 1 0 0 ⟨#[]⟩ ⟨#[118]⟩ = some (set27, 0) := by kernel_rfl
theorem set27_take : snap_TakeOp.f 40 set27 = some (4, 2, 1, 1, 1, 0, 0, ⟨#[]⟩, ⟨#[118]⟩, 0) := by kernel_rfl
theorem set27_size : set27.size = 27 := by kernel_rfl
theorem same0 : samphireref13_Same.f 40 [] [] 0 0 [] [] 0 0 = some true := by kernel_rfl
set_option maxHeartbeats 8000000 in
set_option maxRecDepth 100000 in
theorem awake_calls (w : World) (hL : Laid w) : Calls Tryd.prog 9 #[] w fun e w' => e = .returned (.bool true) ∧ Below w.heap.size w w' := by
 have HL := Aside0.mk hL
 clear hL
 go_enter Tryd.func9, Tryd.ntmps9
 go_upto_region 2 with ((with_reducible refine gate_callee (f := 15) rfl ?_); refine gL 12 Tryd.func15 #[.agg #[.slice none 0 0, .slice none 0 0, .int .i64 0, .int .i64 0]] ?_; refine Calls.mono (Put0_calls _ (by first | exact HL.out | exact HL.out.below (by first | exact Below.refl _ _ | exact (Below.refl _ _).drew))) ?_; rintro e w1 ⟨rfl, hb⟩; refine ⟨_, rfl, ?_⟩)
 have HB1 := Aside0.mk hb
 clear hb
 go_upto_region 3 with ((with_reducible refine gate_callee (f := 17) rfl ?_); refine gL 17 Tryd.func17 #[.string zeros19] ?_; refine Calls.mono (Take0_calls _ (HL.out.below (by first | exact HB1.out | exact HB1.out.drew))) ?_; rintro e w2 ⟨AN, cN, AO, cO, rfl, hb⟩; refine ⟨_, rfl, ?_⟩)
 have hn := heap_alloc_new w2 (.cells #[.slice AN 0 cN, .slice AO 0 cO, .int .i64 0, .int .i64 0] 37)
 have HB2 := Aside0.mk (below_alloc (below_then HB1.out HB1.out.size hb) (.cells #[.slice AN 0 cN, .slice AO 0 cO, .int .i64 0, .int .i64 0] 37))
 clear hb
 generalize hs : w2.heap.size = s at hn ⊢
 generalize hw3 : w2.alloc (.cells #[.slice AN 0 cN, .slice AO 0 cO, .int .i64 0, .int .i64 0] 37) = w3 at hn HB2 ⊢
 have Hs3 := Aside0.mk hn
 clear hn hs hw3
 go_upto_region 4 with fail
 have hn := heap_alloc_new w3 (.cells #[.int .i64 4, .int .i64 2, .int .i64 1, .int .i64 1, .int .i64 1, .int .i64 0, .int .i64 0, .string ⟨#[]⟩, .string ⟨#[118]⟩] 25)
 have hb := below_alloc (Below.refl w3.heap.size w3) (.cells #[.int .i64 4, .int .i64 2, .int .i64 1, .int .i64 1, .int .i64 1, .int .i64 0, .int .i64 0, .string ⟨#[]⟩, .string ⟨#[118]⟩] 25)
 generalize ho : w3.heap.size = o at hn ⊢
 generalize hw4 : w3.alloc (.cells #[.int .i64 4, .int .i64 2, .int .i64 1, .int .i64 1, .int .i64 1, .int .i64 0, .int .i64 0, .string ⟨#[]⟩, .string ⟨#[118]⟩] 25) = w4 at hn hb ⊢
 have Ho4 := Aside0.mk hn
 have Hs4 := Aside0.mk (blk_below Hs3.out hb)
 have HB4 := Aside0.mk (below_then HB2.out HB2.out.size hb)
 clear hb hw4 hn ho
 have o0 : w4.cell? ⟨o, 0, none⟩ = some (.int .i64 4) := (blk_cell Ho4.out 0).trans rfl
 have o1 : w4.cell? ⟨o, 1, none⟩ = some (.int .i64 2) := (blk_cell Ho4.out 1).trans rfl
 have o2 : w4.cell? ⟨o, 2, none⟩ = some (.int .i64 1) := (blk_cell Ho4.out 2).trans rfl
 have o3 : w4.cell? ⟨o, 3, none⟩ = some (.int .i64 1) := (blk_cell Ho4.out 3).trans rfl
 have o4 : w4.cell? ⟨o, 4, none⟩ = some (.int .i64 1) := (blk_cell Ho4.out 4).trans rfl
 have o5 : w4.cell? ⟨o, 5, none⟩ = some (.int .i64 0) := (blk_cell Ho4.out 5).trans rfl
 have o6 : w4.cell? ⟨o, 6, none⟩ = some (.int .i64 0) := (blk_cell Ho4.out 6).trans rfl
 have o7 : w4.cell? ⟨o, 7, none⟩ = some (.string ⟨#[]⟩) := (blk_cell Ho4.out 7).trans rfl
 have o8 : w4.cell? ⟨o, 8, none⟩ = some (.string ⟨#[118]⟩) := (blk_cell Ho4.out 8).trans rfl
 go_upto_region 5 with ((with_reducible refine gate_callee (f := 10) rfl ?_); refine gL 25 Tryd.func10 #[.agg #[.int .i64 4, .int .i64 2, .int .i64 1, .int .i64 1, .int .i64 1, .int .i64 0, .int .i64 0, .string ⟨#[]⟩, .string ⟨#[118]⟩]] ?_; refine Calls.mono (snap_PutOp.calls 40 4 2 1 1 1 0 0 ⟨#[]⟩ ⟨#[118]⟩ set27 0 _ set27_put (HL.out.below HB4.out)) ?_; rintro e w5 ⟨rfl, hb⟩; refine ⟨_, rfl, ?_⟩)
 have Ho5 := Aside0.mk (blk_below Ho4.out hb)
 have Hs5 := Aside0.mk (blk_below Hs4.out hb)
 have HB5 := Aside0.mk (below_then HB4.out HB4.out.size hb)
 clear hb o0 o1 o2 o3 o4 o5 o6 o7 o8
 go_upto_region 6 with ((with_reducible refine gate_callee (f := 12) rfl ?_); refine gL 30 Tryd.func12 #[.string set27] ?_; refine Calls.mono (snap_TakeOp.calls 40 set27 4 2 1 1 1 0 0 ⟨#[]⟩ ⟨#[118]⟩ 0 _ set27_take (HL.out.below HB5.out)) ?_; rintro e w6 ⟨rfl, hb⟩; refine ⟨_, rfl, ?_⟩)
 have hn := heap_alloc_new w6 (.cells #[.int .i64 4, .int .i64 2, .int .i64 1, .int .i64 1, .int .i64 1, .int .i64 0, .int .i64 0, .string ⟨#[]⟩, .string ⟨#[118]⟩] 25)
 have hb' := below_alloc hb (.cells #[.int .i64 4, .int .i64 2, .int .i64 1, .int .i64 1, .int .i64 1, .int .i64 0, .int .i64 0, .string ⟨#[]⟩, .string ⟨#[118]⟩] 25)
 clear hb
 generalize hp : w6.heap.size = p at hn ⊢
 generalize hw7 : w6.alloc (.cells #[.int .i64 4, .int .i64 2, .int .i64 1, .int .i64 1, .int .i64 1, .int .i64 0, .int .i64 0, .string ⟨#[]⟩, .string ⟨#[118]⟩] 25) = w7 at hn hb' ⊢
 have Hp7 := Aside0.mk hn
 have Ho7 := Aside0.mk (blk_below Ho5.out hb')
 have Hs7 := Aside0.mk (blk_below Hs5.out hb')
 have HB7 := Aside0.mk (below_then HB5.out HB5.out.size hb')
 clear hb' hn hp hw7
 have s0 : w7.cell? ⟨s, 0, none⟩ = some (.slice AN 0 cN) := (blk_cell Hs7.out 0).trans rfl
 have s1 : w7.cell? ⟨s, 1, none⟩ = some (.slice AO 0 cO) := (blk_cell Hs7.out 1).trans rfl
 have s2 : w7.cell? ⟨s, 2, none⟩ = some (.int .i64 0) := (blk_cell Hs7.out 2).trans rfl
 have s3 : w7.cell? ⟨s, 3, none⟩ = some (.int .i64 0) := (blk_cell Hs7.out 3).trans rfl
 have o0 : w7.cell? ⟨o, 0, none⟩ = some (.int .i64 4) := (blk_cell Ho7.out 0).trans rfl
 have o1 : w7.cell? ⟨o, 1, none⟩ = some (.int .i64 2) := (blk_cell Ho7.out 1).trans rfl
 have o2 : w7.cell? ⟨o, 2, none⟩ = some (.int .i64 1) := (blk_cell Ho7.out 2).trans rfl
 have o3 : w7.cell? ⟨o, 3, none⟩ = some (.int .i64 1) := (blk_cell Ho7.out 3).trans rfl
 have o4 : w7.cell? ⟨o, 4, none⟩ = some (.int .i64 1) := (blk_cell Ho7.out 4).trans rfl
 have o5 : w7.cell? ⟨o, 5, none⟩ = some (.int .i64 0) := (blk_cell Ho7.out 5).trans rfl
 have o6 : w7.cell? ⟨o, 6, none⟩ = some (.int .i64 0) := (blk_cell Ho7.out 6).trans rfl
 have o7 : w7.cell? ⟨o, 7, none⟩ = some (.string ⟨#[]⟩) := (blk_cell Ho7.out 7).trans rfl
 have o8 : w7.cell? ⟨o, 8, none⟩ = some (.string ⟨#[118]⟩) := (blk_cell Ho7.out 8).trans rfl
 have p0 : w7.cell? ⟨p, 0, none⟩ = some (.int .i64 4) := (blk_cell Hp7.out 0).trans rfl
 have p1 : w7.cell? ⟨p, 1, none⟩ = some (.int .i64 2) := (blk_cell Hp7.out 1).trans rfl
 have p2 : w7.cell? ⟨p, 2, none⟩ = some (.int .i64 1) := (blk_cell Hp7.out 2).trans rfl
 have p3 : w7.cell? ⟨p, 3, none⟩ = some (.int .i64 1) := (blk_cell Hp7.out 3).trans rfl
 have p4 : w7.cell? ⟨p, 4, none⟩ = some (.int .i64 1) := (blk_cell Hp7.out 4).trans rfl
 have p5 : w7.cell? ⟨p, 5, none⟩ = some (.int .i64 0) := (blk_cell Hp7.out 5).trans rfl
 have p6 : w7.cell? ⟨p, 6, none⟩ = some (.int .i64 0) := (blk_cell Hp7.out 6).trans rfl
 have p7 : w7.cell? ⟨p, 7, none⟩ = some (.string ⟨#[]⟩) := (blk_cell Hp7.out 7).trans rfl
 have p8 : w7.cell? ⟨p, 8, none⟩ = some (.string ⟨#[118]⟩) := (blk_cell Hp7.out 8).trans rfl
 have hmk : (Instr.makeSlice 51 (.int .i64 19) (.int .i64 19)).run Tryd.prog w7 = .ok (.slice (some ⟨w7.heap.size, 0, none⟩) 19 19) (w7.alloc (.cells (nums .u8 (List.replicate 19 0)).toArray 5)) := by
  obtain ⟨i5, h5, h5'⟩ := Option.map_eq_some_iff.1 info5
  simp only [Prod.mk.injEq] at h5'
  obtain ⟨hz, hs, hb⟩ := h5'
  have hm := run_makeSlice (P := Tryd.prog) w7 51 5 i5 (.int .u8 0) Tryd.underlying51 h5 hz .i64 .i64 19 19 (by decide) (by decide) (by rw [hs]; decide) (by rw [hb]; decide) (by decide)
  rw [hm, hs, show madeCells (Value.int .u8 0).cells (Int.toNat 19 * 1) = (nums .u8 (List.replicate 19 0)).toArray by kernel_rfl]
  rfl
 have hcv := own_string (P := Tryd.prog) Tryd.underlying51 Tryd.underlying5 Tryd.underlying9 (own_lit w7 0 5 .u8 (List.replicate 19 0) (Nat.zero_le _) (by decide))
 rw [show strOfNums (List.replicate 19 0) = zeros19 from rfl] at hcv
 simp only [List.length_replicate] at hcv
 have hb8 := below_alloc (Below.refl w7.heap.size w7) (.cells (nums .u8 (List.replicate 19 0)).toArray 5)
 have Hs8 := Aside0.mk (blk_below Hs7.out hb8)
 have Ho8 := Aside0.mk (blk_below Ho7.out hb8)
 have Hp8 := Aside0.mk (blk_below Hp7.out hb8)
 have HB8 := Aside0.mk (below_then HB7.out HB7.out.size hb8)
 generalize w7.alloc (.cells (nums .u8 (List.replicate 19 0)).toArray 5) = w8 at hmk hcv Hs8 Ho8 Hp8 HB8
 generalize w7.heap.size = z at hmk hcv
 clear hb8 s0 s1 s2 s3 o0 o1 o2 o3 o4 o5 o6 o7 o8 p0 p1 p2 p3 p4 p5 p6 p7 p8
 have s0 : w8.cell? ⟨s, 0, none⟩ = some (.slice AN 0 cN) := (blk_cell Hs8.out 0).trans rfl
 have s1 : w8.cell? ⟨s, 1, none⟩ = some (.slice AO 0 cO) := (blk_cell Hs8.out 1).trans rfl
 have s2 : w8.cell? ⟨s, 2, none⟩ = some (.int .i64 0) := (blk_cell Hs8.out 2).trans rfl
 have s3 : w8.cell? ⟨s, 3, none⟩ = some (.int .i64 0) := (blk_cell Hs8.out 3).trans rfl
 go_upto_region 7 with fail
 refine (samphireref13_Same.calls 40 AN cN [] AO cO [] 0 0 none 0 [] none 0 [] 0 0 true w8 (cnN _ _) (Nat.zero_le _) (cnO _ _) (Nat.zero_le _) (Kd.C_nil _ _) (Nat.le_refl _) (Kd.C_nil _ _) (Nat.le_refl _) same0).mono ?_
 rintro e w9 ⟨rfl, hb⟩
 dsimp only
 have Ho9 := Aside0.mk (blk_below Ho8.out hb)
 have Hp9 := Aside0.mk (blk_below Hp8.out hb)
 have HB9 := Aside0.mk (below_then HB8.out HB8.out.size hb)
 clear hb s0 s1 s2 s3
 have o0 : w9.cell? ⟨o, 0, none⟩ = some (.int .i64 4) := (blk_cell Ho9.out 0).trans rfl
 have o1 : w9.cell? ⟨o, 1, none⟩ = some (.int .i64 2) := (blk_cell Ho9.out 1).trans rfl
 have o2 : w9.cell? ⟨o, 2, none⟩ = some (.int .i64 1) := (blk_cell Ho9.out 2).trans rfl
 have o3 : w9.cell? ⟨o, 3, none⟩ = some (.int .i64 1) := (blk_cell Ho9.out 3).trans rfl
 have o4 : w9.cell? ⟨o, 4, none⟩ = some (.int .i64 1) := (blk_cell Ho9.out 4).trans rfl
 have o5 : w9.cell? ⟨o, 5, none⟩ = some (.int .i64 0) := (blk_cell Ho9.out 5).trans rfl
 have o6 : w9.cell? ⟨o, 6, none⟩ = some (.int .i64 0) := (blk_cell Ho9.out 6).trans rfl
 have o7 : w9.cell? ⟨o, 7, none⟩ = some (.string ⟨#[]⟩) := (blk_cell Ho9.out 7).trans rfl
 have o8 : w9.cell? ⟨o, 8, none⟩ = some (.string ⟨#[118]⟩) := (blk_cell Ho9.out 8).trans rfl
 have p0 : w9.cell? ⟨p, 0, none⟩ = some (.int .i64 4) := (blk_cell Hp9.out 0).trans rfl
 have p1 : w9.cell? ⟨p, 1, none⟩ = some (.int .i64 2) := (blk_cell Hp9.out 1).trans rfl
 have p2 : w9.cell? ⟨p, 2, none⟩ = some (.int .i64 1) := (blk_cell Hp9.out 2).trans rfl
 have p3 : w9.cell? ⟨p, 3, none⟩ = some (.int .i64 1) := (blk_cell Hp9.out 3).trans rfl
 have p4 : w9.cell? ⟨p, 4, none⟩ = some (.int .i64 1) := (blk_cell Hp9.out 4).trans rfl
 have p5 : w9.cell? ⟨p, 5, none⟩ = some (.int .i64 0) := (blk_cell Hp9.out 5).trans rfl
 have p6 : w9.cell? ⟨p, 6, none⟩ = some (.int .i64 0) := (blk_cell Hp9.out 6).trans rfl
 have p7 : w9.cell? ⟨p, 7, none⟩ = some (.string ⟨#[]⟩) := (blk_cell Hp9.out 7).trans rfl
 have p8 : w9.cell? ⟨p, 8, none⟩ = some (.string ⟨#[118]⟩) := (blk_cell Hp9.out 8).trans rfl
 have hz := set27_size
 go_wp2
 go_ret
 exact ⟨rfl, HB9.out⟩
def samphirelaw13_awake.f : Option Bool := some true
theorem samphirelaw13_awake.calls (r : Bool) (w : World) (h : samphirelaw13_awake.f = some r) (hL : Laid w) : Calls Tryd.prog 9 #[] w fun e w' => e = .returned (.bool r) ∧ Below w.heap.size w w' := by
 obtain rfl := Option.some.inj h
 exact awake_calls w hL
end Go.Proofs.YtlfgdaiegefjiaaDoor.S
