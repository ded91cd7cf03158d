/- Apply, as the machine walks it. -/
import Derived.Test.YtiffeljmeahmkaaDoorMk
import Derived.Test.YtiffeljmeahmkaaDoorSx6
namespace Go.Proofs.YtiffeljmeahmkaaDoor.S
open Go.RowKit Go.Proofs.YtiffeljmeahmkaaDoorW.PrintWords Go.Proofs.YtiffeljmeahmkaaDoorW.PrintLast Go.Proofs.YtiffeljmeahmkaaDoorW.PrintMore
set_option linter.unusedVariables false
set_option linter.unusedSimpArgs false
attribute [local go_sem high] mEq field_par
-- TABLE BEGIN
abbrev marksMl_0 : Array Bool := #[false, false, false, false, false, false, false, false, false, false, false, false, false, false, false, false, false, false]
abbrev marksMl_1 : Array Bool := #[true, false, false, false, false, false, false, false, false, false, false, false, false, false, false, false, false, false]
abbrev marksMl_2 : Array Bool := #[true, true, false, false, false, false, false, false, false, false, false, false, false, false, false, false, false, false]
abbrev marksMl_3 : Array Bool := #[true, true, true, false, false, false, false, false, false, false, false, false, false, false, false, false, false, false]
abbrev marksMl_4 : Array Bool := #[true, true, true, true, false, false, false, false, false, false, false, false, false, false, false, false, false, false]
abbrev marksMl_5 : Array Bool := #[true, true, true, true, true, false, false, false, false, false, false, false, false, false, false, false, false, false]
abbrev marksMl_6 : Array Bool := #[true, true, true, true, true, true, false, false, false, false, false, false, false, false, false, false, false, false]
abbrev marksMl_7 : Array Bool := #[true, true, true, true, true, true, true, false, false, false, false, false, false, false, false, false, false, false]
abbrev marksMl_8 : Array Bool := #[true, true, true, true, true, true, true, true, false, false, false, false, false, false, false, false, false, false]
abbrev marksMl_9 : Array Bool := #[true, true, true, true, true, true, true, true, true, false, false, false, false, false, false, false, false, false]
abbrev marksMl_10 : Array Bool := #[true, true, true, true, true, true, true, true, true, true, false, false, false, false, false, false, false, false]
abbrev marksMl_11 : Array Bool := #[true, true, true, true, true, true, true, true, true, true, true, false, false, false, false, false, false, false]
abbrev marksMl_12 : Array Bool := #[true, true, true, true, true, true, true, true, true, true, true, true, false, false, false, false, false, false]
abbrev marksMl_13 : Array Bool := #[true, true, true, true, true, true, true, true, true, true, true, true, false, true, false, false, false, false]
abbrev marksMl_14 : Array Bool := #[true, true, true, true, true, true, true, true, true, true, true, true, true, true, false, false, false, false]
abbrev marksMl_15 : Array Bool := #[true, true, true, true, true, true, true, true, true, true, true, true, true, true, true, false, false, false]
abbrev marksMl_16 : Array Bool := #[true, true, true, true, true, true, true, true, true, true, true, true, true, true, true, true, false, false]
abbrev marksMl_17 : Array Bool := #[true, true, true, true, true, true, true, true, true, true, true, true, true, true, true, true, true, false]
abbrev marksMl_18 : Array Bool := #[true, true, true, true, true, true, true, true, true, true, true, true, true, true, true, true, true, true]
abbrev marksMl_19 : Array Bool := #[false, false, false, false, false, false, false, false, false, false, false, false]
abbrev marksMl_20 : Array Bool := #[true, false, false, false, false, false, false, false, false, false, false, false]
abbrev marksMl_21 : Array Bool := #[true, true, false, false, false, false, false, false, false, false, false, false]
abbrev marksMl_22 : Array Bool := #[true, true, true, false, false, false, false, false, false, false, false, false]
abbrev marksMl_23 : Array Bool := #[true, true, true, false, true, false, false, false, false, false, false, false]
abbrev marksMl_24 : Array Bool := #[true, true, true, true, true, false, false, false, false, false, false, false]
abbrev marksMl_25 : Array Bool := #[true, true, true, true, true, true, false, false, false, false, false, false]
abbrev marksMl_26 : Array Bool := #[true, true, true, true, true, true, true, false, false, false, false, false]
abbrev marksMl_27 : Array Bool := #[true, true, true, true, true, true, true, true, false, false, false, false]
abbrev marksMl_28 : Array Bool := #[true, true, true, true, true, true, true, true, true, false, false, false]
abbrev marksMl_29 : Array Bool := #[true, true, true, true, true, true, true, true, true, true, false, false]
abbrev marksMl_30 : Array Bool := #[true, true, true, true, true, true, true, true, true, true, true, false]
abbrev marksMl_31 : Array Bool := #[true, true, true, true, true, true, true, true, true, true, true, true]
abbrev marksMl_32 : Array Bool := #[true, true, true, true, false, false, false, false, false, false, false, false]
abbrev marksMl_33 : Array Bool := #[true, true, true, true, false, true, false, false, false, false, false, false]
abbrev marksMl_34 : Array Bool := #[true, true, true, true, true, true, true, true, true, true, true, true, true, false, false, false, false, false]
def apply_.T1 : Bool × List (List Nat × List Nat) := (true, [([], []), ([0], [0]), ([1], [1]), ([2, 1], [2]), ([3], [3]), ([4, 3, 3], [3, 4]), ([5, 3], [3, 5]), ([3, 6], [3, 6]), ([7, 5], [7]), ([8], [8]), ([9, 8], [8, 9]), ([10, 8], [8, 10]), ([11, 8], [8, 11]), ([8], [8]), ([13, 8], [8, 13]), ([12, 14, 8, 8], [8, 12, 14]), ([15, 8], [8, 15]), ([8, 16], [8, 16])])
def apply_.B1 : List Nat := [0, 1, 3, 7, 15, 31, 63, 127, 255, 511, 1023, 2047, 4095, 511, 8703, 32767, 65535, 131071]
theorem apply_.tab1 : rtab .any (opsOf Tryd.f14 1) = apply_.T1 := by kernel_rfl
theorem apply_.bits1 : waitsOk apply_.T1.2 apply_.B1 = true := by kernel_rfl
def apply_.T3 : Bool × List (List Nat × List Nat) := (true, [([], []), ([0], [0]), ([1], [1]), ([2], [2]), ([], []), ([4], [4]), ([3, 5], [3, 5]), ([6], [6]), ([7], [7]), ([7], [7]), ([8, 6, 0, 1, 2, 3, 4, 5, 6, 7, 8], [8]), ([9, 10, 0, 1, 2, 3, 4, 5, 6, 7, 8, 9, 10], [9])])
def apply_.B3 : List Nat := [0, 1, 3, 7, 0, 16, 63, 127, 255, 255, 511, 2047]
theorem apply_.tab3 : rtab .any (opsOf Tryd.f14 3) = apply_.T3 := by kernel_rfl
theorem apply_.bits3 : waitsOk apply_.T3.2 apply_.B3 = true := by kernel_rfl
def apply_.T8 : Bool × List (List Nat × List Nat) := (true, [([], []), ([], []), ([1], [1]), ([2], [2]), ([3], [3]), ([], []), ([], []), ([6], [6]), ([4, 5, 7], [4, 5, 7]), ([0, 0, 1, 2, 3, 4, 5, 6, 7, 8], [0]), ([9, 0, 1, 2, 3, 4, 5, 6, 7, 8], [9]), ([10, 8, 8, 0, 1, 2, 3, 4, 5, 6, 7, 8], [8, 10])])
def apply_.B8 : List Nat := [0, 0, 2, 6, 14, 0, 0, 64, 254, 511, 1023, 2047]
theorem apply_.tab8 : rtab .any (opsOf Tryd.f14 8) = apply_.T8 := by kernel_rfl
theorem apply_.bits8 : waitsOk apply_.T8.2 apply_.B8 = true := by kernel_rfl
-- TABLE END
theorem searchB (A : Option Addr) (c : Nat) (l : List Opn) (s : Stp) (q : Nat) (fd : Bool) (w : World) (hC : Kd.C k28 w A l.length l) (hq : rank l s = q) (hf : isIn l s = fd) (hs : Sorted l) (hl : l.length ≤ 1000000) :
    Calls Tryd.prog 36 #[.slice A l.length c, .agg #[.int .i64 s.f0, .int .i64 s.f1], .func (.func 37) #[] #[]] w fun e w' => e = .returned (.tuple #[.int .i64 (q : Int), .bool fd]) ∧ Below w.heap.size w w' := by
  subst hq hf
  exact search_calls A c l s (rank l s) w hC (ranks l s hs) hl _ rfl
theorem below_new (w : World) (x : Obj) : Below w.drew.heap.size w.drew (w.alloc x).drew :=
  have h := below_alloc (Below.refl w.heap.size w) x
  ⟨h.os, h.tape, h.output, h.size, h.block⟩
theorem insertB (w : World) (B : Nat) (s : Value) (l : List Opn) (q : Nat) (o : Opn) (vb : Nat) (hs : OpsAt w B s l) (hq : rank l o.f1 = q) (hv : w.heap[vb]? = some (.cells #[.int .i64 o.f0, .int .i64 o.f1.f0, .int .i64 o.f1.f1, .int .i64 o.f2.f0, .int .i64 o.f2.f1, .int .i64 o.f3.f0, .int .i64 o.f3.f1, .string o.f4, .string o.f5] 28 (0, 0))) (hl : l.length ≤ 512) (hvg : s.ownBlock ≠ some vb) (hB : B ≤ w.heap.size) :
    Calls Tryd.prog 40 #[s, .int .i64 (q : Int), .slice (some ⟨vb, 0, none⟩) 1 1] w fun e w' => ∃ s', e = .returned s' ∧ OpsAt w' B s' (insO l o) ∧ Stay w w' (fun k => s.ownBlock = some k) ∧ (∀ k, s'.ownBlock = some k → s.ownBlock = some k ∨ w.heap.size ≤ k) := by
  subst hq
  exact insert_calls w B s l _ (rank_le l o.f1) o vb hs hB hv hvg (by omega)
theorem OpsAt.own_lt {w : World} {B : Nat} {v : Value} {l : List Opn} (h : OpsAt w B v l) (k : Nat) (hk : v.ownBlock = some k) : k < w.heap.size := by
  obtain ⟨_, inner, ho, hr⟩ := h
  obtain ⟨cells, hc⟩ := own_typed ho k hk
  exact blk_here hc
/-- A tree whose operations were put anew. -/
theorem TreeAt.puts {w w1 : World} {B g f n : Nat} {v s : Value} {T : Tr} {l : List Opn} (h : TreeAt w B g f n v T) (hs : Stay w w1 (fun k => v.ownBlock = some k)) (ho : OpsAt w1 B s l) : TreeAt (w1.setCell ⟨g, 2, none⟩ s) B g f n s { T with ops := l } := by
  have hb := hs.blk h.blk (h.ops.own_ne h.blk)
  have hf := h.fix.stay hs (h.ops.own_map h.fix)
  have hn := h.now.stay hs (h.ops.own_map h.now)
  have hc := Stay.cell w1 ⟨g, 2, none⟩ s
  exact ⟨blk_set hb 2 s, hf.stay hc (fun e => h.gf e.symm), hn.stay hc (fun e => h.gn e.symm), ho.stay hc (fun k hk e => by subst e; exact ho.own_ne hb hk), h.ne, h.bg, h.bf, h.bn⟩
def Applies (w : World) (B g f n : Nat) (v : Value) (T : Tr) (o : Opn) (r : Int) (e : Ending) (w' : World) : Prop :=
  ∃ T' v', e = .returned (.int .i64 (putO T o r).2) ∧ TreeAt w' B g f n v' T' ∧ Good T' ∧ T'.fixed = T.fixed ∧ T'.base = T.base ∧ T'.ops = (putO T o r).1 ∧ Stay w w' (foot g f n v) ∧ (∀ k, v'.ownBlock = some k → v.ownBlock = some k ∨ w.heap.size ≤ k)
theorem Applies.same {w : World} {B g f n : Nat} {v : Value} {T : Tr} {o : Opn} {r : Int} {w' : World} (h : TreeAt w' B g f n v T) (hg : Good T) (hb : Below w.heap.size w w') {x : Int} (hp : putO T o r = (T.ops, x)) : Applies w B g f n v T o r (.returned (.int .i64 x)) w' :=
  ⟨T, v, by rw [hp], h, hg, rfl, rfl, by rw [hp], Stay.of hb _, fun _ hk => .inl hk⟩
set_option maxHeartbeats 8000000 in
set_option maxRecDepth 100000 in
theorem Apply_calls (w : World) (B g f n : Nat) (v : Value) (T : Tr) (o : Opn) (k : Nat) (r : Int) (h : TreeAt w B g f n v T) (hg : Good T) (hc : tree_Check.f k o.f0 o.f1.f0 o.f1.f1 o.f2.f0 o.f2.f1 o.f3.f0 o.f3.f1 o.f4 o.f5 = some r) (hok : r = 0 → OpOk o) (hL : Laid w) :
    Calls Tryd.prog 14 #[.pointer (some ⟨g, 0, none⟩), .agg #[.int .i64 o.f0, .int .i64 o.f1.f0, .int .i64 o.f1.f1, .int .i64 o.f2.f0, .int .i64 o.f2.f1, .int .i64 o.f3.f0, .int .i64 o.f3.f1, .string o.f4, .string o.f5]] w (Applies w B g f n v T o r) := by
  have hu := Tryd.underlying28
  obtain ⟨A, c, hv, hc1, hCC⟩ := Kd.R_reads h.ops
  subst hv
  have HCC := Aside0.mk hCC
  have HGD := Aside0.mk hg
  have HOK := Aside0.mk hok
  obtain ⟨b, hb⟩ : ∃ b, lessB T.base o.f1 = b := ⟨_, rfl⟩
  obtain ⟨fd, hfd⟩ : ∃ fd, isIn T.ops o.f1 = fd := ⟨_, rfl⟩
  obtain ⟨q, hq⟩ : ∃ q, rank T.ops o.f1 = q := ⟨_, rfl⟩
  have HLS := Aside0.mk (show clock_Less.f T.base.f0 T.base.f1 o.f1.f0 o.f1.f1 = some b from hb ▸ less_f _ _)
  have HBB := Aside0.mk hb
  have HFD := Aside0.mk hfd
  have HRK := Aside0.mk hq
  have HSR := Aside0.mk hg.srt
  have BKd := Aside0.mk (show (w.alloc (.cells #[.int .i64 o.f0, .int .i64 o.f1.f0, .int .i64 o.f1.f1, .int .i64 o.f2.f0, .int .i64 o.f2.f1, .int .i64 o.f3.f0, .int .i64 o.f3.f1, .string o.f4, .string o.f5] 28)).drew.heap[w.heap.size]? = _ from heap_alloc_new w _)
  have HBd := Aside0.mk (below_alloc (Below.refl w.heap.size w) (.cells #[.int .i64 o.f0, .int .i64 o.f1.f0, .int .i64 o.f1.f1, .int .i64 o.f2.f0, .int .i64 o.f2.f1, .int .i64 o.f3.f0, .int .i64 o.f3.f1, .string o.f4, .string o.f5] 28)).drew
  have HTd := Aside0.mk (h.below HBd.out)
  have HLd := Aside0.mk (hL.below HBd.out)
  have HC := Aside0.mk hc
  have HGW := Aside0.mk (blk_here h.blk)
  have HOL := Aside0.mk (show ∀ k, (Value.slice A T.ops.length c).ownBlock = some k → k < w.heap.size from h.ops.own_lt)
  clear h hg hc hok hL hb hfd hq hCC hc1
  by_cases hr : r = 0
  · subst hr
    have HOZ := Aside0.mk (HOK.out rfl)
    clear HOK
    go_enter Tryd.func14, Tryd.ntmps14
    go_upto_region 1 with fail
    -- REGION 1B BEGIN
    refine start_ (n := 18) (S := fun w' => w'.cell? ⟨w.heap.size, 0, none⟩ = some (.int .i64 o.f0) ∧ w'.cell? ⟨w.heap.size, 1, none⟩ = some (.int .i64 o.f1.f0) ∧ w'.cell? ⟨w.heap.size, 2, none⟩ = some (.int .i64 o.f1.f1) ∧ w'.cell? ⟨w.heap.size, 3, none⟩ = some (.int .i64 o.f2.f0) ∧ w'.cell? ⟨w.heap.size, 4, none⟩ = some (.int .i64 o.f2.f1) ∧ w'.cell? ⟨w.heap.size, 5, none⟩ = some (.int .i64 o.f3.f0) ∧ w'.cell? ⟨w.heap.size, 6, none⟩ = some (.int .i64 o.f3.f1) ∧ w'.cell? ⟨w.heap.size, 7, none⟩ = some (.string o.f4) ∧ w'.cell? ⟨w.heap.size, 8, none⟩ = some (.string o.f5) ∧ w'.cell? ⟨g, 3, none⟩ = some (.int .i64 T.base.f0) ∧ w'.cell? ⟨g, 4, none⟩ = some (.int .i64 T.base.f1)) (ds := [15]) marksMl_0 (by kernel_rfl) rfl rfl ⟨(blk_cell BKd.out 0), (blk_cell BKd.out 1), (blk_cell BKd.out 2), (blk_cell BKd.out 3), (blk_cell BKd.out 4), (blk_cell BKd.out 5), (blk_cell BKd.out 6), (blk_cell BKd.out 7), (blk_cell BKd.out 8), (blk_cell HTd.out.blk 3), (blk_cell HTd.out.blk 4)⟩ (fun hHeld => ?_)
    refine with_tabW apply_.tab1 apply_.bits1 (fun HT_ HW_ => ?_)
    refine pureQ (i := 0) (N := some 7) marksMl_1 (any_of HT_.out (by kernel_rfl)) ?_
    refine one_ (i := 1) (N := some 8) marksMl_2 rfl rfl (one_of HT_.out (by kernel_rfl)) (by decide) (fun K hK => ?_)
    refine goes_ Tryd.func34 (by kernel_rfl) rfl #[.pointer (some ⟨g, 0, none⟩)] (by rfl) rfl rfl (by simp only [List.map_toArray, List.map_cons, List.map_nil]; rfl) ?_
    with_reducible refine (given_calls _ B g f n _ T HTd.out).mono ?_
    rintro e w3 ⟨rfl, rfl⟩
    refine ⟨_, rfl, ?_⟩
    refine hK.out _ _ ⟨(blk_cell BKd.out 0), (blk_cell BKd.out 1), (blk_cell BKd.out 2), (blk_cell BKd.out 3), (blk_cell BKd.out 4), (blk_cell BKd.out 5), (blk_cell BKd.out 6), (blk_cell BKd.out 7), (blk_cell BKd.out 8), (blk_cell HTd.out.blk 3), (blk_cell HTd.out.blk 4)⟩ (fun hHeld => ?_)
    clear hK K
    refine norm_ (a' := ?_) ?_ ?_
    rotate_left
    · show Act.put _ (some 8) _ = _
      simp only [Act.put, List.setIfInBounds_toArray, List.set_cons_zero, List.set_cons_succ, i64_w, i32_w]
      rfl
    refine pureQ (i := 2) (N := some 9) marksMl_3 (any_of HT_.out (by kernel_rfl)) ?_
    refine pureQ (i := 3) (N := some 10) marksMl_4 (any_of HT_.out (by kernel_rfl)) ?_
    refine take_ (i := 4) (N := some 11) (v := ?_) (a' := ?_) marksMl_5 rfl rfl (take_ofW HT_.out HW_.out (by kernel_rfl)) (fun _ _ _ h => h) (Or.inl ⟨by rfl, ?_⟩) hHeld ?_ ?_
    rotate_left
    · rintro w' ⟨s0, s1, s2, s3, s4, s5, s6, s7, s8, s9, s10⟩
      go_simp
      with_reducible rfl
    rotate_left
    · simp only [Act.put, List.setIfInBounds_toArray, List.set_cons_zero, List.set_cons_succ, i64_w, i32_w]
      rfl
    refine one_ (i := 5) (N := some 12) marksMl_6 rfl rfl (one_of HT_.out (by kernel_rfl)) (by decide) (fun K hK => ?_)
    refine goes_ Tryd.func22 (by kernel_rfl) rfl #[.agg #[.int .i64 o.f0, .int .i64 o.f1.f0, .int .i64 o.f1.f1, .int .i64 o.f2.f0, .int .i64 o.f2.f1, .int .i64 o.f3.f0, .int .i64 o.f3.f1, .string o.f4, .string o.f5]] (by rfl) rfl rfl (by simp only [List.map_toArray, List.map_cons, List.map_nil]; rfl) ?_
    with_reducible refine (tree_Check.calls k _ _ _ _ _ _ _ _ _ 0 _ HC.out HLd.out).mono ?_
    rintro e w3 ⟨rfl, hd⟩
    refine ⟨_, rfl, ?_⟩
    have HB3 := Aside0.mk (below_step HBd.out hd)
    have HT3 := Aside0.mk (HTd.out.below hd)
    have BK3 := Aside0.mk (blk_below BKd.out hd)
    clear hd
    refine hK.out _ _ ⟨(blk_cell BK3.out 0), (blk_cell BK3.out 1), (blk_cell BK3.out 2), (blk_cell BK3.out 3), (blk_cell BK3.out 4), (blk_cell BK3.out 5), (blk_cell BK3.out 6), (blk_cell BK3.out 7), (blk_cell BK3.out 8), (blk_cell HT3.out.blk 3), (blk_cell HT3.out.blk 4)⟩ (fun hHeld => ?_)
    clear hK K
    refine norm_ (a' := ?_) ?_ ?_
    rotate_left
    · show Act.put _ (some 12) _ = _
      simp only [Act.put, List.setIfInBounds_toArray, List.set_cons_zero, List.set_cons_succ, i64_w, i32_w]
      rfl
    refine pureQ (i := 6) (N := some 13) marksMl_7 (any_of HT_.out (by kernel_rfl)) ?_
    refine pureQ (i := 7) (N := some 14) marksMl_8 (any_of HT_.out (by kernel_rfl)) ?_
    refine pureQ (i := 8) (N := some 15) marksMl_9 (any_of HT_.out (by kernel_rfl)) ?_
    refine pureQ (i := 9) (N := some 16) marksMl_10 (any_of HT_.out (by kernel_rfl)) ?_
    refine pureQ (i := 10) (N := some 17) marksMl_11 (any_of HT_.out (by kernel_rfl)) ?_
    refine pureQ (i := 11) (N := some 18) marksMl_12 (any_of HT_.out (by kernel_rfl)) ?_
    refine pureQ (i := 13) (N := some 20) marksMl_13 (any_of HT_.out (by kernel_rfl)) ?_
    refine take_ (i := 12) (N := some 19) (v := ?_) (a' := ?_) marksMl_14 rfl rfl (take_ofW HT_.out HW_.out (by kernel_rfl)) (fun _ _ _ h => h) (Or.inl ⟨by rfl, ?_⟩) hHeld ?_ ?_
    rotate_left
    · rintro w' ⟨s0, s1, s2, s3, s4, s5, s6, s7, s8, s9, s10⟩
      go_simp
      with_reducible rfl
    rotate_left
    · simp only [Act.put, List.setIfInBounds_toArray, List.set_cons_zero, List.set_cons_succ, i64_w, i32_w]
      rfl
    refine take_ (i := 14) (N := some 21) (v := ?_) (a' := ?_) marksMl_15 rfl rfl (take_ofW HT_.out HW_.out (by kernel_rfl)) (fun _ _ _ h => h) (Or.inl ⟨by rfl, ?_⟩) hHeld ?_ ?_
    rotate_left
    · rintro w' ⟨s0, s1, s2, s3, s4, s5, s6, s7, s8, s9, s10⟩
      go_simp
      with_reducible rfl
    rotate_left
    · simp only [Act.put, List.setIfInBounds_toArray, List.set_cons_zero, List.set_cons_succ, i64_w, i32_w]
      rfl
    refine last_ (i := 15) (N := some 22) marksMl_16 rfl rfl (one_of HT_.out (by kernel_rfl)) (by decide) (fun K hK => ?_)
    refine goes_ Tryd.func35 (by kernel_rfl) rfl #[.agg #[.int .i64 T.base.f0, .int .i64 T.base.f1], .agg #[.int .i64 o.f1.f0, .int .i64 o.f1.f1]] (by rfl) rfl rfl (by simp only [List.map_toArray, List.map_cons, List.map_nil]; rfl) ?_
    with_reducible refine (clock_Less.calls _ _ _ _ b _ HLS.out).mono ?_
    rintro e w4 ⟨rfl, hd⟩
    refine ⟨_, rfl, ?_⟩
    have HB4 := Aside0.mk (below_step HB3.out hd)
    have HT4 := Aside0.mk (HT3.out.below hd)
    have BK4 := Aside0.mk (blk_below BK3.out hd)
    clear hd
    refine hK.out _ _ ?_
    clear hK K
    refine norm_ (a' := ?_) ?_ ?_
    rotate_left
    · show Act.put _ (some 22) _ = _
      simp only [Act.put, List.setIfInBounds_toArray, List.set_cons_zero, List.set_cons_succ, i64_w, i32_w]
      rfl
    refine pureQ (i := 16) (N := some 23) marksMl_17 (any_of HT_.out (by kernel_rfl)) ?_
    refine pureQ (i := 17) (N := some 24) marksMl_18 (any_of HT_.out (by kernel_rfl)) ?_
    refine done_ (done_of HT_.out (by kernel_rfl)) ?_

-- REGION END
    cases b with
    | false =>
      go_wp2
      go_ret
      exact Applies.same HT4.out HGD.out HB4.out (by unfold putO; rw [if_pos (by rw [HBB.out]; rfl)])
    | true =>
      go_upto_region 3 with fail
      have BKe := Aside0.mk (show w4.drew.heap[w.heap.size]? = _ from BK4.out)
      have HBe := Aside0.mk HB4.out.drew
      have HTe := Aside0.mk (HT4.out.below (Below.refl _ _).drew)
      clear HT4 HB4 BK4 HT3 HB3 BK3 HTd HBd BKd
      -- REGION 3 BEGIN
      refine start_ (n := 12) (S := fun w' => w'.cell? ⟨w.heap.size, 1, none⟩ = some (.int .i64 o.f1.f0) ∧ w'.cell? ⟨w.heap.size, 2, none⟩ = some (.int .i64 o.f1.f1) ∧ w'.cell? ⟨g, 2, none⟩ = some (.slice A T.ops.length c)) (ds := [6]) marksMl_19 (by kernel_rfl) rfl rfl ⟨(blk_cell BKe.out 1), (blk_cell BKe.out 2), (blk_cell HTe.out.blk 2)⟩ (fun hHeld => ?_)
      refine with_tabW apply_.tab3 apply_.bits3 (fun HT_ HW_ => ?_)
      refine pureQ (i := 0) (N := some 26) marksMl_20 (any_of HT_.out (by kernel_rfl)) ?_
      refine pureQ (i := 1) (N := some 27) marksMl_21 (any_of HT_.out (by kernel_rfl)) ?_
      refine pureQ (i := 2) (N := some 28) marksMl_22 (any_of HT_.out (by kernel_rfl)) ?_
      refine pureQ (i := 4) (N := some 30) marksMl_23 (any_of HT_.out (by kernel_rfl)) ?_
      refine take_ (i := 3) (N := some 29) (v := ?_) (a' := ?_) marksMl_24 rfl rfl (take_ofW HT_.out HW_.out (by kernel_rfl)) (fun _ _ _ h => h) (Or.inl ⟨by rfl, ?_⟩) hHeld ?_ ?_
      rotate_left
      · rintro w' ⟨s0, s1, s2⟩
        go_simp
        with_reducible rfl
      rotate_left
      · simp only [Act.put, List.setIfInBounds_toArray, List.set_cons_zero, List.set_cons_succ, i64_w, i32_w]
        rfl
      refine take_ (i := 5) (N := some 31) (v := ?_) (a' := ?_) marksMl_25 rfl rfl (take_ofW HT_.out HW_.out (by kernel_rfl)) (fun _ _ _ h => h) (Or.inl ⟨by rfl, ?_⟩) hHeld ?_ ?_
      rotate_left
      · rintro w' ⟨s0, s1, s2⟩
        go_simp
        with_reducible rfl
      rotate_left
      · simp only [Act.put, List.setIfInBounds_toArray, List.set_cons_zero, List.set_cons_succ, i64_w, i32_w]
        rfl
      refine last_ (i := 6) (N := some 32) marksMl_26 rfl rfl (one_of HT_.out (by kernel_rfl)) (by decide) (fun K hK => ?_)
      refine goes_ Tryd.func36 (by kernel_rfl) rfl #[.slice A T.ops.length c, .agg #[.int .i64 o.f1.f0, .int .i64 o.f1.f1], .func (.func 37) #[] #[]] (by rfl) rfl rfl (by simp only [List.map_toArray, List.map_cons, List.map_nil]; rfl) ?_
      with_reducible refine (searchB A c T.ops o.f1 q fd _ (Kd.C_below HCC.out HBe.out) HRK.out HFD.out HSR.out (by have := HGD.out.len; omega)).mono ?_
      rintro e w5 ⟨rfl, hd⟩
      refine ⟨_, rfl, ?_⟩
      have HB5 := Aside0.mk (below_step HBe.out hd)
      have HT5 := Aside0.mk (HTe.out.below hd)
      have BK5 := Aside0.mk (blk_below BKe.out hd)
      clear hd
      refine hK.out _ _ ?_
      clear hK K
      refine norm_ (a' := ?_) ?_ ?_
      rotate_left
      · show Act.put _ (some 32) _ = _
        simp only [Act.put, List.setIfInBounds_toArray, List.set_cons_zero, List.set_cons_succ, i64_w, i32_w]
        rfl
      refine pureQ (i := 7) (N := some 25) marksMl_27 (any_of HT_.out (by kernel_rfl)) ?_
      refine pureQ (i := 8) (N := some 33) marksMl_28 (any_of HT_.out (by kernel_rfl)) ?_
      refine pureQ (i := 9) (N := some 34) marksMl_29 (any_of HT_.out (by kernel_rfl)) ?_
      refine pureQ (i := 10) (N := some 5) marksMl_30 (any_of HT_.out (by kernel_rfl)) ?_
      refine pureQ (i := 11) (N := some 6) marksMl_31 (any_of HT_.out (by kernel_rfl)) ?_
      refine done_ (done_of HT_.out (by kernel_rfl)) ?_

-- REGION END
      cases fd with
      | true =>
        go_wp2
        go_ret
        exact Applies.same HT5.out HGD.out HB5.out (by unfold putO; rw [if_neg (by rw [HBB.out]; decide), if_pos HFD.out])
      | false =>
        obtain ⟨z0, z1, z2, z3, z4, z5, z6, z7, z8⟩ := Y9 BK5.out
        obtain ⟨fl, hfl⟩ : ∃ fl, fullB T o = fl := ⟨_, rfl⟩
        have HFL := Aside0.mk hfl
        clear hfl
        cases fl with
        | true =>
          go_wp2_with (go_at_call 39; refine (full_calls _ B g f n _ T o HT5.out (by have := HGD.out.fl; omega) (by have := HGD.out.len; omega)).mono ?_; rw [HFL.out]; rintro e w6 ⟨rfl, hd⟩; have HB6 := Aside0.mk (below_step HB5.out hd); have HT6 := Aside0.mk (HT5.out.below hd); clear hd)
          go_ret
          exact Applies.same HT6.out HGD.out HB6.out (by unfold putO; rw [if_neg (by rw [HBB.out]; decide), if_neg (by rw [HFD.out]; decide), if_pos HFL.out])
        | false =>
          go_wp2_with (go_at_call 39; refine (full_calls _ B g f n _ T o HT5.out (by have := HGD.out.fl; omega) (by have := HGD.out.len; omega)).mono ?_; rw [HFL.out]; rintro e w6 ⟨rfl, hd⟩; have HB6 := Aside0.mk (below_step HB5.out hd); have HT6 := Aside0.mk (HT5.out.below hd); have BK6 := Aside0.mk (blk_below BK5.out hd); clear hd)
          clear z0 z1 z2 z3 z4 z5 z6 z7 z8
          obtain ⟨z0, z1, z2, z3, z4, z5, z6, z7, z8⟩ := Y9 BK6.out
          obtain ⟨y0, y1, y2, y3, y4⟩ := Y5 HT6.out.blk
          go_upto_region 8 with fail
          clear z0 z1 z2 z3 z4 z5 z6 z7 z8 y0 y1 y2 y3 y4
          have BKf := Aside0.mk (show w6.drew.heap[w.heap.size]? = _ from BK6.out)
          have HBf := Aside0.mk HB6.out.drew
          have HTf := Aside0.mk (HT6.out.below (Below.refl _ _).drew)
          have HNV := Aside0.mk (show (Value.slice A T.ops.length c).ownBlock ≠ some w6.heap.size from fun e => absurd (HTf.out.ops.own_lt _ e) (by show ¬ w6.heap.size < w6.heap.size; omega))
          have HSW := Aside0.mk (show B ≤ (w6.alloc (.cells #[.int .i64 o.f0, .int .i64 o.f1.f0, .int .i64 o.f1.f1, .int .i64 o.f2.f0, .int .i64 o.f2.f1, .int .i64 o.f3.f0, .int .i64 o.f3.f1, .string o.f4, .string o.f5] 28)).drew.heap.size by have h1 := HTf.out.bg; have h2 := blk_here HTf.out.blk; have h3 : w6.drew.heap.size = w6.heap.size := rfl; simp; omega)
          -- REGION 8 BEGIN
          refine start_ (n := 12) (S := fun w' => w'.cell? ⟨w.heap.size, 0, none⟩ = some (.int .i64 o.f0) ∧ w'.cell? ⟨w.heap.size, 1, none⟩ = some (.int .i64 o.f1.f0) ∧ w'.cell? ⟨w.heap.size, 2, none⟩ = some (.int .i64 o.f1.f1) ∧ w'.cell? ⟨w.heap.size, 3, none⟩ = some (.int .i64 o.f2.f0) ∧ w'.cell? ⟨w.heap.size, 4, none⟩ = some (.int .i64 o.f2.f1) ∧ w'.cell? ⟨w.heap.size, 5, none⟩ = some (.int .i64 o.f3.f0) ∧ w'.cell? ⟨w.heap.size, 6, none⟩ = some (.int .i64 o.f3.f1) ∧ w'.cell? ⟨w.heap.size, 7, none⟩ = some (.string o.f4) ∧ w'.cell? ⟨w.heap.size, 8, none⟩ = some (.string o.f5) ∧ w'.cell? ⟨g, 2, none⟩ = some (.slice A T.ops.length c)) (ds := [8, 11]) marksMl_19 (by kernel_rfl) rfl rfl ⟨(blk_cell BKf.out 0), (blk_cell BKf.out 1), (blk_cell BKf.out 2), (blk_cell BKf.out 3), (blk_cell BKf.out 4), (blk_cell BKf.out 5), (blk_cell BKf.out 6), (blk_cell BKf.out 7), (blk_cell BKf.out 8), (blk_cell HTf.out.blk 2)⟩ (fun hHeld => ?_)
          refine with_tabW apply_.tab8 apply_.bits8 (fun HT_ HW_ => ?_)
          refine pureQ (i := 0) (N := some 41) marksMl_20 (any_of HT_.out (by kernel_rfl)) ?_
          refine pureQ (i := 1) (N := some 42) marksMl_21 (any_of HT_.out (by kernel_rfl)) ?_
          refine pureQ (i := 2) (N := some 43) marksMl_22 (any_of HT_.out (by kernel_rfl)) ?_
          refine pureQ (i := 3) (N := some 44) marksMl_32 (any_of HT_.out (by kernel_rfl)) ?_
          refine pureQ (i := 5) (N := some 46) marksMl_33 (any_of HT_.out (by kernel_rfl)) ?_
          refine take_ (i := 4) (N := some 45) (v := ?_) (a' := ?_) marksMl_25 rfl rfl (take_ofW HT_.out HW_.out (by kernel_rfl)) (fun _ _ _ h => h) (Or.inl ⟨by rfl, ?_⟩) hHeld ?_ ?_
          rotate_left
          · rintro w' ⟨s0, s1, s2, s3, s4, s5, s6, s7, s8, s9⟩
            go_simp
            with_reducible rfl
          rotate_left
          · simp only [Act.put, List.setIfInBounds_toArray, List.set_cons_zero, List.set_cons_succ, i64_w, i32_w]
            rfl
          refine take_ (i := 6) (N := some 47) (v := ?_) (a' := ?_) marksMl_26 rfl rfl (take_ofW HT_.out HW_.out (by kernel_rfl)) (fun _ _ _ h => h) (Or.inl ⟨by rfl, ?_⟩) hHeld ?_ ?_
          rotate_left
          · rintro w' ⟨s0, s1, s2, s3, s4, s5, s6, s7, s8, s9⟩
            go_simp
            with_reducible rfl
          rotate_left
          · simp only [Act.put, List.setIfInBounds_toArray, List.set_cons_zero, List.set_cons_succ, i64_w, i32_w]
            rfl
          refine one_ (i := 7) (N := some 48) marksMl_27 rfl rfl (one_of HT_.out (by kernel_rfl)) (by decide) (fun K hK => ?_)
          refine value_ (w1 := ?_) (v := ?_) (by rfl) rfl ?_ ?_
          rotate_left 2
          · go_simp
            constructor
            · rfl
            · rfl
          have BKv := Aside0.mk (show (w6.alloc (.cells #[.int .i64 o.f0, .int .i64 o.f1.f0, .int .i64 o.f1.f1, .int .i64 o.f2.f0, .int .i64 o.f2.f1, .int .i64 o.f3.f0, .int .i64 o.f3.f1, .string o.f4, .string o.f5] 28)).drew.heap[w6.heap.size]? = some (.cells #[.int .i64 o.f0, .int .i64 o.f1.f0, .int .i64 o.f1.f1, .int .i64 o.f2.f0, .int .i64 o.f2.f1, .int .i64 o.f3.f0, .int .i64 o.f3.f1, .string o.f4, .string o.f5] 28 (0, 0)) from heap_alloc_new w6 _)
          have BLv := Aside0.mk (show Below w6.drew.heap.size w6.drew (w6.alloc (.cells #[.int .i64 o.f0, .int .i64 o.f1.f0, .int .i64 o.f1.f1, .int .i64 o.f2.f0, .int .i64 o.f2.f1, .int .i64 o.f3.f0, .int .i64 o.f3.f1, .string o.f4, .string o.f5] 28)).drew from below_new w6 _)
          have BKw := Aside0.mk (blk_below BKf.out BLv.out)
          have HTw := Aside0.mk (HTf.out.below BLv.out)
          have HBw := Aside0.mk (below_step HBf.out BLv.out)
          refine hK.out _ _ ⟨(blk_cell BKw.out 0), (blk_cell BKw.out 1), (blk_cell BKw.out 2), (blk_cell BKw.out 3), (blk_cell BKw.out 4), (blk_cell BKw.out 5), (blk_cell BKw.out 6), (blk_cell BKw.out 7), (blk_cell BKw.out 8), (blk_cell HTw.out.blk 2)⟩ (fun hHeld => ?_)
          clear hK K
          refine norm_ (a' := ?_) ?_ ?_
          rotate_left
          · show Act.put _ (some 48) _ = _
            simp only [Act.put, List.setIfInBounds_toArray, List.set_cons_zero, List.set_cons_succ, i64_w, i32_w]
            rfl
          refine last_ (i := 8) (N := some 49) marksMl_28 rfl rfl (one_of HT_.out (by kernel_rfl)) (by decide) (fun K hK => ?_)
          refine goes_ Tryd.func40 (by kernel_rfl) rfl #[.slice A T.ops.length c, .int .i64 (q : Int), .slice (some ⟨w6.heap.size, 0, none⟩) 1 1] (by rfl) rfl rfl (by simp only [List.map_toArray, List.map_cons, List.map_nil]; rfl) ?_
          with_reducible refine (insertB _ B _ T.ops q o w6.heap.size HTw.out.ops HRK.out BKv.out HGD.out.len HNV.out HSW.out).mono ?_
          rintro e w7 ⟨s7, rfl, h1, h2, h3⟩
          obtain ⟨A7, c7, hv7, _, _⟩ := Kd.R_reads h1
          subst hv7
          refine ⟨_, rfl, ?_⟩
          have HI := Aside0.mk h1
          have HS7 := Aside0.mk h2
          have HW7 := Aside0.mk h3
          have TB7 := Aside0.mk (h2.blk HTw.out.blk (HTw.out.ops.own_ne HTw.out.blk))
          obtain ⟨u0, u1, u2, u3, u4, u5, u6, u7, u8, u9⟩ := Z5 TB7.out
          clear h1 h2 h3
          refine hK.out _ _ ?_
          clear hK K
          refine norm_ (a' := ?_) ?_ ?_
          rotate_left
          · show Act.put _ (some 49) _ = _
            simp only [Act.put, List.setIfInBounds_toArray, List.set_cons_zero, List.set_cons_succ, i64_w, i32_w]
            rfl
          refine pureQ (i := 9) (N := some 50) marksMl_29 (any_of HT_.out (by kernel_rfl)) ?_
          refine pureQ (i := 10) (N := some 51) marksMl_30 (any_of HT_.out (by kernel_rfl)) ?_
          refine last_ (i := 11) (N := none) marksMl_31 rfl rfl (one_of HT_.out (by kernel_rfl)) (by decide) (fun K hK => ?_)
          refine skip_ (w1 := ?_) (by rfl) rfl ?_ ?_
          rotate_left
          · go_simp
            rfl
          refine hK.out _ _ ?_
          clear hK K
          refine done_ (done_of HT_.out (by kernel_rfl)) ?_

-- REGION END
          have HT8 := Aside0.mk (HTw.out.puts HS7.out HI.out)
          have BK8 := Aside0.mk (((Stay.cell w7 ⟨g, 2, none⟩ (.slice A7 (insO T.ops o).length c7)).blk (HS7.out.blk BKw.out (fun e => absurd (HOL.out _ e) (Nat.lt_irrefl _))) (fun e => absurd (e ▸ HGW.out) (Nat.lt_irrefl _))))
          have HS8 := Aside0.mk (((Stay.of HBw.out (foot g f n (.slice A T.ops.length c))).trans HS7.out (fun k hk => .inl (.inr (.inr (.inr hk))))).trans (Stay.cell w7 ⟨g, 2, none⟩ (.slice A7 (insO T.ops o).length c7)) (fun k hk => .inl (.inl hk)))
          generalize w7.setCell ⟨g, 2, none⟩ (.slice A7 (insO T.ops o).length c7) = w8 at HT8 BK8 HS8 ⊢
          have HW8 := Aside0.mk (show ∀ k, (Value.slice A7 (insO T.ops o).length c7).ownBlock = some k → (Value.slice A T.ops.length c).ownBlock = some k ∨ w.heap.size ≤ k from fun k hk => (HW7.out k hk).imp id (fun h => Nat.le_trans HBw.out.size h))
          have hfl : T.ops.length < 512 := by
            have h1 := HFL.out
            unfold fullB at h1
            rw [Bool.or_eq_false_iff] at h1
            have := of_decide_eq_false h1.1
            omega
          have HN8 := Aside0.mk (show (insO T.ops o).length = T.ops.length + 1 from insO_length _ _)
          have hN : (insO T.ops o).length ≤ 1000 := by have := HN8.out; omega
          have hN1 : 0 < (insO T.ops o).length := by have := HN8.out; omega
          have HOA := Aside0.mk (show ∀ x ∈ insO T.ops o, OpOk x from fun x hx => ((insO_mem _ _ _).1 hx).elim (fun e => e.symm ▸ HOZ.out) (fun h => HGD.out.ok x h))
          clear u0 u1 u2 u3 u4 u5 u6 u7 u8 u9 hfl
          obtain ⟨z0, z1, z2, z3, z4, z5, z6, z7, z8⟩ := Y9 BK8.out
          obtain ⟨y0, y1, y2, y3, y4⟩ := Y5 HT8.out.blk
          by_cases hq : q = T.ops.length
          · have dq : ((q : Int) == (((insO T.ops o).length : Nat) : Int) - 1) = true := beq_iff_eq.mpr (by have := HN8.out; omega)
            have HQ := Aside0.mk hq
            clear hq
            go_upto_region 10 with fail
            go_still_tail 5, (by kernel_rfl)
            go_wp2_with (go_at_call 41; refine (do_calls HGD.out.rooted (HOZ.out) n _ (HT8.out.now.below (Below.refl _ _).drew)).mono ?_; rintro e w9 ⟨rfl, hl, hs⟩; have HT9 := Aside0.mk ((HT8.out.below (Below.refl _ _).drew).turn hs hl); have HS9 := Aside0.mk ((HS8.out.below (Below.refl _ _).drew).trans hs (fun k hk => .inl (.inr (.inr (.inl hk))))); clear hl hs)
            go_ret
            exact ⟨_, _, by unfold putO; rw [if_neg (by rw [HBB.out]; decide), if_neg (by rw [HFD.out]; decide), if_neg (by rw [HFL.out]; decide)]; rfl, HT9.out, HGD.out.put (HOZ.out) HBB.out HFD.out HFL.out (HGD.out.end (HRK.out.trans HQ.out)), rfl, rfl, by unfold putO; rw [if_neg (by rw [HBB.out]; decide), if_neg (by rw [HFD.out]; decide), if_neg (by rw [HFL.out]; decide)], HS9.out, HW8.out⟩
          · have dq : ((q : Int) == (((insO T.ops o).length : Nat) : Int) - 1) = false := beq_eq_false_iff_ne.mpr (by have := HN8.out; omega)
            clear hq
            go_wp2_with (go_at_call 42; refine (again_calls _ B g f n _ _ HT8.out HGD.out.rt HOA.out (by have := HN8.out; show (insO T.ops o).length ≤ 1000000; omega)).mono ?_; rintro e w9 ⟨rfl, ⟨l0, hp, hl⟩, hs⟩; have HP9 := Aside0.mk hp; have HT9 := Aside0.mk hl; have HS9 := Aside0.mk (HS8.out.trans hs (fun k hk => .inl (.inr (.inr (.inl hk))))); clear hp hl hs)
            go_ret
            exact ⟨_, _, by unfold putO; rw [if_neg (by rw [HBB.out]; decide), if_neg (by rw [HFD.out]; decide), if_neg (by rw [HFL.out]; decide)]; rfl, HT9.out, HGD.out.put (HOZ.out) HBB.out HFD.out HFL.out ⟨l0, HP9.out, rfl⟩, rfl, rfl, by unfold putO; rw [if_neg (by rw [HBB.out]; decide), if_neg (by rw [HFD.out]; decide), if_neg (by rw [HFL.out]; decide)], HS9.out, HW8.out⟩
  · have d0 : (r == 0) = false := beq_eq_false_iff_ne.mpr hr
    have d1 : (r != 0) = true := by simp [bne, d0]
    go_enter Tryd.func14, Tryd.ntmps14
    go_upto_region 1 with fail
    -- REGION 1A BEGIN
    refine start_ (n := 18) (S := fun w' => w'.cell? ⟨w.heap.size, 0, none⟩ = some (.int .i64 o.f0) ∧ w'.cell? ⟨w.heap.size, 1, none⟩ = some (.int .i64 o.f1.f0) ∧ w'.cell? ⟨w.heap.size, 2, none⟩ = some (.int .i64 o.f1.f1) ∧ w'.cell? ⟨w.heap.size, 3, none⟩ = some (.int .i64 o.f2.f0) ∧ w'.cell? ⟨w.heap.size, 4, none⟩ = some (.int .i64 o.f2.f1) ∧ w'.cell? ⟨w.heap.size, 5, none⟩ = some (.int .i64 o.f3.f0) ∧ w'.cell? ⟨w.heap.size, 6, none⟩ = some (.int .i64 o.f3.f1) ∧ w'.cell? ⟨w.heap.size, 7, none⟩ = some (.string o.f4) ∧ w'.cell? ⟨w.heap.size, 8, none⟩ = some (.string o.f5) ∧ w'.cell? ⟨g, 3, none⟩ = some (.int .i64 T.base.f0) ∧ w'.cell? ⟨g, 4, none⟩ = some (.int .i64 T.base.f1)) (ds := [5]) marksMl_0 (by kernel_rfl) rfl rfl ⟨(blk_cell BKd.out 0), (blk_cell BKd.out 1), (blk_cell BKd.out 2), (blk_cell BKd.out 3), (blk_cell BKd.out 4), (blk_cell BKd.out 5), (blk_cell BKd.out 6), (blk_cell BKd.out 7), (blk_cell BKd.out 8), (blk_cell HTd.out.blk 3), (blk_cell HTd.out.blk 4)⟩ (fun hHeld => ?_)
    refine with_tabW apply_.tab1 apply_.bits1 (fun HT_ HW_ => ?_)
    refine pureQ (i := 0) (N := some 7) marksMl_1 (any_of HT_.out (by kernel_rfl)) ?_
    refine one_ (i := 1) (N := some 8) marksMl_2 rfl rfl (one_of HT_.out (by kernel_rfl)) (by decide) (fun K hK => ?_)
    refine goes_ Tryd.func34 (by kernel_rfl) rfl #[.pointer (some ⟨g, 0, none⟩)] (by rfl) rfl rfl (by simp only [List.map_toArray, List.map_cons, List.map_nil]; rfl) ?_
    with_reducible refine (given_calls _ B g f n _ T HTd.out).mono ?_
    rintro e w3 ⟨rfl, rfl⟩
    refine ⟨_, rfl, ?_⟩
    refine hK.out _ _ ⟨(blk_cell BKd.out 0), (blk_cell BKd.out 1), (blk_cell BKd.out 2), (blk_cell BKd.out 3), (blk_cell BKd.out 4), (blk_cell BKd.out 5), (blk_cell BKd.out 6), (blk_cell BKd.out 7), (blk_cell BKd.out 8), (blk_cell HTd.out.blk 3), (blk_cell HTd.out.blk 4)⟩ (fun hHeld => ?_)
    clear hK K
    refine norm_ (a' := ?_) ?_ ?_
    rotate_left
    · show Act.put _ (some 8) _ = _
      simp only [Act.put, List.setIfInBounds_toArray, List.set_cons_zero, List.set_cons_succ, i64_w, i32_w]
      rfl
    refine pureQ (i := 2) (N := some 9) marksMl_3 (any_of HT_.out (by kernel_rfl)) ?_
    refine pureQ (i := 3) (N := some 10) marksMl_4 (any_of HT_.out (by kernel_rfl)) ?_
    refine take_ (i := 4) (N := some 11) (v := ?_) (a' := ?_) marksMl_5 rfl rfl (take_ofW HT_.out HW_.out (by kernel_rfl)) (fun _ _ _ h => h) (Or.inl ⟨by rfl, ?_⟩) hHeld ?_ ?_
    rotate_left
    · rintro w' ⟨s0, s1, s2, s3, s4, s5, s6, s7, s8, s9, s10⟩
      go_simp
      with_reducible rfl
    rotate_left
    · simp only [Act.put, List.setIfInBounds_toArray, List.set_cons_zero, List.set_cons_succ, i64_w, i32_w]
      rfl
    refine last_ (i := 5) (N := some 12) marksMl_6 rfl rfl (one_of HT_.out (by kernel_rfl)) (by decide) (fun K hK => ?_)
    refine goes_ Tryd.func22 (by kernel_rfl) rfl #[.agg #[.int .i64 o.f0, .int .i64 o.f1.f0, .int .i64 o.f1.f1, .int .i64 o.f2.f0, .int .i64 o.f2.f1, .int .i64 o.f3.f0, .int .i64 o.f3.f1, .string o.f4, .string o.f5]] (by rfl) rfl rfl (by simp only [List.map_toArray, List.map_cons, List.map_nil]; rfl) ?_
    with_reducible refine (tree_Check.calls k _ _ _ _ _ _ _ _ _ r _ HC.out HLd.out).mono ?_
    rintro e w3 ⟨rfl, hd⟩
    refine ⟨_, rfl, ?_⟩
    have HB3 := Aside0.mk (below_step HBd.out hd)
    have HT3 := Aside0.mk (HTd.out.below hd)
    have BK3 := Aside0.mk (blk_below BKd.out hd)
    clear hd
    refine hK.out _ _ ?_
    clear hK K
    refine norm_ (a' := ?_) ?_ ?_
    rotate_left
    · show Act.put _ (some 12) _ = _
      simp only [Act.put, List.setIfInBounds_toArray, List.set_cons_zero, List.set_cons_succ, i64_w, i32_w]
      rfl
    refine pureQ (i := 6) (N := some 13) marksMl_7 (any_of HT_.out (by kernel_rfl)) ?_
    refine pureQ (i := 7) (N := some 14) marksMl_8 (any_of HT_.out (by kernel_rfl)) ?_
    refine pureQ (i := 8) (N := some 15) marksMl_9 (any_of HT_.out (by kernel_rfl)) ?_
    refine pure_ (i := 9) (N := some 16) (v := undef) (a' := ?_) marksMl_10 rfl rfl (any_of HT_.out (by kernel_rfl)) (fun _ _ _ h => h) (Or.inr ⟨by rfl, rfl⟩) ?_ ?_
    rotate_left
    · simp only [Act.put, List.setIfInBounds_toArray, List.set_cons_zero, List.set_cons_succ, i64_w, i32_w]
      rfl
    refine pure_ (i := 10) (N := some 17) (v := undef) (a' := ?_) marksMl_11 rfl rfl (any_of HT_.out (by kernel_rfl)) (fun _ _ _ h => h) (Or.inr ⟨by rfl, rfl⟩) ?_ ?_
    rotate_left
    · simp only [Act.put, List.setIfInBounds_toArray, List.set_cons_zero, List.set_cons_succ, i64_w, i32_w]
      rfl
    refine pure_ (i := 11) (N := some 18) (v := undef) (a' := ?_) marksMl_12 rfl rfl (any_of HT_.out (by kernel_rfl)) (fun _ _ _ h => h) (Or.inr ⟨by rfl, rfl⟩) ?_ ?_
    rotate_left
    · simp only [Act.put, List.setIfInBounds_toArray, List.set_cons_zero, List.set_cons_succ, i64_w, i32_w]
      rfl
    refine pure_ (i := 12) (N := some 19) (v := undef) (a' := ?_) marksMl_34 rfl rfl (any_of HT_.out (by kernel_rfl)) (fun _ _ _ h => h) (Or.inr ⟨by rfl, rfl⟩) ?_ ?_
    rotate_left
    · simp only [Act.put, List.setIfInBounds_toArray, List.set_cons_zero, List.set_cons_succ, i64_w, i32_w]
      rfl
    refine pure_ (i := 13) (N := some 20) (v := undef) (a' := ?_) marksMl_14 rfl rfl (any_of HT_.out (by kernel_rfl)) (fun _ _ _ h => h) (Or.inr ⟨by rfl, rfl⟩) ?_ ?_
    rotate_left
    · simp only [Act.put, List.setIfInBounds_toArray, List.set_cons_zero, List.set_cons_succ, i64_w, i32_w]
      rfl
    refine pure_ (i := 14) (N := some 21) (v := undef) (a' := ?_) marksMl_15 rfl rfl (any_of HT_.out (by kernel_rfl)) (fun _ _ _ h => h) (Or.inr ⟨by rfl, rfl⟩) ?_ ?_
    rotate_left
    · simp only [Act.put, List.setIfInBounds_toArray, List.set_cons_zero, List.set_cons_succ, i64_w, i32_w]
      rfl
    refine pure_ (i := 15) (N := some 22) (v := undef) (a' := ?_) marksMl_16 rfl rfl (any_of HT_.out (by kernel_rfl)) (fun _ _ _ h => h) (Or.inr ⟨by rfl, rfl⟩) ?_ ?_
    rotate_left
    · simp only [Act.put, List.setIfInBounds_toArray, List.set_cons_zero, List.set_cons_succ, i64_w, i32_w]
      rfl
    refine pure_ (i := 16) (N := some 23) (v := undef) (a' := ?_) marksMl_17 rfl rfl (any_of HT_.out (by kernel_rfl)) (fun _ _ _ h => h) (Or.inr ⟨by rfl, rfl⟩) ?_ ?_
    rotate_left
    · simp only [Act.put, List.setIfInBounds_toArray, List.set_cons_zero, List.set_cons_succ, i64_w, i32_w]
      rfl
    refine pureQ (i := 17) (N := some 24) marksMl_18 (any_of HT_.out (by kernel_rfl)) ?_
    refine done_ (done_of HT_.out (by kernel_rfl)) ?_

-- REGION END
    go_wp2
    go_ret
    exact Applies.same HT3.out HGD.out HB3.out (by unfold putO; rw [if_pos (by rw [d0]; rfl)])
end Go.Proofs.YtiffeljmeahmkaaDoor.S
