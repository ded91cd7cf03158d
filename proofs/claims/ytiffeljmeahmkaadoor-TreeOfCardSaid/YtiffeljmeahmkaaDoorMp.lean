/- Compact, as the machine walks it. -/
import Derived.Test.YtiffeljmeahmkaaDoorMM
namespace Go.Proofs.YtiffeljmeahmkaaDoor.S
open Go.RowKit Go.Proofs.YtiffeljmeahmkaaDoorW.PrintWords Go.Proofs.YtiffeljmeahmkaaDoorW.PrintLast Go.Proofs.YtiffeljmeahmkaaDoorW.PrintMore
set_option linter.unusedVariables false
set_option linter.unusedSimpArgs false
attribute [local go_sem high] mEq field_par
-- TABLE BEGIN
abbrev marksMp_0 : Array Bool := #[false, false, false, false, false, false, false, false, false, false, false, false, false, false, false, false, false, false, false, false]
abbrev marksMp_1 : Array Bool := #[true, false, false, false, false, false, false, false, false, false, false, false, false, false, false, false, false, false, false, false]
abbrev marksMp_2 : Array Bool := #[true, true, false, false, false, false, false, false, false, false, false, false, false, false, false, false, false, false, false, false]
abbrev marksMp_3 : Array Bool := #[true, true, true, false, false, false, false, false, false, false, false, false, false, false, false, false, false, false, false, false]
abbrev marksMp_4 : Array Bool := #[true, true, true, true, false, false, false, false, false, false, false, false, false, false, false, false, false, false, false, false]
abbrev marksMp_5 : Array Bool := #[true, true, true, true, true, false, false, false, false, false, false, false, false, false, false, false, false, false, false, false]
abbrev marksMp_6 : Array Bool := #[true, true, true, true, true, true, false, false, false, false, false, false, false, false, false, false, false, false, false, false]
abbrev marksMp_7 : Array Bool := #[true, true, true, true, true, true, true, false, false, false, false, false, false, false, false, false, false, false, false, false]
abbrev marksMp_8 : Array Bool := #[true, true, true, true, true, true, true, true, false, false, false, false, false, false, false, false, false, false, false, false]
abbrev marksMp_9 : Array Bool := #[true, true, true, true, true, true, true, true, false, true, false, false, false, false, false, false, false, false, false, false]
abbrev marksMp_10 : Array Bool := #[true, true, true, true, true, true, true, true, false, true, true, false, false, false, false, false, false, false, false, false]
abbrev marksMp_11 : Array Bool := #[true, true, true, true, true, true, true, true, false, true, true, true, false, false, false, false, false, false, false, false]
abbrev marksMp_12 : Array Bool := #[true, true, true, true, true, true, true, true, false, true, true, true, false, true, false, false, false, false, false, false]
abbrev marksMp_13 : Array Bool := #[true, true, true, true, true, true, true, true, true, true, true, true, false, true, false, false, false, false, false, false]
abbrev marksMp_14 : Array Bool := #[true, true, true, true, true, true, true, true, true, true, true, true, true, true, false, false, false, false, false, false]
abbrev marksMp_15 : Array Bool := #[true, true, true, true, true, true, true, true, true, true, true, true, true, true, true, false, false, false, false, false]
abbrev marksMp_16 : Array Bool := #[true, true, true, true, true, true, true, true, true, true, true, true, true, true, true, true, false, false, false, false]
abbrev marksMp_17 : Array Bool := #[true, true, true, true, true, true, true, true, true, true, true, true, true, true, true, true, true, false, false, false]
abbrev marksMp_18 : Array Bool := #[true, true, true, true, true, true, true, true, true, true, true, true, true, true, true, true, true, true, false, false]
abbrev marksMp_19 : Array Bool := #[true, true, true, true, true, true, true, true, true, true, true, true, true, true, true, true, true, true, true, false]
abbrev marksMp_20 : Array Bool := #[true, true, true, true, true, true, true, true, true, true, true, true, true, true, true, true, true, true, true, true]
abbrev marksMp_21 : Array Bool := #[true, true, true, true, true, true, true, true, true, false, false, false, false, false, false, false, false, false, false, false]
abbrev marksMp_22 : Array Bool := #[true, true, true, true, true, true, true, true, true, true, false, false, false, false, false, false, false, false, false, false]
abbrev marksMp_23 : Array Bool := #[true, true, true, true, true, true, true, true, true, true, true, false, false, false, false, false, false, false, false, false]
abbrev marksMp_24 : Array Bool := #[true, true, true, true, true, true, true, true, true, true, true, true, false, false, false, false, false, false, false, false]
abbrev marksMp_25 : Array Bool := #[true, true, true, true, true, true, true, true, true, true, true, true, true, false, false, false, false, false, false, false]
def comp_.T4 : Bool × List (List Nat × List Nat) := (true, [([], []), ([], []), ([1], [1]), ([2], [2]), ([3], [3]), ([4], [4]), ([0, 5], [0, 5]), ([6], [6]), ([7], [7]), ([7], [7]), ([9, 7], [7, 9]), ([10, 7], [7, 10]), ([11, 7], [7, 11]), ([7], [7]), ([12, 13, 7], [7, 12, 13]), ([14, 7], [7, 14]), ([15, 7], [7, 15]), ([8, 16, 7, 7], [7, 8, 16]), ([17, 7], [7, 17]), ([7, 18], [7, 18])])
def comp_.B4 : List Nat := [0, 0, 2, 6, 14, 30, 63, 127, 255, 255, 767, 1791, 3839, 255, 16127, 32511, 65279, 131071, 262143, 524287]
theorem comp_.tab4 : rtab .any (opsOf Tryd.f15 4) = comp_.T4 := by kernel_rfl
theorem comp_.bits4 : waitsOk comp_.T4.2 comp_.B4 = true := by kernel_rfl
-- TABLE END
/-- Only fixed turns. -/
theorem TreeAt.fixes {w w1 : World} {B g f n : Nat} {v : Value} {T : Tr} (h : TreeAt w B g f n v T) (hs : Stay w w1 (· = f)) {l : List Nod} (hl : Lies w1 f l) : TreeAt w1 B g f n v { T with fixed := l } :=
  ⟨hs.blk h.blk h.gf, hl, h.now.stay hs (fun e => h.ne e.symm), h.ops.stay hs (fun k hk e => by subst e; exact h.ops.own_map h.fix hk), h.ne, h.bg, h.bf, h.bn⟩
/-- The base is put anew. -/
theorem TreeAt.bases {w : World} {B g f n : Nat} {v : Value} {T : Tr} (h : TreeAt w B g f n v T) (s : Stp) : TreeAt ((w.setCell ⟨g, 3, none⟩ (.int .i64 s.f0)).setCell ⟨g, 4, none⟩ (.int .i64 s.f1)) B g f n v { T with base := s } := by
  have hc := (Stay.cell w ⟨g, 3, none⟩ (.int .i64 s.f0)).trans (Stay.cell _ ⟨g, 4, none⟩ (.int .i64 s.f1)) (fun k hk => .inl hk)
  exact ⟨blk_set (blk_set h.blk 3 _) 4 _, h.fix.stay hc (fun e => h.gf e.symm), h.now.stay hc (fun e => h.gn e.symm), h.ops.stay hc (fun k hk e => by subst e; exact h.ops.own_ne h.blk hk), h.ne, h.bg, h.bf, h.bn⟩
theorem OpsAt.reads {w : World} {B : Nat} {A : Option Addr} {c : Nat} {l : List Opn} (h : OpsAt w B (.slice A l.length c) l) : Kd.C k28 w A l.length l := by
  obtain ⟨A', c', e, _, hC⟩ := Kd.R_reads h
  cases e
  exact hC
theorem upN_yes {T : Tr} {s : Stp} {x : Int} (h0 : 0 ≤ x) (h1 : x < T.ops.length) (hu : x ≤ (upN T.ops s : Int)) (hb : lessB s (rd_T28 T.ops x).f1 = false) : x + 1 ≤ (upN T.ops s : Int) := by
  obtain ⟨k, hk, rfl, e⟩ := rd_is T.ops x h0 h1
  rw [e] at hb
  have := (upN_at T.ops s k hk (by omega)).1 hb
  omega
theorem upN_no {T : Tr} {s : Stp} {x : Int} (h0 : 0 ≤ x) (h1 : x < T.ops.length) (hu : x ≤ (upN T.ops s : Int)) (hb : lessB s (rd_T28 T.ops x).f1 = true) : x = (upN T.ops s : Int) := by
  obtain ⟨k, hk, rfl, e⟩ := rd_is T.ops x h0 h1
  rw [e] at hb
  have h2 := upN_at T.ops s k hk (by omega)
  rw [hb] at h2
  have : ¬ k < upN T.ops s := fun h => absurd (h2.2 h) (by decide)
  omega
noncomputable def comped (T : Tr) (s : Stp) (r : Bool) : Tr × Int := if r = true then (compT T s, (upN T.ops s : Int)) else (T, 0)
set_option maxHeartbeats 8000000 in
set_option maxRecDepth 100000 in
theorem Compact_calls (w : World) (B g f n : Nat) (v : Value) (T : Tr) (s : Stp) (r : Bool) (h : TreeAt w B g f n v T) (hg : Good T) (hf : tree_fine.f s.f0 s.f1 = some r) :
    Calls Tryd.prog 15 #[.pointer (some ⟨g, 0, none⟩), .agg #[.int .i64 s.f0, .int .i64 s.f1]] w fun e w' => ∃ v', e = .returned (.int .i64 (comped T s r).2) ∧ TreeAt w' B g f n v' (comped T s r).1 ∧ Stay w w' (foot g f n v) ∧ (∀ k, v'.ownBlock = some k → v.ownBlock = some k) := by
  have hu := Tryd.underlying25
  have hu1 := Tryd.underlying28
  obtain ⟨A, c, hv, hc1, hCC⟩ := Kd.R_reads h.ops
  subst hv
  have HB1 := Aside0.mk (below_alloc (Below.refl w.heap.size w) (.cells #[.int .i64 s.f0, .int .i64 s.f1] 25))
  have BK1 := Aside0.mk (heap_alloc_new w (.cells #[.int .i64 s.f0, .int .i64 s.f1] 25))
  have HT1 := Aside0.mk (h.below HB1.out)
  have HGD := Aside0.mk hg
  have HF := Aside0.mk hf
  have HGW := Aside0.mk (blk_here h.blk)
  have HOL := Aside0.mk (show ∀ k, (Value.slice A T.ops.length c).ownBlock = some k → k < w.heap.size from h.ops.own_lt)
  have HFW := Aside0.mk h.fix.lt
  have hlen : T.ops.length ≤ 512 := hg.len
  clear h hg hf hc1 hCC
  cases r with
  | false =>
    go_enter Tryd.func15, Tryd.ntmps15
    go_wp2_with (first | (go_at_call 34; refine (given_calls _ B g f n _ T HT1.out).mono ?_; rintro e w1 ⟨rfl, rfl⟩) | (go_at_call 43; refine (tree_fine.calls _ _ _ _ HF.out).mono ?_; rintro e w2 ⟨rfl, hd⟩; have HB2 := Aside0.mk (below_step HB1.out hd); have HT2 := Aside0.mk (HT1.out.below hd); clear hd))
    go_ret
    exact ⟨_, rfl, HT2.out, Stay.of HB2.out _, fun _ h => h⟩
  | true =>
    go_enter Tryd.func15, Tryd.ntmps15
    go_wp2_with (first | (go_at_call 34; refine (given_calls _ B g f n _ T HT1.out).mono ?_; rintro e w1 ⟨rfl, rfl⟩) | (go_at_call 43; refine (tree_fine.calls _ _ _ _ HF.out).mono ?_; rintro e w2 ⟨rfl, hd⟩; have HB2 := Aside0.mk (below_step HB1.out hd); have HT2 := Aside0.mk (HT1.out.below hd); have BK2 := Aside0.mk (blk_below BK1.out hd); clear hd))
    have HS2 := Aside0.mk (Stay.of HB2.out (· = f))
    go_loopw [5] (fun u5 wr => ∃ x : Int, Aside0 (0 ≤ x) ∧ Aside0 (x ≤ (upN T.ops s : Int)) ∧ u5 = .int .i64 x ∧ Aside0 (TreeAt wr B g f n (.slice A T.ops.length c) { T with fixed := (T.ops.take x.toNat).foldl doN T.fixed }) ∧ Aside0 (wr.heap[w.heap.size]? = some (.cells #[.int .i64 s.f0, .int .i64 s.f1] 25 (0, 0))) ∧ Aside0 (Stay w wr (· = f))) (fun u5 _ => (T.ops.length - intOf u5).toNat)
    case atStart => exact ⟨0, ⟨Int.le_refl _⟩, ⟨by omega⟩, rfl, HT2, BK2, HS2⟩
    case round =>
      clear HS2 HT2 BK2 HB2 HT1 HB1 BK1
      obtain ⟨x, H0, H1, rfl, HT, BK, HS⟩ := hrel
      have BKd := Aside0.mk (show wr.drew.heap[w.heap.size]? = _ from BK.out)
      have HTd := Aside0.mk (HT.out.below (Below.refl _ _).drew)
      have HSd := Aside0.mk (HS.out.below (Below.refl _ _).drew)
      have h0 := H0.out
      have hup := upN_le T.ops s
      have hb5 : x ≤ 512 := by have := H1.out; omega
      by_cases hx : x < (T.ops.length : Int)
      · have b1 : decide (x < (T.ops.length : Int)) = true := decide_eq_true hx
        obtain ⟨ad, e, hx0, hx1, hx2, hx3, hx4, hx5, hx6, hx7, hx8⟩ := at_T28 HTd.out.ops.reads x h0 hx
        cases e
        have p1 := eq_true h0
        have q1 := eq_true hx
        have HX := Aside0.mk hx
        clear hx hup
        obtain ⟨b, hb⟩ : ∃ b, lessB s (rd_T28 T.ops x).f1 = b := ⟨_, rfl⟩
        have HLS := Aside0.mk (show clock_Less.f s.f0 s.f1 (rd_T28 T.ops x).f1.f0 (rd_T28 T.ops x).f1.f1 = some b from hb ▸ less_f _ _)
        have HBB := Aside0.mk hb
        clear hb
        go_upto_region 4 with fail
        -- REGION 4on BEGIN
        refine start_ (n := 20) (S := fun w' => w'.cell? ⟨w.heap.size, 0, none⟩ = some (.int .i64 s.f0) ∧ w'.cell? ⟨w.heap.size, 1, none⟩ = some (.int .i64 s.f1) ∧ w'.cell? ⟨g, 2, none⟩ = some (.slice (some ad) T.ops.length c) ∧ w'.cell? ⟨(ad.add (x.toNat * 9)).block, (ad.add (x.toNat * 9)).off + 1, none⟩ = some (.int .i64 (rd_T28 T.ops x).f1.f0) ∧ w'.cell? ⟨(ad.add (x.toNat * 9)).block, (ad.add (x.toNat * 9)).off + 2, none⟩ = some (.int .i64 (rd_T28 T.ops x).f1.f1)) (ds := [17]) marksMp_0 (by kernel_rfl) rfl rfl ⟨(blk_cell BKd.out 0), (blk_cell BKd.out 1), (blk_cell HTd.out.blk 2), hx1, hx2⟩ (fun hHeld => ?_)
        refine with_tabW comp_.tab4 comp_.bits4 (fun HT_ HW_ => ?_)
        refine pureQ (i := 0) (N := some 14) marksMp_1 (any_of HT_.out (by kernel_rfl)) ?_
        refine pureQ (i := 1) (N := some 15) marksMp_2 (any_of HT_.out (by kernel_rfl)) ?_
        refine pureQ (i := 2) (N := some 16) marksMp_3 (any_of HT_.out (by kernel_rfl)) ?_
        refine pureQ (i := 3) (N := some 17) marksMp_4 (any_of HT_.out (by kernel_rfl)) ?_
        refine take_ (i := 4) (N := some 18) (v := ?_) (a' := ?_) marksMp_5 rfl rfl (take_ofW HT_.out HW_.out (by kernel_rfl)) (fun _ _ _ h => h) (Or.inl ⟨by rfl, ?_⟩) hHeld ?_ ?_
        rotate_left
        · rintro w' ⟨s0, s1, s2, s3, s4⟩
          go_simp
          with_reducible rfl
        rotate_left
        · simp only [Act.put, List.setIfInBounds_toArray, List.set_cons_zero, List.set_cons_succ, i64_w, i32_w]
          rfl
        refine pureQ (i := 5) (N := some 19) marksMp_6 (any_of HT_.out (by kernel_rfl)) ?_
        refine pureQ (i := 6) (N := some 20) marksMp_7 (any_of HT_.out (by kernel_rfl)) ?_
        refine pureQ (i := 7) (N := some 21) marksMp_8 (any_of HT_.out (by kernel_rfl)) ?_
        refine pureQ (i := 9) (N := some 23) marksMp_9 (any_of HT_.out (by kernel_rfl)) ?_
        refine pureQ (i := 10) (N := some 24) marksMp_10 (any_of HT_.out (by kernel_rfl)) ?_
        refine pureQ (i := 11) (N := some 25) marksMp_11 (any_of HT_.out (by kernel_rfl)) ?_
        refine pureQ (i := 13) (N := some 27) marksMp_12 (any_of HT_.out (by kernel_rfl)) ?_
        refine take_ (i := 8) (N := some 22) (v := ?_) (a' := ?_) marksMp_13 rfl rfl (take_ofW HT_.out HW_.out (by kernel_rfl)) (fun _ _ _ h => h) (Or.inl ⟨by rfl, ?_⟩) hHeld ?_ ?_
        rotate_left
        · rintro w' ⟨s0, s1, s2, s3, s4⟩
          go_simp
          with_reducible rfl
        rotate_left
        · simp only [Act.put, List.setIfInBounds_toArray, List.set_cons_zero, List.set_cons_succ, i64_w, i32_w]
          rfl
        refine take_ (i := 12) (N := some 26) (v := ?_) (a' := ?_) marksMp_14 rfl rfl (take_ofW HT_.out HW_.out (by kernel_rfl)) (fun _ _ _ h => h) (Or.inl ⟨by rfl, ?_⟩) hHeld ?_ ?_
        rotate_left
        · rintro w' ⟨s0, s1, s2, s3, s4⟩
          go_simp
          with_reducible rfl
        rotate_left
        · simp only [Act.put, List.setIfInBounds_toArray, List.set_cons_zero, List.set_cons_succ, i64_w, i32_w]
          rfl
        refine pureQ (i := 14) (N := some 28) marksMp_15 (any_of HT_.out (by kernel_rfl)) ?_
        refine pureQ (i := 15) (N := some 29) marksMp_16 (any_of HT_.out (by kernel_rfl)) ?_
        refine take_ (i := 16) (N := some 30) (v := ?_) (a' := ?_) marksMp_17 rfl rfl (take_ofW HT_.out HW_.out (by kernel_rfl)) (fun _ _ _ h => h) (Or.inl ⟨by rfl, ?_⟩) hHeld ?_ ?_
        rotate_left
        · rintro w' ⟨s0, s1, s2, s3, s4⟩
          go_simp
          with_reducible rfl
        rotate_left
        · simp only [Act.put, List.setIfInBounds_toArray, List.set_cons_zero, List.set_cons_succ, i64_w, i32_w]
          rfl
        refine last_ (i := 17) (N := some 31) marksMp_18 rfl rfl (one_of HT_.out (by kernel_rfl)) (by decide) (fun K hK => ?_)
        refine goes_ Tryd.func35 (by kernel_rfl) rfl #[.agg #[.int .i64 s.f0, .int .i64 s.f1], .agg #[.int .i64 (rd_T28 T.ops x).f1.f0, .int .i64 (rd_T28 T.ops x).f1.f1]] (by rfl) rfl rfl (by simp only [List.map_toArray, List.map_cons, List.map_nil]; rfl) ?_
        with_reducible refine (clock_Less.calls _ _ _ _ b _ HLS.out).mono ?_
        rintro e w4 ⟨rfl, hd⟩
        refine ⟨_, rfl, ?_⟩
        have BK4 := Aside0.mk (blk_below BKd.out hd)
        have HT4 := Aside0.mk (HTd.out.below hd)
        have HS4 := Aside0.mk (HSd.out.below hd)
        clear hd
        refine hK.out _ _ ?_
        clear hK K
        refine norm_ (a' := ?_) ?_ ?_
        rotate_left
        · show Act.put _ (some 31) _ = _
          simp only [Act.put, List.setIfInBounds_toArray, List.set_cons_zero, List.set_cons_succ, i64_w, i32_w]
          rfl
        refine pureQ (i := 18) (N := some 32) marksMp_19 (any_of HT_.out (by kernel_rfl)) ?_
        refine pureQ (i := 19) (N := some 33) marksMp_20 (any_of HT_.out (by kernel_rfl)) ?_
        refine done_ (done_of HT_.out (by kernel_rfl)) ?_

-- REGION END
        cases b with
        | true =>
          have HXE := Aside0.mk (upN_no h0 HX.out H1.out HBB.out)
          have HTx := HT4
          have BKx := BK4
          have HSx := HS4
          clear HT BK HS HTd BKd HSd HT4 BK4 HS4 b1 p1 q1 hx0 hx1 hx2 hx3 hx4 hx5 hx6 hx7 hx8
          obtain ⟨kk, hkk⟩ : ∃ kk, kk = upN T.ops s := ⟨_, rfl⟩
          have HKK := Aside0.mk hkk
          have HTe := Aside0.mk (show TreeAt w4 B g f n (.slice (some ad) T.ops.length c) { T with fixed := (T.ops.take kk).foldl doN T.fixed } by have := HTx.out; rw [HXE.out, ← hkk] at this; exact this)
          obtain rfl : x = (kk : Int) := by rw [hkk]; exact HXE.out
          have hkl : kk ≤ T.ops.length := by rw [hkk]; exact upN_le _ _
          clear hkk HXE HTx
          obtain ⟨z0, z1, z2, z3, z4⟩ := Y5 HTe.out.blk
          go_wp2_with (go_at_call 44; refine (delete_calls _ B _ T.ops kk hkl HTe.out.ops (by omega)).mono ?_; rintro e w5 ⟨s5, rfl, h1, h2, h3⟩; obtain ⟨A5, c5, hv5, _, _⟩ := Kd.R_reads h1; subst hv5; obtain ⟨m5, hm5⟩ : ∃ m5, (T.ops.drop kk).length = m5 := ⟨_, rfl⟩; rw [hm5] at h1 h3 ⊢; clear hm5; have HI := Aside0.mk h1; have HS7 := Aside0.mk h2; have HW7 := Aside0.mk h3; have TB7 := Aside0.mk (h2.blk HTe.out.blk (HTe.out.ops.own_ne HTe.out.blk)); clear z0 z1 z2 z3 z4; obtain ⟨u0, u1, u2, u3, u4, u5, u6, u7, u8, u9⟩ := Z5 TB7.out; clear h1 h2 h3)
          have HT8 := Aside0.mk (HTe.out.puts HS7.out HI.out)
          have BK8 := Aside0.mk (((Stay.cell w5 ⟨g, 2, none⟩ (.slice A5 m5 c5)).blk (HS7.out.blk BKx.out (fun e => absurd (HOL.out _ e) (Nat.lt_irrefl _))) (fun e => absurd (e ▸ HGW.out) (Nat.lt_irrefl _))))
          have HS8 := Aside0.mk ((((HSx.out.mono (fun k hk => .inr (.inl hk)) : Stay w w4 (foot g f n (.slice (some ad) T.ops.length c)))).trans HS7.out (fun k hk => .inl (.inr (.inr (.inr hk))))).trans (Stay.cell w5 ⟨g, 2, none⟩ (.slice A5 m5 c5)) (fun k hk => .inl (.inl hk)))
          generalize w5.setCell ⟨g, 2, none⟩ (.slice A5 m5 c5) = w8 at HT8 BK8 HS8 ⊢
          clear u0 u1 u2 u3 u4 u5 u6 u7 u8 u9
          obtain ⟨z0, z1, z2, z3, z4⟩ := Y5 HT8.out.blk
          obtain ⟨y0, y1⟩ := Y2 BK8.out
          obtain ⟨lb, hlb⟩ : ∃ lb, lessB T.base s = lb := ⟨_, rfl⟩
          have HLB := Aside0.mk hlb
          have HLC := Aside0.mk (show clock_Less.f T.base.f0 T.base.f1 s.f0 s.f1 = some lb from hlb ▸ less_f _ _)
          clear hlb
          go_upto_region 8 with fail
          go_still_tail 5, (by kernel_rfl)
          have HT9 := Aside0.mk (HT8.out.below (Below.refl _ _).drew)
          have HS9 := Aside0.mk (HS8.out.below (Below.refl _ _).drew)
          have BK9 := Aside0.mk (show w8.drew.heap[w.heap.size]? = _ from BK8.out)
          cases lb with
          | false =>
            go_wp2_with (go_at_call 35; refine (clock_Less.calls _ _ _ _ false _ HLC.out).mono ?_; rintro e w9 ⟨rfl, hd⟩; have HT10 := Aside0.mk (HT9.out.below hd); have HS10 := Aside0.mk (HS9.out.below hd); clear hd)
            go_ret
            refine ⟨_, by unfold comped; rw [if_pos rfl, ← HKK.out]; rfl, ?_, HS10.out, fun k hk => HW7.out ▸ hk⟩
            have := HT10.out
            unfold comped compT
            rw [if_pos rfl, ← HKK.out, if_neg (by rw [HLB.out]; decide)]
            exact this
          | true =>
            go_wp2_with (go_at_call 35; refine (clock_Less.calls _ _ _ _ true _ HLC.out).mono ?_; rintro e w9 ⟨rfl, hd⟩; have HT10 := Aside0.mk (HT9.out.below hd); have HS10 := Aside0.mk (HS9.out.below hd); have BK10 := Aside0.mk (blk_below BK9.out hd); clear hd z0 z1 z2 z3 z4 y0 y1; obtain ⟨u0, u1, u2, u3, u4, u5, u6, u7, u8, u9⟩ := Z5 HT10.out.blk; obtain ⟨y0, y1⟩ := Y2 BK10.out)
            go_ret
            refine ⟨_, by unfold comped; rw [if_pos rfl, ← HKK.out]; rfl, ?_, (HS10.out.trans (Stay.cell _ ⟨g, 3, none⟩ _) (fun k hk => .inl (.inl hk))).trans (Stay.cell _ ⟨g, 4, none⟩ _) (fun k hk => .inl (.inl hk)), fun k hk => HW7.out ▸ hk⟩
            have := HT10.out.bases s
            unfold comped compT
            rw [if_pos rfl, ← HKK.out, if_pos HLB.out]
            exact this
        | false =>
          have HUP := Aside0.mk (upN_yes h0 HX.out H1.out HBB.out)
          clear HT BK HS HTd BKd HSd b1 hx0 hx1 hx2 hx3 hx4 hx5 hx6 hx7 hx8
          obtain ⟨ad', e', hx0, hx1, hx2, hx3, hx4, hx5, hx6, hx7, hx8⟩ := at_T28 HT4.out.ops.reads x h0 HX.out
          cases e'
          obtain ⟨z0, z1, z2, z3, z4⟩ := Y5 HT4.out.blk
          go_upto_region 5 with fail
          go_still_tail 11, (by kernel_rfl)
          go_wp2_with (go_at_call 41; refine (do_calls (fold_rooted (T.ops.take x.toNat) HGD.out.rt (fun o ho => HGD.out.ok o (List.mem_of_mem_take ho))) (HGD.out.ok _ (rd_mem T.ops x h0 HX.out)) f _ (HT4.out.fix.below (Below.refl _ _).drew)).mono ?_; rintro e w5 ⟨rfl, hl, hs⟩; have HT5 := Aside0.mk ((HT4.out.below (Below.refl _ _).drew).fixes hs hl); have HS5 := Aside0.mk ((HS4.out.below (Below.refl _ _).drew).trans hs (fun _ h => .inl h)); have BK5 := Aside0.mk (hs.blk (show w4.drew.heap[w.heap.size]? = _ from BK4.out) (fun e => absurd (e ▸ HFW.out) (Nat.lt_irrefl _))); clear hl hs z0 z1 z2 z3 z4 hx0 hx1 hx2 hx3 hx4 hx5 hx6 hx7 hx8)
          go_roundw
          case rel => exact ⟨x + 1, ⟨by omega⟩, HUP, rfl, ⟨by have := HT5.out; rw [fold_succ T.ops x h0 HX.out]; exact this⟩, BK5, HS5⟩
          case measure => have := HX.out; simp [intOf]; omega
      · have b1 : decide (x < (T.ops.length : Int)) = false := decide_eq_false hx
        have HXE := Aside0.mk (show x = (upN T.ops s : Int) by have := H1.out; omega)
        clear hx hup
        go_upto_region 4 with fail
        -- REGION 4off BEGIN
        refine start_ (n := 20) (S := fun w' => w'.cell? ⟨w.heap.size, 0, none⟩ = some (.int .i64 s.f0) ∧ w'.cell? ⟨w.heap.size, 1, none⟩ = some (.int .i64 s.f1) ∧ w'.cell? ⟨g, 2, none⟩ = some (.slice A T.ops.length c)) (ds := []) marksMp_0 (by kernel_rfl) rfl rfl ⟨(blk_cell BKd.out 0), (blk_cell BKd.out 1), (blk_cell HTd.out.blk 2)⟩ (fun hHeld => ?_)
        refine with_tabW comp_.tab4 comp_.bits4 (fun HT_ HW_ => ?_)
        refine pureQ (i := 0) (N := some 14) marksMp_1 (any_of HT_.out (by kernel_rfl)) ?_
        refine pureQ (i := 1) (N := some 15) marksMp_2 (any_of HT_.out (by kernel_rfl)) ?_
        refine pureQ (i := 2) (N := some 16) marksMp_3 (any_of HT_.out (by kernel_rfl)) ?_
        refine pureQ (i := 3) (N := some 17) marksMp_4 (any_of HT_.out (by kernel_rfl)) ?_
        refine take_ (i := 4) (N := some 18) (v := ?_) (a' := ?_) marksMp_5 rfl rfl (take_ofW HT_.out HW_.out (by kernel_rfl)) (fun _ _ _ h => h) (Or.inl ⟨by rfl, ?_⟩) hHeld ?_ ?_
        rotate_left
        · rintro w' ⟨s0, s1, s2⟩
          go_simp
          with_reducible rfl
        rotate_left
        · simp only [Act.put, List.setIfInBounds_toArray, List.set_cons_zero, List.set_cons_succ, i64_w, i32_w]
          rfl
        refine pureQ (i := 5) (N := some 19) marksMp_6 (any_of HT_.out (by kernel_rfl)) ?_
        refine pureQ (i := 6) (N := some 20) marksMp_7 (any_of HT_.out (by kernel_rfl)) ?_
        refine pureQ (i := 7) (N := some 21) marksMp_8 (any_of HT_.out (by kernel_rfl)) ?_
        refine pure_ (i := 8) (N := some 22) (v := undef) (a' := ?_) marksMp_21 rfl rfl (any_of HT_.out (by kernel_rfl)) (fun _ _ _ h => h) (Or.inr ⟨by rfl, rfl⟩) ?_ ?_
        rotate_left
        · simp only [Act.put, List.setIfInBounds_toArray, List.set_cons_zero, List.set_cons_succ, i64_w, i32_w]
          rfl
        refine pure_ (i := 9) (N := some 23) (v := undef) (a' := ?_) marksMp_22 rfl rfl (any_of HT_.out (by kernel_rfl)) (fun _ _ _ h => h) (Or.inr ⟨by rfl, rfl⟩) ?_ ?_
        rotate_left
        · simp only [Act.put, List.setIfInBounds_toArray, List.set_cons_zero, List.set_cons_succ, i64_w, i32_w]
          rfl
        refine pure_ (i := 10) (N := some 24) (v := undef) (a' := ?_) marksMp_23 rfl rfl (any_of HT_.out (by kernel_rfl)) (fun _ _ _ h => h) (Or.inr ⟨by rfl, rfl⟩) ?_ ?_
        rotate_left
        · simp only [Act.put, List.setIfInBounds_toArray, List.set_cons_zero, List.set_cons_succ, i64_w, i32_w]
          rfl
        refine pure_ (i := 11) (N := some 25) (v := undef) (a' := ?_) marksMp_24 rfl rfl (any_of HT_.out (by kernel_rfl)) (fun _ _ _ h => h) (Or.inr ⟨by rfl, rfl⟩) ?_ ?_
        rotate_left
        · simp only [Act.put, List.setIfInBounds_toArray, List.set_cons_zero, List.set_cons_succ, i64_w, i32_w]
          rfl
        refine pure_ (i := 12) (N := some 26) (v := undef) (a' := ?_) marksMp_25 rfl rfl (any_of HT_.out (by kernel_rfl)) (fun _ _ _ h => h) (Or.inr ⟨by rfl, rfl⟩) ?_ ?_
        rotate_left
        · simp only [Act.put, List.setIfInBounds_toArray, List.set_cons_zero, List.set_cons_succ, i64_w, i32_w]
          rfl
        refine pure_ (i := 13) (N := some 27) (v := undef) (a' := ?_) marksMp_14 rfl rfl (any_of HT_.out (by kernel_rfl)) (fun _ _ _ h => h) (Or.inr ⟨by rfl, rfl⟩) ?_ ?_
        rotate_left
        · simp only [Act.put, List.setIfInBounds_toArray, List.set_cons_zero, List.set_cons_succ, i64_w, i32_w]
          rfl
        refine pure_ (i := 14) (N := some 28) (v := undef) (a' := ?_) marksMp_15 rfl rfl (any_of HT_.out (by kernel_rfl)) (fun _ _ _ h => h) (Or.inr ⟨by rfl, rfl⟩) ?_ ?_
        rotate_left
        · simp only [Act.put, List.setIfInBounds_toArray, List.set_cons_zero, List.set_cons_succ, i64_w, i32_w]
          rfl
        refine pure_ (i := 15) (N := some 29) (v := undef) (a' := ?_) marksMp_16 rfl rfl (any_of HT_.out (by kernel_rfl)) (fun _ _ _ h => h) (Or.inr ⟨by rfl, rfl⟩) ?_ ?_
        rotate_left
        · simp only [Act.put, List.setIfInBounds_toArray, List.set_cons_zero, List.set_cons_succ, i64_w, i32_w]
          rfl
        refine pure_ (i := 16) (N := some 30) (v := undef) (a' := ?_) marksMp_17 rfl rfl (any_of HT_.out (by kernel_rfl)) (fun _ _ _ h => h) (Or.inr ⟨by rfl, rfl⟩) ?_ ?_
        rotate_left
        · simp only [Act.put, List.setIfInBounds_toArray, List.set_cons_zero, List.set_cons_succ, i64_w, i32_w]
          rfl
        refine pure_ (i := 17) (N := some 31) (v := undef) (a' := ?_) marksMp_18 rfl rfl (any_of HT_.out (by kernel_rfl)) (fun _ _ _ h => h) (Or.inr ⟨by rfl, rfl⟩) ?_ ?_
        rotate_left
        · simp only [Act.put, List.setIfInBounds_toArray, List.set_cons_zero, List.set_cons_succ, i64_w, i32_w]
          rfl
        refine pure_ (i := 18) (N := some 32) (v := undef) (a' := ?_) marksMp_19 rfl rfl (any_of HT_.out (by kernel_rfl)) (fun _ _ _ h => h) (Or.inr ⟨by rfl, rfl⟩) ?_ ?_
        rotate_left
        · simp only [Act.put, List.setIfInBounds_toArray, List.set_cons_zero, List.set_cons_succ, i64_w, i32_w]
          rfl
        refine pureQ (i := 19) (N := some 33) marksMp_20 (any_of HT_.out (by kernel_rfl)) ?_
        refine done_ (done_of HT_.out (by kernel_rfl)) ?_

-- REGION END
        have HTx := HTd
        have BKx := BKd
        have HSx := HSd
        clear HT BK HS HTd BKd HSd b1
        obtain ⟨kk, hkk⟩ : ∃ kk, kk = upN T.ops s := ⟨_, rfl⟩
        have HKK := Aside0.mk hkk
        have HTe := Aside0.mk (show TreeAt wr.drew B g f n (.slice A T.ops.length c) { T with fixed := (T.ops.take kk).foldl doN T.fixed } by have := HTx.out; rw [HXE.out, ← hkk] at this; exact this)
        obtain rfl : x = (kk : Int) := by rw [hkk]; exact HXE.out
        have hkl : kk ≤ T.ops.length := by rw [hkk]; exact upN_le _ _
        clear hkk HXE HTx
        obtain ⟨z0, z1, z2, z3, z4⟩ := Y5 HTe.out.blk
        go_wp2_with (go_at_call 44; refine (delete_calls _ B _ T.ops kk hkl HTe.out.ops (by omega)).mono ?_; rintro e w5 ⟨s5, rfl, h1, h2, h3⟩; obtain ⟨A5, c5, hv5, _, _⟩ := Kd.R_reads h1; subst hv5; obtain ⟨m5, hm5⟩ : ∃ m5, (T.ops.drop kk).length = m5 := ⟨_, rfl⟩; rw [hm5] at h1 h3 ⊢; clear hm5; have HI := Aside0.mk h1; have HS7 := Aside0.mk h2; have HW7 := Aside0.mk h3; have TB7 := Aside0.mk (h2.blk HTe.out.blk (HTe.out.ops.own_ne HTe.out.blk)); clear z0 z1 z2 z3 z4; obtain ⟨u0, u1, u2, u3, u4, u5, u6, u7, u8, u9⟩ := Z5 TB7.out; clear h1 h2 h3)
        have HT8 := Aside0.mk (HTe.out.puts HS7.out HI.out)
        have BK8 := Aside0.mk (((Stay.cell w5 ⟨g, 2, none⟩ (.slice A5 m5 c5)).blk (HS7.out.blk BKx.out (fun e => absurd (HOL.out _ e) (Nat.lt_irrefl _))) (fun e => absurd (e ▸ HGW.out) (Nat.lt_irrefl _))))
        have HS8 := Aside0.mk ((((HSx.out.mono (fun k hk => .inr (.inl hk)) : Stay w wr.drew (foot g f n (.slice A T.ops.length c)))).trans HS7.out (fun k hk => .inl (.inr (.inr (.inr hk))))).trans (Stay.cell w5 ⟨g, 2, none⟩ (.slice A5 m5 c5)) (fun k hk => .inl (.inl hk)))
        generalize w5.setCell ⟨g, 2, none⟩ (.slice A5 m5 c5) = w8 at HT8 BK8 HS8 ⊢
        clear u0 u1 u2 u3 u4 u5 u6 u7 u8 u9
        obtain ⟨z0, z1, z2, z3, z4⟩ := Y5 HT8.out.blk
        obtain ⟨y0, y1⟩ := Y2 BK8.out
        obtain ⟨lb, hlb⟩ : ∃ lb, lessB T.base s = lb := ⟨_, rfl⟩
        have HLB := Aside0.mk hlb
        have HLC := Aside0.mk (show clock_Less.f T.base.f0 T.base.f1 s.f0 s.f1 = some lb from hlb ▸ less_f _ _)
        clear hlb
        go_upto_region 8 with fail
        go_still_tail 5, (by kernel_rfl)
        have HT9 := Aside0.mk (HT8.out.below (Below.refl _ _).drew)
        have HS9 := Aside0.mk (HS8.out.below (Below.refl _ _).drew)
        have BK9 := Aside0.mk (show w8.drew.heap[w.heap.size]? = _ from BK8.out)
        cases lb with
        | false =>
          go_wp2_with (go_at_call 35; refine (clock_Less.calls _ _ _ _ false _ HLC.out).mono ?_; rintro e w9 ⟨rfl, hd⟩; have HT10 := Aside0.mk (HT9.out.below hd); have HS10 := Aside0.mk (HS9.out.below hd); clear hd)
          go_ret
          refine ⟨_, by unfold comped; rw [if_pos rfl, ← HKK.out]; rfl, ?_, HS10.out, fun k hk => HW7.out ▸ hk⟩
          have := HT10.out
          unfold comped compT
          rw [if_pos rfl, ← HKK.out, if_neg (by rw [HLB.out]; decide)]
          exact this
        | true =>
          go_wp2_with (go_at_call 35; refine (clock_Less.calls _ _ _ _ true _ HLC.out).mono ?_; rintro e w9 ⟨rfl, hd⟩; have HT10 := Aside0.mk (HT9.out.below hd); have HS10 := Aside0.mk (HS9.out.below hd); have BK10 := Aside0.mk (blk_below BK9.out hd); clear hd z0 z1 z2 z3 z4 y0 y1; obtain ⟨u0, u1, u2, u3, u4, u5, u6, u7, u8, u9⟩ := Z5 HT10.out.blk; obtain ⟨y0, y1⟩ := Y2 BK10.out)
          go_ret
          refine ⟨_, by unfold comped; rw [if_pos rfl, ← HKK.out]; rfl, ?_, (HS10.out.trans (Stay.cell _ ⟨g, 3, none⟩ _) (fun k hk => .inl (.inl hk))).trans (Stay.cell _ ⟨g, 4, none⟩ _) (fun k hk => .inl (.inl hk)), fun k hk => HW7.out ▸ hk⟩
          have := HT10.out.bases s
          unfold comped compT
          rw [if_pos rfl, ← HKK.out, if_pos HLB.out]
          exact this
end Go.Proofs.YtiffeljmeahmkaaDoor.S
