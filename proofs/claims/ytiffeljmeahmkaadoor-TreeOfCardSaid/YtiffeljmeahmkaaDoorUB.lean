/- The document's node: may a node be one of a snapshot's? -/
import Derived.Test.YtiffeljmeahmkaaDoorUA
import Derived.Test.YtiffeljmeahmkaaDoorRB
namespace Go.Proofs.YtiffeljmeahmkaaDoor.S
open Go.RowKit Go.Proofs.YtiffeljmeahmkaaDoorW.PrintWords Go.Proofs.YtiffeljmeahmkaaDoorW.PrintLast Go.Proofs.YtiffeljmeahmkaaDoorW.PrintMore
open Go.Proofs.YtiffeljmeahmkaaDoor.P (isName L chkO)
set_option linter.unusedVariables false
set_option linter.unusedSimpArgs false
attribute [local go_sem high] eqA25
-- TABLE BEGIN
abbrev marksUc_0 : Array Bool := #[false, false, false, false, false, false, false, false, false, false, false, false, false, false, false, false, false, false, false, false, false, false, false, false, false, false, false, false, false, false, false, false, false, false, false, false, false, false, false, false]
abbrev marksUc_1 : Array Bool := #[true, false, false, false, false, false, false, false, false, false, false, false, false, false, false, false, false, false, false, false, false, false, false, false, false, false, false, false, false, false, false, false, false, false, false, false, false, false, false, false]
abbrev marksUc_2 : Array Bool := #[true, true, false, false, false, false, false, false, false, false, false, false, false, false, false, false, false, false, false, false, false, false, false, false, false, false, false, false, false, false, false, false, false, false, false, false, false, false, false, false]
abbrev marksUc_3 : Array Bool := #[true, true, true, false, false, false, false, false, false, false, false, false, false, false, false, false, false, false, false, false, false, false, false, false, false, false, false, false, false, false, false, false, false, false, false, false, false, false, false, false]
abbrev marksUc_4 : Array Bool := #[true, true, true, true, false, false, false, false, false, false, false, false, false, false, false, false, false, false, false, false, false, false, false, false, false, false, false, false, false, false, false, false, false, false, false, false, false, false, false, false]
abbrev marksUc_5 : Array Bool := #[true, true, true, true, true, false, false, false, false, false, false, false, false, false, false, false, false, false, false, false, false, false, false, false, false, false, false, false, false, false, false, false, false, false, false, false, false, false, false, false]
abbrev marksUc_6 : Array Bool := #[true, true, true, true, true, true, false, false, false, false, false, false, false, false, false, false, false, false, false, false, false, false, false, false, false, false, false, false, false, false, false, false, false, false, false, false, false, false, false, false]
abbrev marksUc_7 : Array Bool := #[true, true, true, true, true, true, true, false, false, false, false, false, false, false, false, false, false, false, false, false, false, false, false, false, false, false, false, false, false, false, false, false, false, false, false, false, false, false, false, false]
abbrev marksUc_8 : Array Bool := #[true, true, true, true, true, true, true, true, false, false, false, false, false, false, false, false, false, false, false, false, false, false, false, false, false, false, false, false, false, false, false, false, false, false, false, false, false, false, false, false]
abbrev marksUc_9 : Array Bool := #[true, true, true, true, true, true, true, true, true, false, false, false, false, false, false, false, false, false, false, false, false, false, false, false, false, false, false, false, false, false, false, false, false, false, false, false, false, false, false, false]
abbrev marksUc_10 : Array Bool := #[true, true, true, true, true, true, true, true, true, true, false, false, false, false, false, false, false, false, false, false, false, false, false, false, false, false, false, false, false, false, false, false, false, false, false, false, false, false, false, false]
abbrev marksUc_11 : Array Bool := #[true, true, true, true, true, true, true, true, true, true, true, false, false, false, false, false, false, false, false, false, false, false, false, false, false, false, false, false, false, false, false, false, false, false, false, false, false, false, false, false]
abbrev marksUc_12 : Array Bool := #[true, true, true, true, true, true, true, true, true, true, true, true, false, false, false, false, false, false, false, false, false, false, false, false, false, false, false, false, false, false, false, false, false, false, false, false, false, false, false, false]
abbrev marksUc_13 : Array Bool := #[true, true, true, true, true, true, true, true, true, true, true, true, true, false, false, false, false, false, false, false, false, false, false, false, false, false, false, false, false, false, false, false, false, false, false, false, false, false, false, false]
abbrev marksUc_14 : Array Bool := #[true, true, true, true, true, true, true, true, true, true, true, true, true, true, false, false, false, false, false, false, false, false, false, false, false, false, false, false, false, false, false, false, false, false, false, false, false, false, false, false]
abbrev marksUc_15 : Array Bool := #[true, true, true, true, true, true, true, true, true, true, true, true, true, true, true, false, false, false, false, false, false, false, false, false, false, false, false, false, false, false, false, false, false, false, false, false, false, false, false, false]
abbrev marksUc_16 : Array Bool := #[true, true, true, true, true, true, true, true, true, true, true, true, true, true, true, true, false, false, false, false, false, false, false, false, false, false, false, false, false, false, false, false, false, false, false, false, false, false, false, false]
abbrev marksUc_17 : Array Bool := #[true, true, true, true, true, true, true, true, true, true, true, true, true, true, true, true, true, false, false, false, false, false, false, false, false, false, false, false, false, false, false, false, false, false, false, false, false, false, false, false]
abbrev marksUc_18 : Array Bool := #[true, true, true, true, true, true, true, true, true, true, true, true, true, true, true, true, true, true, false, false, false, false, false, false, false, false, false, false, false, false, false, false, false, false, false, false, false, false, false, false]
abbrev marksUc_19 : Array Bool := #[true, true, true, true, true, true, true, true, true, true, true, true, true, true, true, true, true, true, true, false, false, false, false, false, false, false, false, false, false, false, false, false, false, false, false, false, false, false, false, false]
abbrev marksUc_20 : Array Bool := #[true, true, true, true, true, true, true, true, true, true, true, true, true, true, true, true, true, true, true, true, false, false, false, false, false, false, false, false, false, false, false, false, false, false, false, false, false, false, false, false]
abbrev marksUc_21 : Array Bool := #[true, true, true, true, true, true, true, true, true, true, true, true, true, true, true, true, true, true, true, true, true, false, false, false, false, false, false, false, false, false, false, false, false, false, false, false, false, false, false, false]
abbrev marksUc_22 : Array Bool := #[true, true, true, true, true, true, true, true, true, true, true, true, true, true, true, true, true, true, true, true, true, true, false, false, false, false, false, false, false, false, false, false, false, false, false, false, false, false, false, false]
abbrev marksUc_23 : Array Bool := #[true, true, true, true, true, true, true, true, true, true, true, true, true, true, true, true, true, true, true, true, true, true, true, false, false, false, false, false, false, false, false, false, false, false, false, false, false, false, false, false]
abbrev marksUc_24 : Array Bool := #[true, true, true, true, true, true, true, true, true, true, true, true, true, true, true, true, true, true, true, true, true, true, true, true, false, false, false, false, false, false, false, false, false, false, false, false, false, false, false, false]
abbrev marksUc_25 : Array Bool := #[true, true, true, true, true, true, true, true, true, true, true, true, true, true, true, true, true, true, true, true, true, true, true, true, true, false, false, false, false, false, false, false, false, false, false, false, false, false, false, false]
abbrev marksUc_26 : Array Bool := #[true, true, true, true, true, true, true, true, true, true, true, true, true, true, true, true, true, true, true, true, true, true, true, true, true, true, false, false, false, false, false, false, false, false, false, false, false, false, false, false]
abbrev marksUc_27 : Array Bool := #[true, true, true, true, true, true, true, true, true, true, true, true, true, true, true, true, true, true, true, true, true, true, true, true, true, true, true, false, false, false, false, false, false, false, false, false, false, false, false, false]
abbrev marksUc_28 : Array Bool := #[true, true, true, true, true, true, true, true, true, true, true, true, true, true, true, true, true, true, true, true, true, true, true, true, true, true, true, true, false, false, false, false, false, false, false, false, false, false, false, false]
abbrev marksUc_29 : Array Bool := #[true, true, true, true, true, true, true, true, true, true, true, true, true, true, true, true, true, true, true, true, true, true, true, true, true, true, true, true, true, false, false, false, false, false, false, false, false, false, false, false]
abbrev marksUc_30 : Array Bool := #[true, true, true, true, true, true, true, true, true, true, true, true, true, true, true, true, true, true, true, true, true, true, true, true, true, true, true, true, true, true, false, false, false, false, false, false, false, false, false, false]
abbrev marksUc_31 : Array Bool := #[true, true, true, true, true, true, true, true, true, true, true, true, true, true, true, true, true, true, true, true, true, true, true, true, true, true, true, true, true, true, true, false, false, false, false, false, false, false, false, false]
abbrev marksUc_32 : Array Bool := #[true, true, true, true, true, true, true, true, true, true, true, true, true, true, true, true, true, true, true, true, true, true, true, true, true, true, true, true, true, true, true, true, false, false, false, false, false, false, false, false]
abbrev marksUc_33 : Array Bool := #[true, true, true, true, true, true, true, true, true, true, true, true, true, true, true, true, true, true, true, true, true, true, true, true, true, true, true, true, true, true, true, true, true, false, false, false, false, false, false, false]
abbrev marksUc_34 : Array Bool := #[true, true, true, true, true, true, true, true, true, true, true, true, true, true, true, true, true, true, true, true, true, true, true, true, true, true, true, true, true, true, true, true, true, true, false, false, false, false, false, false]
abbrev marksUc_35 : Array Bool := #[true, true, true, true, true, true, true, true, true, true, true, true, true, true, true, true, true, true, true, true, true, true, true, true, true, true, true, true, true, true, true, true, true, true, true, false, false, false, false, false]
abbrev marksUc_36 : Array Bool := #[true, true, true, true, true, true, true, true, true, true, true, true, true, true, true, true, true, true, true, true, true, true, true, true, true, true, true, true, true, true, true, true, true, true, true, true, false, false, false, false]
abbrev marksUc_37 : Array Bool := #[true, true, true, true, true, true, true, true, true, true, true, true, true, true, true, true, true, true, true, true, true, true, true, true, true, true, true, true, true, true, true, true, true, true, true, true, true, false, false, false]
abbrev marksUc_38 : Array Bool := #[true, true, true, true, true, true, true, true, true, true, true, true, true, true, true, true, true, true, true, true, true, true, true, true, true, true, true, true, true, true, true, true, true, true, true, true, true, true, false, false]
abbrev marksUc_39 : Array Bool := #[true, true, true, true, true, true, true, true, true, true, true, true, true, true, true, true, true, true, true, true, true, true, true, true, true, true, true, true, true, true, true, true, true, true, true, true, true, true, true, false]
abbrev marksUc_40 : Array Bool := #[true, true, true, true, true, true, true, true, true, true, true, true, true, true, true, true, true, true, true, true, true, true, true, true, true, true, true, true, true, true, true, true, true, true, true, true, true, true, true, true]
abbrev marksUc_41 : Array Bool := #[true, true, true, true, true, true, false, true, false, false, false, false, false, false, false, false, false, false, false, false, false, false, false, false, false, false, false, false, false, false, false, false, false, false, false, false, false, false, false, false]
abbrev marksUc_42 : Array Bool := #[true, true, true, true, true, true, true, true, true, true, true, true, true, true, true, true, true, true, true, true, true, true, true, true, true, true, true, true, false, true, false, false, false, false, false, false, false, false, false, false]
abbrev marksUc_43 : Array Bool := #[true, true, true, true, true, true, true, true, true, true, true, true, true, true, true, true, true, true, true, true, true, true, true, true, true, true, true, true, false, true, true, false, false, false, false, false, false, false, false, false]
abbrev marksUc_44 : Array Bool := #[true, true, true, true, true, true, true, true, true, true, true, true, true, true, true, true, true, true, true, true, true, true, true, true, true, true, true, true, false, true, true, false, false, false, true, false, false, false, false, false]
abbrev marksUc_45 : Array Bool := #[true, true, true, true, true, true, true, true, true, true, true, true, true, true, true, true, true, true, true, true, true, true, true, true, true, true, true, true, true, true, true, false, false, false, true, false, false, false, false, false]
abbrev marksUc_46 : Array Bool := #[true, true, true, true, true, true, true, true, true, true, true, true, true, true, true, true, true, true, true, true, true, true, true, true, true, true, true, true, true, true, true, true, false, false, true, false, false, false, false, false]
abbrev marksUc_47 : Array Bool := #[true, true, true, true, true, true, true, true, true, true, true, true, true, true, true, true, true, true, true, true, true, true, true, true, true, true, true, true, true, true, true, true, true, false, true, false, false, false, false, false]
def node_.T2 : Bool × List (List Nat × List Nat) := (true, [([], []), ([0], [0]), ([1], [1]), ([2], [2]), ([3, 2], [3]), ([4], [4]), ([5, 4], [4, 5]), ([4], [4]), ([7, 4], [4, 7]), ([6, 8, 4, 4], [4, 6, 8]), ([4, 9], [4, 9]), ([10, 9], [10]), ([11], [11]), ([12, 11], [11, 12]), ([13, 11, 11], [11, 13]), ([14, 11], [11, 14]), ([11, 15], [11, 15]), ([16, 14], [16]), ([17], [17]), ([18, 17], [17, 18]), ([19, 17], [17, 19]), ([20, 17], [17, 20]), ([17, 21], [17, 21]), ([22, 17], [22]), ([23], [23]), ([24, 23], [23, 24]), ([25, 23, 23], [23, 25]), ([26], [26]), ([27, 26], [26, 27]), ([26], [26]), ([29, 26], [26, 29]), ([28, 30, 26], [26, 28, 30]), ([31, 26], [26, 31]), ([32, 26], [26, 32]), ([26], [26]), ([34, 26], [26, 34]), ([33, 35, 26, 26], [26, 33, 35]), ([36, 26], [26, 36]), ([26, 37, 23], [23, 26, 37]), ([23, 38], [23, 38])])
def node_.B2 : List Nat := [0, 1, 3, 7, 15, 31, 63, 31, 159, 511, 1023, 2047, 4095, 8191, 16383, 32767, 65535, 131071, 262143, 524287, 1048575, 2097151, 4194303, 8388607, 16777215, 33554431, 67108863, 134217727, 268435455, 134217727, 671088639, 2147483647, 4294967295, 8589934591, 134217727, 17314086911, 68719476735, 137438953471, 274877906943, 549755813887]
theorem node_.tab2 : rtab .any (opsOf Tryd.f55 2) = node_.T2 := by kernel_rfl
theorem node_.bits2 : waitsOk node_.T2.2 node_.B2 = true := by kernel_rfl
-- TABLE END
set_option maxHeartbeats 16000000 in
set_option maxRecDepth 100000 in
theorem node_calls (w : World) (vN vO : Value) (nodes : List Nod) (ops : List Opn) (base : Stp) (x : Int) (hN : RowN w vN nodes) (hO : RowO w vO ops) (h0 : 0 ≤ x) (h1 : x < nodes.length) (hl : nodes.length ≤ 512) (hnm : ∀ m ∈ nodes, m.f2.size ≤ 200) :
    Calls Tryd.prog 55 #[.agg #[vN, vO, .int .i64 base.f0, .int .i64 base.f1], .int .i64 x] w fun e w' => e = .returned (.bool (nodeOk base nodes x && parB nodes (rd_T36 nodes x))) ∧ Below w.heap.size w w' := by
  have hu := Tryd.underlying71
  have hu1 := Tryd.underlying25
  have hu2 := Tryd.underlying36
  have HN := Aside0.mk hN
  obtain ⟨AN, cN, e, _, hCN⟩ := hN
  subst e
  obtain ⟨AO, cO, e, _, _⟩ := hO
  subst e
  obtain ⟨ad, e, _⟩ := at_T36 hCN x h0 h1
  cases e
  have H0 := Aside0.mk h0
  have H1 := Aside0.mk h1
  have HLN := Aside0.mk (show nodes.length ≤ 1000000 by omega)
  have HLEN := Aside0.mk hl
  have HNM0 := Aside0.mk (show (rd_T36 nodes x).f2.size ≤ 200 by obtain ⟨i, hi, hii, e⟩ := rdn_is nodes x h0 h1; rw [e]; exact hnm _ (List.getElem_mem hi))
  have BS := Aside0.mk (heap_alloc_new w (.cells #[.slice (some ad) nodes.length cN, .slice AO ops.length cO, .int .i64 base.f0, .int .i64 base.f1] 71))
  have HB := Aside0.mk (below_alloc (Below.refl w.heap.size w) (.cells #[.slice (some ad) nodes.length cN, .slice AO ops.length cO, .int .i64 base.f0, .int .i64 base.f1] 71))
  have p1 := eq_true h0
  have q1 := eq_true h1
  obtain ⟨z, hz⟩ : ∃ z, wrap64 (x - 1) = z := ⟨_, rfl⟩
  have HZX := Aside0.mk (show z = x - 1 by rw [← hz]; unfold wrap64; omega)
  clear hCN hnm hl h0 h1
  go_enter Tryd.func55, Tryd.ntmps55
  go_upto_region 1 with fail
  generalize w.alloc (.cells #[.slice (some ad) nodes.length cN, .slice AO ops.length cO, .int .i64 base.f0, .int .i64 base.f1] 71) = wr at BS HB ⊢
  obtain ⟨z0, z1, z2, z3, zf⟩ := Z4 BS.out
  obtain ⟨ad_, e, x0, x1, x2, x3, x4, x5⟩ := at_T36 (HN.out.below HB.out).at.2.2 x H0.out H1.out
  cases e
  go_upto_region 2 with fail
  have BN := Aside0.mk (heap_alloc_new wr (.cells #[.int .i64 (rd_T36 nodes x).f0.f0, .int .i64 (rd_T36 nodes x).f0.f1, .int .i64 (rd_T36 nodes x).f1.f0, .int .i64 (rd_T36 nodes x).f1.f1, .string (rd_T36 nodes x).f2, .string (rd_T36 nodes x).f3] 36))
  replace BS := Aside0.mk (blk_below BS.out (below_alloc (Below.refl wr.heap.size wr) (.cells #[.int .i64 (rd_T36 nodes x).f0.f0, .int .i64 (rd_T36 nodes x).f0.f1, .int .i64 (rd_T36 nodes x).f1.f0, .int .i64 (rd_T36 nodes x).f1.f1, .string (rd_T36 nodes x).f2, .string (rd_T36 nodes x).f3] 36)))
  replace HB := Aside0.mk (below_alloc HB.out (.cells #[.int .i64 (rd_T36 nodes x).f0.f0, .int .i64 (rd_T36 nodes x).f0.f1, .int .i64 (rd_T36 nodes x).f1.f0, .int .i64 (rd_T36 nodes x).f1.f1, .string (rd_T36 nodes x).f2, .string (rd_T36 nodes x).f3] 36))
  generalize wr.heap.size = nb at BN ⊢
  generalize wr.alloc (.cells #[.int .i64 (rd_T36 nodes x).f0.f0, .int .i64 (rd_T36 nodes x).f0.f1, .int .i64 (rd_T36 nodes x).f1.f0, .int .i64 (rd_T36 nodes x).f1.f1, .string (rd_T36 nodes x).f2, .string (rd_T36 nodes x).f3] 36) = w5_ at BN BS HB ⊢
  clear x0 x1 x2 x3 x4 x5 z0 z1 z2 z3 zf
  replace BN := Aside0.mk (blk_below BN.out (Below.refl _ _).drew)
  replace BS := Aside0.mk (blk_below BS.out (Below.refl _ _).drew)
  replace HB := Aside0.mk HB.out.drew
  obtain ⟨b0, b1', b2, b3, b4, b5, bf⟩ := Z6 BN.out
  obtain ⟨z0, z1, z2, z3, zf⟩ := Z4 BS.out
  have HFI := Aside0.mk (P.may10_is (rd_T36 nodes x).f0.f0 (rd_T36 nodes x).f0.f1)
  have HLS := Aside0.mk (ref10_less base (rd_T36 nodes x).f0)
  have HNM := Aside0.mk (P.rcheck_is (rd_T36 nodes x).f2 400 (by have := HNM0.out; omega) (by have := HNM0.out; omega))
  cases hfi : fineB (rd_T36 nodes x).f0.f0 (rd_T36 nodes x).f0.f1 with
  | false =>
    rw [hfi] at HFI
    have HX := Aside0.mk (show (nodeOk base nodes x && parB nodes (rd_T36 nodes x)) = false by unfold nodeOk; rw [hfi]; simp)
    -- REGION R2fine BEGIN
    refine start_ (n := 40) (S := fun w' => w'.cell? ⟨nb, 0, none⟩ = some (.int .i64 (rd_T36 nodes x).f0.f0) ∧ w'.cell? ⟨nb, 1, none⟩ = some (.int .i64 (rd_T36 nodes x).f0.f1) ∧ w'.cell? ⟨nb, 2, none⟩ = some (.int .i64 (rd_T36 nodes x).f1.f0) ∧ w'.cell? ⟨nb, 3, none⟩ = some (.int .i64 (rd_T36 nodes x).f1.f1) ∧ w'.cell? ⟨nb, 4, none⟩ = some (.string (rd_T36 nodes x).f2) ∧ w'.cell? ⟨nb, 5, none⟩ = some (.string (rd_T36 nodes x).f3) ∧ w'.cell? ⟨w.heap.size, 0, none⟩ = some (.slice (some ad) nodes.length cN) ∧ w'.cell? ⟨w.heap.size, 2, none⟩ = some (.int .i64 base.f0) ∧ w'.cell? ⟨w.heap.size, 3, none⟩ = some (.int .i64 base.f1)) (ds := []) marksUc_0 (by kernel_rfl) rfl rfl ⟨(blk_cell BN.out 0), (blk_cell BN.out 1), (blk_cell BN.out 2), (blk_cell BN.out 3), (blk_cell BN.out 4), (blk_cell BN.out 5), (blk_cell BS.out 0), (blk_cell BS.out 2), (blk_cell BS.out 3)⟩ (fun hHeld => ?_)
    refine with_tabW node_.tab2 node_.bits2 (fun HT_ HW_ => ?_)
    refine pureQ (i := 0) (N := some 11) marksUc_1 (any_of HT_.out (by kernel_rfl)) ?_
    refine take_ (i := 1) (N := some 12) (v := ?_) (a' := ?_) marksUc_2 rfl rfl (take_ofW HT_.out HW_.out (by kernel_rfl)) (fun _ _ _ h => h) (Or.inl ⟨by rfl, ?_⟩) hHeld ?_ ?_
    rotate_left
    · rintro w' ⟨s0, s1, s2, s3, s4, s5, s6, s7, s8⟩
      go_simp
      with_reducible rfl
    rotate_left
    · simp only [Act.put, List.setIfInBounds_toArray, List.set_cons_zero, List.set_cons_succ, i64_w, i32_w]
      rfl
    refine one_ (i := 2) (N := some 13) marksUc_3 rfl rfl (one_of HT_.out (by kernel_rfl)) (by decide) (fun K hK => ?_)
    refine goes_ Tryd.func50 (by kernel_rfl) rfl #[.agg #[.int .i64 (rd_T36 nodes x).f0.f0, .int .i64 (rd_T36 nodes x).f0.f1]] (by rfl) rfl rfl (by simp only [List.map_toArray, List.map_cons, List.map_nil]; rfl) ?_
    with_reducible refine (Go.Proofs.YtiffeljmeahmkaaDoor.V.samphireref10_May.calls _ _ _ _ HFI.out).mono ?_
    rintro e w5 ⟨rfl, hb⟩
    refine ⟨_, rfl, ?_⟩
    replace BS := Aside0.mk (blk_below BS.out hb)
    replace BN := Aside0.mk (blk_below BN.out hb)
    replace HB := Aside0.mk (below_then HB.out HB.out.size hb)
    clear hb
    refine hK.out _ _ ⟨(blk_cell BN.out 0), (blk_cell BN.out 1), (blk_cell BN.out 2), (blk_cell BN.out 3), (blk_cell BN.out 4), (blk_cell BN.out 5), (blk_cell BS.out 0), (blk_cell BS.out 2), (blk_cell BS.out 3)⟩ (fun hHeld => ?_)
    clear hK K
    refine norm_ (a' := ?_) ?_ ?_
    rotate_left
    · show Act.put _ (some 13) _ = _
      simp only [Act.put, List.setIfInBounds_toArray, List.set_cons_zero, List.set_cons_succ, i64_w, i32_w]
      rfl
    refine pureQ (i := 3) (N := some 14) marksUc_4 (any_of HT_.out (by kernel_rfl)) ?_
    refine pureQ (i := 4) (N := some 15) marksUc_5 (any_of HT_.out (by kernel_rfl)) ?_
    refine pure_ (i := 5) (N := some 16) (v := undef) (a' := ?_) marksUc_6 rfl rfl (any_of HT_.out (by kernel_rfl)) (fun _ _ _ h => h) (Or.inr ⟨by rfl, rfl⟩) ?_ ?_
    rotate_left
    · simp only [Act.put, List.setIfInBounds_toArray, List.set_cons_zero, List.set_cons_succ, i64_w, i32_w]
      rfl
    refine pure_ (i := 6) (N := some 17) (v := undef) (a' := ?_) marksUc_7 rfl rfl (any_of HT_.out (by kernel_rfl)) (fun _ _ _ h => h) (Or.inr ⟨by rfl, rfl⟩) ?_ ?_
    rotate_left
    · simp only [Act.put, List.setIfInBounds_toArray, List.set_cons_zero, List.set_cons_succ, i64_w, i32_w]
      rfl
    refine pure_ (i := 7) (N := some 18) (v := undef) (a' := ?_) marksUc_8 rfl rfl (any_of HT_.out (by kernel_rfl)) (fun _ _ _ h => h) (Or.inr ⟨by rfl, rfl⟩) ?_ ?_
    rotate_left
    · simp only [Act.put, List.setIfInBounds_toArray, List.set_cons_zero, List.set_cons_succ, i64_w, i32_w]
      rfl
    refine pure_ (i := 8) (N := some 19) (v := undef) (a' := ?_) marksUc_9 rfl rfl (any_of HT_.out (by kernel_rfl)) (fun _ _ _ h => h) (Or.inr ⟨by rfl, rfl⟩) ?_ ?_
    rotate_left
    · simp only [Act.put, List.setIfInBounds_toArray, List.set_cons_zero, List.set_cons_succ, i64_w, i32_w]
      rfl
    refine pure_ (i := 9) (N := some 20) (v := undef) (a' := ?_) marksUc_10 rfl rfl (any_of HT_.out (by kernel_rfl)) (fun _ _ _ h => h) (Or.inr ⟨by rfl, rfl⟩) ?_ ?_
    rotate_left
    · simp only [Act.put, List.setIfInBounds_toArray, List.set_cons_zero, List.set_cons_succ, i64_w, i32_w]
      rfl
    refine pureQ (i := 10) (N := some 21) marksUc_11 (any_of HT_.out (by kernel_rfl)) ?_
    refine pureQ (i := 11) (N := some 22) marksUc_12 (any_of HT_.out (by kernel_rfl)) ?_
    refine pure_ (i := 12) (N := some 23) (v := undef) (a' := ?_) marksUc_13 rfl rfl (any_of HT_.out (by kernel_rfl)) (fun _ _ _ h => h) (Or.inr ⟨by rfl, rfl⟩) ?_ ?_
    rotate_left
    · simp only [Act.put, List.setIfInBounds_toArray, List.set_cons_zero, List.set_cons_succ, i64_w, i32_w]
      rfl
    refine pure_ (i := 13) (N := some 24) (v := undef) (a' := ?_) marksUc_14 rfl rfl (any_of HT_.out (by kernel_rfl)) (fun _ _ _ h => h) (Or.inr ⟨by rfl, rfl⟩) ?_ ?_
    rotate_left
    · simp only [Act.put, List.setIfInBounds_toArray, List.set_cons_zero, List.set_cons_succ, i64_w, i32_w]
      rfl
    refine pure_ (i := 14) (N := some 25) (v := undef) (a' := ?_) marksUc_15 rfl rfl (any_of HT_.out (by kernel_rfl)) (fun _ _ _ h => h) (Or.inr ⟨by rfl, rfl⟩) ?_ ?_
    rotate_left
    · simp only [Act.put, List.setIfInBounds_toArray, List.set_cons_zero, List.set_cons_succ, i64_w, i32_w]
      rfl
    refine pure_ (i := 15) (N := some 26) (v := undef) (a' := ?_) marksUc_16 rfl rfl (any_of HT_.out (by kernel_rfl)) (fun _ _ _ h => h) (Or.inr ⟨by rfl, rfl⟩) ?_ ?_
    rotate_left
    · simp only [Act.put, List.setIfInBounds_toArray, List.set_cons_zero, List.set_cons_succ, i64_w, i32_w]
      rfl
    refine pureQ (i := 16) (N := some 27) marksUc_17 (any_of HT_.out (by kernel_rfl)) ?_
    refine pureQ (i := 17) (N := some 28) marksUc_18 (any_of HT_.out (by kernel_rfl)) ?_
    refine pure_ (i := 18) (N := some 29) (v := undef) (a' := ?_) marksUc_19 rfl rfl (any_of HT_.out (by kernel_rfl)) (fun _ _ _ h => h) (Or.inr ⟨by rfl, rfl⟩) ?_ ?_
    rotate_left
    · simp only [Act.put, List.setIfInBounds_toArray, List.set_cons_zero, List.set_cons_succ, i64_w, i32_w]
      rfl
    refine pure_ (i := 19) (N := some 30) (v := undef) (a' := ?_) marksUc_20 rfl rfl (any_of HT_.out (by kernel_rfl)) (fun _ _ _ h => h) (Or.inr ⟨by rfl, rfl⟩) ?_ ?_
    rotate_left
    · simp only [Act.put, List.setIfInBounds_toArray, List.set_cons_zero, List.set_cons_succ, i64_w, i32_w]
      rfl
    refine pure_ (i := 20) (N := some 31) (v := undef) (a' := ?_) marksUc_21 rfl rfl (any_of HT_.out (by kernel_rfl)) (fun _ _ _ h => h) (Or.inr ⟨by rfl, rfl⟩) ?_ ?_
    rotate_left
    · simp only [Act.put, List.setIfInBounds_toArray, List.set_cons_zero, List.set_cons_succ, i64_w, i32_w]
      rfl
    refine pure_ (i := 21) (N := some 32) (v := undef) (a' := ?_) marksUc_22 rfl rfl (any_of HT_.out (by kernel_rfl)) (fun _ _ _ h => h) (Or.inr ⟨by rfl, rfl⟩) ?_ ?_
    rotate_left
    · simp only [Act.put, List.setIfInBounds_toArray, List.set_cons_zero, List.set_cons_succ, i64_w, i32_w]
      rfl
    refine pureQ (i := 22) (N := some 33) marksUc_23 (any_of HT_.out (by kernel_rfl)) ?_
    refine pureQ (i := 23) (N := some 34) marksUc_24 (any_of HT_.out (by kernel_rfl)) ?_
    refine pure_ (i := 24) (N := some 35) (v := undef) (a' := ?_) marksUc_25 rfl rfl (any_of HT_.out (by kernel_rfl)) (fun _ _ _ h => h) (Or.inr ⟨by rfl, rfl⟩) ?_ ?_
    rotate_left
    · simp only [Act.put, List.setIfInBounds_toArray, List.set_cons_zero, List.set_cons_succ, i64_w, i32_w]
      rfl
    refine pure_ (i := 25) (N := some 36) (v := undef) (a' := ?_) marksUc_26 rfl rfl (any_of HT_.out (by kernel_rfl)) (fun _ _ _ h => h) (Or.inr ⟨by rfl, rfl⟩) ?_ ?_
    rotate_left
    · simp only [Act.put, List.setIfInBounds_toArray, List.set_cons_zero, List.set_cons_succ, i64_w, i32_w]
      rfl
    refine pure_ (i := 26) (N := some 37) (v := undef) (a' := ?_) marksUc_27 rfl rfl (any_of HT_.out (by kernel_rfl)) (fun _ _ _ h => h) (Or.inr ⟨by rfl, rfl⟩) ?_ ?_
    rotate_left
    · simp only [Act.put, List.setIfInBounds_toArray, List.set_cons_zero, List.set_cons_succ, i64_w, i32_w]
      rfl
    refine pure_ (i := 27) (N := some 38) (v := undef) (a' := ?_) marksUc_28 rfl rfl (any_of HT_.out (by kernel_rfl)) (fun _ _ _ h => h) (Or.inr ⟨by rfl, rfl⟩) ?_ ?_
    rotate_left
    · simp only [Act.put, List.setIfInBounds_toArray, List.set_cons_zero, List.set_cons_succ, i64_w, i32_w]
      rfl
    refine pure_ (i := 28) (N := some 39) (v := undef) (a' := ?_) marksUc_29 rfl rfl (any_of HT_.out (by kernel_rfl)) (fun _ _ _ h => h) (Or.inr ⟨by rfl, rfl⟩) ?_ ?_
    rotate_left
    · simp only [Act.put, List.setIfInBounds_toArray, List.set_cons_zero, List.set_cons_succ, i64_w, i32_w]
      rfl
    refine pure_ (i := 29) (N := some 40) (v := undef) (a' := ?_) marksUc_30 rfl rfl (any_of HT_.out (by kernel_rfl)) (fun _ _ _ h => h) (Or.inr ⟨by rfl, rfl⟩) ?_ ?_
    rotate_left
    · simp only [Act.put, List.setIfInBounds_toArray, List.set_cons_zero, List.set_cons_succ, i64_w, i32_w]
      rfl
    refine pure_ (i := 30) (N := some 41) (v := undef) (a' := ?_) marksUc_31 rfl rfl (any_of HT_.out (by kernel_rfl)) (fun _ _ _ h => h) (Or.inr ⟨by rfl, rfl⟩) ?_ ?_
    rotate_left
    · simp only [Act.put, List.setIfInBounds_toArray, List.set_cons_zero, List.set_cons_succ, i64_w, i32_w]
      rfl
    refine pure_ (i := 31) (N := some 42) (v := undef) (a' := ?_) marksUc_32 rfl rfl (any_of HT_.out (by kernel_rfl)) (fun _ _ _ h => h) (Or.inr ⟨by rfl, rfl⟩) ?_ ?_
    rotate_left
    · simp only [Act.put, List.setIfInBounds_toArray, List.set_cons_zero, List.set_cons_succ, i64_w, i32_w]
      rfl
    refine pure_ (i := 32) (N := some 43) (v := undef) (a' := ?_) marksUc_33 rfl rfl (any_of HT_.out (by kernel_rfl)) (fun _ _ _ h => h) (Or.inr ⟨by rfl, rfl⟩) ?_ ?_
    rotate_left
    · simp only [Act.put, List.setIfInBounds_toArray, List.set_cons_zero, List.set_cons_succ, i64_w, i32_w]
      rfl
    refine pure_ (i := 33) (N := some 44) (v := undef) (a' := ?_) marksUc_34 rfl rfl (any_of HT_.out (by kernel_rfl)) (fun _ _ _ h => h) (Or.inr ⟨by rfl, rfl⟩) ?_ ?_
    rotate_left
    · simp only [Act.put, List.setIfInBounds_toArray, List.set_cons_zero, List.set_cons_succ, i64_w, i32_w]
      rfl
    refine pure_ (i := 34) (N := some 45) (v := undef) (a' := ?_) marksUc_35 rfl rfl (any_of HT_.out (by kernel_rfl)) (fun _ _ _ h => h) (Or.inr ⟨by rfl, rfl⟩) ?_ ?_
    rotate_left
    · simp only [Act.put, List.setIfInBounds_toArray, List.set_cons_zero, List.set_cons_succ, i64_w, i32_w]
      rfl
    refine pure_ (i := 35) (N := some 46) (v := undef) (a' := ?_) marksUc_36 rfl rfl (any_of HT_.out (by kernel_rfl)) (fun _ _ _ h => h) (Or.inr ⟨by rfl, rfl⟩) ?_ ?_
    rotate_left
    · simp only [Act.put, List.setIfInBounds_toArray, List.set_cons_zero, List.set_cons_succ, i64_w, i32_w]
      rfl
    refine pure_ (i := 36) (N := some 47) (v := undef) (a' := ?_) marksUc_37 rfl rfl (any_of HT_.out (by kernel_rfl)) (fun _ _ _ h => h) (Or.inr ⟨by rfl, rfl⟩) ?_ ?_
    rotate_left
    · simp only [Act.put, List.setIfInBounds_toArray, List.set_cons_zero, List.set_cons_succ, i64_w, i32_w]
      rfl
    refine pure_ (i := 37) (N := some 48) (v := undef) (a' := ?_) marksUc_38 rfl rfl (any_of HT_.out (by kernel_rfl)) (fun _ _ _ h => h) (Or.inr ⟨by rfl, rfl⟩) ?_ ?_
    rotate_left
    · simp only [Act.put, List.setIfInBounds_toArray, List.set_cons_zero, List.set_cons_succ, i64_w, i32_w]
      rfl
    refine pure_ (i := 38) (N := some 49) (v := undef) (a' := ?_) marksUc_39 rfl rfl (any_of HT_.out (by kernel_rfl)) (fun _ _ _ h => h) (Or.inr ⟨by rfl, rfl⟩) ?_ ?_
    rotate_left
    · simp only [Act.put, List.setIfInBounds_toArray, List.set_cons_zero, List.set_cons_succ, i64_w, i32_w]
      rfl
    refine pureQ (i := 39) (N := some 50) marksUc_40 (any_of HT_.out (by kernel_rfl)) ?_
    refine done_ (done_of HT_.out (by kernel_rfl)) ?_

-- REGION END
    go_wp2
    go_ret
    exact ⟨by rw [HX.out]; rfl, HB.out⟩
  | true =>
    rw [hfi] at HFI
    cases hls : lessB base (rd_T36 nodes x).f0 with
    | true =>
      rw [hls] at HLS
      have HX := Aside0.mk (show (nodeOk base nodes x && parB nodes (rd_T36 nodes x)) = false by unfold nodeOk; rw [hls]; simp)
      -- REGION R2less BEGIN
      refine start_ (n := 40) (S := fun w' => w'.cell? ⟨nb, 0, none⟩ = some (.int .i64 (rd_T36 nodes x).f0.f0) ∧ w'.cell? ⟨nb, 1, none⟩ = some (.int .i64 (rd_T36 nodes x).f0.f1) ∧ w'.cell? ⟨nb, 2, none⟩ = some (.int .i64 (rd_T36 nodes x).f1.f0) ∧ w'.cell? ⟨nb, 3, none⟩ = some (.int .i64 (rd_T36 nodes x).f1.f1) ∧ w'.cell? ⟨nb, 4, none⟩ = some (.string (rd_T36 nodes x).f2) ∧ w'.cell? ⟨nb, 5, none⟩ = some (.string (rd_T36 nodes x).f3) ∧ w'.cell? ⟨w.heap.size, 0, none⟩ = some (.slice (some ad) nodes.length cN) ∧ w'.cell? ⟨w.heap.size, 2, none⟩ = some (.int .i64 base.f0) ∧ w'.cell? ⟨w.heap.size, 3, none⟩ = some (.int .i64 base.f1)) (ds := []) marksUc_0 (by kernel_rfl) rfl rfl ⟨(blk_cell BN.out 0), (blk_cell BN.out 1), (blk_cell BN.out 2), (blk_cell BN.out 3), (blk_cell BN.out 4), (blk_cell BN.out 5), (blk_cell BS.out 0), (blk_cell BS.out 2), (blk_cell BS.out 3)⟩ (fun hHeld => ?_)
      refine with_tabW node_.tab2 node_.bits2 (fun HT_ HW_ => ?_)
      refine pureQ (i := 0) (N := some 11) marksUc_1 (any_of HT_.out (by kernel_rfl)) ?_
      refine take_ (i := 1) (N := some 12) (v := ?_) (a' := ?_) marksUc_2 rfl rfl (take_ofW HT_.out HW_.out (by kernel_rfl)) (fun _ _ _ h => h) (Or.inl ⟨by rfl, ?_⟩) hHeld ?_ ?_
      rotate_left
      · rintro w' ⟨s0, s1, s2, s3, s4, s5, s6, s7, s8⟩
        go_simp
        with_reducible rfl
      rotate_left
      · simp only [Act.put, List.setIfInBounds_toArray, List.set_cons_zero, List.set_cons_succ, i64_w, i32_w]
        rfl
      refine one_ (i := 2) (N := some 13) marksUc_3 rfl rfl (one_of HT_.out (by kernel_rfl)) (by decide) (fun K hK => ?_)
      refine goes_ Tryd.func50 (by kernel_rfl) rfl #[.agg #[.int .i64 (rd_T36 nodes x).f0.f0, .int .i64 (rd_T36 nodes x).f0.f1]] (by rfl) rfl rfl (by simp only [List.map_toArray, List.map_cons, List.map_nil]; rfl) ?_
      with_reducible refine (Go.Proofs.YtiffeljmeahmkaaDoor.V.samphireref10_May.calls _ _ _ _ HFI.out).mono ?_
      rintro e w5 ⟨rfl, hb⟩
      refine ⟨_, rfl, ?_⟩
      replace BS := Aside0.mk (blk_below BS.out hb)
      replace BN := Aside0.mk (blk_below BN.out hb)
      replace HB := Aside0.mk (below_then HB.out HB.out.size hb)
      clear hb
      refine hK.out _ _ ⟨(blk_cell BN.out 0), (blk_cell BN.out 1), (blk_cell BN.out 2), (blk_cell BN.out 3), (blk_cell BN.out 4), (blk_cell BN.out 5), (blk_cell BS.out 0), (blk_cell BS.out 2), (blk_cell BS.out 3)⟩ (fun hHeld => ?_)
      clear hK K
      refine norm_ (a' := ?_) ?_ ?_
      rotate_left
      · show Act.put _ (some 13) _ = _
        simp only [Act.put, List.setIfInBounds_toArray, List.set_cons_zero, List.set_cons_succ, i64_w, i32_w]
        rfl
      refine pureQ (i := 3) (N := some 14) marksUc_4 (any_of HT_.out (by kernel_rfl)) ?_
      refine pureQ (i := 4) (N := some 15) marksUc_5 (any_of HT_.out (by kernel_rfl)) ?_
      refine pureQ (i := 5) (N := some 16) marksUc_6 (any_of HT_.out (by kernel_rfl)) ?_
      refine pureQ (i := 7) (N := some 18) marksUc_41 (any_of HT_.out (by kernel_rfl)) ?_
      refine take_ (i := 6) (N := some 17) (v := ?_) (a' := ?_) marksUc_8 rfl rfl (take_ofW HT_.out HW_.out (by kernel_rfl)) (fun _ _ _ h => h) (Or.inl ⟨by rfl, ?_⟩) hHeld ?_ ?_
      rotate_left
      · rintro w' ⟨s0, s1, s2, s3, s4, s5, s6, s7, s8⟩
        go_simp
        with_reducible rfl
      rotate_left
      · simp only [Act.put, List.setIfInBounds_toArray, List.set_cons_zero, List.set_cons_succ, i64_w, i32_w]
        rfl
      refine take_ (i := 8) (N := some 19) (v := ?_) (a' := ?_) marksUc_9 rfl rfl (take_ofW HT_.out HW_.out (by kernel_rfl)) (fun _ _ _ h => h) (Or.inl ⟨by rfl, ?_⟩) hHeld ?_ ?_
      rotate_left
      · rintro w' ⟨s0, s1, s2, s3, s4, s5, s6, s7, s8⟩
        go_simp
        with_reducible rfl
      rotate_left
      · simp only [Act.put, List.setIfInBounds_toArray, List.set_cons_zero, List.set_cons_succ, i64_w, i32_w]
        rfl
      refine one_ (i := 9) (N := some 20) marksUc_10 rfl rfl (one_of HT_.out (by kernel_rfl)) (by decide) (fun K hK => ?_)
      refine goes_ Tryd.func18 (by kernel_rfl) rfl #[.agg #[.int .i64 base.f0, .int .i64 base.f1], .agg #[.int .i64 (rd_T36 nodes x).f0.f0, .int .i64 (rd_T36 nodes x).f0.f1]] (by rfl) rfl rfl (by simp only [List.map_toArray, List.map_cons, List.map_nil]; rfl) ?_
      with_reducible refine (samphireref10_Less.calls _ _ _ _ _ _ HLS.out).mono ?_
      rintro e w5 ⟨rfl, hb⟩
      refine ⟨_, rfl, ?_⟩
      replace BS := Aside0.mk (blk_below BS.out hb)
      replace BN := Aside0.mk (blk_below BN.out hb)
      replace HB := Aside0.mk (below_then HB.out HB.out.size hb)
      clear hb
      refine hK.out _ _ ⟨(blk_cell BN.out 0), (blk_cell BN.out 1), (blk_cell BN.out 2), (blk_cell BN.out 3), (blk_cell BN.out 4), (blk_cell BN.out 5), (blk_cell BS.out 0), (blk_cell BS.out 2), (blk_cell BS.out 3)⟩ (fun hHeld => ?_)
      clear hK K
      refine norm_ (a' := ?_) ?_ ?_
      rotate_left
      · show Act.put _ (some 20) _ = _
        simp only [Act.put, List.setIfInBounds_toArray, List.set_cons_zero, List.set_cons_succ, i64_w, i32_w]
        rfl
      refine pureQ (i := 10) (N := some 21) marksUc_11 (any_of HT_.out (by kernel_rfl)) ?_
      refine pureQ (i := 11) (N := some 22) marksUc_12 (any_of HT_.out (by kernel_rfl)) ?_
      refine pure_ (i := 12) (N := some 23) (v := undef) (a' := ?_) marksUc_13 rfl rfl (any_of HT_.out (by kernel_rfl)) (fun _ _ _ h => h) (Or.inr ⟨by rfl, rfl⟩) ?_ ?_
      rotate_left
      · simp only [Act.put, List.setIfInBounds_toArray, List.set_cons_zero, List.set_cons_succ, i64_w, i32_w]
        rfl
      refine pure_ (i := 13) (N := some 24) (v := undef) (a' := ?_) marksUc_14 rfl rfl (any_of HT_.out (by kernel_rfl)) (fun _ _ _ h => h) (Or.inr ⟨by rfl, rfl⟩) ?_ ?_
      rotate_left
      · simp only [Act.put, List.setIfInBounds_toArray, List.set_cons_zero, List.set_cons_succ, i64_w, i32_w]
        rfl
      refine pure_ (i := 14) (N := some 25) (v := undef) (a' := ?_) marksUc_15 rfl rfl (any_of HT_.out (by kernel_rfl)) (fun _ _ _ h => h) (Or.inr ⟨by rfl, rfl⟩) ?_ ?_
      rotate_left
      · simp only [Act.put, List.setIfInBounds_toArray, List.set_cons_zero, List.set_cons_succ, i64_w, i32_w]
        rfl
      refine pure_ (i := 15) (N := some 26) (v := undef) (a' := ?_) marksUc_16 rfl rfl (any_of HT_.out (by kernel_rfl)) (fun _ _ _ h => h) (Or.inr ⟨by rfl, rfl⟩) ?_ ?_
      rotate_left
      · simp only [Act.put, List.setIfInBounds_toArray, List.set_cons_zero, List.set_cons_succ, i64_w, i32_w]
        rfl
      refine pureQ (i := 16) (N := some 27) marksUc_17 (any_of HT_.out (by kernel_rfl)) ?_
      refine pureQ (i := 17) (N := some 28) marksUc_18 (any_of HT_.out (by kernel_rfl)) ?_
      refine pure_ (i := 18) (N := some 29) (v := undef) (a' := ?_) marksUc_19 rfl rfl (any_of HT_.out (by kernel_rfl)) (fun _ _ _ h => h) (Or.inr ⟨by rfl, rfl⟩) ?_ ?_
      rotate_left
      · simp only [Act.put, List.setIfInBounds_toArray, List.set_cons_zero, List.set_cons_succ, i64_w, i32_w]
        rfl
      refine pure_ (i := 19) (N := some 30) (v := undef) (a' := ?_) marksUc_20 rfl rfl (any_of HT_.out (by kernel_rfl)) (fun _ _ _ h => h) (Or.inr ⟨by rfl, rfl⟩) ?_ ?_
      rotate_left
      · simp only [Act.put, List.setIfInBounds_toArray, List.set_cons_zero, List.set_cons_succ, i64_w, i32_w]
        rfl
      refine pure_ (i := 20) (N := some 31) (v := undef) (a' := ?_) marksUc_21 rfl rfl (any_of HT_.out (by kernel_rfl)) (fun _ _ _ h => h) (Or.inr ⟨by rfl, rfl⟩) ?_ ?_
      rotate_left
      · simp only [Act.put, List.setIfInBounds_toArray, List.set_cons_zero, List.set_cons_succ, i64_w, i32_w]
        rfl
      refine pure_ (i := 21) (N := some 32) (v := undef) (a' := ?_) marksUc_22 rfl rfl (any_of HT_.out (by kernel_rfl)) (fun _ _ _ h => h) (Or.inr ⟨by rfl, rfl⟩) ?_ ?_
      rotate_left
      · simp only [Act.put, List.setIfInBounds_toArray, List.set_cons_zero, List.set_cons_succ, i64_w, i32_w]
        rfl
      refine pureQ (i := 22) (N := some 33) marksUc_23 (any_of HT_.out (by kernel_rfl)) ?_
      refine pureQ (i := 23) (N := some 34) marksUc_24 (any_of HT_.out (by kernel_rfl)) ?_
      refine pure_ (i := 24) (N := some 35) (v := undef) (a' := ?_) marksUc_25 rfl rfl (any_of HT_.out (by kernel_rfl)) (fun _ _ _ h => h) (Or.inr ⟨by rfl, rfl⟩) ?_ ?_
      rotate_left
      · simp only [Act.put, List.setIfInBounds_toArray, List.set_cons_zero, List.set_cons_succ, i64_w, i32_w]
        rfl
      refine pure_ (i := 25) (N := some 36) (v := undef) (a' := ?_) marksUc_26 rfl rfl (any_of HT_.out (by kernel_rfl)) (fun _ _ _ h => h) (Or.inr ⟨by rfl, rfl⟩) ?_ ?_
      rotate_left
      · simp only [Act.put, List.setIfInBounds_toArray, List.set_cons_zero, List.set_cons_succ, i64_w, i32_w]
        rfl
      refine pure_ (i := 26) (N := some 37) (v := undef) (a' := ?_) marksUc_27 rfl rfl (any_of HT_.out (by kernel_rfl)) (fun _ _ _ h => h) (Or.inr ⟨by rfl, rfl⟩) ?_ ?_
      rotate_left
      · simp only [Act.put, List.setIfInBounds_toArray, List.set_cons_zero, List.set_cons_succ, i64_w, i32_w]
        rfl
      refine pure_ (i := 27) (N := some 38) (v := undef) (a' := ?_) marksUc_28 rfl rfl (any_of HT_.out (by kernel_rfl)) (fun _ _ _ h => h) (Or.inr ⟨by rfl, rfl⟩) ?_ ?_
      rotate_left
      · simp only [Act.put, List.setIfInBounds_toArray, List.set_cons_zero, List.set_cons_succ, i64_w, i32_w]
        rfl
      refine pure_ (i := 28) (N := some 39) (v := undef) (a' := ?_) marksUc_29 rfl rfl (any_of HT_.out (by kernel_rfl)) (fun _ _ _ h => h) (Or.inr ⟨by rfl, rfl⟩) ?_ ?_
      rotate_left
      · simp only [Act.put, List.setIfInBounds_toArray, List.set_cons_zero, List.set_cons_succ, i64_w, i32_w]
        rfl
      refine pure_ (i := 29) (N := some 40) (v := undef) (a' := ?_) marksUc_30 rfl rfl (any_of HT_.out (by kernel_rfl)) (fun _ _ _ h => h) (Or.inr ⟨by rfl, rfl⟩) ?_ ?_
      rotate_left
      · simp only [Act.put, List.setIfInBounds_toArray, List.set_cons_zero, List.set_cons_succ, i64_w, i32_w]
        rfl
      refine pure_ (i := 30) (N := some 41) (v := undef) (a' := ?_) marksUc_31 rfl rfl (any_of HT_.out (by kernel_rfl)) (fun _ _ _ h => h) (Or.inr ⟨by rfl, rfl⟩) ?_ ?_
      rotate_left
      · simp only [Act.put, List.setIfInBounds_toArray, List.set_cons_zero, List.set_cons_succ, i64_w, i32_w]
        rfl
      refine pure_ (i := 31) (N := some 42) (v := undef) (a' := ?_) marksUc_32 rfl rfl (any_of HT_.out (by kernel_rfl)) (fun _ _ _ h => h) (Or.inr ⟨by rfl, rfl⟩) ?_ ?_
      rotate_left
      · simp only [Act.put, List.setIfInBounds_toArray, List.set_cons_zero, List.set_cons_succ, i64_w, i32_w]
        rfl
      refine pure_ (i := 32) (N := some 43) (v := undef) (a' := ?_) marksUc_33 rfl rfl (any_of HT_.out (by kernel_rfl)) (fun _ _ _ h => h) (Or.inr ⟨by rfl, rfl⟩) ?_ ?_
      rotate_left
      · simp only [Act.put, List.setIfInBounds_toArray, List.set_cons_zero, List.set_cons_succ, i64_w, i32_w]
        rfl
      refine pure_ (i := 33) (N := some 44) (v := undef) (a' := ?_) marksUc_34 rfl rfl (any_of HT_.out (by kernel_rfl)) (fun _ _ _ h => h) (Or.inr ⟨by rfl, rfl⟩) ?_ ?_
      rotate_left
      · simp only [Act.put, List.setIfInBounds_toArray, List.set_cons_zero, List.set_cons_succ, i64_w, i32_w]
        rfl
      refine pure_ (i := 34) (N := some 45) (v := undef) (a' := ?_) marksUc_35 rfl rfl (any_of HT_.out (by kernel_rfl)) (fun _ _ _ h => h) (Or.inr ⟨by rfl, rfl⟩) ?_ ?_
      rotate_left
      · simp only [Act.put, List.setIfInBounds_toArray, List.set_cons_zero, List.set_cons_succ, i64_w, i32_w]
        rfl
      refine pure_ (i := 35) (N := some 46) (v := undef) (a' := ?_) marksUc_36 rfl rfl (any_of HT_.out (by kernel_rfl)) (fun _ _ _ h => h) (Or.inr ⟨by rfl, rfl⟩) ?_ ?_
      rotate_left
      · simp only [Act.put, List.setIfInBounds_toArray, List.set_cons_zero, List.set_cons_succ, i64_w, i32_w]
        rfl
      refine pure_ (i := 36) (N := some 47) (v := undef) (a' := ?_) marksUc_37 rfl rfl (any_of HT_.out (by kernel_rfl)) (fun _ _ _ h => h) (Or.inr ⟨by rfl, rfl⟩) ?_ ?_
      rotate_left
      · simp only [Act.put, List.setIfInBounds_toArray, List.set_cons_zero, List.set_cons_succ, i64_w, i32_w]
        rfl
      refine pure_ (i := 37) (N := some 48) (v := undef) (a' := ?_) marksUc_38 rfl rfl (any_of HT_.out (by kernel_rfl)) (fun _ _ _ h => h) (Or.inr ⟨by rfl, rfl⟩) ?_ ?_
      rotate_left
      · simp only [Act.put, List.setIfInBounds_toArray, List.set_cons_zero, List.set_cons_succ, i64_w, i32_w]
        rfl
      refine pure_ (i := 38) (N := some 49) (v := undef) (a' := ?_) marksUc_39 rfl rfl (any_of HT_.out (by kernel_rfl)) (fun _ _ _ h => h) (Or.inr ⟨by rfl, rfl⟩) ?_ ?_
      rotate_left
      · simp only [Act.put, List.setIfInBounds_toArray, List.set_cons_zero, List.set_cons_succ, i64_w, i32_w]
        rfl
      refine pureQ (i := 39) (N := some 50) marksUc_40 (any_of HT_.out (by kernel_rfl)) ?_
      refine done_ (done_of HT_.out (by kernel_rfl)) ?_

-- REGION END
      go_wp2
      go_ret
      exact ⟨by rw [HX.out]; rfl, HB.out⟩
    | false =>
      rw [hls] at HLS
      cases hnb : isName (L (rd_T36 nodes x).f2) with
      | false =>
        rw [hnb] at HNM
        have HX := Aside0.mk (show (nodeOk base nodes x && parB nodes (rd_T36 nodes x)) = false by unfold nodeOk; rw [hnb]; simp)
        -- REGION R2name BEGIN
        refine start_ (n := 40) (S := fun w' => w'.cell? ⟨nb, 0, none⟩ = some (.int .i64 (rd_T36 nodes x).f0.f0) ∧ w'.cell? ⟨nb, 1, none⟩ = some (.int .i64 (rd_T36 nodes x).f0.f1) ∧ w'.cell? ⟨nb, 2, none⟩ = some (.int .i64 (rd_T36 nodes x).f1.f0) ∧ w'.cell? ⟨nb, 3, none⟩ = some (.int .i64 (rd_T36 nodes x).f1.f1) ∧ w'.cell? ⟨nb, 4, none⟩ = some (.string (rd_T36 nodes x).f2) ∧ w'.cell? ⟨nb, 5, none⟩ = some (.string (rd_T36 nodes x).f3) ∧ w'.cell? ⟨w.heap.size, 0, none⟩ = some (.slice (some ad) nodes.length cN) ∧ w'.cell? ⟨w.heap.size, 2, none⟩ = some (.int .i64 base.f0) ∧ w'.cell? ⟨w.heap.size, 3, none⟩ = some (.int .i64 base.f1)) (ds := []) marksUc_0 (by kernel_rfl) rfl rfl ⟨(blk_cell BN.out 0), (blk_cell BN.out 1), (blk_cell BN.out 2), (blk_cell BN.out 3), (blk_cell BN.out 4), (blk_cell BN.out 5), (blk_cell BS.out 0), (blk_cell BS.out 2), (blk_cell BS.out 3)⟩ (fun hHeld => ?_)
        refine with_tabW node_.tab2 node_.bits2 (fun HT_ HW_ => ?_)
        refine pureQ (i := 0) (N := some 11) marksUc_1 (any_of HT_.out (by kernel_rfl)) ?_
        refine take_ (i := 1) (N := some 12) (v := ?_) (a' := ?_) marksUc_2 rfl rfl (take_ofW HT_.out HW_.out (by kernel_rfl)) (fun _ _ _ h => h) (Or.inl ⟨by rfl, ?_⟩) hHeld ?_ ?_
        rotate_left
        · rintro w' ⟨s0, s1, s2, s3, s4, s5, s6, s7, s8⟩
          go_simp
          with_reducible rfl
        rotate_left
        · simp only [Act.put, List.setIfInBounds_toArray, List.set_cons_zero, List.set_cons_succ, i64_w, i32_w]
          rfl
        refine one_ (i := 2) (N := some 13) marksUc_3 rfl rfl (one_of HT_.out (by kernel_rfl)) (by decide) (fun K hK => ?_)
        refine goes_ Tryd.func50 (by kernel_rfl) rfl #[.agg #[.int .i64 (rd_T36 nodes x).f0.f0, .int .i64 (rd_T36 nodes x).f0.f1]] (by rfl) rfl rfl (by simp only [List.map_toArray, List.map_cons, List.map_nil]; rfl) ?_
        with_reducible refine (Go.Proofs.YtiffeljmeahmkaaDoor.V.samphireref10_May.calls _ _ _ _ HFI.out).mono ?_
        rintro e w5 ⟨rfl, hb⟩
        refine ⟨_, rfl, ?_⟩
        replace BS := Aside0.mk (blk_below BS.out hb)
        replace BN := Aside0.mk (blk_below BN.out hb)
        replace HB := Aside0.mk (below_then HB.out HB.out.size hb)
        clear hb
        refine hK.out _ _ ⟨(blk_cell BN.out 0), (blk_cell BN.out 1), (blk_cell BN.out 2), (blk_cell BN.out 3), (blk_cell BN.out 4), (blk_cell BN.out 5), (blk_cell BS.out 0), (blk_cell BS.out 2), (blk_cell BS.out 3)⟩ (fun hHeld => ?_)
        clear hK K
        refine norm_ (a' := ?_) ?_ ?_
        rotate_left
        · show Act.put _ (some 13) _ = _
          simp only [Act.put, List.setIfInBounds_toArray, List.set_cons_zero, List.set_cons_succ, i64_w, i32_w]
          rfl
        refine pureQ (i := 3) (N := some 14) marksUc_4 (any_of HT_.out (by kernel_rfl)) ?_
        refine pureQ (i := 4) (N := some 15) marksUc_5 (any_of HT_.out (by kernel_rfl)) ?_
        refine pureQ (i := 5) (N := some 16) marksUc_6 (any_of HT_.out (by kernel_rfl)) ?_
        refine pureQ (i := 7) (N := some 18) marksUc_41 (any_of HT_.out (by kernel_rfl)) ?_
        refine take_ (i := 6) (N := some 17) (v := ?_) (a' := ?_) marksUc_8 rfl rfl (take_ofW HT_.out HW_.out (by kernel_rfl)) (fun _ _ _ h => h) (Or.inl ⟨by rfl, ?_⟩) hHeld ?_ ?_
        rotate_left
        · rintro w' ⟨s0, s1, s2, s3, s4, s5, s6, s7, s8⟩
          go_simp
          with_reducible rfl
        rotate_left
        · simp only [Act.put, List.setIfInBounds_toArray, List.set_cons_zero, List.set_cons_succ, i64_w, i32_w]
          rfl
        refine take_ (i := 8) (N := some 19) (v := ?_) (a' := ?_) marksUc_9 rfl rfl (take_ofW HT_.out HW_.out (by kernel_rfl)) (fun _ _ _ h => h) (Or.inl ⟨by rfl, ?_⟩) hHeld ?_ ?_
        rotate_left
        · rintro w' ⟨s0, s1, s2, s3, s4, s5, s6, s7, s8⟩
          go_simp
          with_reducible rfl
        rotate_left
        · simp only [Act.put, List.setIfInBounds_toArray, List.set_cons_zero, List.set_cons_succ, i64_w, i32_w]
          rfl
        refine one_ (i := 9) (N := some 20) marksUc_10 rfl rfl (one_of HT_.out (by kernel_rfl)) (by decide) (fun K hK => ?_)
        refine goes_ Tryd.func18 (by kernel_rfl) rfl #[.agg #[.int .i64 base.f0, .int .i64 base.f1], .agg #[.int .i64 (rd_T36 nodes x).f0.f0, .int .i64 (rd_T36 nodes x).f0.f1]] (by rfl) rfl rfl (by simp only [List.map_toArray, List.map_cons, List.map_nil]; rfl) ?_
        with_reducible refine (samphireref10_Less.calls _ _ _ _ _ _ HLS.out).mono ?_
        rintro e w5 ⟨rfl, hb⟩
        refine ⟨_, rfl, ?_⟩
        replace BS := Aside0.mk (blk_below BS.out hb)
        replace BN := Aside0.mk (blk_below BN.out hb)
        replace HB := Aside0.mk (below_then HB.out HB.out.size hb)
        clear hb
        refine hK.out _ _ ⟨(blk_cell BN.out 0), (blk_cell BN.out 1), (blk_cell BN.out 2), (blk_cell BN.out 3), (blk_cell BN.out 4), (blk_cell BN.out 5), (blk_cell BS.out 0), (blk_cell BS.out 2), (blk_cell BS.out 3)⟩ (fun hHeld => ?_)
        clear hK K
        refine norm_ (a' := ?_) ?_ ?_
        rotate_left
        · show Act.put _ (some 20) _ = _
          simp only [Act.put, List.setIfInBounds_toArray, List.set_cons_zero, List.set_cons_succ, i64_w, i32_w]
          rfl
        refine pureQ (i := 10) (N := some 21) marksUc_11 (any_of HT_.out (by kernel_rfl)) ?_
        refine pureQ (i := 11) (N := some 22) marksUc_12 (any_of HT_.out (by kernel_rfl)) ?_
        refine pureQ (i := 12) (N := some 23) marksUc_13 (any_of HT_.out (by kernel_rfl)) ?_
        refine take_ (i := 13) (N := some 24) (v := ?_) (a' := ?_) marksUc_14 rfl rfl (take_ofW HT_.out HW_.out (by kernel_rfl)) (fun _ _ _ h => h) (Or.inl ⟨by rfl, ?_⟩) hHeld ?_ ?_
        rotate_left
        · rintro w' ⟨s0, s1, s2, s3, s4, s5, s6, s7, s8⟩
          go_simp
          with_reducible rfl
        rotate_left
        · simp only [Act.put, List.setIfInBounds_toArray, List.set_cons_zero, List.set_cons_succ, i64_w, i32_w]
          rfl
        refine one_ (i := 14) (N := some 25) marksUc_15 rfl rfl (one_of HT_.out (by kernel_rfl)) (by decide) (fun K hK => ?_)
        refine goes_ Tryd.func63 (by kernel_rfl) rfl #[.string (rd_T36 nodes x).f2] (by rfl) rfl rfl (by simp only [List.map_toArray, List.map_cons, List.map_nil]; rfl) ?_
        with_reducible refine (Go.Proofs.YtiffeljmeahmkaaDoor.V.samphireref08_Check.calls 400 _ _ _ HNM.out).mono ?_
        rintro e w5 ⟨rfl, hd⟩
        refine ⟨_, rfl, ?_⟩
        have hb := hd.below
        replace BS := Aside0.mk (blk_below BS.out hb)
        replace BN := Aside0.mk (blk_below BN.out hb)
        replace HB := Aside0.mk (below_then HB.out HB.out.size hb)
        clear hb
        clear hd
        refine hK.out _ _ ⟨(blk_cell BN.out 0), (blk_cell BN.out 1), (blk_cell BN.out 2), (blk_cell BN.out 3), (blk_cell BN.out 4), (blk_cell BN.out 5), (blk_cell BS.out 0), (blk_cell BS.out 2), (blk_cell BS.out 3)⟩ (fun hHeld => ?_)
        clear hK K
        refine norm_ (a' := ?_) ?_ ?_
        rotate_left
        · show Act.put _ (some 25) _ = _
          simp only [Act.put, List.setIfInBounds_toArray, List.set_cons_zero, List.set_cons_succ, i64_w, i32_w]
          rfl
        refine pureQ (i := 15) (N := some 26) marksUc_16 (any_of HT_.out (by kernel_rfl)) ?_
        refine pureQ (i := 16) (N := some 27) marksUc_17 (any_of HT_.out (by kernel_rfl)) ?_
        refine pureQ (i := 17) (N := some 28) marksUc_18 (any_of HT_.out (by kernel_rfl)) ?_
        refine pure_ (i := 18) (N := some 29) (v := undef) (a' := ?_) marksUc_19 rfl rfl (any_of HT_.out (by kernel_rfl)) (fun _ _ _ h => h) (Or.inr ⟨by rfl, rfl⟩) ?_ ?_
        rotate_left
        · simp only [Act.put, List.setIfInBounds_toArray, List.set_cons_zero, List.set_cons_succ, i64_w, i32_w]
          rfl
        refine pure_ (i := 19) (N := some 30) (v := undef) (a' := ?_) marksUc_20 rfl rfl (any_of HT_.out (by kernel_rfl)) (fun _ _ _ h => h) (Or.inr ⟨by rfl, rfl⟩) ?_ ?_
        rotate_left
        · simp only [Act.put, List.setIfInBounds_toArray, List.set_cons_zero, List.set_cons_succ, i64_w, i32_w]
          rfl
        refine pure_ (i := 20) (N := some 31) (v := undef) (a' := ?_) marksUc_21 rfl rfl (any_of HT_.out (by kernel_rfl)) (fun _ _ _ h => h) (Or.inr ⟨by rfl, rfl⟩) ?_ ?_
        rotate_left
        · simp only [Act.put, List.setIfInBounds_toArray, List.set_cons_zero, List.set_cons_succ, i64_w, i32_w]
          rfl
        refine pure_ (i := 21) (N := some 32) (v := undef) (a' := ?_) marksUc_22 rfl rfl (any_of HT_.out (by kernel_rfl)) (fun _ _ _ h => h) (Or.inr ⟨by rfl, rfl⟩) ?_ ?_
        rotate_left
        · simp only [Act.put, List.setIfInBounds_toArray, List.set_cons_zero, List.set_cons_succ, i64_w, i32_w]
          rfl
        refine pureQ (i := 22) (N := some 33) marksUc_23 (any_of HT_.out (by kernel_rfl)) ?_
        refine pureQ (i := 23) (N := some 34) marksUc_24 (any_of HT_.out (by kernel_rfl)) ?_
        refine pure_ (i := 24) (N := some 35) (v := undef) (a' := ?_) marksUc_25 rfl rfl (any_of HT_.out (by kernel_rfl)) (fun _ _ _ h => h) (Or.inr ⟨by rfl, rfl⟩) ?_ ?_
        rotate_left
        · simp only [Act.put, List.setIfInBounds_toArray, List.set_cons_zero, List.set_cons_succ, i64_w, i32_w]
          rfl
        refine pure_ (i := 25) (N := some 36) (v := undef) (a' := ?_) marksUc_26 rfl rfl (any_of HT_.out (by kernel_rfl)) (fun _ _ _ h => h) (Or.inr ⟨by rfl, rfl⟩) ?_ ?_
        rotate_left
        · simp only [Act.put, List.setIfInBounds_toArray, List.set_cons_zero, List.set_cons_succ, i64_w, i32_w]
          rfl
        refine pure_ (i := 26) (N := some 37) (v := undef) (a' := ?_) marksUc_27 rfl rfl (any_of HT_.out (by kernel_rfl)) (fun _ _ _ h => h) (Or.inr ⟨by rfl, rfl⟩) ?_ ?_
        rotate_left
        · simp only [Act.put, List.setIfInBounds_toArray, List.set_cons_zero, List.set_cons_succ, i64_w, i32_w]
          rfl
        refine pure_ (i := 27) (N := some 38) (v := undef) (a' := ?_) marksUc_28 rfl rfl (any_of HT_.out (by kernel_rfl)) (fun _ _ _ h => h) (Or.inr ⟨by rfl, rfl⟩) ?_ ?_
        rotate_left
        · simp only [Act.put, List.setIfInBounds_toArray, List.set_cons_zero, List.set_cons_succ, i64_w, i32_w]
          rfl
        refine pure_ (i := 28) (N := some 39) (v := undef) (a' := ?_) marksUc_29 rfl rfl (any_of HT_.out (by kernel_rfl)) (fun _ _ _ h => h) (Or.inr ⟨by rfl, rfl⟩) ?_ ?_
        rotate_left
        · simp only [Act.put, List.setIfInBounds_toArray, List.set_cons_zero, List.set_cons_succ, i64_w, i32_w]
          rfl
        refine pure_ (i := 29) (N := some 40) (v := undef) (a' := ?_) marksUc_30 rfl rfl (any_of HT_.out (by kernel_rfl)) (fun _ _ _ h => h) (Or.inr ⟨by rfl, rfl⟩) ?_ ?_
        rotate_left
        · simp only [Act.put, List.setIfInBounds_toArray, List.set_cons_zero, List.set_cons_succ, i64_w, i32_w]
          rfl
        refine pure_ (i := 30) (N := some 41) (v := undef) (a' := ?_) marksUc_31 rfl rfl (any_of HT_.out (by kernel_rfl)) (fun _ _ _ h => h) (Or.inr ⟨by rfl, rfl⟩) ?_ ?_
        rotate_left
        · simp only [Act.put, List.setIfInBounds_toArray, List.set_cons_zero, List.set_cons_succ, i64_w, i32_w]
          rfl
        refine pure_ (i := 31) (N := some 42) (v := undef) (a' := ?_) marksUc_32 rfl rfl (any_of HT_.out (by kernel_rfl)) (fun _ _ _ h => h) (Or.inr ⟨by rfl, rfl⟩) ?_ ?_
        rotate_left
        · simp only [Act.put, List.setIfInBounds_toArray, List.set_cons_zero, List.set_cons_succ, i64_w, i32_w]
          rfl
        refine pure_ (i := 32) (N := some 43) (v := undef) (a' := ?_) marksUc_33 rfl rfl (any_of HT_.out (by kernel_rfl)) (fun _ _ _ h => h) (Or.inr ⟨by rfl, rfl⟩) ?_ ?_
        rotate_left
        · simp only [Act.put, List.setIfInBounds_toArray, List.set_cons_zero, List.set_cons_succ, i64_w, i32_w]
          rfl
        refine pure_ (i := 33) (N := some 44) (v := undef) (a' := ?_) marksUc_34 rfl rfl (any_of HT_.out (by kernel_rfl)) (fun _ _ _ h => h) (Or.inr ⟨by rfl, rfl⟩) ?_ ?_
        rotate_left
        · simp only [Act.put, List.setIfInBounds_toArray, List.set_cons_zero, List.set_cons_succ, i64_w, i32_w]
          rfl
        refine pure_ (i := 34) (N := some 45) (v := undef) (a' := ?_) marksUc_35 rfl rfl (any_of HT_.out (by kernel_rfl)) (fun _ _ _ h => h) (Or.inr ⟨by rfl, rfl⟩) ?_ ?_
        rotate_left
        · simp only [Act.put, List.setIfInBounds_toArray, List.set_cons_zero, List.set_cons_succ, i64_w, i32_w]
          rfl
        refine pure_ (i := 35) (N := some 46) (v := undef) (a' := ?_) marksUc_36 rfl rfl (any_of HT_.out (by kernel_rfl)) (fun _ _ _ h => h) (Or.inr ⟨by rfl, rfl⟩) ?_ ?_
        rotate_left
        · simp only [Act.put, List.setIfInBounds_toArray, List.set_cons_zero, List.set_cons_succ, i64_w, i32_w]
          rfl
        refine pure_ (i := 36) (N := some 47) (v := undef) (a' := ?_) marksUc_37 rfl rfl (any_of HT_.out (by kernel_rfl)) (fun _ _ _ h => h) (Or.inr ⟨by rfl, rfl⟩) ?_ ?_
        rotate_left
        · simp only [Act.put, List.setIfInBounds_toArray, List.set_cons_zero, List.set_cons_succ, i64_w, i32_w]
          rfl
        refine pure_ (i := 37) (N := some 48) (v := undef) (a' := ?_) marksUc_38 rfl rfl (any_of HT_.out (by kernel_rfl)) (fun _ _ _ h => h) (Or.inr ⟨by rfl, rfl⟩) ?_ ?_
        rotate_left
        · simp only [Act.put, List.setIfInBounds_toArray, List.set_cons_zero, List.set_cons_succ, i64_w, i32_w]
          rfl
        refine pure_ (i := 38) (N := some 49) (v := undef) (a' := ?_) marksUc_39 rfl rfl (any_of HT_.out (by kernel_rfl)) (fun _ _ _ h => h) (Or.inr ⟨by rfl, rfl⟩) ?_ ?_
        rotate_left
        · simp only [Act.put, List.setIfInBounds_toArray, List.set_cons_zero, List.set_cons_succ, i64_w, i32_w]
          rfl
        refine pureQ (i := 39) (N := some 50) marksUc_40 (any_of HT_.out (by kernel_rfl)) ?_
        refine done_ (done_of HT_.out (by kernel_rfl)) ?_

-- REGION END
        go_wp2
        go_ret
        exact ⟨by rw [HX.out]; rfl, HB.out⟩
      | true =>
        rw [hnb] at HNM
        by_cases hv : (rd_T36 nodes x).f3.size ≤ 64
        rotate_left
        · have v1 : decide (((rd_T36 nodes x).f3.size : Int) > 64) = true := decide_eq_true (by omega)
          have v2 : decide ((64 : Int) < ((rd_T36 nodes x).f3.size : Int)) = true := decide_eq_true (by omega)
          have v3 : (64 < (rd_T36 nodes x).f3.size) = True := eq_true (by omega)
          have HX := Aside0.mk (show (nodeOk base nodes x && parB nodes (rd_T36 nodes x)) = false by unfold nodeOk; rw [decide_eq_false hv]; simp)
          -- REGION R2value BEGIN
          refine start_ (n := 40) (S := fun w' => w'.cell? ⟨nb, 0, none⟩ = some (.int .i64 (rd_T36 nodes x).f0.f0) ∧ w'.cell? ⟨nb, 1, none⟩ = some (.int .i64 (rd_T36 nodes x).f0.f1) ∧ w'.cell? ⟨nb, 2, none⟩ = some (.int .i64 (rd_T36 nodes x).f1.f0) ∧ w'.cell? ⟨nb, 3, none⟩ = some (.int .i64 (rd_T36 nodes x).f1.f1) ∧ w'.cell? ⟨nb, 4, none⟩ = some (.string (rd_T36 nodes x).f2) ∧ w'.cell? ⟨nb, 5, none⟩ = some (.string (rd_T36 nodes x).f3) ∧ w'.cell? ⟨w.heap.size, 0, none⟩ = some (.slice (some ad) nodes.length cN) ∧ w'.cell? ⟨w.heap.size, 2, none⟩ = some (.int .i64 base.f0) ∧ w'.cell? ⟨w.heap.size, 3, none⟩ = some (.int .i64 base.f1)) (ds := []) marksUc_0 (by kernel_rfl) rfl rfl ⟨(blk_cell BN.out 0), (blk_cell BN.out 1), (blk_cell BN.out 2), (blk_cell BN.out 3), (blk_cell BN.out 4), (blk_cell BN.out 5), (blk_cell BS.out 0), (blk_cell BS.out 2), (blk_cell BS.out 3)⟩ (fun hHeld => ?_)
          refine with_tabW node_.tab2 node_.bits2 (fun HT_ HW_ => ?_)
          refine pureQ (i := 0) (N := some 11) marksUc_1 (any_of HT_.out (by kernel_rfl)) ?_
          refine take_ (i := 1) (N := some 12) (v := ?_) (a' := ?_) marksUc_2 rfl rfl (take_ofW HT_.out HW_.out (by kernel_rfl)) (fun _ _ _ h => h) (Or.inl ⟨by rfl, ?_⟩) hHeld ?_ ?_
          rotate_left
          · rintro w' ⟨s0, s1, s2, s3, s4, s5, s6, s7, s8⟩
            go_simp
            with_reducible rfl
          rotate_left
          · simp only [Act.put, List.setIfInBounds_toArray, List.set_cons_zero, List.set_cons_succ, i64_w, i32_w]
            rfl
          refine one_ (i := 2) (N := some 13) marksUc_3 rfl rfl (one_of HT_.out (by kernel_rfl)) (by decide) (fun K hK => ?_)
          refine goes_ Tryd.func50 (by kernel_rfl) rfl #[.agg #[.int .i64 (rd_T36 nodes x).f0.f0, .int .i64 (rd_T36 nodes x).f0.f1]] (by rfl) rfl rfl (by simp only [List.map_toArray, List.map_cons, List.map_nil]; rfl) ?_
          with_reducible refine (Go.Proofs.YtiffeljmeahmkaaDoor.V.samphireref10_May.calls _ _ _ _ HFI.out).mono ?_
          rintro e w5 ⟨rfl, hb⟩
          refine ⟨_, rfl, ?_⟩
          replace BS := Aside0.mk (blk_below BS.out hb)
          replace BN := Aside0.mk (blk_below BN.out hb)
          replace HB := Aside0.mk (below_then HB.out HB.out.size hb)
          clear hb
          refine hK.out _ _ ⟨(blk_cell BN.out 0), (blk_cell BN.out 1), (blk_cell BN.out 2), (blk_cell BN.out 3), (blk_cell BN.out 4), (blk_cell BN.out 5), (blk_cell BS.out 0), (blk_cell BS.out 2), (blk_cell BS.out 3)⟩ (fun hHeld => ?_)
          clear hK K
          refine norm_ (a' := ?_) ?_ ?_
          rotate_left
          · show Act.put _ (some 13) _ = _
            simp only [Act.put, List.setIfInBounds_toArray, List.set_cons_zero, List.set_cons_succ, i64_w, i32_w]
            rfl
          refine pureQ (i := 3) (N := some 14) marksUc_4 (any_of HT_.out (by kernel_rfl)) ?_
          refine pureQ (i := 4) (N := some 15) marksUc_5 (any_of HT_.out (by kernel_rfl)) ?_
          refine pureQ (i := 5) (N := some 16) marksUc_6 (any_of HT_.out (by kernel_rfl)) ?_
          refine pureQ (i := 7) (N := some 18) marksUc_41 (any_of HT_.out (by kernel_rfl)) ?_
          refine take_ (i := 6) (N := some 17) (v := ?_) (a' := ?_) marksUc_8 rfl rfl (take_ofW HT_.out HW_.out (by kernel_rfl)) (fun _ _ _ h => h) (Or.inl ⟨by rfl, ?_⟩) hHeld ?_ ?_
          rotate_left
          · rintro w' ⟨s0, s1, s2, s3, s4, s5, s6, s7, s8⟩
            go_simp
            with_reducible rfl
          rotate_left
          · simp only [Act.put, List.setIfInBounds_toArray, List.set_cons_zero, List.set_cons_succ, i64_w, i32_w]
            rfl
          refine take_ (i := 8) (N := some 19) (v := ?_) (a' := ?_) marksUc_9 rfl rfl (take_ofW HT_.out HW_.out (by kernel_rfl)) (fun _ _ _ h => h) (Or.inl ⟨by rfl, ?_⟩) hHeld ?_ ?_
          rotate_left
          · rintro w' ⟨s0, s1, s2, s3, s4, s5, s6, s7, s8⟩
            go_simp
            with_reducible rfl
          rotate_left
          · simp only [Act.put, List.setIfInBounds_toArray, List.set_cons_zero, List.set_cons_succ, i64_w, i32_w]
            rfl
          refine one_ (i := 9) (N := some 20) marksUc_10 rfl rfl (one_of HT_.out (by kernel_rfl)) (by decide) (fun K hK => ?_)
          refine goes_ Tryd.func18 (by kernel_rfl) rfl #[.agg #[.int .i64 base.f0, .int .i64 base.f1], .agg #[.int .i64 (rd_T36 nodes x).f0.f0, .int .i64 (rd_T36 nodes x).f0.f1]] (by rfl) rfl rfl (by simp only [List.map_toArray, List.map_cons, List.map_nil]; rfl) ?_
          with_reducible refine (samphireref10_Less.calls _ _ _ _ _ _ HLS.out).mono ?_
          rintro e w5 ⟨rfl, hb⟩
          refine ⟨_, rfl, ?_⟩
          replace BS := Aside0.mk (blk_below BS.out hb)
          replace BN := Aside0.mk (blk_below BN.out hb)
          replace HB := Aside0.mk (below_then HB.out HB.out.size hb)
          clear hb
          refine hK.out _ _ ⟨(blk_cell BN.out 0), (blk_cell BN.out 1), (blk_cell BN.out 2), (blk_cell BN.out 3), (blk_cell BN.out 4), (blk_cell BN.out 5), (blk_cell BS.out 0), (blk_cell BS.out 2), (blk_cell BS.out 3)⟩ (fun hHeld => ?_)
          clear hK K
          refine norm_ (a' := ?_) ?_ ?_
          rotate_left
          · show Act.put _ (some 20) _ = _
            simp only [Act.put, List.setIfInBounds_toArray, List.set_cons_zero, List.set_cons_succ, i64_w, i32_w]
            rfl
          refine pureQ (i := 10) (N := some 21) marksUc_11 (any_of HT_.out (by kernel_rfl)) ?_
          refine pureQ (i := 11) (N := some 22) marksUc_12 (any_of HT_.out (by kernel_rfl)) ?_
          refine pureQ (i := 12) (N := some 23) marksUc_13 (any_of HT_.out (by kernel_rfl)) ?_
          refine take_ (i := 13) (N := some 24) (v := ?_) (a' := ?_) marksUc_14 rfl rfl (take_ofW HT_.out HW_.out (by kernel_rfl)) (fun _ _ _ h => h) (Or.inl ⟨by rfl, ?_⟩) hHeld ?_ ?_
          rotate_left
          · rintro w' ⟨s0, s1, s2, s3, s4, s5, s6, s7, s8⟩
            go_simp
            with_reducible rfl
          rotate_left
          · simp only [Act.put, List.setIfInBounds_toArray, List.set_cons_zero, List.set_cons_succ, i64_w, i32_w]
            rfl
          refine one_ (i := 14) (N := some 25) marksUc_15 rfl rfl (one_of HT_.out (by kernel_rfl)) (by decide) (fun K hK => ?_)
          refine goes_ Tryd.func63 (by kernel_rfl) rfl #[.string (rd_T36 nodes x).f2] (by rfl) rfl rfl (by simp only [List.map_toArray, List.map_cons, List.map_nil]; rfl) ?_
          with_reducible refine (Go.Proofs.YtiffeljmeahmkaaDoor.V.samphireref08_Check.calls 400 _ _ _ HNM.out).mono ?_
          rintro e w5 ⟨rfl, hd⟩
          refine ⟨_, rfl, ?_⟩
          have hb := hd.below
          replace BS := Aside0.mk (blk_below BS.out hb)
          replace BN := Aside0.mk (blk_below BN.out hb)
          replace HB := Aside0.mk (below_then HB.out HB.out.size hb)
          clear hb
          clear hd
          refine hK.out _ _ ⟨(blk_cell BN.out 0), (blk_cell BN.out 1), (blk_cell BN.out 2), (blk_cell BN.out 3), (blk_cell BN.out 4), (blk_cell BN.out 5), (blk_cell BS.out 0), (blk_cell BS.out 2), (blk_cell BS.out 3)⟩ (fun hHeld => ?_)
          clear hK K
          refine norm_ (a' := ?_) ?_ ?_
          rotate_left
          · show Act.put _ (some 25) _ = _
            simp only [Act.put, List.setIfInBounds_toArray, List.set_cons_zero, List.set_cons_succ, i64_w, i32_w]
            rfl
          refine pureQ (i := 15) (N := some 26) marksUc_16 (any_of HT_.out (by kernel_rfl)) ?_
          refine pureQ (i := 16) (N := some 27) marksUc_17 (any_of HT_.out (by kernel_rfl)) ?_
          refine pureQ (i := 17) (N := some 28) marksUc_18 (any_of HT_.out (by kernel_rfl)) ?_
          refine pureQ (i := 18) (N := some 29) marksUc_19 (any_of HT_.out (by kernel_rfl)) ?_
          refine take_ (i := 19) (N := some 30) (v := ?_) (a' := ?_) marksUc_20 rfl rfl (take_ofW HT_.out HW_.out (by kernel_rfl)) (fun _ _ _ h => h) (Or.inl ⟨by rfl, ?_⟩) hHeld ?_ ?_
          rotate_left
          · rintro w' ⟨s0, s1, s2, s3, s4, s5, s6, s7, s8⟩
            go_simp
            with_reducible rfl
          rotate_left
          · simp only [Act.put, List.setIfInBounds_toArray, List.set_cons_zero, List.set_cons_succ, i64_w, i32_w]
            rfl
          refine pureQ (i := 20) (N := some 31) marksUc_21 (any_of HT_.out (by kernel_rfl)) ?_
          refine pureQ (i := 21) (N := some 32) marksUc_22 (any_of HT_.out (by kernel_rfl)) ?_
          refine pureQ (i := 22) (N := some 33) marksUc_23 (any_of HT_.out (by kernel_rfl)) ?_
          refine pureQ (i := 23) (N := some 34) marksUc_24 (any_of HT_.out (by kernel_rfl)) ?_
          refine pure_ (i := 24) (N := some 35) (v := undef) (a' := ?_) marksUc_25 rfl rfl (any_of HT_.out (by kernel_rfl)) (fun _ _ _ h => h) (Or.inr ⟨by rfl, rfl⟩) ?_ ?_
          rotate_left
          · simp only [Act.put, List.setIfInBounds_toArray, List.set_cons_zero, List.set_cons_succ, i64_w, i32_w]
            rfl
          refine pure_ (i := 25) (N := some 36) (v := undef) (a' := ?_) marksUc_26 rfl rfl (any_of HT_.out (by kernel_rfl)) (fun _ _ _ h => h) (Or.inr ⟨by rfl, rfl⟩) ?_ ?_
          rotate_left
          · simp only [Act.put, List.setIfInBounds_toArray, List.set_cons_zero, List.set_cons_succ, i64_w, i32_w]
            rfl
          refine pure_ (i := 26) (N := some 37) (v := undef) (a' := ?_) marksUc_27 rfl rfl (any_of HT_.out (by kernel_rfl)) (fun _ _ _ h => h) (Or.inr ⟨by rfl, rfl⟩) ?_ ?_
          rotate_left
          · simp only [Act.put, List.setIfInBounds_toArray, List.set_cons_zero, List.set_cons_succ, i64_w, i32_w]
            rfl
          refine pure_ (i := 27) (N := some 38) (v := undef) (a' := ?_) marksUc_28 rfl rfl (any_of HT_.out (by kernel_rfl)) (fun _ _ _ h => h) (Or.inr ⟨by rfl, rfl⟩) ?_ ?_
          rotate_left
          · simp only [Act.put, List.setIfInBounds_toArray, List.set_cons_zero, List.set_cons_succ, i64_w, i32_w]
            rfl
          refine pure_ (i := 28) (N := some 39) (v := undef) (a' := ?_) marksUc_29 rfl rfl (any_of HT_.out (by kernel_rfl)) (fun _ _ _ h => h) (Or.inr ⟨by rfl, rfl⟩) ?_ ?_
          rotate_left
          · simp only [Act.put, List.setIfInBounds_toArray, List.set_cons_zero, List.set_cons_succ, i64_w, i32_w]
            rfl
          refine pure_ (i := 29) (N := some 40) (v := undef) (a' := ?_) marksUc_30 rfl rfl (any_of HT_.out (by kernel_rfl)) (fun _ _ _ h => h) (Or.inr ⟨by rfl, rfl⟩) ?_ ?_
          rotate_left
          · simp only [Act.put, List.setIfInBounds_toArray, List.set_cons_zero, List.set_cons_succ, i64_w, i32_w]
            rfl
          refine pure_ (i := 30) (N := some 41) (v := undef) (a' := ?_) marksUc_31 rfl rfl (any_of HT_.out (by kernel_rfl)) (fun _ _ _ h => h) (Or.inr ⟨by rfl, rfl⟩) ?_ ?_
          rotate_left
          · simp only [Act.put, List.setIfInBounds_toArray, List.set_cons_zero, List.set_cons_succ, i64_w, i32_w]
            rfl
          refine pure_ (i := 31) (N := some 42) (v := undef) (a' := ?_) marksUc_32 rfl rfl (any_of HT_.out (by kernel_rfl)) (fun _ _ _ h => h) (Or.inr ⟨by rfl, rfl⟩) ?_ ?_
          rotate_left
          · simp only [Act.put, List.setIfInBounds_toArray, List.set_cons_zero, List.set_cons_succ, i64_w, i32_w]
            rfl
          refine pure_ (i := 32) (N := some 43) (v := undef) (a' := ?_) marksUc_33 rfl rfl (any_of HT_.out (by kernel_rfl)) (fun _ _ _ h => h) (Or.inr ⟨by rfl, rfl⟩) ?_ ?_
          rotate_left
          · simp only [Act.put, List.setIfInBounds_toArray, List.set_cons_zero, List.set_cons_succ, i64_w, i32_w]
            rfl
          refine pure_ (i := 33) (N := some 44) (v := undef) (a' := ?_) marksUc_34 rfl rfl (any_of HT_.out (by kernel_rfl)) (fun _ _ _ h => h) (Or.inr ⟨by rfl, rfl⟩) ?_ ?_
          rotate_left
          · simp only [Act.put, List.setIfInBounds_toArray, List.set_cons_zero, List.set_cons_succ, i64_w, i32_w]
            rfl
          refine pure_ (i := 34) (N := some 45) (v := undef) (a' := ?_) marksUc_35 rfl rfl (any_of HT_.out (by kernel_rfl)) (fun _ _ _ h => h) (Or.inr ⟨by rfl, rfl⟩) ?_ ?_
          rotate_left
          · simp only [Act.put, List.setIfInBounds_toArray, List.set_cons_zero, List.set_cons_succ, i64_w, i32_w]
            rfl
          refine pure_ (i := 35) (N := some 46) (v := undef) (a' := ?_) marksUc_36 rfl rfl (any_of HT_.out (by kernel_rfl)) (fun _ _ _ h => h) (Or.inr ⟨by rfl, rfl⟩) ?_ ?_
          rotate_left
          · simp only [Act.put, List.setIfInBounds_toArray, List.set_cons_zero, List.set_cons_succ, i64_w, i32_w]
            rfl
          refine pure_ (i := 36) (N := some 47) (v := undef) (a' := ?_) marksUc_37 rfl rfl (any_of HT_.out (by kernel_rfl)) (fun _ _ _ h => h) (Or.inr ⟨by rfl, rfl⟩) ?_ ?_
          rotate_left
          · simp only [Act.put, List.setIfInBounds_toArray, List.set_cons_zero, List.set_cons_succ, i64_w, i32_w]
            rfl
          refine pure_ (i := 37) (N := some 48) (v := undef) (a' := ?_) marksUc_38 rfl rfl (any_of HT_.out (by kernel_rfl)) (fun _ _ _ h => h) (Or.inr ⟨by rfl, rfl⟩) ?_ ?_
          rotate_left
          · simp only [Act.put, List.setIfInBounds_toArray, List.set_cons_zero, List.set_cons_succ, i64_w, i32_w]
            rfl
          refine pure_ (i := 38) (N := some 49) (v := undef) (a' := ?_) marksUc_39 rfl rfl (any_of HT_.out (by kernel_rfl)) (fun _ _ _ h => h) (Or.inr ⟨by rfl, rfl⟩) ?_ ?_
          rotate_left
          · simp only [Act.put, List.setIfInBounds_toArray, List.set_cons_zero, List.set_cons_succ, i64_w, i32_w]
            rfl
          refine pureQ (i := 39) (N := some 50) marksUc_40 (any_of HT_.out (by kernel_rfl)) ?_
          refine done_ (done_of HT_.out (by kernel_rfl)) ?_

-- REGION END
          go_wp2
          go_ret
          exact ⟨by rw [HX.out]; rfl, HB.out⟩
        · have v1 : decide (((rd_T36 nodes x).f3.size : Int) > 64) = false := decide_eq_false (by omega)
          have v2 : decide ((64 : Int) < ((rd_T36 nodes x).f3.size : Int)) = false := decide_eq_false (by omega)
          have v3 : (64 < (rd_T36 nodes x).f3.size) = False := eq_false (by omega)
          by_cases hx0 : x = 0
          · have y1 : decide (x > 0) = false := decide_eq_false (by omega)
            have y2 : decide (0 < x) = false := decide_eq_false (by omega)
            have y3 : (0 < x) = False := eq_false (by omega)
            have HX0 := Aside0.mk hx0
            have HV := Aside0.mk hv
            clear hx0 hv
            have HOKX := Aside0.mk (show nodeOk base nodes x = true by unfold nodeOk; rw [hfi, hls, hnb, decide_eq_true HV.out, decide_eq_true HX0.out]; simp)
            -- REGION R2first BEGIN
            refine start_ (n := 40) (S := fun w' => w'.cell? ⟨nb, 0, none⟩ = some (.int .i64 (rd_T36 nodes x).f0.f0) ∧ w'.cell? ⟨nb, 1, none⟩ = some (.int .i64 (rd_T36 nodes x).f0.f1) ∧ w'.cell? ⟨nb, 2, none⟩ = some (.int .i64 (rd_T36 nodes x).f1.f0) ∧ w'.cell? ⟨nb, 3, none⟩ = some (.int .i64 (rd_T36 nodes x).f1.f1) ∧ w'.cell? ⟨nb, 4, none⟩ = some (.string (rd_T36 nodes x).f2) ∧ w'.cell? ⟨nb, 5, none⟩ = some (.string (rd_T36 nodes x).f3) ∧ w'.cell? ⟨w.heap.size, 0, none⟩ = some (.slice (some ad) nodes.length cN) ∧ w'.cell? ⟨w.heap.size, 2, none⟩ = some (.int .i64 base.f0) ∧ w'.cell? ⟨w.heap.size, 3, none⟩ = some (.int .i64 base.f1)) (ds := []) marksUc_0 (by kernel_rfl) rfl rfl ⟨(blk_cell BN.out 0), (blk_cell BN.out 1), (blk_cell BN.out 2), (blk_cell BN.out 3), (blk_cell BN.out 4), (blk_cell BN.out 5), (blk_cell BS.out 0), (blk_cell BS.out 2), (blk_cell BS.out 3)⟩ (fun hHeld => ?_)
            refine with_tabW node_.tab2 node_.bits2 (fun HT_ HW_ => ?_)
            refine pureQ (i := 0) (N := some 11) marksUc_1 (any_of HT_.out (by kernel_rfl)) ?_
            refine take_ (i := 1) (N := some 12) (v := ?_) (a' := ?_) marksUc_2 rfl rfl (take_ofW HT_.out HW_.out (by kernel_rfl)) (fun _ _ _ h => h) (Or.inl ⟨by rfl, ?_⟩) hHeld ?_ ?_
            rotate_left
            · rintro w' ⟨s0, s1, s2, s3, s4, s5, s6, s7, s8⟩
              go_simp
              with_reducible rfl
            rotate_left
            · simp only [Act.put, List.setIfInBounds_toArray, List.set_cons_zero, List.set_cons_succ, i64_w, i32_w]
              rfl
            refine one_ (i := 2) (N := some 13) marksUc_3 rfl rfl (one_of HT_.out (by kernel_rfl)) (by decide) (fun K hK => ?_)
            refine goes_ Tryd.func50 (by kernel_rfl) rfl #[.agg #[.int .i64 (rd_T36 nodes x).f0.f0, .int .i64 (rd_T36 nodes x).f0.f1]] (by rfl) rfl rfl (by simp only [List.map_toArray, List.map_cons, List.map_nil]; rfl) ?_
            with_reducible refine (Go.Proofs.YtiffeljmeahmkaaDoor.V.samphireref10_May.calls _ _ _ _ HFI.out).mono ?_
            rintro e w5 ⟨rfl, hb⟩
            refine ⟨_, rfl, ?_⟩
            replace BS := Aside0.mk (blk_below BS.out hb)
            replace BN := Aside0.mk (blk_below BN.out hb)
            replace HB := Aside0.mk (below_then HB.out HB.out.size hb)
            clear hb
            refine hK.out _ _ ⟨(blk_cell BN.out 0), (blk_cell BN.out 1), (blk_cell BN.out 2), (blk_cell BN.out 3), (blk_cell BN.out 4), (blk_cell BN.out 5), (blk_cell BS.out 0), (blk_cell BS.out 2), (blk_cell BS.out 3)⟩ (fun hHeld => ?_)
            clear hK K
            refine norm_ (a' := ?_) ?_ ?_
            rotate_left
            · show Act.put _ (some 13) _ = _
              simp only [Act.put, List.setIfInBounds_toArray, List.set_cons_zero, List.set_cons_succ, i64_w, i32_w]
              rfl
            refine pureQ (i := 3) (N := some 14) marksUc_4 (any_of HT_.out (by kernel_rfl)) ?_
            refine pureQ (i := 4) (N := some 15) marksUc_5 (any_of HT_.out (by kernel_rfl)) ?_
            refine pureQ (i := 5) (N := some 16) marksUc_6 (any_of HT_.out (by kernel_rfl)) ?_
            refine pureQ (i := 7) (N := some 18) marksUc_41 (any_of HT_.out (by kernel_rfl)) ?_
            refine take_ (i := 6) (N := some 17) (v := ?_) (a' := ?_) marksUc_8 rfl rfl (take_ofW HT_.out HW_.out (by kernel_rfl)) (fun _ _ _ h => h) (Or.inl ⟨by rfl, ?_⟩) hHeld ?_ ?_
            rotate_left
            · rintro w' ⟨s0, s1, s2, s3, s4, s5, s6, s7, s8⟩
              go_simp
              with_reducible rfl
            rotate_left
            · simp only [Act.put, List.setIfInBounds_toArray, List.set_cons_zero, List.set_cons_succ, i64_w, i32_w]
              rfl
            refine take_ (i := 8) (N := some 19) (v := ?_) (a' := ?_) marksUc_9 rfl rfl (take_ofW HT_.out HW_.out (by kernel_rfl)) (fun _ _ _ h => h) (Or.inl ⟨by rfl, ?_⟩) hHeld ?_ ?_
            rotate_left
            · rintro w' ⟨s0, s1, s2, s3, s4, s5, s6, s7, s8⟩
              go_simp
              with_reducible rfl
            rotate_left
            · simp only [Act.put, List.setIfInBounds_toArray, List.set_cons_zero, List.set_cons_succ, i64_w, i32_w]
              rfl
            refine one_ (i := 9) (N := some 20) marksUc_10 rfl rfl (one_of HT_.out (by kernel_rfl)) (by decide) (fun K hK => ?_)
            refine goes_ Tryd.func18 (by kernel_rfl) rfl #[.agg #[.int .i64 base.f0, .int .i64 base.f1], .agg #[.int .i64 (rd_T36 nodes x).f0.f0, .int .i64 (rd_T36 nodes x).f0.f1]] (by rfl) rfl rfl (by simp only [List.map_toArray, List.map_cons, List.map_nil]; rfl) ?_
            with_reducible refine (samphireref10_Less.calls _ _ _ _ _ _ HLS.out).mono ?_
            rintro e w5 ⟨rfl, hb⟩
            refine ⟨_, rfl, ?_⟩
            replace BS := Aside0.mk (blk_below BS.out hb)
            replace BN := Aside0.mk (blk_below BN.out hb)
            replace HB := Aside0.mk (below_then HB.out HB.out.size hb)
            clear hb
            refine hK.out _ _ ⟨(blk_cell BN.out 0), (blk_cell BN.out 1), (blk_cell BN.out 2), (blk_cell BN.out 3), (blk_cell BN.out 4), (blk_cell BN.out 5), (blk_cell BS.out 0), (blk_cell BS.out 2), (blk_cell BS.out 3)⟩ (fun hHeld => ?_)
            clear hK K
            refine norm_ (a' := ?_) ?_ ?_
            rotate_left
            · show Act.put _ (some 20) _ = _
              simp only [Act.put, List.setIfInBounds_toArray, List.set_cons_zero, List.set_cons_succ, i64_w, i32_w]
              rfl
            refine pureQ (i := 10) (N := some 21) marksUc_11 (any_of HT_.out (by kernel_rfl)) ?_
            refine pureQ (i := 11) (N := some 22) marksUc_12 (any_of HT_.out (by kernel_rfl)) ?_
            refine pureQ (i := 12) (N := some 23) marksUc_13 (any_of HT_.out (by kernel_rfl)) ?_
            refine take_ (i := 13) (N := some 24) (v := ?_) (a' := ?_) marksUc_14 rfl rfl (take_ofW HT_.out HW_.out (by kernel_rfl)) (fun _ _ _ h => h) (Or.inl ⟨by rfl, ?_⟩) hHeld ?_ ?_
            rotate_left
            · rintro w' ⟨s0, s1, s2, s3, s4, s5, s6, s7, s8⟩
              go_simp
              with_reducible rfl
            rotate_left
            · simp only [Act.put, List.setIfInBounds_toArray, List.set_cons_zero, List.set_cons_succ, i64_w, i32_w]
              rfl
            refine one_ (i := 14) (N := some 25) marksUc_15 rfl rfl (one_of HT_.out (by kernel_rfl)) (by decide) (fun K hK => ?_)
            refine goes_ Tryd.func63 (by kernel_rfl) rfl #[.string (rd_T36 nodes x).f2] (by rfl) rfl rfl (by simp only [List.map_toArray, List.map_cons, List.map_nil]; rfl) ?_
            with_reducible refine (Go.Proofs.YtiffeljmeahmkaaDoor.V.samphireref08_Check.calls 400 _ _ _ HNM.out).mono ?_
            rintro e w5 ⟨rfl, hd⟩
            refine ⟨_, rfl, ?_⟩
            have hb := hd.below
            replace BS := Aside0.mk (blk_below BS.out hb)
            replace BN := Aside0.mk (blk_below BN.out hb)
            replace HB := Aside0.mk (below_then HB.out HB.out.size hb)
            clear hb
            clear hd
            refine hK.out _ _ ⟨(blk_cell BN.out 0), (blk_cell BN.out 1), (blk_cell BN.out 2), (blk_cell BN.out 3), (blk_cell BN.out 4), (blk_cell BN.out 5), (blk_cell BS.out 0), (blk_cell BS.out 2), (blk_cell BS.out 3)⟩ (fun hHeld => ?_)
            clear hK K
            refine norm_ (a' := ?_) ?_ ?_
            rotate_left
            · show Act.put _ (some 25) _ = _
              simp only [Act.put, List.setIfInBounds_toArray, List.set_cons_zero, List.set_cons_succ, i64_w, i32_w]
              rfl
            refine pureQ (i := 15) (N := some 26) marksUc_16 (any_of HT_.out (by kernel_rfl)) ?_
            refine pureQ (i := 16) (N := some 27) marksUc_17 (any_of HT_.out (by kernel_rfl)) ?_
            refine pureQ (i := 17) (N := some 28) marksUc_18 (any_of HT_.out (by kernel_rfl)) ?_
            refine pureQ (i := 18) (N := some 29) marksUc_19 (any_of HT_.out (by kernel_rfl)) ?_
            refine take_ (i := 19) (N := some 30) (v := ?_) (a' := ?_) marksUc_20 rfl rfl (take_ofW HT_.out HW_.out (by kernel_rfl)) (fun _ _ _ h => h) (Or.inl ⟨by rfl, ?_⟩) hHeld ?_ ?_
            rotate_left
            · rintro w' ⟨s0, s1, s2, s3, s4, s5, s6, s7, s8⟩
              go_simp
              with_reducible rfl
            rotate_left
            · simp only [Act.put, List.setIfInBounds_toArray, List.set_cons_zero, List.set_cons_succ, i64_w, i32_w]
              rfl
            refine pureQ (i := 20) (N := some 31) marksUc_21 (any_of HT_.out (by kernel_rfl)) ?_
            refine pureQ (i := 21) (N := some 32) marksUc_22 (any_of HT_.out (by kernel_rfl)) ?_
            refine pureQ (i := 22) (N := some 33) marksUc_23 (any_of HT_.out (by kernel_rfl)) ?_
            refine pureQ (i := 23) (N := some 34) marksUc_24 (any_of HT_.out (by kernel_rfl)) ?_
            refine pureQ (i := 24) (N := some 35) marksUc_25 (any_of HT_.out (by kernel_rfl)) ?_
            refine pureQ (i := 25) (N := some 36) marksUc_26 (any_of HT_.out (by kernel_rfl)) ?_
            refine pureQ (i := 26) (N := some 37) marksUc_27 (any_of HT_.out (by kernel_rfl)) ?_
            refine pure_ (i := 27) (N := some 38) (v := undef) (a' := ?_) marksUc_28 rfl rfl (any_of HT_.out (by kernel_rfl)) (fun _ _ _ h => h) (Or.inr ⟨by rfl, rfl⟩) ?_ ?_
            rotate_left
            · simp only [Act.put, List.setIfInBounds_toArray, List.set_cons_zero, List.set_cons_succ, i64_w, i32_w]
              rfl
            refine pure_ (i := 28) (N := some 39) (v := undef) (a' := ?_) marksUc_29 rfl rfl (any_of HT_.out (by kernel_rfl)) (fun _ _ _ h => h) (Or.inr ⟨by rfl, rfl⟩) ?_ ?_
            rotate_left
            · simp only [Act.put, List.setIfInBounds_toArray, List.set_cons_zero, List.set_cons_succ, i64_w, i32_w]
              rfl
            refine pure_ (i := 29) (N := some 40) (v := undef) (a' := ?_) marksUc_30 rfl rfl (any_of HT_.out (by kernel_rfl)) (fun _ _ _ h => h) (Or.inr ⟨by rfl, rfl⟩) ?_ ?_
            rotate_left
            · simp only [Act.put, List.setIfInBounds_toArray, List.set_cons_zero, List.set_cons_succ, i64_w, i32_w]
              rfl
            refine pure_ (i := 30) (N := some 41) (v := undef) (a' := ?_) marksUc_31 rfl rfl (any_of HT_.out (by kernel_rfl)) (fun _ _ _ h => h) (Or.inr ⟨by rfl, rfl⟩) ?_ ?_
            rotate_left
            · simp only [Act.put, List.setIfInBounds_toArray, List.set_cons_zero, List.set_cons_succ, i64_w, i32_w]
              rfl
            refine pure_ (i := 31) (N := some 42) (v := undef) (a' := ?_) marksUc_32 rfl rfl (any_of HT_.out (by kernel_rfl)) (fun _ _ _ h => h) (Or.inr ⟨by rfl, rfl⟩) ?_ ?_
            rotate_left
            · simp only [Act.put, List.setIfInBounds_toArray, List.set_cons_zero, List.set_cons_succ, i64_w, i32_w]
              rfl
            refine pure_ (i := 32) (N := some 43) (v := undef) (a' := ?_) marksUc_33 rfl rfl (any_of HT_.out (by kernel_rfl)) (fun _ _ _ h => h) (Or.inr ⟨by rfl, rfl⟩) ?_ ?_
            rotate_left
            · simp only [Act.put, List.setIfInBounds_toArray, List.set_cons_zero, List.set_cons_succ, i64_w, i32_w]
              rfl
            refine pure_ (i := 33) (N := some 44) (v := undef) (a' := ?_) marksUc_34 rfl rfl (any_of HT_.out (by kernel_rfl)) (fun _ _ _ h => h) (Or.inr ⟨by rfl, rfl⟩) ?_ ?_
            rotate_left
            · simp only [Act.put, List.setIfInBounds_toArray, List.set_cons_zero, List.set_cons_succ, i64_w, i32_w]
              rfl
            refine pure_ (i := 34) (N := some 45) (v := undef) (a' := ?_) marksUc_35 rfl rfl (any_of HT_.out (by kernel_rfl)) (fun _ _ _ h => h) (Or.inr ⟨by rfl, rfl⟩) ?_ ?_
            rotate_left
            · simp only [Act.put, List.setIfInBounds_toArray, List.set_cons_zero, List.set_cons_succ, i64_w, i32_w]
              rfl
            refine pure_ (i := 35) (N := some 46) (v := undef) (a' := ?_) marksUc_36 rfl rfl (any_of HT_.out (by kernel_rfl)) (fun _ _ _ h => h) (Or.inr ⟨by rfl, rfl⟩) ?_ ?_
            rotate_left
            · simp only [Act.put, List.setIfInBounds_toArray, List.set_cons_zero, List.set_cons_succ, i64_w, i32_w]
              rfl
            refine pure_ (i := 36) (N := some 47) (v := undef) (a' := ?_) marksUc_37 rfl rfl (any_of HT_.out (by kernel_rfl)) (fun _ _ _ h => h) (Or.inr ⟨by rfl, rfl⟩) ?_ ?_
            rotate_left
            · simp only [Act.put, List.setIfInBounds_toArray, List.set_cons_zero, List.set_cons_succ, i64_w, i32_w]
              rfl
            refine pure_ (i := 37) (N := some 48) (v := undef) (a' := ?_) marksUc_38 rfl rfl (any_of HT_.out (by kernel_rfl)) (fun _ _ _ h => h) (Or.inr ⟨by rfl, rfl⟩) ?_ ?_
            rotate_left
            · simp only [Act.put, List.setIfInBounds_toArray, List.set_cons_zero, List.set_cons_succ, i64_w, i32_w]
              rfl
            refine pureQ (i := 38) (N := some 49) marksUc_39 (any_of HT_.out (by kernel_rfl)) ?_
            refine pureQ (i := 39) (N := some 50) marksUc_40 (any_of HT_.out (by kernel_rfl)) ?_
            refine done_ (done_of HT_.out (by kernel_rfl)) ?_

-- REGION END
            clear b0 b1' b2 b3 b4 b5 bf z0 z1 z2 z3 zf
            obtain ⟨b0, b1', b2, b3, b4, b5, bf⟩ := Z6 BN.out
            obtain ⟨z0, z1, z2, z3, zf⟩ := Z4 BS.out
            by_cases hp0 : (rd_T36 nodes x).f1.f0 = 0
            · have o1 : decide ((rd_T36 nodes x).f1.f0 = 0) = true := decide_eq_true hp0
              have o2 : ((rd_T36 nodes x).f1.f0 == 0) = true := beq_iff_eq.2 hp0
              have HX := Aside0.mk (show (nodeOk base nodes x && parB nodes (rd_T36 nodes x)) = outerB (rd_T36 nodes x).f1 by rw [HOKX.out]; unfold parB; rw [if_pos hp0]; rfl)
              have HPR := Aside0.mk (P.parent_is (rd_T36 nodes x).f1.f0 (rd_T36 nodes x).f1.f1)
              have hf1 : fineB (rd_T36 nodes x).f1.f0 (rd_T36 nodes x).f1.f1 = false := by unfold fineB; exact decide_eq_false (by omega)
              rw [outB_is, hf1, Bool.or_false] at HPR
              clear hf1
              have o3 := eq_true hp0
              clear hp0
              go_wp2_with (go_at_call 62; refine (Go.Proofs.YtiffeljmeahmkaaDoor.V.samphireref11_parent.calls _ _ _ _ HPR.out).mono ?_; rintro e w6 ⟨rfl, hb⟩; replace BS := Aside0.mk (blk_below BS.out hb); replace BN := Aside0.mk (blk_below BN.out hb); replace HB := Aside0.mk (below_then HB.out HB.out.size hb); clear hb)
              go_ret
              exact ⟨by rw [HX.out]; rfl, HB.out⟩
            · have o1 : decide ((rd_T36 nodes x).f1.f0 = 0) = false := decide_eq_false hp0
              have o2 : ((rd_T36 nodes x).f1.f0 == 0) = false := beq_eq_false_iff_ne.2 hp0
              have o3 : ((rd_T36 nodes x).f1.f0 = 0) = False := eq_false hp0
              have HX := Aside0.mk (show (nodeOk base nodes x && parB nodes (rd_T36 nodes x)) = (has nodes (rd_T36 nodes x).f1 && !undR nodes (rd_T36 nodes x).f0 (nodes.length + 1) (rd_T36 nodes x).f1) by rw [HOKX.out]; unfold parB; rw [if_neg hp0]; rfl)
              clear hp0
              rcases fI_is nodes (rd_T36 nodes x).f1 with ⟨f1, f2, _, _⟩ | ⟨f1, f2⟩
              · rw [f1] at HX
                have g1 : decide (0 ≤ fI nodes (rd_T36 nodes x).f1) = true := decide_eq_true f2
                have g2 : (0 ≤ fI nodes (rd_T36 nodes x).f1) = True := eq_true f2
                have g3 : decide (fI nodes (rd_T36 nodes x).f1 ≥ 0) = true := decide_eq_true f2
                clear f1 f2
                go_wp2_with (first | (go_at_call 53; refine (find_calls _ _ nodes (rd_T36 nodes x).f1 (HN.out.below HB.out) HLN.out).mono ?_; rintro e w6 ⟨rfl, hb⟩; replace BS := Aside0.mk (blk_below BS.out hb); replace BN := Aside0.mk (blk_below BN.out hb); replace HB := Aside0.mk (below_then HB.out HB.out.size hb); clear hb; clear b0 b1' b2 b3 b4 b5 bf z0 z1 z2 z3 zf; obtain ⟨b0, b1', b2, b3, b4, b5, bf⟩ := Z6 BN.out; obtain ⟨z0, z1, z2, z3, zf⟩ := Z4 BS.out) | (go_at_call 69; refine (under_calls _ _ nodes (rd_T36 nodes x).f1 (rd_T36 nodes x).f0 (HN.out.below HB.out) HLN.out).mono ?_; rintro e w7 ⟨rfl, hb⟩; replace BS := Aside0.mk (blk_below BS.out hb); replace BN := Aside0.mk (blk_below BN.out hb); replace HB := Aside0.mk (below_then HB.out HB.out.size hb); clear hb))
                go_ret
                exact ⟨by rw [HX.out]; simp, HB.out⟩
              · rw [f1] at HX
                have g1 : decide (0 ≤ fI nodes (rd_T36 nodes x).f1) = false := decide_eq_false (by omega)
                have g2 : (0 ≤ fI nodes (rd_T36 nodes x).f1) = False := eq_false (by omega)
                have g3 : decide (fI nodes (rd_T36 nodes x).f1 ≥ 0) = false := decide_eq_false (by omega)
                clear f1 f2
                go_wp2_with (first | (go_at_call 53; refine (find_calls _ _ nodes (rd_T36 nodes x).f1 (HN.out.below HB.out) HLN.out).mono ?_; rintro e w6 ⟨rfl, hb⟩; replace BS := Aside0.mk (blk_below BS.out hb); replace BN := Aside0.mk (blk_below BN.out hb); replace HB := Aside0.mk (below_then HB.out HB.out.size hb); clear hb; clear b0 b1' b2 b3 b4 b5 bf z0 z1 z2 z3 zf; obtain ⟨b0, b1', b2, b3, b4, b5, bf⟩ := Z6 BN.out; obtain ⟨z0, z1, z2, z3, zf⟩ := Z4 BS.out) | (go_at_call 69; refine (under_calls _ _ nodes (rd_T36 nodes x).f1 (rd_T36 nodes x).f0 (HN.out.below HB.out) HLN.out).mono ?_; rintro e w7 ⟨rfl, hb⟩; replace BS := Aside0.mk (blk_below BS.out hb); replace BN := Aside0.mk (blk_below BN.out hb); replace HB := Aside0.mk (below_then HB.out HB.out.size hb); clear hb))
                go_ret
                exact ⟨by rw [HX.out]; rfl, HB.out⟩
          · have y1 : decide (x > 0) = true := decide_eq_true (by have := H0.out; omega)
            have y2 : decide (0 < x) = true := decide_eq_true (by have := H0.out; omega)
            have y3 : (0 < x) = True := eq_true (by have := H0.out; omega)
            have HZ0 := Aside0.mk (show 0 ≤ z by have := H0.out; have := HZX.out; omega)
            have HZ1 := Aside0.mk (show z < (nodes.length : Int) by have := H1.out; have := HZX.out; omega)
            have pz := eq_true HZ0.out
            have qz := eq_true HZ1.out
            have HX0 := Aside0.mk hx0
            have HV := Aside0.mk hv
            clear hx0 hv
            have HLP := Aside0.mk (ref10_less (rd_T36 nodes z).f0 (rd_T36 nodes x).f0)
            have hpz : (rd_T36 nodes (x - 1)) = (rd_T36 nodes z) := by rw [HZX.out]
            cases hpl : lessB (rd_T36 nodes z).f0 (rd_T36 nodes x).f0 with
            | false =>
              rw [hpl] at HLP
              have HX := Aside0.mk (show (nodeOk base nodes x && parB nodes (rd_T36 nodes x)) = false by unfold nodeOk; rw [hpz, hpl, decide_eq_false HX0.out]; simp)
              -- REGION R2prev BEGIN
              refine start_ (n := 40) (S := fun w' => w'.cell? ⟨nb, 0, none⟩ = some (.int .i64 (rd_T36 nodes x).f0.f0) ∧ w'.cell? ⟨nb, 1, none⟩ = some (.int .i64 (rd_T36 nodes x).f0.f1) ∧ w'.cell? ⟨nb, 2, none⟩ = some (.int .i64 (rd_T36 nodes x).f1.f0) ∧ w'.cell? ⟨nb, 3, none⟩ = some (.int .i64 (rd_T36 nodes x).f1.f1) ∧ w'.cell? ⟨nb, 4, none⟩ = some (.string (rd_T36 nodes x).f2) ∧ w'.cell? ⟨nb, 5, none⟩ = some (.string (rd_T36 nodes x).f3) ∧ w'.cell? ⟨w.heap.size, 0, none⟩ = some (.slice (some ad) nodes.length cN) ∧ w'.cell? ⟨w.heap.size, 2, none⟩ = some (.int .i64 base.f0) ∧ w'.cell? ⟨w.heap.size, 3, none⟩ = some (.int .i64 base.f1) ∧ w'.cell? (ad.add (z.toNat * 6)) = some (.int .i64 (rd_T36 nodes z).f0.f0) ∧ w'.cell? ⟨(ad.add (z.toNat * 6)).block, (ad.add (z.toNat * 6)).off + 1, none⟩ = some (.int .i64 (rd_T36 nodes z).f0.f1)) (ds := []) marksUc_0 (by kernel_rfl) rfl rfl ⟨(blk_cell BN.out 0), (blk_cell BN.out 1), (blk_cell BN.out 2), (blk_cell BN.out 3), (blk_cell BN.out 4), (blk_cell BN.out 5), (blk_cell BS.out 0), (blk_cell BS.out 2), (blk_cell BS.out 3), (ndx (HN.out.below HB.out) HZ0.out HZ1.out).1, (ndx (HN.out.below HB.out) HZ0.out HZ1.out).2⟩ (fun hHeld => ?_)
              refine with_tabW node_.tab2 node_.bits2 (fun HT_ HW_ => ?_)
              refine pureQ (i := 0) (N := some 11) marksUc_1 (any_of HT_.out (by kernel_rfl)) ?_
              refine take_ (i := 1) (N := some 12) (v := ?_) (a' := ?_) marksUc_2 rfl rfl (take_ofW HT_.out HW_.out (by kernel_rfl)) (fun _ _ _ h => h) (Or.inl ⟨by rfl, ?_⟩) hHeld ?_ ?_
              rotate_left
              · rintro w' ⟨s0, s1, s2, s3, s4, s5, s6, s7, s8, s9, s10⟩
                go_simp
                with_reducible rfl
              rotate_left
              · simp only [Act.put, List.setIfInBounds_toArray, List.set_cons_zero, List.set_cons_succ, i64_w, i32_w]
                rfl
              refine one_ (i := 2) (N := some 13) marksUc_3 rfl rfl (one_of HT_.out (by kernel_rfl)) (by decide) (fun K hK => ?_)
              refine goes_ Tryd.func50 (by kernel_rfl) rfl #[.agg #[.int .i64 (rd_T36 nodes x).f0.f0, .int .i64 (rd_T36 nodes x).f0.f1]] (by rfl) rfl rfl (by simp only [List.map_toArray, List.map_cons, List.map_nil]; rfl) ?_
              with_reducible refine (Go.Proofs.YtiffeljmeahmkaaDoor.V.samphireref10_May.calls _ _ _ _ HFI.out).mono ?_
              rintro e w5 ⟨rfl, hb⟩
              refine ⟨_, rfl, ?_⟩
              replace BS := Aside0.mk (blk_below BS.out hb)
              replace BN := Aside0.mk (blk_below BN.out hb)
              replace HB := Aside0.mk (below_then HB.out HB.out.size hb)
              clear hb
              refine hK.out _ _ ⟨(blk_cell BN.out 0), (blk_cell BN.out 1), (blk_cell BN.out 2), (blk_cell BN.out 3), (blk_cell BN.out 4), (blk_cell BN.out 5), (blk_cell BS.out 0), (blk_cell BS.out 2), (blk_cell BS.out 3), (ndx (HN.out.below HB.out) HZ0.out HZ1.out).1, (ndx (HN.out.below HB.out) HZ0.out HZ1.out).2⟩ (fun hHeld => ?_)
              clear hK K
              refine norm_ (a' := ?_) ?_ ?_
              rotate_left
              · show Act.put _ (some 13) _ = _
                simp only [Act.put, List.setIfInBounds_toArray, List.set_cons_zero, List.set_cons_succ, i64_w, i32_w]
                rfl
              refine pureQ (i := 3) (N := some 14) marksUc_4 (any_of HT_.out (by kernel_rfl)) ?_
              refine pureQ (i := 4) (N := some 15) marksUc_5 (any_of HT_.out (by kernel_rfl)) ?_
              refine pureQ (i := 5) (N := some 16) marksUc_6 (any_of HT_.out (by kernel_rfl)) ?_
              refine pureQ (i := 7) (N := some 18) marksUc_41 (any_of HT_.out (by kernel_rfl)) ?_
              refine take_ (i := 6) (N := some 17) (v := ?_) (a' := ?_) marksUc_8 rfl rfl (take_ofW HT_.out HW_.out (by kernel_rfl)) (fun _ _ _ h => h) (Or.inl ⟨by rfl, ?_⟩) hHeld ?_ ?_
              rotate_left
              · rintro w' ⟨s0, s1, s2, s3, s4, s5, s6, s7, s8, s9, s10⟩
                go_simp
                with_reducible rfl
              rotate_left
              · simp only [Act.put, List.setIfInBounds_toArray, List.set_cons_zero, List.set_cons_succ, i64_w, i32_w]
                rfl
              refine take_ (i := 8) (N := some 19) (v := ?_) (a' := ?_) marksUc_9 rfl rfl (take_ofW HT_.out HW_.out (by kernel_rfl)) (fun _ _ _ h => h) (Or.inl ⟨by rfl, ?_⟩) hHeld ?_ ?_
              rotate_left
              · rintro w' ⟨s0, s1, s2, s3, s4, s5, s6, s7, s8, s9, s10⟩
                go_simp
                with_reducible rfl
              rotate_left
              · simp only [Act.put, List.setIfInBounds_toArray, List.set_cons_zero, List.set_cons_succ, i64_w, i32_w]
                rfl
              refine one_ (i := 9) (N := some 20) marksUc_10 rfl rfl (one_of HT_.out (by kernel_rfl)) (by decide) (fun K hK => ?_)
              refine goes_ Tryd.func18 (by kernel_rfl) rfl #[.agg #[.int .i64 base.f0, .int .i64 base.f1], .agg #[.int .i64 (rd_T36 nodes x).f0.f0, .int .i64 (rd_T36 nodes x).f0.f1]] (by rfl) rfl rfl (by simp only [List.map_toArray, List.map_cons, List.map_nil]; rfl) ?_
              with_reducible refine (samphireref10_Less.calls _ _ _ _ _ _ HLS.out).mono ?_
              rintro e w5 ⟨rfl, hb⟩
              refine ⟨_, rfl, ?_⟩
              replace BS := Aside0.mk (blk_below BS.out hb)
              replace BN := Aside0.mk (blk_below BN.out hb)
              replace HB := Aside0.mk (below_then HB.out HB.out.size hb)
              clear hb
              refine hK.out _ _ ⟨(blk_cell BN.out 0), (blk_cell BN.out 1), (blk_cell BN.out 2), (blk_cell BN.out 3), (blk_cell BN.out 4), (blk_cell BN.out 5), (blk_cell BS.out 0), (blk_cell BS.out 2), (blk_cell BS.out 3), (ndx (HN.out.below HB.out) HZ0.out HZ1.out).1, (ndx (HN.out.below HB.out) HZ0.out HZ1.out).2⟩ (fun hHeld => ?_)
              clear hK K
              refine norm_ (a' := ?_) ?_ ?_
              rotate_left
              · show Act.put _ (some 20) _ = _
                simp only [Act.put, List.setIfInBounds_toArray, List.set_cons_zero, List.set_cons_succ, i64_w, i32_w]
                rfl
              refine pureQ (i := 10) (N := some 21) marksUc_11 (any_of HT_.out (by kernel_rfl)) ?_
              refine pureQ (i := 11) (N := some 22) marksUc_12 (any_of HT_.out (by kernel_rfl)) ?_
              refine pureQ (i := 12) (N := some 23) marksUc_13 (any_of HT_.out (by kernel_rfl)) ?_
              refine take_ (i := 13) (N := some 24) (v := ?_) (a' := ?_) marksUc_14 rfl rfl (take_ofW HT_.out HW_.out (by kernel_rfl)) (fun _ _ _ h => h) (Or.inl ⟨by rfl, ?_⟩) hHeld ?_ ?_
              rotate_left
              · rintro w' ⟨s0, s1, s2, s3, s4, s5, s6, s7, s8, s9, s10⟩
                go_simp
                with_reducible rfl
              rotate_left
              · simp only [Act.put, List.setIfInBounds_toArray, List.set_cons_zero, List.set_cons_succ, i64_w, i32_w]
                rfl
              refine one_ (i := 14) (N := some 25) marksUc_15 rfl rfl (one_of HT_.out (by kernel_rfl)) (by decide) (fun K hK => ?_)
              refine goes_ Tryd.func63 (by kernel_rfl) rfl #[.string (rd_T36 nodes x).f2] (by rfl) rfl rfl (by simp only [List.map_toArray, List.map_cons, List.map_nil]; rfl) ?_
              with_reducible refine (Go.Proofs.YtiffeljmeahmkaaDoor.V.samphireref08_Check.calls 400 _ _ _ HNM.out).mono ?_
              rintro e w5 ⟨rfl, hd⟩
              refine ⟨_, rfl, ?_⟩
              have hb := hd.below
              replace BS := Aside0.mk (blk_below BS.out hb)
              replace BN := Aside0.mk (blk_below BN.out hb)
              replace HB := Aside0.mk (below_then HB.out HB.out.size hb)
              clear hb
              clear hd
              refine hK.out _ _ ⟨(blk_cell BN.out 0), (blk_cell BN.out 1), (blk_cell BN.out 2), (blk_cell BN.out 3), (blk_cell BN.out 4), (blk_cell BN.out 5), (blk_cell BS.out 0), (blk_cell BS.out 2), (blk_cell BS.out 3), (ndx (HN.out.below HB.out) HZ0.out HZ1.out).1, (ndx (HN.out.below HB.out) HZ0.out HZ1.out).2⟩ (fun hHeld => ?_)
              clear hK K
              refine norm_ (a' := ?_) ?_ ?_
              rotate_left
              · show Act.put _ (some 25) _ = _
                simp only [Act.put, List.setIfInBounds_toArray, List.set_cons_zero, List.set_cons_succ, i64_w, i32_w]
                rfl
              refine pureQ (i := 15) (N := some 26) marksUc_16 (any_of HT_.out (by kernel_rfl)) ?_
              refine pureQ (i := 16) (N := some 27) marksUc_17 (any_of HT_.out (by kernel_rfl)) ?_
              refine pureQ (i := 17) (N := some 28) marksUc_18 (any_of HT_.out (by kernel_rfl)) ?_
              refine pureQ (i := 18) (N := some 29) marksUc_19 (any_of HT_.out (by kernel_rfl)) ?_
              refine take_ (i := 19) (N := some 30) (v := ?_) (a' := ?_) marksUc_20 rfl rfl (take_ofW HT_.out HW_.out (by kernel_rfl)) (fun _ _ _ h => h) (Or.inl ⟨by rfl, ?_⟩) hHeld ?_ ?_
              rotate_left
              · rintro w' ⟨s0, s1, s2, s3, s4, s5, s6, s7, s8, s9, s10⟩
                go_simp
                with_reducible rfl
              rotate_left
              · simp only [Act.put, List.setIfInBounds_toArray, List.set_cons_zero, List.set_cons_succ, i64_w, i32_w]
                rfl
              refine pureQ (i := 20) (N := some 31) marksUc_21 (any_of HT_.out (by kernel_rfl)) ?_
              refine pureQ (i := 21) (N := some 32) marksUc_22 (any_of HT_.out (by kernel_rfl)) ?_
              refine pureQ (i := 22) (N := some 33) marksUc_23 (any_of HT_.out (by kernel_rfl)) ?_
              refine pureQ (i := 23) (N := some 34) marksUc_24 (any_of HT_.out (by kernel_rfl)) ?_
              refine pureQ (i := 24) (N := some 35) marksUc_25 (any_of HT_.out (by kernel_rfl)) ?_
              refine pureQ (i := 25) (N := some 36) marksUc_26 (any_of HT_.out (by kernel_rfl)) ?_
              refine pureQ (i := 26) (N := some 37) marksUc_27 (any_of HT_.out (by kernel_rfl)) ?_
              refine pureQ (i := 27) (N := some 38) marksUc_28 (any_of HT_.out (by kernel_rfl)) ?_
              refine pureQ (i := 29) (N := some 40) marksUc_42 (any_of HT_.out (by kernel_rfl)) ?_
              refine pureQ (i := 30) (N := some 41) marksUc_43 (any_of HT_.out (by kernel_rfl)) ?_
              refine pureQ (i := 34) (N := some 45) marksUc_44 (any_of HT_.out (by kernel_rfl)) ?_
              refine take_ (i := 28) (N := some 39) (v := ?_) (a' := ?_) marksUc_45 rfl rfl (take_ofW HT_.out HW_.out (by kernel_rfl)) (fun _ _ _ h => h) (Or.inl ⟨by rfl, ?_⟩) hHeld ?_ ?_
              rotate_left
              · rintro w' ⟨s0, s1, s2, s3, s4, s5, s6, s7, s8, s9, s10⟩
                go_simp
                with_reducible rfl
              rotate_left
              · simp only [Act.put, List.setIfInBounds_toArray, List.set_cons_zero, List.set_cons_succ, i64_w, i32_w]
                rfl
              refine pureQ (i := 31) (N := some 42) marksUc_46 (any_of HT_.out (by kernel_rfl)) ?_
              refine pureQ (i := 32) (N := some 43) marksUc_47 (any_of HT_.out (by kernel_rfl)) ?_
              refine take_ (i := 33) (N := some 44) (v := ?_) (a' := ?_) marksUc_35 rfl rfl (take_ofW HT_.out HW_.out (by kernel_rfl)) (fun _ _ _ h => h) (Or.inl ⟨by rfl, ?_⟩) hHeld ?_ ?_
              rotate_left
              · rintro w' ⟨s0, s1, s2, s3, s4, s5, s6, s7, s8, s9, s10⟩
                go_simp
                with_reducible rfl
              rotate_left
              · simp only [Act.put, List.setIfInBounds_toArray, List.set_cons_zero, List.set_cons_succ, i64_w, i32_w]
                rfl
              refine take_ (i := 35) (N := some 46) (v := ?_) (a' := ?_) marksUc_36 rfl rfl (take_ofW HT_.out HW_.out (by kernel_rfl)) (fun _ _ _ h => h) (Or.inl ⟨by rfl, ?_⟩) hHeld ?_ ?_
              rotate_left
              · rintro w' ⟨s0, s1, s2, s3, s4, s5, s6, s7, s8, s9, s10⟩
                go_simp
                with_reducible rfl
              rotate_left
              · simp only [Act.put, List.setIfInBounds_toArray, List.set_cons_zero, List.set_cons_succ, i64_w, i32_w]
                rfl
              refine one_ (i := 36) (N := some 47) marksUc_37 rfl rfl (one_of HT_.out (by kernel_rfl)) (by decide) (fun K hK => ?_)
              refine goes_ Tryd.func18 (by kernel_rfl) rfl #[.agg #[.int .i64 (rd_T36 nodes z).f0.f0, .int .i64 (rd_T36 nodes z).f0.f1], .agg #[.int .i64 (rd_T36 nodes x).f0.f0, .int .i64 (rd_T36 nodes x).f0.f1]] (by rfl) rfl rfl (by simp only [List.map_toArray, List.map_cons, List.map_nil]; rfl) ?_
              with_reducible refine (samphireref10_Less.calls _ _ _ _ _ _ HLP.out).mono ?_
              rintro e w5 ⟨rfl, hb⟩
              refine ⟨_, rfl, ?_⟩
              replace BS := Aside0.mk (blk_below BS.out hb)
              replace BN := Aside0.mk (blk_below BN.out hb)
              replace HB := Aside0.mk (below_then HB.out HB.out.size hb)
              clear hb
              refine hK.out _ _ ⟨(blk_cell BN.out 0), (blk_cell BN.out 1), (blk_cell BN.out 2), (blk_cell BN.out 3), (blk_cell BN.out 4), (blk_cell BN.out 5), (blk_cell BS.out 0), (blk_cell BS.out 2), (blk_cell BS.out 3), (ndx (HN.out.below HB.out) HZ0.out HZ1.out).1, (ndx (HN.out.below HB.out) HZ0.out HZ1.out).2⟩ (fun hHeld => ?_)
              clear hK K
              refine norm_ (a' := ?_) ?_ ?_
              rotate_left
              · show Act.put _ (some 47) _ = _
                simp only [Act.put, List.setIfInBounds_toArray, List.set_cons_zero, List.set_cons_succ, i64_w, i32_w]
                rfl
              refine pureQ (i := 37) (N := some 48) marksUc_38 (any_of HT_.out (by kernel_rfl)) ?_
              refine pureQ (i := 38) (N := some 49) marksUc_39 (any_of HT_.out (by kernel_rfl)) ?_
              refine pureQ (i := 39) (N := some 50) marksUc_40 (any_of HT_.out (by kernel_rfl)) ?_
              refine done_ (done_of HT_.out (by kernel_rfl)) ?_

-- REGION END
              go_wp2
              go_ret
              exact ⟨by rw [HX.out]; rfl, HB.out⟩
            | true =>
              rw [hpl] at HLP
              have HOKX := Aside0.mk (show nodeOk base nodes x = true by unfold nodeOk; rw [hfi, hls, hnb, decide_eq_true HV.out, decide_eq_false HX0.out, hpz, hpl]; simp)
              -- REGION R2next BEGIN
              refine start_ (n := 40) (S := fun w' => w'.cell? ⟨nb, 0, none⟩ = some (.int .i64 (rd_T36 nodes x).f0.f0) ∧ w'.cell? ⟨nb, 1, none⟩ = some (.int .i64 (rd_T36 nodes x).f0.f1) ∧ w'.cell? ⟨nb, 2, none⟩ = some (.int .i64 (rd_T36 nodes x).f1.f0) ∧ w'.cell? ⟨nb, 3, none⟩ = some (.int .i64 (rd_T36 nodes x).f1.f1) ∧ w'.cell? ⟨nb, 4, none⟩ = some (.string (rd_T36 nodes x).f2) ∧ w'.cell? ⟨nb, 5, none⟩ = some (.string (rd_T36 nodes x).f3) ∧ w'.cell? ⟨w.heap.size, 0, none⟩ = some (.slice (some ad) nodes.length cN) ∧ w'.cell? ⟨w.heap.size, 2, none⟩ = some (.int .i64 base.f0) ∧ w'.cell? ⟨w.heap.size, 3, none⟩ = some (.int .i64 base.f1) ∧ w'.cell? (ad.add (z.toNat * 6)) = some (.int .i64 (rd_T36 nodes z).f0.f0) ∧ w'.cell? ⟨(ad.add (z.toNat * 6)).block, (ad.add (z.toNat * 6)).off + 1, none⟩ = some (.int .i64 (rd_T36 nodes z).f0.f1)) (ds := []) marksUc_0 (by kernel_rfl) rfl rfl ⟨(blk_cell BN.out 0), (blk_cell BN.out 1), (blk_cell BN.out 2), (blk_cell BN.out 3), (blk_cell BN.out 4), (blk_cell BN.out 5), (blk_cell BS.out 0), (blk_cell BS.out 2), (blk_cell BS.out 3), (ndx (HN.out.below HB.out) HZ0.out HZ1.out).1, (ndx (HN.out.below HB.out) HZ0.out HZ1.out).2⟩ (fun hHeld => ?_)
              refine with_tabW node_.tab2 node_.bits2 (fun HT_ HW_ => ?_)
              refine pureQ (i := 0) (N := some 11) marksUc_1 (any_of HT_.out (by kernel_rfl)) ?_
              refine take_ (i := 1) (N := some 12) (v := ?_) (a' := ?_) marksUc_2 rfl rfl (take_ofW HT_.out HW_.out (by kernel_rfl)) (fun _ _ _ h => h) (Or.inl ⟨by rfl, ?_⟩) hHeld ?_ ?_
              rotate_left
              · rintro w' ⟨s0, s1, s2, s3, s4, s5, s6, s7, s8, s9, s10⟩
                go_simp
                with_reducible rfl
              rotate_left
              · simp only [Act.put, List.setIfInBounds_toArray, List.set_cons_zero, List.set_cons_succ, i64_w, i32_w]
                rfl
              refine one_ (i := 2) (N := some 13) marksUc_3 rfl rfl (one_of HT_.out (by kernel_rfl)) (by decide) (fun K hK => ?_)
              refine goes_ Tryd.func50 (by kernel_rfl) rfl #[.agg #[.int .i64 (rd_T36 nodes x).f0.f0, .int .i64 (rd_T36 nodes x).f0.f1]] (by rfl) rfl rfl (by simp only [List.map_toArray, List.map_cons, List.map_nil]; rfl) ?_
              with_reducible refine (Go.Proofs.YtiffeljmeahmkaaDoor.V.samphireref10_May.calls _ _ _ _ HFI.out).mono ?_
              rintro e w5 ⟨rfl, hb⟩
              refine ⟨_, rfl, ?_⟩
              replace BS := Aside0.mk (blk_below BS.out hb)
              replace BN := Aside0.mk (blk_below BN.out hb)
              replace HB := Aside0.mk (below_then HB.out HB.out.size hb)
              clear hb
              refine hK.out _ _ ⟨(blk_cell BN.out 0), (blk_cell BN.out 1), (blk_cell BN.out 2), (blk_cell BN.out 3), (blk_cell BN.out 4), (blk_cell BN.out 5), (blk_cell BS.out 0), (blk_cell BS.out 2), (blk_cell BS.out 3), (ndx (HN.out.below HB.out) HZ0.out HZ1.out).1, (ndx (HN.out.below HB.out) HZ0.out HZ1.out).2⟩ (fun hHeld => ?_)
              clear hK K
              refine norm_ (a' := ?_) ?_ ?_
              rotate_left
              · show Act.put _ (some 13) _ = _
                simp only [Act.put, List.setIfInBounds_toArray, List.set_cons_zero, List.set_cons_succ, i64_w, i32_w]
                rfl
              refine pureQ (i := 3) (N := some 14) marksUc_4 (any_of HT_.out (by kernel_rfl)) ?_
              refine pureQ (i := 4) (N := some 15) marksUc_5 (any_of HT_.out (by kernel_rfl)) ?_
              refine pureQ (i := 5) (N := some 16) marksUc_6 (any_of HT_.out (by kernel_rfl)) ?_
              refine pureQ (i := 7) (N := some 18) marksUc_41 (any_of HT_.out (by kernel_rfl)) ?_
              refine take_ (i := 6) (N := some 17) (v := ?_) (a' := ?_) marksUc_8 rfl rfl (take_ofW HT_.out HW_.out (by kernel_rfl)) (fun _ _ _ h => h) (Or.inl ⟨by rfl, ?_⟩) hHeld ?_ ?_
              rotate_left
              · rintro w' ⟨s0, s1, s2, s3, s4, s5, s6, s7, s8, s9, s10⟩
                go_simp
                with_reducible rfl
              rotate_left
              · simp only [Act.put, List.setIfInBounds_toArray, List.set_cons_zero, List.set_cons_succ, i64_w, i32_w]
                rfl
              refine take_ (i := 8) (N := some 19) (v := ?_) (a' := ?_) marksUc_9 rfl rfl (take_ofW HT_.out HW_.out (by kernel_rfl)) (fun _ _ _ h => h) (Or.inl ⟨by rfl, ?_⟩) hHeld ?_ ?_
              rotate_left
              · rintro w' ⟨s0, s1, s2, s3, s4, s5, s6, s7, s8, s9, s10⟩
                go_simp
                with_reducible rfl
              rotate_left
              · simp only [Act.put, List.setIfInBounds_toArray, List.set_cons_zero, List.set_cons_succ, i64_w, i32_w]
                rfl
              refine one_ (i := 9) (N := some 20) marksUc_10 rfl rfl (one_of HT_.out (by kernel_rfl)) (by decide) (fun K hK => ?_)
              refine goes_ Tryd.func18 (by kernel_rfl) rfl #[.agg #[.int .i64 base.f0, .int .i64 base.f1], .agg #[.int .i64 (rd_T36 nodes x).f0.f0, .int .i64 (rd_T36 nodes x).f0.f1]] (by rfl) rfl rfl (by simp only [List.map_toArray, List.map_cons, List.map_nil]; rfl) ?_
              with_reducible refine (samphireref10_Less.calls _ _ _ _ _ _ HLS.out).mono ?_
              rintro e w5 ⟨rfl, hb⟩
              refine ⟨_, rfl, ?_⟩
              replace BS := Aside0.mk (blk_below BS.out hb)
              replace BN := Aside0.mk (blk_below BN.out hb)
              replace HB := Aside0.mk (below_then HB.out HB.out.size hb)
              clear hb
              refine hK.out _ _ ⟨(blk_cell BN.out 0), (blk_cell BN.out 1), (blk_cell BN.out 2), (blk_cell BN.out 3), (blk_cell BN.out 4), (blk_cell BN.out 5), (blk_cell BS.out 0), (blk_cell BS.out 2), (blk_cell BS.out 3), (ndx (HN.out.below HB.out) HZ0.out HZ1.out).1, (ndx (HN.out.below HB.out) HZ0.out HZ1.out).2⟩ (fun hHeld => ?_)
              clear hK K
              refine norm_ (a' := ?_) ?_ ?_
              rotate_left
              · show Act.put _ (some 20) _ = _
                simp only [Act.put, List.setIfInBounds_toArray, List.set_cons_zero, List.set_cons_succ, i64_w, i32_w]
                rfl
              refine pureQ (i := 10) (N := some 21) marksUc_11 (any_of HT_.out (by kernel_rfl)) ?_
              refine pureQ (i := 11) (N := some 22) marksUc_12 (any_of HT_.out (by kernel_rfl)) ?_
              refine pureQ (i := 12) (N := some 23) marksUc_13 (any_of HT_.out (by kernel_rfl)) ?_
              refine take_ (i := 13) (N := some 24) (v := ?_) (a' := ?_) marksUc_14 rfl rfl (take_ofW HT_.out HW_.out (by kernel_rfl)) (fun _ _ _ h => h) (Or.inl ⟨by rfl, ?_⟩) hHeld ?_ ?_
              rotate_left
              · rintro w' ⟨s0, s1, s2, s3, s4, s5, s6, s7, s8, s9, s10⟩
                go_simp
                with_reducible rfl
              rotate_left
              · simp only [Act.put, List.setIfInBounds_toArray, List.set_cons_zero, List.set_cons_succ, i64_w, i32_w]
                rfl
              refine one_ (i := 14) (N := some 25) marksUc_15 rfl rfl (one_of HT_.out (by kernel_rfl)) (by decide) (fun K hK => ?_)
              refine goes_ Tryd.func63 (by kernel_rfl) rfl #[.string (rd_T36 nodes x).f2] (by rfl) rfl rfl (by simp only [List.map_toArray, List.map_cons, List.map_nil]; rfl) ?_
              with_reducible refine (Go.Proofs.YtiffeljmeahmkaaDoor.V.samphireref08_Check.calls 400 _ _ _ HNM.out).mono ?_
              rintro e w5 ⟨rfl, hd⟩
              refine ⟨_, rfl, ?_⟩
              have hb := hd.below
              replace BS := Aside0.mk (blk_below BS.out hb)
              replace BN := Aside0.mk (blk_below BN.out hb)
              replace HB := Aside0.mk (below_then HB.out HB.out.size hb)
              clear hb
              clear hd
              refine hK.out _ _ ⟨(blk_cell BN.out 0), (blk_cell BN.out 1), (blk_cell BN.out 2), (blk_cell BN.out 3), (blk_cell BN.out 4), (blk_cell BN.out 5), (blk_cell BS.out 0), (blk_cell BS.out 2), (blk_cell BS.out 3), (ndx (HN.out.below HB.out) HZ0.out HZ1.out).1, (ndx (HN.out.below HB.out) HZ0.out HZ1.out).2⟩ (fun hHeld => ?_)
              clear hK K
              refine norm_ (a' := ?_) ?_ ?_
              rotate_left
              · show Act.put _ (some 25) _ = _
                simp only [Act.put, List.setIfInBounds_toArray, List.set_cons_zero, List.set_cons_succ, i64_w, i32_w]
                rfl
              refine pureQ (i := 15) (N := some 26) marksUc_16 (any_of HT_.out (by kernel_rfl)) ?_
              refine pureQ (i := 16) (N := some 27) marksUc_17 (any_of HT_.out (by kernel_rfl)) ?_
              refine pureQ (i := 17) (N := some 28) marksUc_18 (any_of HT_.out (by kernel_rfl)) ?_
              refine pureQ (i := 18) (N := some 29) marksUc_19 (any_of HT_.out (by kernel_rfl)) ?_
              refine take_ (i := 19) (N := some 30) (v := ?_) (a' := ?_) marksUc_20 rfl rfl (take_ofW HT_.out HW_.out (by kernel_rfl)) (fun _ _ _ h => h) (Or.inl ⟨by rfl, ?_⟩) hHeld ?_ ?_
              rotate_left
              · rintro w' ⟨s0, s1, s2, s3, s4, s5, s6, s7, s8, s9, s10⟩
                go_simp
                with_reducible rfl
              rotate_left
              · simp only [Act.put, List.setIfInBounds_toArray, List.set_cons_zero, List.set_cons_succ, i64_w, i32_w]
                rfl
              refine pureQ (i := 20) (N := some 31) marksUc_21 (any_of HT_.out (by kernel_rfl)) ?_
              refine pureQ (i := 21) (N := some 32) marksUc_22 (any_of HT_.out (by kernel_rfl)) ?_
              refine pureQ (i := 22) (N := some 33) marksUc_23 (any_of HT_.out (by kernel_rfl)) ?_
              refine pureQ (i := 23) (N := some 34) marksUc_24 (any_of HT_.out (by kernel_rfl)) ?_
              refine pureQ (i := 24) (N := some 35) marksUc_25 (any_of HT_.out (by kernel_rfl)) ?_
              refine pureQ (i := 25) (N := some 36) marksUc_26 (any_of HT_.out (by kernel_rfl)) ?_
              refine pureQ (i := 26) (N := some 37) marksUc_27 (any_of HT_.out (by kernel_rfl)) ?_
              refine pureQ (i := 27) (N := some 38) marksUc_28 (any_of HT_.out (by kernel_rfl)) ?_
              refine pureQ (i := 29) (N := some 40) marksUc_42 (any_of HT_.out (by kernel_rfl)) ?_
              refine pureQ (i := 30) (N := some 41) marksUc_43 (any_of HT_.out (by kernel_rfl)) ?_
              refine pureQ (i := 34) (N := some 45) marksUc_44 (any_of HT_.out (by kernel_rfl)) ?_
              refine take_ (i := 28) (N := some 39) (v := ?_) (a' := ?_) marksUc_45 rfl rfl (take_ofW HT_.out HW_.out (by kernel_rfl)) (fun _ _ _ h => h) (Or.inl ⟨by rfl, ?_⟩) hHeld ?_ ?_
              rotate_left
              · rintro w' ⟨s0, s1, s2, s3, s4, s5, s6, s7, s8, s9, s10⟩
                go_simp
                with_reducible rfl
              rotate_left
              · simp only [Act.put, List.setIfInBounds_toArray, List.set_cons_zero, List.set_cons_succ, i64_w, i32_w]
                rfl
              refine pureQ (i := 31) (N := some 42) marksUc_46 (any_of HT_.out (by kernel_rfl)) ?_
              refine pureQ (i := 32) (N := some 43) marksUc_47 (any_of HT_.out (by kernel_rfl)) ?_
              refine take_ (i := 33) (N := some 44) (v := ?_) (a' := ?_) marksUc_35 rfl rfl (take_ofW HT_.out HW_.out (by kernel_rfl)) (fun _ _ _ h => h) (Or.inl ⟨by rfl, ?_⟩) hHeld ?_ ?_
              rotate_left
              · rintro w' ⟨s0, s1, s2, s3, s4, s5, s6, s7, s8, s9, s10⟩
                go_simp
                with_reducible rfl
              rotate_left
              · simp only [Act.put, List.setIfInBounds_toArray, List.set_cons_zero, List.set_cons_succ, i64_w, i32_w]
                rfl
              refine take_ (i := 35) (N := some 46) (v := ?_) (a' := ?_) marksUc_36 rfl rfl (take_ofW HT_.out HW_.out (by kernel_rfl)) (fun _ _ _ h => h) (Or.inl ⟨by rfl, ?_⟩) hHeld ?_ ?_
              rotate_left
              · rintro w' ⟨s0, s1, s2, s3, s4, s5, s6, s7, s8, s9, s10⟩
                go_simp
                with_reducible rfl
              rotate_left
              · simp only [Act.put, List.setIfInBounds_toArray, List.set_cons_zero, List.set_cons_succ, i64_w, i32_w]
                rfl
              refine one_ (i := 36) (N := some 47) marksUc_37 rfl rfl (one_of HT_.out (by kernel_rfl)) (by decide) (fun K hK => ?_)
              refine goes_ Tryd.func18 (by kernel_rfl) rfl #[.agg #[.int .i64 (rd_T36 nodes z).f0.f0, .int .i64 (rd_T36 nodes z).f0.f1], .agg #[.int .i64 (rd_T36 nodes x).f0.f0, .int .i64 (rd_T36 nodes x).f0.f1]] (by rfl) rfl rfl (by simp only [List.map_toArray, List.map_cons, List.map_nil]; rfl) ?_
              with_reducible refine (samphireref10_Less.calls _ _ _ _ _ _ HLP.out).mono ?_
              rintro e w5 ⟨rfl, hb⟩
              refine ⟨_, rfl, ?_⟩
              replace BS := Aside0.mk (blk_below BS.out hb)
              replace BN := Aside0.mk (blk_below BN.out hb)
              replace HB := Aside0.mk (below_then HB.out HB.out.size hb)
              clear hb
              refine hK.out _ _ ⟨(blk_cell BN.out 0), (blk_cell BN.out 1), (blk_cell BN.out 2), (blk_cell BN.out 3), (blk_cell BN.out 4), (blk_cell BN.out 5), (blk_cell BS.out 0), (blk_cell BS.out 2), (blk_cell BS.out 3), (ndx (HN.out.below HB.out) HZ0.out HZ1.out).1, (ndx (HN.out.below HB.out) HZ0.out HZ1.out).2⟩ (fun hHeld => ?_)
              clear hK K
              refine norm_ (a' := ?_) ?_ ?_
              rotate_left
              · show Act.put _ (some 47) _ = _
                simp only [Act.put, List.setIfInBounds_toArray, List.set_cons_zero, List.set_cons_succ, i64_w, i32_w]
                rfl
              refine pureQ (i := 37) (N := some 48) marksUc_38 (any_of HT_.out (by kernel_rfl)) ?_
              refine pureQ (i := 38) (N := some 49) marksUc_39 (any_of HT_.out (by kernel_rfl)) ?_
              refine pureQ (i := 39) (N := some 50) marksUc_40 (any_of HT_.out (by kernel_rfl)) ?_
              refine done_ (done_of HT_.out (by kernel_rfl)) ?_

-- REGION END
              clear b0 b1' b2 b3 b4 b5 bf z0 z1 z2 z3 zf
              obtain ⟨b0, b1', b2, b3, b4, b5, bf⟩ := Z6 BN.out
              obtain ⟨z0, z1, z2, z3, zf⟩ := Z4 BS.out
              by_cases hp0 : (rd_T36 nodes x).f1.f0 = 0
              · have o1 : decide ((rd_T36 nodes x).f1.f0 = 0) = true := decide_eq_true hp0
                have o2 : ((rd_T36 nodes x).f1.f0 == 0) = true := beq_iff_eq.2 hp0
                have HX := Aside0.mk (show (nodeOk base nodes x && parB nodes (rd_T36 nodes x)) = outerB (rd_T36 nodes x).f1 by rw [HOKX.out]; unfold parB; rw [if_pos hp0]; rfl)
                have HPR := Aside0.mk (P.parent_is (rd_T36 nodes x).f1.f0 (rd_T36 nodes x).f1.f1)
                have hf1 : fineB (rd_T36 nodes x).f1.f0 (rd_T36 nodes x).f1.f1 = false := by unfold fineB; exact decide_eq_false (by omega)
                rw [outB_is, hf1, Bool.or_false] at HPR
                clear hf1
                have o3 := eq_true hp0
                clear hp0
                go_wp2_with (go_at_call 62; refine (Go.Proofs.YtiffeljmeahmkaaDoor.V.samphireref11_parent.calls _ _ _ _ HPR.out).mono ?_; rintro e w6 ⟨rfl, hb⟩; replace BS := Aside0.mk (blk_below BS.out hb); replace BN := Aside0.mk (blk_below BN.out hb); replace HB := Aside0.mk (below_then HB.out HB.out.size hb); clear hb)
                go_ret
                exact ⟨by rw [HX.out]; rfl, HB.out⟩
              · have o1 : decide ((rd_T36 nodes x).f1.f0 = 0) = false := decide_eq_false hp0
                have o2 : ((rd_T36 nodes x).f1.f0 == 0) = false := beq_eq_false_iff_ne.2 hp0
                have o3 : ((rd_T36 nodes x).f1.f0 = 0) = False := eq_false hp0
                have HX := Aside0.mk (show (nodeOk base nodes x && parB nodes (rd_T36 nodes x)) = (has nodes (rd_T36 nodes x).f1 && !undR nodes (rd_T36 nodes x).f0 (nodes.length + 1) (rd_T36 nodes x).f1) by rw [HOKX.out]; unfold parB; rw [if_neg hp0]; rfl)
                clear hp0
                rcases fI_is nodes (rd_T36 nodes x).f1 with ⟨f1, f2, _, _⟩ | ⟨f1, f2⟩
                · rw [f1] at HX
                  have g1 : decide (0 ≤ fI nodes (rd_T36 nodes x).f1) = true := decide_eq_true f2
                  have g2 : (0 ≤ fI nodes (rd_T36 nodes x).f1) = True := eq_true f2
                  have g3 : decide (fI nodes (rd_T36 nodes x).f1 ≥ 0) = true := decide_eq_true f2
                  clear f1 f2
                  go_wp2_with (first | (go_at_call 53; refine (find_calls _ _ nodes (rd_T36 nodes x).f1 (HN.out.below HB.out) HLN.out).mono ?_; rintro e w6 ⟨rfl, hb⟩; replace BS := Aside0.mk (blk_below BS.out hb); replace BN := Aside0.mk (blk_below BN.out hb); replace HB := Aside0.mk (below_then HB.out HB.out.size hb); clear hb; clear b0 b1' b2 b3 b4 b5 bf z0 z1 z2 z3 zf; obtain ⟨b0, b1', b2, b3, b4, b5, bf⟩ := Z6 BN.out; obtain ⟨z0, z1, z2, z3, zf⟩ := Z4 BS.out) | (go_at_call 69; refine (under_calls _ _ nodes (rd_T36 nodes x).f1 (rd_T36 nodes x).f0 (HN.out.below HB.out) HLN.out).mono ?_; rintro e w7 ⟨rfl, hb⟩; replace BS := Aside0.mk (blk_below BS.out hb); replace BN := Aside0.mk (blk_below BN.out hb); replace HB := Aside0.mk (below_then HB.out HB.out.size hb); clear hb))
                  go_ret
                  exact ⟨by rw [HX.out]; simp, HB.out⟩
                · rw [f1] at HX
                  have g1 : decide (0 ≤ fI nodes (rd_T36 nodes x).f1) = false := decide_eq_false (by omega)
                  have g2 : (0 ≤ fI nodes (rd_T36 nodes x).f1) = False := eq_false (by omega)
                  have g3 : decide (fI nodes (rd_T36 nodes x).f1 ≥ 0) = false := decide_eq_false (by omega)
                  clear f1 f2
                  go_wp2_with (first | (go_at_call 53; refine (find_calls _ _ nodes (rd_T36 nodes x).f1 (HN.out.below HB.out) HLN.out).mono ?_; rintro e w6 ⟨rfl, hb⟩; replace BS := Aside0.mk (blk_below BS.out hb); replace BN := Aside0.mk (blk_below BN.out hb); replace HB := Aside0.mk (below_then HB.out HB.out.size hb); clear hb; clear b0 b1' b2 b3 b4 b5 bf z0 z1 z2 z3 zf; obtain ⟨b0, b1', b2, b3, b4, b5, bf⟩ := Z6 BN.out; obtain ⟨z0, z1, z2, z3, zf⟩ := Z4 BS.out) | (go_at_call 69; refine (under_calls _ _ nodes (rd_T36 nodes x).f1 (rd_T36 nodes x).f0 (HN.out.below HB.out) HLN.out).mono ?_; rintro e w7 ⟨rfl, hb⟩; replace BS := Aside0.mk (blk_below BS.out hb); replace BN := Aside0.mk (blk_below BN.out hb); replace HB := Aside0.mk (below_then HB.out HB.out.size hb); clear hb))
                  go_ret
                  exact ⟨by rw [HX.out]; rfl, HB.out⟩
end Go.Proofs.YtiffeljmeahmkaaDoor.S
/- The document's Of. -/
namespace Go.Proofs.YtiffeljmeahmkaaDoor.S
open Go.RowKit Go.Proofs.YtiffeljmeahmkaaDoorW.PrintWords Go.Proofs.YtiffeljmeahmkaaDoorW.PrintLast Go.Proofs.YtiffeljmeahmkaaDoorW.PrintMore
open Go.Proofs.YtiffeljmeahmkaaDoor.P (isName L chkO goodO)
set_option linter.unusedVariables false
set_option linter.unusedSimpArgs false
attribute [local go_sem high] eqA25
abbrev marksUd_0 : Array Bool := #[false, false, false, false, false, false, false, false, false, false, false, false, false]
abbrev marksUd_1 : Array Bool := #[false, true, false, false, false, false, false, false, false, false, false, false, false]
abbrev marksUd_2 : Array Bool := #[false, true, false, true, false, false, false, false, false, false, false, false, false]
abbrev marksUd_3 : Array Bool := #[true, true, false, true, false, false, false, false, false, false, false, false, false]
abbrev marksUd_4 : Array Bool := #[true, true, true, true, false, false, false, false, false, false, false, false, false]
abbrev marksUd_5 : Array Bool := #[true, true, true, true, true, false, false, false, false, false, false, false, false]
abbrev marksUd_6 : Array Bool := #[true, true, true, true, true, true, false, false, false, false, false, false, false]
abbrev marksUd_7 : Array Bool := #[true, true, true, true, true, true, true, true, true, true, true, false, false]
abbrev marksUd_8 : Array Bool := #[true, true, true, true, true, true, true, false, false, false, false, false, false]
abbrev marksUd_9 : Array Bool := #[true, true, true, true, true, true, false, false, false, false, true, false, false]
abbrev marksUd_10 : Array Bool := #[true, true, true, true, true, true, true, true, false, false, false, false, false]
abbrev marksUd_11 : Array Bool := #[true, true, true, true, true, true, true, true, true, false, false, false, false]
abbrev marksUd_12 : Array Bool := #[true, true, true, true, true, true, true, true, true, true, false, false, false]
abbrev marksUd_13 : Array Bool := #[true, true, true, true, true, true, true, false, false, false, true, false, false]
abbrev marksUd_14 : Array Bool := #[true, true, true, true, true, true, true, true, false, false, true, false, false]
abbrev marksUd_15 : Array Bool := #[true, true, true, true, true, true, true, true, true, false, true, false, false]
abbrev marksUd_16 : Array Bool := #[true, true, true, true, true, true, true, true, true, true, true, true, false]
abbrev marksUd_17 : Array Bool := #[true, true, true, true, true, true, true, true, true, true, true, true, true]
theorem start_iff {base : Stp} {nodes : List Nod} : StartOk base nodes ↔ (nodes.length ≤ 512 ∧ baseOk base = true ∧ ∀ x : Int, 0 ≤ x → x < nodes.length → (nodeOk base nodes x && parB nodes (rd_T36 nodes x)) = true) := by
  have key : allOk base nodes → (nodes.map fun n => n.f0).Nodup ∧ ∀ n ∈ nodes, 1 ≤ n.f0.f0 := by
    intro h
    have hs := ok_srt (base := base) nodes.length (Nat.le_refl _) (fun y a b => h y a b)
    rw [List.take_length] at hs
    refine ⟨hs.nodup, fun n hn => ?_⟩
    obtain ⟨i, hi, rfl⟩ := List.getElem_of_mem hn
    have h1 := h (i : Int) (by omega) (by omega)
    unfold nodeOk at h1
    simp only [Bool.and_eq_true] at h1
    have h2 := of_decide_eq_true h1.1.1.1.1
    rw [rdN_at nodes i hi, getElem!_pos nodes i hi] at h2
    exact h2.1
  constructor
  · intro h
    obtain ⟨hd, hi⟩ := key h.all
    refine ⟨h.len, h.bas, fun x h0 h1 => ?_⟩
    obtain ⟨i, hi2, hii, e⟩ := rdn_is nodes x h0 h1
    rw [h.all x h0 h1, Bool.true_and, e]
    exact (par_chain hd hi).1 h.chain _ (List.getElem_mem hi2)
  · rintro ⟨h1, h2, h3⟩
    have ha : allOk base nodes := fun x a b => by have := h3 x a b; simp at this; exact this.1
    obtain ⟨hd, hi⟩ := key ha
    refine ⟨h1, h2, ha, (par_chain hd hi).2 (fun n hn => ?_)⟩
    obtain ⟨i, hi2, rfl⟩ := List.getElem_of_mem hn
    have := h3 (i : Int) (by omega) (by omega)
    simp at this
    rw [rdN_at nodes i hi2, getElem!_pos nodes i hi2] at this
    exact this.2
/-- What the document's Of answers. -/
def ROfSpec (w : World) (vN : Value) (nodes : List Nod) (ops : List Opn) (base : Stp) (e : Ending) (w' : World) : Prop :=
  (¬ StartOk base nodes → e = .returned (.tuple #[.agg #[.slice none 0 0, .slice none 0 0, .int .i64 0, .int .i64 0], .int .i64 1])) ∧
  (StartOk base nodes → (putAll (T0 base nodes) ops).2 ≠ 0 → e = .returned (.tuple #[.agg #[.slice none 0 0, .slice none 0 0, .int .i64 0, .int .i64 0], .int .i64 (putAll (T0 base nodes) ops).2])) ∧
  (StartOk base nodes → (putAll (T0 base nodes) ops).2 = 0 → ∃ vO', e = .returned (.tuple #[.agg (trCells vN vO' base), .int .i64 0]) ∧ RowSO w.heap.size w' vO' (putAll (T0 base nodes) ops).1 ∧ Newer w.heap.size vO') ∧ Below w.heap.size w w'
theorem ROfSpec.bad {w w' : World} {vN : Value} {nodes : List Nod} {ops : List Opn} {base : Stp} (h : ¬ StartOk base nodes) (hb : Below w.heap.size w w') : ROfSpec w vN nodes ops base (.returned (.tuple #[.agg #[.slice none 0 0, .slice none 0 0, .int .i64 0, .int .i64 0], .int .i64 1])) w' :=
  ⟨fun _ => rfl, fun h1 => absurd h1 h, fun h1 => absurd h1 h, hb⟩
theorem ROfSpec.fault {w w' : World} {vN : Value} {nodes : List Nod} {ops : List Opn} {base : Stp} {pe : Int} (hs : StartOk base nodes) (h : (putAll (T0 base nodes) ops).2 = pe) (hne : pe ≠ 0) (hb : Below w.heap.size w w') : ROfSpec w vN nodes ops base (.returned (.tuple #[.agg #[.slice none 0 0, .slice none 0 0, .int .i64 0, .int .i64 0], .int .i64 pe])) w' :=
  ⟨fun h1 => absurd hs h1, fun _ _ => by rw [h], fun _ h1 => absurd (h.symm.trans h1) hne, hb⟩
theorem ROfSpec.good {w w' : World} {vN vO' : Value} {nodes : List Nod} {acc' ops : List Opn} {base : Stp} (hs : StartOk base nodes) (h : putAll (T0 base nodes) ops = (acc', 0)) (hr : RowSO w.heap.size w' vO' acc') (hn : Newer w.heap.size vO') (hb : Below w.heap.size w w') : ROfSpec w vN nodes ops base (.returned (.tuple #[.agg (trCells vN vO' base), .int .i64 0])) w' :=
  ⟨fun h3 => absurd hs h3, fun _ h3 => absurd (by rw [h]) h3, fun _ _ => ⟨vO', rfl, by rw [h]; exact hr, hn⟩, hb⟩
theorem putO_inv {T : Tr} {o : Opn} {r : Int} (hs : Sorted T.ops) (hl : T.ops.length ≤ 512) : Sorted (putO T o r).1 ∧ (putO T o r).1.length ≤ 512 := by
  unfold putO
  split
  · exact ⟨hs, hl⟩
  · split
    · exact ⟨hs, hl⟩
    · rename_i hi
      split
      · exact ⟨hs, hl⟩
      · rename_i hf
        refine ⟨insO_sorted hs (by simpa using hi), ?_⟩
        rw [insO_length]
        unfold fullB at hf
        simp at hf
        omega
theorem rApplyC {w wr : World} {vN vO : Value} {nodes : List Nod} {acc : List Opn} {base : Stp} (hN : RowN wr vN nodes) (hQ : RowSO w.heap.size wr vO acc) (hW : Newer w.heap.size vO) (hs : Sorted acc) (hl : acc.length ≤ 512) (hn : nodes.length ≤ 512) (o : Opn) (ho : o.f4.size ≤ 200) (hsz : w.heap.size ≤ wr.heap.size) :
    Calls Tryd.prog 21 #[.agg (trCells vN vO base), opVal o] wr fun e w' => ∃ A' c', e = .returned (.tuple #[.agg (trCells vN (.slice A' (putO ⟨nodes, [], acc, base⟩ o (chkO o)).1.length c') base), .int .i64 (putO ⟨nodes, [], acc, base⟩ o (chkO o)).2]) ∧ RowSO w.heap.size w' (.slice A' (putO ⟨nodes, [], acc, base⟩ o (chkO o)).1.length c') (putO ⟨nodes, [], acc, base⟩ o (chkO o)).1 ∧ Newer w.heap.size (.slice A' (putO ⟨nodes, [], acc, base⟩ o (chkO o)).1.length c') ∧ Below wr.heap.size wr w' := by
  refine (rApply_calls wr vN vO nodes acc base o 300 (goodO o) hN hQ.1 (P.may_good o ho) hs (Nat.le_trans hl (by decide)) (Nat.le_trans hn (by decide))).mono ?_
  rintro e w' ⟨v', rfl, hr, ht, hb⟩
  have hpa : putA nodes.length acc base o (goodO o) = putO ⟨nodes, [], acc, base⟩ o (chkO o) := putA_put (T := ⟨nodes, [], acc, base⟩) rfl
  rw [hpa] at hr ht ⊢
  have h1 : RowSO w.heap.size w' v' (putO ⟨nodes, [], acc, base⟩ o (chkO o)).1 := by
    rcases ht with ⟨rfl, e⟩ | ⟨ht, _⟩
    · rw [e]; exact hQ.below hb
    · exact RowSO.of hr ht
  have h2 : Newer w.heap.size v' := by
    rcases ht with ⟨rfl, _⟩ | ⟨_, ht⟩
    · exact hW
    · exact ht.mono hsz
  obtain ⟨A', c', rfl, _, _⟩ := hr
  exact ⟨A', c', rfl, h1, h2, hb⟩
theorem opx_ {w : World} {ad : Addr} {m c : Nat} {l : List Opn} {x : Int} (h : RowO w (.slice (some ad) m c) l) (h0 : 0 ≤ x) (h1 : x < l.length) :
    w.cell? (ad.add (x.toNat * 9)) = some (.int .i64 (rd_T28 l x).f0) ∧ w.cell? ⟨(ad.add (x.toNat * 9)).block, (ad.add (x.toNat * 9)).off + 1, none⟩ = some (.int .i64 (rd_T28 l x).f1.f0) ∧ w.cell? ⟨(ad.add (x.toNat * 9)).block, (ad.add (x.toNat * 9)).off + 2, none⟩ = some (.int .i64 (rd_T28 l x).f1.f1) ∧ w.cell? ⟨(ad.add (x.toNat * 9)).block, (ad.add (x.toNat * 9)).off + 3, none⟩ = some (.int .i64 (rd_T28 l x).f2.f0) ∧ w.cell? ⟨(ad.add (x.toNat * 9)).block, (ad.add (x.toNat * 9)).off + 4, none⟩ = some (.int .i64 (rd_T28 l x).f2.f1) ∧
    w.cell? ⟨(ad.add (x.toNat * 9)).block, (ad.add (x.toNat * 9)).off + 5, none⟩ = some (.int .i64 (rd_T28 l x).f3.f0) ∧ w.cell? ⟨(ad.add (x.toNat * 9)).block, (ad.add (x.toNat * 9)).off + 6, none⟩ = some (.int .i64 (rd_T28 l x).f3.f1) ∧ w.cell? ⟨(ad.add (x.toNat * 9)).block, (ad.add (x.toNat * 9)).off + 7, none⟩ = some (.string (rd_T28 l x).f4) ∧ w.cell? ⟨(ad.add (x.toNat * 9)).block, (ad.add (x.toNat * 9)).off + 8, none⟩ = some (.string (rd_T28 l x).f5) := opx h.at.2.2 h0 h1
-- TABLE BEGIN
def rof_.T12 : Bool × List (List Nat × List Nat) := (true, [([], []), ([], []), ([1], [1]), ([], []), ([2, 3], [2, 3]), ([4], [4]), ([0, 5], [0, 5]), ([6], [6]), ([7], [7]), ([7], [7]), ([], []), ([10, 8, 6, 0, 1, 2, 3, 4, 5, 6, 7, 8, 10], [8, 10]), ([9, 11, 0, 1, 2, 3, 4, 5, 6, 7, 8, 9, 10, 11], [9])])
def rof_.B12 : List Nat := [0, 0, 2, 0, 14, 30, 63, 127, 255, 255, 0, 1535, 4095]
theorem rof_.tab12 : rtab .any (opsOf Tryd.f33 12) = rof_.T12 := by kernel_rfl
theorem rof_.bits12 : waitsOk rof_.T12.2 rof_.B12 = true := by kernel_rfl
-- TABLE END
set_option maxHeartbeats 16000000 in
set_option maxRecDepth 100000 in
theorem rOf_calls (w : World) (vN vO : Value) (nodes : List Nod) (ops : List Opn) (base : Stp) (hN : RowN w vN nodes) (hO : RowO w vO ops) (hnm : ∀ m ∈ nodes, m.f2.size ≤ 200) (hon : ∀ o ∈ ops, o.f4.size ≤ 200) (hol : ops.length ≤ 100000) :
    Calls Tryd.prog 33 #[.agg #[vN, vO, .int .i64 base.f0, .int .i64 base.f1]] w (ROfSpec w vN nodes ops base) := by
  have hu := Tryd.underlying71
  have hu1 := Tryd.underlying25
  have hu2 := Tryd.underlying50
  have hu3 := Tryd.underlying28
  have HN := Aside0.mk hN
  have HO := Aside0.mk hO
  obtain ⟨AN, cN, e, _, _⟩ := hN
  subst e
  obtain ⟨AO, cO, e, _, _⟩ := hO
  subst e
  have HNM := Aside0.mk hnm
  have HON := Aside0.mk hon
  have HOL := Aside0.mk hol
  have hg : w.heap.size ≤ w.heap.size + 1 := by omega
  have two := two_new w (.cells #[.slice AN nodes.length cN, .slice AO ops.length cO, .int .i64 base.f0, .int .i64 base.f1] 71) (.cells #[.slice none 0 0, .slice none 0 0, .int .i64 0, .int .i64 0] 50)
  have BS := Aside0.mk two.1
  have BR := Aside0.mk two.2
  have HB := Aside0.mk (two_below w (.cells #[.slice AN nodes.length cN, .slice AO ops.length cO, .int .i64 base.f0, .int .i64 base.f1] 71) (.cells #[.slice none 0 0, .slice none 0 0, .int .i64 0, .int .i64 0] 50))
  clear two hnm hon hol
  go_enter Tryd.func33, Tryd.ntmps33
  go_upto_region 1 with fail
  generalize (w.alloc (.cells #[.slice AN nodes.length cN, .slice AO ops.length cO, .int .i64 base.f0, .int .i64 base.f1] 71)).alloc (.cells #[.slice none 0 0, .slice none 0 0, .int .i64 0, .int .i64 0] 50) = w1 at BS BR HB ⊢
  obtain ⟨z0, z1, z2, z3, zf⟩ := Z4 BS.out
  by_cases hlen : 512 < nodes.length
  · have m1 : decide ((512 : Int) < (nodes.length : Int)) = true := decide_eq_true (by omega)
    have m2 : (512 < nodes.length) = True := eq_true hlen
    have m3 : decide ((nodes.length : Int) > 512) = true := decide_eq_true (by omega)
    have HX := Aside0.mk (show ¬ StartOk base nodes from fun h => by have := h.len; omega)
    clear hlen
    obtain ⟨n0, n1, n2, n3, nf0, nf1, nf2, nf3⟩ := Z4 BR.out
    go_wp2
    try simp only [Exit.inBlock, Exit.then]
    refine bodyPost_ret (results_ct rfl _ _ (w.heap.size + 1) 50 #[.slice none 0 0, .slice none 0 0, .int .i64 0, .int .i64 0] (0, 0) _ rfl (blk_put (blk_put (blk_put (blk_put (BR.out) 0 _ rfl) 1 _ rfl) 2 _ rfl) 3 _ rfl) Tryd.underlying50 rfl (by kernel_rfl)) rfl ?_
    exact ROfSpec.bad HX.out (below_set (below_set (below_set (below_set (HB.out) hg) hg) hg) hg)
  have HLEN := Aside0.mk (show nodes.length ≤ 512 by omega)
  have m1 : decide ((512 : Int) < (nodes.length : Int)) = false := decide_eq_false (by omega)
  have m2 : (512 < nodes.length) = False := eq_false hlen
  have m3 : decide ((nodes.length : Int) > 512) = false := decide_eq_false (by omega)
  clear hlen
  have HFB := Aside0.mk (P.may10_is base.f0 base.f1)
  by_cases hbo : baseOk base = true
  rotate_left
  · have HX := Aside0.mk (show ¬ StartOk base nodes from fun h => hbo h.bas)
    unfold baseOk at hbo
    have hbo : (fineB base.f0 base.f1 || (base.f0 == 0 && base.f1 == 0)) = false := by simpa using hbo
    rw [Bool.or_eq_false_iff] at hbo
    obtain ⟨q0, q1⟩ := hbo
    rw [q0] at HFB
    clear q0
    cases q2 : (base.f0 == 0) <;> cases q3 : (base.f1 == 0)
    all_goals first
      | (rw [q2, q3] at q1; cases q1; done)
      | (clear q1
         go_upto_region 2 with (go_at_call 50; refine (Go.Proofs.YtiffeljmeahmkaaDoor.V.samphireref10_May.calls _ _ _ _ HFB.out).mono ?_; rintro e w2 ⟨rfl, hb⟩; replace BS := Aside0.mk (blk_below BS.out hb); replace BR := Aside0.mk (blk_below BR.out hb); replace HB := Aside0.mk (below_then HB.out HB.out.size hb); clear hb)
         clear q2 q3
         obtain ⟨n0, n1, n2, n3, nf0, nf1, nf2, nf3⟩ := Z4 BR.out
         go_wp2
         try simp only [Exit.inBlock, Exit.then]
         refine bodyPost_ret (results_ct rfl _ _ (w.heap.size + 1) 50 #[.slice none 0 0, .slice none 0 0, .int .i64 0, .int .i64 0] (0, 0) _ rfl (blk_put (blk_put (blk_put (blk_put (BR.out) 0 _ rfl) 1 _ rfl) 2 _ rfl) 3 _ rfl) Tryd.underlying50 rfl (by kernel_rfl)) rfl ?_
         exact ROfSpec.bad HX.out (below_set (below_set (below_set (below_set (HB.out) hg) hg) hg) hg))
  rw [show baseOk base = (fineB base.f0 base.f1 || (base.f0 == 0 && base.f1 == 0)) from rfl] at hbo
  have HBO := Aside0.mk (show baseOk base = true from hbo)
  cases q2 : (base.f0 == 0) <;> cases q3 : (base.f1 == 0)
  all_goals
    rw [q2, q3] at hbo
    first
      | (have hfb : fineB base.f0 base.f1 = true := by simpa using hbo
         rw [hfb] at HFB
         clear hfb)
      | skip
    clear hbo
    go_upto_region 3 with (go_at_call 50; refine (Go.Proofs.YtiffeljmeahmkaaDoor.V.samphireref10_May.calls _ _ _ _ HFB.out).mono ?_; rintro e w2 ⟨rfl, hb⟩; replace BS := Aside0.mk (blk_below BS.out hb); replace BR := Aside0.mk (blk_below BR.out hb); replace HB := Aside0.mk (below_then HB.out HB.out.size hb); clear hb)
    clear q2 q3 m1 m2 m3 HFB
    go_wp2_with fail
    try go_frame
    go_loopg [4] (nodes.length + 1) (fun kq p wr => ∃ (x : Int), Aside0 ((kq : Int) + x = (nodes.length : Int) + 1 ∧ 0 ≤ x ∧ x ≤ (nodes.length : Int)) ∧ p = .int .i64 x ∧ Aside0 (∀ y : Int, 0 ≤ y → y < x → (nodeOk base nodes y && parB nodes (rd_T36 nodes y)) = true) ∧ Aside0 (wr.heap[w.heap.size]? = some (.cells #[.slice AN nodes.length cN, .slice AO ops.length cO, .int .i64 base.f0, .int .i64 base.f1] 71 (0, 0))) ∧ Aside0 (wr.heap[w.heap.size + 1]? = some (.cells #[.slice none 0 0, .slice none 0 0, .int .i64 0, .int .i64 0] 50)) ∧ Aside0 (Below w.heap.size w wr))
    case atStart => exact ⟨0, ⟨by omega⟩, rfl, ⟨fun y a b => by omega⟩, BS, BR, HB⟩
    case round =>
      clear z0 z1 z2 z3 zf BS BR HB
      obtain ⟨x, HK, rfl, HJ, BS, BR, HB⟩ := hrel
      obtain ⟨k1, rfl⟩ : ∃ k1, gk = k1 + 1 := ⟨((nodes.length : Int) - x).toNat, by have := HK.out; omega⟩
      have h0 : 0 ≤ x := HK.out.2.1
      obtain ⟨z0, z1, z2, z3, zf⟩ := Z4 BS.out
      by_cases hx : x < (nodes.length : Int)
      · have b1 : decide (x < (nodes.length : Int)) = true := decide_eq_true hx
        have H0 := Aside0.mk h0
        have H1 := Aside0.mk hx
        have hl5 := HLEN.out
        have hw1 : wrap64 (x + 1) = x + 1 := by unfold wrap64; omega
        clear h0 hx hl5
        cases hok : (nodeOk base nodes x && parB nodes (rd_T36 nodes x)) with
        | false =>
          have HOK := Aside0.mk hok
          have HX := Aside0.mk (show ¬ StartOk base nodes from fun h => by
            have h1 := (start_iff.1 h).2.2 x H0.out H1.out
            rw [hok] at h1
            cases h1)
          clear hok
          go_upto_region 7 with (go_at_call 55; refine (node_calls _ _ _ nodes ops base x (HN.out.below HB.out) (HO.out.below HB.out) H0.out H1.out HLEN.out HNM.out).mono ?_; rintro e w3 ⟨rfl, hb⟩; rw [HOK.out]; replace BS := Aside0.mk (blk_below BS.out hb); replace BR := Aside0.mk (blk_below BR.out hb); replace HB := Aside0.mk (below_then HB.out HB.out.size hb); clear hb)
          obtain ⟨n0, n1, n2, n3, nf0, nf1, nf2, nf3⟩ := Z4 BR.out
          go_wp2
          try simp only [Exit.inBlock, Exit.then]
          refine bodyPost_ret (results_ct rfl _ _ (w.heap.size + 1) 50 #[.slice none 0 0, .slice none 0 0, .int .i64 0, .int .i64 0] (0, 0) _ rfl (blk_put (blk_put (blk_put (blk_put (BR.out) 0 _ rfl) 1 _ rfl) 2 _ rfl) 3 _ rfl) Tryd.underlying50 rfl (by kernel_rfl)) rfl ?_
          exact ROfSpec.bad HX.out (below_set (below_set (below_set (below_set (HB.out) hg) hg) hg) hg)
        | true =>
          have HOK := Aside0.mk hok
          clear hok
          go_wp2_with (go_at_call 55; refine (node_calls _ _ _ nodes ops base x (HN.out.below HB.out) (HO.out.below HB.out) H0.out H1.out HLEN.out HNM.out).mono ?_; rintro e w3 ⟨rfl, hb⟩; rw [HOK.out]; replace BS := Aside0.mk (blk_below BS.out hb); replace BR := Aside0.mk (blk_below BR.out hb); replace HB := Aside0.mk (below_then HB.out HB.out.size hb); clear hb)
          go_roundg k1
          case measure => exact Nat.lt_succ_self _
          case rel => exact ⟨x + 1, ⟨by have := HK.out; have := H1.out; omega⟩, (by first | rfl | rw [hw1]), ⟨fun y a b => by
              by_cases hy : y = x
              · rw [hy]; exact HOK.out
              · exact HJ.out y a (by omega)⟩, BS, BR, HB⟩
      · have b1 : decide (x < (nodes.length : Int)) = false := decide_eq_false hx
        have HSO := Aside0.mk (start_iff.2 ⟨HLEN.out, HBO.out, fun y a b => HJ.out y a (by omega)⟩)
        clear hx
        go_upto_region 9 with fail
        have BT := Aside0.mk (heap_alloc_new wr (.cells #[.slice AN nodes.length cN, .slice none 0 0, .int .i64 base.f0, .int .i64 base.f1] 50))
        have HTB := Aside0.mk (show w.heap.size + 1 < wr.heap.size from blk_lt BR.out)
        replace BS := Aside0.mk (blk_below BS.out (below_alloc (Below.refl wr.heap.size wr) (.cells #[.slice AN nodes.length cN, .slice none 0 0, .int .i64 base.f0, .int .i64 base.f1] 50)))
        replace BR := Aside0.mk (blk_below BR.out (below_alloc (Below.refl wr.heap.size wr) (.cells #[.slice AN nodes.length cN, .slice none 0 0, .int .i64 base.f0, .int .i64 base.f1] 50)))
        replace HB := Aside0.mk (below_alloc HB.out (.cells #[.slice AN nodes.length cN, .slice none 0 0, .int .i64 base.f0, .int .i64 base.f1] 50))
        generalize wr.heap.size = tb at BT HTB ⊢
        generalize wr.alloc (.cells #[.slice AN nodes.length cN, .slice none 0 0, .int .i64 base.f0, .int .i64 base.f1] 50) = w4 at BT BS BR HB ⊢
        clear z0 z1 z2 z3 zf
        go_wp2_with fail
        try go_frame
        go_loopg [6, 7, 8] (ops.length + 1) (fun kq p _ _ wr => ∃ (y : Int) (acc : List Opn) (A5 : Option Addr) (c5 : Nat), Aside0 ((kq : Int) + y = (ops.length : Int) + 1 ∧ 0 ≤ y ∧ y ≤ (ops.length : Int)) ∧ p = .int .i64 y ∧ Aside0 (wr.heap[tb]? = some (.cells #[.slice AN nodes.length cN, .slice A5 acc.length c5, .int .i64 base.f0, .int .i64 base.f1] 50 (0, 0))) ∧ Aside0 (RowSO w.heap.size wr (.slice A5 acc.length c5) acc) ∧ Aside0 (Newer w.heap.size (.slice A5 acc.length c5)) ∧ Aside0 (Sorted acc) ∧ Aside0 (acc.length ≤ 512) ∧ Aside0 (putAll ⟨nodes, [], acc, base⟩ (ops.drop y.toNat) = putAll (T0 base nodes) ops) ∧ Aside0 (wr.heap[w.heap.size]? = some (.cells #[.slice AN nodes.length cN, .slice AO ops.length cO, .int .i64 base.f0, .int .i64 base.f1] 71 (0, 0))) ∧ Aside0 (wr.heap[w.heap.size + 1]? = some (.cells #[.slice none 0 0, .slice none 0 0, .int .i64 0, .int .i64 0] 50)) ∧ Aside0 (Below w.heap.size w wr))
        case atStart => exact ⟨0, [], none, 0, ⟨by omega⟩, rfl, BT, ⟨RowSO.nil _ _⟩, ⟨fun A n c e => by cases e⟩, ⟨List.Pairwise.nil⟩, ⟨by simp⟩, ⟨rfl⟩, BS, BR, HB⟩
        case round =>
          clear BT BS BR HB
          obtain ⟨y, acc, A5, c5, HK3, rfl, BT, HQ, HNW, HSR, HLA, HPA, BS, BR, HB⟩ := hrel
          obtain ⟨k3, rfl⟩ : ∃ k3, gk = k3 + 1 := ⟨((ops.length : Int) - y).toNat, by have := HK3.out; omega⟩
          have h0 : 0 ≤ y := HK3.out.2.1
          obtain ⟨z0, z1, z2, z3, zf⟩ := Z4 BS.out
          obtain ⟨t0, t1, t2, t3, tf0, tf1, tf2, tf3⟩ := Z4 BT.out
          by_cases hyo : y < (ops.length : Int)
          · have b3 : decide (y < (ops.length : Int)) = true := decide_eq_true hyo
            obtain ⟨ad, e, _⟩ := at_T28 (HO.out.below HB.out).at.2.2 y h0 hyo
            cases e
            have p1 := eq_true h0
            have q1 := eq_true hyo
            have H0 := Aside0.mk h0
            have H1 := Aside0.mk hyo
            have hol5 := HOL.out
            have hw3 : wrap64 (y + 1) = y + 1 := by unfold wrap64; omega
            have HLT := Aside0.mk (show (rd_T28 ops y).f4.size ≤ 200 by obtain ⟨i, hi, hii, e⟩ := rd_is ops y h0 hyo; rw [e]; exact HON.out _ (List.getElem_mem hi))
            have HDR := Aside0.mk (drop_rd ops h0 hyo)
            clear h0 hyo hol5
            go_upto_region 12 with fail
            replace BS := Aside0.mk (blk_below BS.out (Below.refl _ _).drew)
            replace BR := Aside0.mk (blk_below BR.out (Below.refl _ _).drew)
            replace BT := Aside0.mk (blk_below BT.out (Below.refl _ _).drew)
            replace HQ := Aside0.mk (HQ.out.below (Below.refl _ _).drew)
            replace HB := Aside0.mk HB.out.drew
            clear z0 z1 z2 z3 zf t0 t1 t2 t3 tf0 tf1 tf2 tf3
            -- REGION R12 BEGIN
            refine start_ (n := 13) (S := fun w' => w'.cell? ⟨tb, 0, none⟩ = some (.slice AN nodes.length cN) ∧ w'.cell? ⟨tb, 1, none⟩ = some (.slice A5 acc.length c5) ∧ w'.cell? ⟨tb, 2, none⟩ = some (.int .i64 base.f0) ∧ w'.cell? ⟨tb, 3, none⟩ = some (.int .i64 base.f1) ∧ w'.cell? ⟨w.heap.size, 1, none⟩ = some (.slice (some ad) ops.length cO) ∧ w'.cell? (ad.add (y.toNat * 9)) = some (.int .i64 (rd_T28 ops y).f0) ∧ w'.cell? ⟨(ad.add (y.toNat * 9)).block, (ad.add (y.toNat * 9)).off + 1, none⟩ = some (.int .i64 (rd_T28 ops y).f1.f0) ∧ w'.cell? ⟨(ad.add (y.toNat * 9)).block, (ad.add (y.toNat * 9)).off + 2, none⟩ = some (.int .i64 (rd_T28 ops y).f1.f1) ∧ w'.cell? ⟨(ad.add (y.toNat * 9)).block, (ad.add (y.toNat * 9)).off + 3, none⟩ = some (.int .i64 (rd_T28 ops y).f2.f0) ∧ w'.cell? ⟨(ad.add (y.toNat * 9)).block, (ad.add (y.toNat * 9)).off + 4, none⟩ = some (.int .i64 (rd_T28 ops y).f2.f1) ∧ w'.cell? ⟨(ad.add (y.toNat * 9)).block, (ad.add (y.toNat * 9)).off + 5, none⟩ = some (.int .i64 (rd_T28 ops y).f3.f0) ∧ w'.cell? ⟨(ad.add (y.toNat * 9)).block, (ad.add (y.toNat * 9)).off + 6, none⟩ = some (.int .i64 (rd_T28 ops y).f3.f1) ∧ w'.cell? ⟨(ad.add (y.toNat * 9)).block, (ad.add (y.toNat * 9)).off + 7, none⟩ = some (.string (rd_T28 ops y).f4) ∧ w'.cell? ⟨(ad.add (y.toNat * 9)).block, (ad.add (y.toNat * 9)).off + 8, none⟩ = some (.string (rd_T28 ops y).f5)) (ds := [11]) marksUd_0 (by kernel_rfl) rfl rfl ⟨(blk_cell BT.out 0), (blk_cell BT.out 1), (blk_cell BT.out 2), (blk_cell BT.out 3), (blk_cell BS.out 1), (opx_ (HO.out.below HB.out) H0.out H1.out).1, (opx_ (HO.out.below HB.out) H0.out H1.out).2.1, (opx_ (HO.out.below HB.out) H0.out H1.out).2.2.1, (opx_ (HO.out.below HB.out) H0.out H1.out).2.2.2.1, (opx_ (HO.out.below HB.out) H0.out H1.out).2.2.2.2.1, (opx_ (HO.out.below HB.out) H0.out H1.out).2.2.2.2.2.1, (opx_ (HO.out.below HB.out) H0.out H1.out).2.2.2.2.2.2.1, (opx_ (HO.out.below HB.out) H0.out H1.out).2.2.2.2.2.2.2.1, (opx_ (HO.out.below HB.out) H0.out H1.out).2.2.2.2.2.2.2.2⟩ (fun hHeld => ?_)
            refine with_tabW rof_.tab12 rof_.bits12 (fun HT_ HW_ => ?_)
            refine pureQ (i := 1) (N := some 52) marksUd_1 (any_of HT_.out (by kernel_rfl)) ?_
            refine pureQ (i := 3) (N := some 54) marksUd_2 (any_of HT_.out (by kernel_rfl)) ?_
            refine take_ (i := 0) (N := some 51) (v := ?_) (a' := ?_) marksUd_3 rfl rfl (take_ofW HT_.out HW_.out (by kernel_rfl)) (fun _ _ _ h => h) (Or.inl ⟨by rfl, ?_⟩) hHeld ?_ ?_
            rotate_left
            · rintro w' ⟨s0, s1, s2, s3, s4, s5, s6, s7, s8, s9, s10, s11, s12, s13⟩
              go_simp
              with_reducible rfl
            rotate_left
            · simp only [Act.put, List.setIfInBounds_toArray, List.set_cons_zero, List.set_cons_succ, i64_w, i32_w]
              rfl
            refine take_ (i := 2) (N := some 53) (v := ?_) (a' := ?_) marksUd_4 rfl rfl (take_ofW HT_.out HW_.out (by kernel_rfl)) (fun _ _ _ h => h) (Or.inl ⟨by rfl, ?_⟩) hHeld ?_ ?_
            rotate_left
            · rintro w' ⟨s0, s1, s2, s3, s4, s5, s6, s7, s8, s9, s10, s11, s12, s13⟩
              go_simp
              with_reducible rfl
            rotate_left
            · simp only [Act.put, List.setIfInBounds_toArray, List.set_cons_zero, List.set_cons_succ, i64_w, i32_w]
              rfl
            refine pureQ (i := 4) (N := some 55) marksUd_5 (any_of HT_.out (by kernel_rfl)) ?_
            refine take_ (i := 5) (N := some 56) (v := ?_) (a' := ?_) marksUd_6 rfl rfl (take_ofW HT_.out HW_.out (by kernel_rfl)) (fun _ _ _ h => h) (Or.inl ⟨by rfl, ?_⟩) hHeld ?_ ?_
            rotate_left
            · rintro w' ⟨s0, s1, s2, s3, s4, s5, s6, s7, s8, s9, s10, s11, s12, s13⟩
              go_simp
              with_reducible rfl
            rotate_left
            · simp only [Act.put, List.setIfInBounds_toArray, List.set_cons_zero, List.set_cons_succ, i64_w, i32_w]
              rfl
            refine join_ (σ := (Option Addr × Nat) × Nat) 2 marksUd_7 (fun s => [(57, .tuple #[.agg #[.slice AN nodes.length cN, .slice s.1.1 (putO ⟨nodes, [], acc, base⟩ (rd_T28 ops y) (chkO (rd_T28 ops y))).1.length s.1.2, .int .i64 base.f0, .int .i64 base.f1], .int .i64 (putO ⟨nodes, [], acc, base⟩ (rd_T28 ops y) (chkO (rd_T28 ops y))).2]), (50, .tuple #[.agg #[.slice AN nodes.length cN, .slice s.1.1 (putO ⟨nodes, [], acc, base⟩ (rd_T28 ops y) (chkO (rd_T28 ops y))).1.length s.1.2, .int .i64 base.f0, .int .i64 base.f1], .int .i64 (putO ⟨nodes, [], acc, base⟩ (rd_T28 ops y) (chkO (rd_T28 ops y))).2]), (58, .agg #[.slice AN nodes.length cN, .slice s.1.1 (putO ⟨nodes, [], acc, base⟩ (rd_T28 ops y) (chkO (rd_T28 ops y))).1.length s.1.2, .int .i64 base.f0, .int .i64 base.f1]), (59, .int .i64 (putO ⟨nodes, [], acc, base⟩ (rd_T28 ops y) (chkO (rd_T28 ops y))).2), (7, .pointer (some ⟨s.2, 0, none⟩))]) (fun s w' => w'.heap[w.heap.size]? = some (.cells #[.slice AN nodes.length cN, .slice (some ad) ops.length cO, .int .i64 base.f0, .int .i64 base.f1] 71 (0, 0)) ∧ w'.heap[w.heap.size + 1]? = some (.cells #[.slice none 0 0, .slice none 0 0, .int .i64 0, .int .i64 0] 50) ∧ w'.heap[tb]? = some (.cells #[.slice AN nodes.length cN, .slice A5 acc.length c5, .int .i64 base.f0, .int .i64 base.f1] 50 (0, 0)) ∧ RowSO w.heap.size w' (.slice s.1.1 (putO ⟨nodes, [], acc, base⟩ (rd_T28 ops y) (chkO (rd_T28 ops y))).1.length s.1.2) (putO ⟨nodes, [], acc, base⟩ (rd_T28 ops y) (chkO (rd_T28 ops y))).1 ∧ Newer w.heap.size (.slice s.1.1 (putO ⟨nodes, [], acc, base⟩ (rd_T28 ops y) (chkO (rd_T28 ops y))).1.length s.1.2) ∧ w'.heap[s.2]? = some (.cells #[.slice none 0 0, .slice none 0 0, .int .i64 0, .int .i64 0] 50) ∧ tb < s.2 ∧ Below w.heap.size w w') ?_ ?_
            rotate_left
            · intro hCont
              refine two_ (i := 6) (j := 10) (Ni := some 57) (Nj := some 7) marksUd_8 marksUd_9 rfl rfl rfl rfl (two_of HT_.out (by kernel_rfl)) (by decide) (by decide) (fun K hK => ?_) (fun K hK => ?_)
              · skip
                refine goes_ Tryd.func21 (by kernel_rfl) rfl #[.agg (trCells (.slice AN nodes.length cN) (.slice A5 acc.length c5) base), .agg #[.int .i64 (rd_T28 ops y).f0, .int .i64 (rd_T28 ops y).f1.f0, .int .i64 (rd_T28 ops y).f1.f1, .int .i64 (rd_T28 ops y).f2.f0, .int .i64 (rd_T28 ops y).f2.f1, .int .i64 (rd_T28 ops y).f3.f0, .int .i64 (rd_T28 ops y).f3.f1, .string (rd_T28 ops y).f4, .string (rd_T28 ops y).f5]] (by rfl) rfl rfl (by simp only [List.map_toArray, List.map_cons, List.map_nil]; rfl) ?_
                with_reducible refine (rApplyC (HN.out.below HB.out) HQ.out HNW.out HSR.out HLA.out HLEN.out (rd_T28 ops y) HLT.out HB.out.size).mono ?_
                rintro e w5 ⟨A6, c6, rfl, hro, hin, hb⟩
                refine ⟨_, rfl, ?_⟩
                have HRO := Aside0.mk hro
                have HIN := Aside0.mk hin
                clear hro hin
                replace BS := Aside0.mk (blk_below BS.out hb)
                replace BR := Aside0.mk (blk_below BR.out hb)
                replace BT := Aside0.mk (blk_below BT.out hb)
                replace HQ := Aside0.mk (HQ.out.below hb)
                replace HB := Aside0.mk (below_then HB.out HB.out.size hb)
                clear hb
                refine hK.out _ _ ⟨(blk_cell BT.out 0), (blk_cell BT.out 1), (blk_cell BT.out 2), (blk_cell BT.out 3), (blk_cell BS.out 1), (opx_ (HO.out.below HB.out) H0.out H1.out).1, (opx_ (HO.out.below HB.out) H0.out H1.out).2.1, (opx_ (HO.out.below HB.out) H0.out H1.out).2.2.1, (opx_ (HO.out.below HB.out) H0.out H1.out).2.2.2.1, (opx_ (HO.out.below HB.out) H0.out H1.out).2.2.2.2.1, (opx_ (HO.out.below HB.out) H0.out H1.out).2.2.2.2.2.1, (opx_ (HO.out.below HB.out) H0.out H1.out).2.2.2.2.2.2.1, (opx_ (HO.out.below HB.out) H0.out H1.out).2.2.2.2.2.2.2.1, (opx_ (HO.out.below HB.out) H0.out H1.out).2.2.2.2.2.2.2.2⟩ (fun hHeld => ?_)
                clear hK K
                refine norm_ (a' := ?_) ?_ ?_
                rotate_left
                · show Act.put _ (some 57) _ = _
                  simp only [Act.put, List.setIfInBounds_toArray, List.set_cons_zero, List.set_cons_succ, i64_w, i32_w]
                  rfl
                refine pureQ (i := 7) (N := some 50) marksUd_10 (any_of HT_.out (by kernel_rfl)) ?_
                refine pureQ (i := 8) (N := some 58) marksUd_11 (any_of HT_.out (by kernel_rfl)) ?_
                refine pureQ (i := 9) (N := some 59) marksUd_12 (any_of HT_.out (by kernel_rfl)) ?_
                refine one_ (i := 10) (N := some 7) marksUd_7 rfl rfl (one_of HT_.out (by kernel_rfl)) (by decide) (fun K hK => ?_)
                refine value_ (w1 := ?_) (v := ?_) (by rfl) rfl ?_ ?_
                rotate_left 2
                · go_simp
                  constructor
                  · rfl
                  · rfl
                have hb := below_alloc (Below.refl w5.heap.size w5) (.cells #[.slice none 0 0, .slice none 0 0, .int .i64 0, .int .i64 0] 50)
                have HNX := Aside0.mk (show tb < w5.heap.size from blk_lt BT.out)
                have HX5 := Aside0.mk (show (w5.alloc (.cells #[.slice none 0 0, .slice none 0 0, .int .i64 0, .int .i64 0] 50)).heap[w5.heap.size]? = some (.cells #[.slice none 0 0, .slice none 0 0, .int .i64 0, .int .i64 0] 50) from heap_alloc_new w5 (.cells #[.slice none 0 0, .slice none 0 0, .int .i64 0, .int .i64 0] 50))
                replace BS := Aside0.mk (blk_below BS.out hb)
                replace BR := Aside0.mk (blk_below BR.out hb)
                replace BT := Aside0.mk (blk_below BT.out hb)
                replace HQ := Aside0.mk (HQ.out.below hb)
                replace HB := Aside0.mk (below_then HB.out HB.out.size hb)
                replace HRO := Aside0.mk (HRO.out.below hb)
                clear hb
                refine hK.out _ _ ⟨(blk_cell BT.out 0), (blk_cell BT.out 1), (blk_cell BT.out 2), (blk_cell BT.out 3), (blk_cell BS.out 1), (opx_ (HO.out.below HB.out) H0.out H1.out).1, (opx_ (HO.out.below HB.out) H0.out H1.out).2.1, (opx_ (HO.out.below HB.out) H0.out H1.out).2.2.1, (opx_ (HO.out.below HB.out) H0.out H1.out).2.2.2.1, (opx_ (HO.out.below HB.out) H0.out H1.out).2.2.2.2.1, (opx_ (HO.out.below HB.out) H0.out H1.out).2.2.2.2.2.1, (opx_ (HO.out.below HB.out) H0.out H1.out).2.2.2.2.2.2.1, (opx_ (HO.out.below HB.out) H0.out H1.out).2.2.2.2.2.2.2.1, (opx_ (HO.out.below HB.out) H0.out H1.out).2.2.2.2.2.2.2.2⟩ (fun hHeld => ?_)
                clear hK K
                refine norm_ (a' := ?_) ?_ ?_
                rotate_left
                · show Act.put _ (some 7) _ = _
                  simp only [Act.put, List.setIfInBounds_toArray, List.set_cons_zero, List.set_cons_succ, i64_w, i32_w]
                  rfl
                exact norm_ (by simp only [Go.Proofs.YtiffeljmeahmkaaDoorW.PrintLast.putAll, Act.put, List.setIfInBounds_toArray, List.set_cons_zero, List.set_cons_succ]) (hCont ((A6, c6), w5.heap.size) _ ⟨BS.out, BR.out, BT.out, HRO.out, HIN.out, HX5.out, HNX.out, HB.out⟩)
              · skip
                refine value_ (w1 := ?_) (v := ?_) (by rfl) rfl ?_ ?_
                rotate_left 2
                · go_simp
                  constructor
                  · rfl
                  · rfl
                have hb := below_new wr (.cells #[.slice none 0 0, .slice none 0 0, .int .i64 0, .int .i64 0] 50)
                have HNX := Aside0.mk (show tb < wr.heap.size from blk_lt BT.out)
                have HX5 := Aside0.mk (show (wr.alloc (.cells #[.slice none 0 0, .slice none 0 0, .int .i64 0, .int .i64 0] 50)).drew.heap[wr.heap.size]? = some (.cells #[.slice none 0 0, .slice none 0 0, .int .i64 0, .int .i64 0] 50) from heap_alloc_new wr (.cells #[.slice none 0 0, .slice none 0 0, .int .i64 0, .int .i64 0] 50))
                replace BS := Aside0.mk (blk_below BS.out hb)
                replace BR := Aside0.mk (blk_below BR.out hb)
                replace BT := Aside0.mk (blk_below BT.out hb)
                replace HQ := Aside0.mk (HQ.out.below hb)
                replace HB := Aside0.mk (below_then HB.out HB.out.size hb)
                clear hb
                refine hK.out _ _ ⟨(blk_cell BT.out 0), (blk_cell BT.out 1), (blk_cell BT.out 2), (blk_cell BT.out 3), (blk_cell BS.out 1), (opx_ (HO.out.below HB.out) H0.out H1.out).1, (opx_ (HO.out.below HB.out) H0.out H1.out).2.1, (opx_ (HO.out.below HB.out) H0.out H1.out).2.2.1, (opx_ (HO.out.below HB.out) H0.out H1.out).2.2.2.1, (opx_ (HO.out.below HB.out) H0.out H1.out).2.2.2.2.1, (opx_ (HO.out.below HB.out) H0.out H1.out).2.2.2.2.2.1, (opx_ (HO.out.below HB.out) H0.out H1.out).2.2.2.2.2.2.1, (opx_ (HO.out.below HB.out) H0.out H1.out).2.2.2.2.2.2.2.1, (opx_ (HO.out.below HB.out) H0.out H1.out).2.2.2.2.2.2.2.2⟩ (fun hHeld => ?_)
                clear hK K
                refine norm_ (a' := ?_) ?_ ?_
                rotate_left
                · show Act.put _ (some 7) _ = _
                  simp only [Act.put, List.setIfInBounds_toArray, List.set_cons_zero, List.set_cons_succ, i64_w, i32_w]
                  rfl
                refine one_ (i := 6) (N := some 57) marksUd_13 rfl rfl (one_of HT_.out (by kernel_rfl)) (by decide) (fun K hK => ?_)
                refine goes_ Tryd.func21 (by kernel_rfl) rfl #[.agg (trCells (.slice AN nodes.length cN) (.slice A5 acc.length c5) base), .agg #[.int .i64 (rd_T28 ops y).f0, .int .i64 (rd_T28 ops y).f1.f0, .int .i64 (rd_T28 ops y).f1.f1, .int .i64 (rd_T28 ops y).f2.f0, .int .i64 (rd_T28 ops y).f2.f1, .int .i64 (rd_T28 ops y).f3.f0, .int .i64 (rd_T28 ops y).f3.f1, .string (rd_T28 ops y).f4, .string (rd_T28 ops y).f5]] (by rfl) rfl rfl (by simp only [List.map_toArray, List.map_cons, List.map_nil]; rfl) ?_
                with_reducible refine (rApplyC (HN.out.below HB.out) HQ.out HNW.out HSR.out HLA.out HLEN.out (rd_T28 ops y) HLT.out HB.out.size).mono ?_
                rintro e w5 ⟨A6, c6, rfl, hro, hin, hb⟩
                refine ⟨_, rfl, ?_⟩
                have HRO := Aside0.mk hro
                have HIN := Aside0.mk hin
                clear hro hin
                replace BS := Aside0.mk (blk_below BS.out hb)
                replace BR := Aside0.mk (blk_below BR.out hb)
                replace BT := Aside0.mk (blk_below BT.out hb)
                replace HQ := Aside0.mk (HQ.out.below hb)
                replace HB := Aside0.mk (below_then HB.out HB.out.size hb)
                replace HX5 := Aside0.mk (blk_below HX5.out hb)
                clear hb
                refine hK.out _ _ ⟨(blk_cell BT.out 0), (blk_cell BT.out 1), (blk_cell BT.out 2), (blk_cell BT.out 3), (blk_cell BS.out 1), (opx_ (HO.out.below HB.out) H0.out H1.out).1, (opx_ (HO.out.below HB.out) H0.out H1.out).2.1, (opx_ (HO.out.below HB.out) H0.out H1.out).2.2.1, (opx_ (HO.out.below HB.out) H0.out H1.out).2.2.2.1, (opx_ (HO.out.below HB.out) H0.out H1.out).2.2.2.2.1, (opx_ (HO.out.below HB.out) H0.out H1.out).2.2.2.2.2.1, (opx_ (HO.out.below HB.out) H0.out H1.out).2.2.2.2.2.2.1, (opx_ (HO.out.below HB.out) H0.out H1.out).2.2.2.2.2.2.2.1, (opx_ (HO.out.below HB.out) H0.out H1.out).2.2.2.2.2.2.2.2⟩ (fun hHeld => ?_)
                clear hK K
                refine norm_ (a' := ?_) ?_ ?_
                rotate_left
                · show Act.put _ (some 57) _ = _
                  simp only [Act.put, List.setIfInBounds_toArray, List.set_cons_zero, List.set_cons_succ, i64_w, i32_w]
                  rfl
                refine pureQ (i := 7) (N := some 50) marksUd_14 (any_of HT_.out (by kernel_rfl)) ?_
                refine pureQ (i := 8) (N := some 58) marksUd_15 (any_of HT_.out (by kernel_rfl)) ?_
                refine pureQ (i := 9) (N := some 59) marksUd_7 (any_of HT_.out (by kernel_rfl)) ?_
                exact norm_ (by simp only [Go.Proofs.YtiffeljmeahmkaaDoorW.PrintLast.putAll, Act.put, List.setIfInBounds_toArray, List.set_cons_zero, List.set_cons_succ]) (hCont ((A6, c6), wr.heap.size) _ ⟨BS.out, BR.out, BT.out, HRO.out, HIN.out, HX5.out, HNX.out, HB.out⟩)
            clear BS BR BT HQ HB hHeld
            rintro ⟨⟨A6, c6⟩, xn⟩ w' ⟨h1, h2, h3, h4, h5, h6, h7, h8⟩
            dsimp only at h4 h5 h6 h7
            dsimp only
            have BS := Aside0.mk h1
            have BR := Aside0.mk h2
            have BT := Aside0.mk h3
            have HRO := Aside0.mk h4
            have HIN := Aside0.mk h5
            have HX5 := Aside0.mk h6
            have HNX := Aside0.mk h7
            have HB := Aside0.mk h8
            clear h1 h2 h3 h4 h5 h6 h7 h8
            have hHeld : w'.cell? ⟨tb, 0, none⟩ = some (.slice AN nodes.length cN) ∧ w'.cell? ⟨tb, 1, none⟩ = some (.slice A5 acc.length c5) ∧ w'.cell? ⟨tb, 2, none⟩ = some (.int .i64 base.f0) ∧ w'.cell? ⟨tb, 3, none⟩ = some (.int .i64 base.f1) ∧ w'.cell? ⟨w.heap.size, 1, none⟩ = some (.slice (some ad) ops.length cO) ∧ w'.cell? (ad.add (y.toNat * 9)) = some (.int .i64 (rd_T28 ops y).f0) ∧ w'.cell? ⟨(ad.add (y.toNat * 9)).block, (ad.add (y.toNat * 9)).off + 1, none⟩ = some (.int .i64 (rd_T28 ops y).f1.f0) ∧ w'.cell? ⟨(ad.add (y.toNat * 9)).block, (ad.add (y.toNat * 9)).off + 2, none⟩ = some (.int .i64 (rd_T28 ops y).f1.f1) ∧ w'.cell? ⟨(ad.add (y.toNat * 9)).block, (ad.add (y.toNat * 9)).off + 3, none⟩ = some (.int .i64 (rd_T28 ops y).f2.f0) ∧ w'.cell? ⟨(ad.add (y.toNat * 9)).block, (ad.add (y.toNat * 9)).off + 4, none⟩ = some (.int .i64 (rd_T28 ops y).f2.f1) ∧ w'.cell? ⟨(ad.add (y.toNat * 9)).block, (ad.add (y.toNat * 9)).off + 5, none⟩ = some (.int .i64 (rd_T28 ops y).f3.f0) ∧ w'.cell? ⟨(ad.add (y.toNat * 9)).block, (ad.add (y.toNat * 9)).off + 6, none⟩ = some (.int .i64 (rd_T28 ops y).f3.f1) ∧ w'.cell? ⟨(ad.add (y.toNat * 9)).block, (ad.add (y.toNat * 9)).off + 7, none⟩ = some (.string (rd_T28 ops y).f4) ∧ w'.cell? ⟨(ad.add (y.toNat * 9)).block, (ad.add (y.toNat * 9)).off + 8, none⟩ = some (.string (rd_T28 ops y).f5) := ⟨(blk_cell BT.out 0), (blk_cell BT.out 1), (blk_cell BT.out 2), (blk_cell BT.out 3), (blk_cell BS.out 1), (opx_ (HO.out.below HB.out) H0.out H1.out).1, (opx_ (HO.out.below HB.out) H0.out H1.out).2.1, (opx_ (HO.out.below HB.out) H0.out H1.out).2.2.1, (opx_ (HO.out.below HB.out) H0.out H1.out).2.2.2.1, (opx_ (HO.out.below HB.out) H0.out H1.out).2.2.2.2.1, (opx_ (HO.out.below HB.out) H0.out H1.out).2.2.2.2.2.1, (opx_ (HO.out.below HB.out) H0.out H1.out).2.2.2.2.2.2.1, (opx_ (HO.out.below HB.out) H0.out H1.out).2.2.2.2.2.2.2.1, (opx_ (HO.out.below HB.out) H0.out H1.out).2.2.2.2.2.2.2.2⟩
            obtain ⟨u0, u1, u2, u3, uf0, uf1, uf2, uf3⟩ := Z4 HX5.out
            refine norm_ (a' := ?_) ?_ ?_
            rotate_left
            · simp only [Go.Proofs.YtiffeljmeahmkaaDoorW.PrintLast.putAll, Act.put, List.setIfInBounds_toArray, List.set_cons_zero, List.set_cons_succ]
              rfl
            refine last_ (i := 11) (N := none) marksUd_16 rfl rfl (one_of HT_.out (by kernel_rfl)) (by decide) (fun K hK => ?_)
            refine skip_ (w1 := ?_) (by rfl) rfl ?_ ?_
            rotate_left
            · go_simp
              rfl
            refine hK.out _ _ ?_
            clear hK K
            refine pureQ (i := 12) (N := some 8) marksUd_17 (any_of HT_.out (by kernel_rfl)) ?_
            refine done_ (done_of HT_.out (by kernel_rfl)) ?_

-- REGION END
            clear u0 u1 u2 u3 uf0 uf1 uf2 uf3
            go_upto_region 13 with fail
            have HLE := Aside0.mk (show w.heap.size ≤ xn by have h1 := HNX.out; have h2 := HTB.out; omega)
            replace HRO := Aside0.mk (RowSO.set HRO.out HLE.out HX5.out (by decide) 0 (.slice AN nodes.length cN))
            replace BS := Aside0.mk (blk_far (p := ⟨xn, 0, none⟩) BS.out (show w.heap.size ≠ xn by have h1_ := HTB.out; have h2_ := HNX.out; omega) (.slice AN nodes.length cN))
            replace BR := Aside0.mk (blk_far (p := ⟨xn, 0, none⟩) BR.out (show w.heap.size + 1 ≠ xn by have h1_ := HTB.out; have h2_ := HNX.out; omega) (.slice AN nodes.length cN))
            replace BT := Aside0.mk (blk_far (p := ⟨xn, 0, none⟩) BT.out (show tb ≠ xn by have h1_ := HTB.out; have h2_ := HNX.out; omega) (.slice AN nodes.length cN))
            replace HB := Aside0.mk (below_set (g := xn) HB.out HLE.out (j := 0) (v := .slice AN nodes.length cN))
            replace HX5 := Aside0.mk (blk_put HX5.out 0 (.slice AN nodes.length cN) (show (#[.slice none 0 0, .slice none 0 0, .int .i64 0, .int .i64 0] : Array Value).setIfInBounds 0 (.slice AN nodes.length cN) = #[.slice AN nodes.length cN, .slice none 0 0, .int .i64 0, .int .i64 0] from rfl))
            generalize w'.setCell ⟨xn, 0, none⟩ (.slice AN nodes.length cN) = w6_1 at HB HX5 BS BR BT HRO ⊢
            replace HRO := Aside0.mk (RowSO.set HRO.out HLE.out HX5.out (by decide) 1 (.slice A6 (putO ⟨nodes, [], acc, base⟩ (rd_T28 ops y) (chkO (rd_T28 ops y))).1.length c6))
            replace BS := Aside0.mk (blk_far (p := ⟨xn, 1, none⟩) BS.out (show w.heap.size ≠ xn by have h1_ := HTB.out; have h2_ := HNX.out; omega) (.slice A6 (putO ⟨nodes, [], acc, base⟩ (rd_T28 ops y) (chkO (rd_T28 ops y))).1.length c6))
            replace BR := Aside0.mk (blk_far (p := ⟨xn, 1, none⟩) BR.out (show w.heap.size + 1 ≠ xn by have h1_ := HTB.out; have h2_ := HNX.out; omega) (.slice A6 (putO ⟨nodes, [], acc, base⟩ (rd_T28 ops y) (chkO (rd_T28 ops y))).1.length c6))
            replace BT := Aside0.mk (blk_far (p := ⟨xn, 1, none⟩) BT.out (show tb ≠ xn by have h1_ := HTB.out; have h2_ := HNX.out; omega) (.slice A6 (putO ⟨nodes, [], acc, base⟩ (rd_T28 ops y) (chkO (rd_T28 ops y))).1.length c6))
            replace HB := Aside0.mk (below_set (g := xn) HB.out HLE.out (j := 1) (v := .slice A6 (putO ⟨nodes, [], acc, base⟩ (rd_T28 ops y) (chkO (rd_T28 ops y))).1.length c6))
            replace HX5 := Aside0.mk (blk_put HX5.out 1 (.slice A6 (putO ⟨nodes, [], acc, base⟩ (rd_T28 ops y) (chkO (rd_T28 ops y))).1.length c6) (show (#[.slice AN nodes.length cN, .slice none 0 0, .int .i64 0, .int .i64 0] : Array Value).setIfInBounds 1 (.slice A6 (putO ⟨nodes, [], acc, base⟩ (rd_T28 ops y) (chkO (rd_T28 ops y))).1.length c6) = #[.slice AN nodes.length cN, .slice A6 (putO ⟨nodes, [], acc, base⟩ (rd_T28 ops y) (chkO (rd_T28 ops y))).1.length c6, .int .i64 0, .int .i64 0] from rfl))
            generalize w6_1.setCell ⟨xn, 1, none⟩ (.slice A6 (putO ⟨nodes, [], acc, base⟩ (rd_T28 ops y) (chkO (rd_T28 ops y))).1.length c6) = w6_2 at HB HX5 BS BR BT HRO ⊢
            replace HRO := Aside0.mk (RowSO.set HRO.out HLE.out HX5.out (by decide) 2 (.int .i64 base.f0))
            replace BS := Aside0.mk (blk_far (p := ⟨xn, 2, none⟩) BS.out (show w.heap.size ≠ xn by have h1_ := HTB.out; have h2_ := HNX.out; omega) (.int .i64 base.f0))
            replace BR := Aside0.mk (blk_far (p := ⟨xn, 2, none⟩) BR.out (show w.heap.size + 1 ≠ xn by have h1_ := HTB.out; have h2_ := HNX.out; omega) (.int .i64 base.f0))
            replace BT := Aside0.mk (blk_far (p := ⟨xn, 2, none⟩) BT.out (show tb ≠ xn by have h1_ := HTB.out; have h2_ := HNX.out; omega) (.int .i64 base.f0))
            replace HB := Aside0.mk (below_set (g := xn) HB.out HLE.out (j := 2) (v := .int .i64 base.f0))
            replace HX5 := Aside0.mk (blk_put HX5.out 2 (.int .i64 base.f0) (show (#[.slice AN nodes.length cN, .slice A6 (putO ⟨nodes, [], acc, base⟩ (rd_T28 ops y) (chkO (rd_T28 ops y))).1.length c6, .int .i64 0, .int .i64 0] : Array Value).setIfInBounds 2 (.int .i64 base.f0) = #[.slice AN nodes.length cN, .slice A6 (putO ⟨nodes, [], acc, base⟩ (rd_T28 ops y) (chkO (rd_T28 ops y))).1.length c6, .int .i64 base.f0, .int .i64 0] from rfl))
            generalize w6_2.setCell ⟨xn, 2, none⟩ (.int .i64 base.f0) = w6_3 at HB HX5 BS BR BT HRO ⊢
            replace HRO := Aside0.mk (RowSO.set HRO.out HLE.out HX5.out (by decide) 3 (.int .i64 base.f1))
            replace BS := Aside0.mk (blk_far (p := ⟨xn, 3, none⟩) BS.out (show w.heap.size ≠ xn by have h1_ := HTB.out; have h2_ := HNX.out; omega) (.int .i64 base.f1))
            replace BR := Aside0.mk (blk_far (p := ⟨xn, 3, none⟩) BR.out (show w.heap.size + 1 ≠ xn by have h1_ := HTB.out; have h2_ := HNX.out; omega) (.int .i64 base.f1))
            replace BT := Aside0.mk (blk_far (p := ⟨xn, 3, none⟩) BT.out (show tb ≠ xn by have h1_ := HTB.out; have h2_ := HNX.out; omega) (.int .i64 base.f1))
            replace HB := Aside0.mk (below_set (g := xn) HB.out HLE.out (j := 3) (v := .int .i64 base.f1))
            replace HX5 := Aside0.mk (blk_put HX5.out 3 (.int .i64 base.f1) (show (#[.slice AN nodes.length cN, .slice A6 (putO ⟨nodes, [], acc, base⟩ (rd_T28 ops y) (chkO (rd_T28 ops y))).1.length c6, .int .i64 base.f0, .int .i64 0] : Array Value).setIfInBounds 3 (.int .i64 base.f1) = #[.slice AN nodes.length cN, .slice A6 (putO ⟨nodes, [], acc, base⟩ (rd_T28 ops y) (chkO (rd_T28 ops y))).1.length c6, .int .i64 base.f0, .int .i64 base.f1] from rfl))
            generalize w6_3.setCell ⟨xn, 3, none⟩ (.int .i64 base.f1) = w6 at HB HX5 BS BR BT HRO ⊢
            have HPD := Aside0.mk (show putAll ⟨nodes, [], acc, base⟩ ((rd_T28 ops y) :: ops.drop (y + 1).toNat) = putAll (T0 base nodes) ops by rw [← HDR.out]; exact HPA.out)
            have HIV := Aside0.mk (putO_inv (T := ⟨nodes, [], acc, base⟩) (o := (rd_T28 ops y)) (r := chkO (rd_T28 ops y)) HSR.out HLA.out)
            obtain ⟨pe, hpe⟩ : ∃ pe, (putO ⟨nodes, [], acc, base⟩ (rd_T28 ops y) (chkO (rd_T28 ops y))).2 = pe := ⟨_, rfl⟩
            rw [hpe]
            obtain ⟨u0, u1, u2, u3, uf0, uf1, uf2, uf3⟩ := Z4 HX5.out
            obtain ⟨t0, t1, t2, t3, tf0, tf1, tf2, tf3⟩ := Z4 BT.out
            by_cases he : pe = 0
            rotate_left
            · have m1 : decide (pe = 0) = false := decide_eq_false he
              have m2 : (pe == 0) = false := beq_eq_false_iff_ne.2 he
              have m3 : (pe = 0) = False := eq_false he
              have HX := Aside0.mk (show (putAll (T0 base nodes) ops).2 = pe by
                rw [← HPD.out]
                show (if (putO ⟨nodes, [], acc, base⟩ (rd_T28 ops y) (chkO (rd_T28 ops y))).2 ≠ 0 then _ else _ : List Opn × Int).2 = pe
                rw [if_pos (by rw [hpe]; exact he)]; exact hpe)
              have HNE := Aside0.mk he
              clear he hpe
              obtain ⟨n0, n1, n2, n3, nf0, nf1, nf2, nf3⟩ := Z4 BR.out
              go_wp2
              try simp only [Exit.inBlock, Exit.then]
              refine bodyPost_ret (results_ct rfl _ _ (w.heap.size + 1) 50 #[.slice none 0 0, .slice none 0 0, .int .i64 0, .int .i64 0] (0, 0) _ rfl (blk_put (blk_put (blk_put (blk_put (BR.out) 0 _ rfl) 1 _ rfl) 2 _ rfl) 3 _ rfl) Tryd.underlying50 rfl (by kernel_rfl)) rfl ?_
              exact ROfSpec.fault HSO.out HX.out HNE.out (below_set (below_set (below_set (below_set (HB.out) hg) hg) hg) hg)
            · subst he
              by_cases hln : (putO ⟨nodes, [], acc, base⟩ (rd_T28 ops y) (chkO (rd_T28 ops y))).1.length = acc.length
              · have m1 : decide (((putO ⟨nodes, [], acc, base⟩ (rd_T28 ops y) (chkO (rd_T28 ops y))).1.length : Int) = (acc.length : Int)) = true := decide_eq_true (by omega)
                have m2 : ((putO ⟨nodes, [], acc, base⟩ (rd_T28 ops y) (chkO (rd_T28 ops y))).1.length = acc.length) = True := eq_true hln
                have m3 : (((putO ⟨nodes, [], acc, base⟩ (rd_T28 ops y) (chkO (rd_T28 ops y))).1.length : Int) == (acc.length : Int)) = true := beq_iff_eq.2 (by omega)
                have m4 : ((putO ⟨nodes, [], acc, base⟩ (rd_T28 ops y) (chkO (rd_T28 ops y))).1.length == acc.length) = true := beq_iff_eq.2 hln
                have HX := Aside0.mk (show (putAll (T0 base nodes) ops).2 = 1 by
                  rw [← HPD.out]
                  show (if (putO ⟨nodes, [], acc, base⟩ (rd_T28 ops y) (chkO (rd_T28 ops y))).2 ≠ 0 then _ else if (putO ⟨nodes, [], acc, base⟩ (rd_T28 ops y) (chkO (rd_T28 ops y))).1.length = acc.length then _ else _ : List Opn × Int).2 = 1
                  rw [if_neg (by rw [hpe]; decide), if_pos hln])
                have HNE := Aside0.mk (show (1 : Int) ≠ 0 by decide)
                clear hln hpe
                obtain ⟨n0, n1, n2, n3, nf0, nf1, nf2, nf3⟩ := Z4 BR.out
                go_wp2
                try simp only [Exit.inBlock, Exit.then]
                refine bodyPost_ret (results_ct rfl _ _ (w.heap.size + 1) 50 #[.slice none 0 0, .slice none 0 0, .int .i64 0, .int .i64 0] (0, 0) _ rfl (blk_put (blk_put (blk_put (blk_put (BR.out) 0 _ rfl) 1 _ rfl) 2 _ rfl) 3 _ rfl) Tryd.underlying50 rfl (by kernel_rfl)) rfl ?_
                exact ROfSpec.fault HSO.out HX.out HNE.out (below_set (below_set (below_set (below_set (HB.out) hg) hg) hg) hg)
              · have m1 : decide (((putO ⟨nodes, [], acc, base⟩ (rd_T28 ops y) (chkO (rd_T28 ops y))).1.length : Int) = (acc.length : Int)) = false := decide_eq_false (by omega)
                have m2 : ((putO ⟨nodes, [], acc, base⟩ (rd_T28 ops y) (chkO (rd_T28 ops y))).1.length = acc.length) = False := eq_false hln
                have m3 : (((putO ⟨nodes, [], acc, base⟩ (rd_T28 ops y) (chkO (rd_T28 ops y))).1.length : Int) == (acc.length : Int)) = false := beq_eq_false_iff_ne.2 (by omega)
                have m4 : ((putO ⟨nodes, [], acc, base⟩ (rd_T28 ops y) (chkO (rd_T28 ops y))).1.length == acc.length) = false := beq_eq_false_iff_ne.2 hln
                have HX := Aside0.mk (show putAll ⟨nodes, [], (putO ⟨nodes, [], acc, base⟩ (rd_T28 ops y) (chkO (rd_T28 ops y))).1, base⟩ (ops.drop (y + 1).toNat) = putAll (T0 base nodes) ops by
                  rw [← HPD.out]
                  show _ = (if (putO ⟨nodes, [], acc, base⟩ (rd_T28 ops y) (chkO (rd_T28 ops y))).2 ≠ 0 then _ else if (putO ⟨nodes, [], acc, base⟩ (rd_T28 ops y) (chkO (rd_T28 ops y))).1.length = acc.length then _ else putAll ⟨nodes, [], (putO ⟨nodes, [], acc, base⟩ (rd_T28 ops y) (chkO (rd_T28 ops y))).1, base⟩ (ops.drop (y + 1).toNat) : List Opn × Int)
                  rw [if_neg (by rw [hpe]; decide), if_neg hln])
                clear hln hpe
                go_upto_region 11 with fail
                have HLT2 := Aside0.mk (show w.heap.size ≤ tb by have h2 := HTB.out; omega)
                replace HRO := Aside0.mk (RowSO.set HRO.out HLT2.out BT.out (by decide) 0 (.slice AN nodes.length cN))
                replace BS := Aside0.mk (blk_far (p := ⟨tb, 0, none⟩) BS.out (show w.heap.size ≠ tb by have h1_ := HTB.out; have h2_ := HNX.out; omega) (.slice AN nodes.length cN))
                replace BR := Aside0.mk (blk_far (p := ⟨tb, 0, none⟩) BR.out (show w.heap.size + 1 ≠ tb by have h1_ := HTB.out; have h2_ := HNX.out; omega) (.slice AN nodes.length cN))
                replace HB := Aside0.mk (below_set (g := tb) HB.out HLT2.out (j := 0) (v := .slice AN nodes.length cN))
                replace BT := Aside0.mk (blk_put BT.out 0 (.slice AN nodes.length cN) (show (#[.slice AN nodes.length cN, .slice A5 acc.length c5, .int .i64 base.f0, .int .i64 base.f1] : Array Value).setIfInBounds 0 (.slice AN nodes.length cN) = #[.slice AN nodes.length cN, .slice A5 acc.length c5, .int .i64 base.f0, .int .i64 base.f1] from rfl))
                generalize w6.setCell ⟨tb, 0, none⟩ (.slice AN nodes.length cN) = w8_1 at HB BT BS BR HRO ⊢
                replace HRO := Aside0.mk (RowSO.set HRO.out HLT2.out BT.out (by decide) 1 (.slice A6 (putO ⟨nodes, [], acc, base⟩ (rd_T28 ops y) (chkO (rd_T28 ops y))).1.length c6))
                replace BS := Aside0.mk (blk_far (p := ⟨tb, 1, none⟩) BS.out (show w.heap.size ≠ tb by have h1_ := HTB.out; have h2_ := HNX.out; omega) (.slice A6 (putO ⟨nodes, [], acc, base⟩ (rd_T28 ops y) (chkO (rd_T28 ops y))).1.length c6))
                replace BR := Aside0.mk (blk_far (p := ⟨tb, 1, none⟩) BR.out (show w.heap.size + 1 ≠ tb by have h1_ := HTB.out; have h2_ := HNX.out; omega) (.slice A6 (putO ⟨nodes, [], acc, base⟩ (rd_T28 ops y) (chkO (rd_T28 ops y))).1.length c6))
                replace HB := Aside0.mk (below_set (g := tb) HB.out HLT2.out (j := 1) (v := .slice A6 (putO ⟨nodes, [], acc, base⟩ (rd_T28 ops y) (chkO (rd_T28 ops y))).1.length c6))
                replace BT := Aside0.mk (blk_put BT.out 1 (.slice A6 (putO ⟨nodes, [], acc, base⟩ (rd_T28 ops y) (chkO (rd_T28 ops y))).1.length c6) (show (#[.slice AN nodes.length cN, .slice A5 acc.length c5, .int .i64 base.f0, .int .i64 base.f1] : Array Value).setIfInBounds 1 (.slice A6 (putO ⟨nodes, [], acc, base⟩ (rd_T28 ops y) (chkO (rd_T28 ops y))).1.length c6) = #[.slice AN nodes.length cN, .slice A6 (putO ⟨nodes, [], acc, base⟩ (rd_T28 ops y) (chkO (rd_T28 ops y))).1.length c6, .int .i64 base.f0, .int .i64 base.f1] from rfl))
                generalize w8_1.setCell ⟨tb, 1, none⟩ (.slice A6 (putO ⟨nodes, [], acc, base⟩ (rd_T28 ops y) (chkO (rd_T28 ops y))).1.length c6) = w8_2 at HB BT BS BR HRO ⊢
                replace HRO := Aside0.mk (RowSO.set HRO.out HLT2.out BT.out (by decide) 2 (.int .i64 base.f0))
                replace BS := Aside0.mk (blk_far (p := ⟨tb, 2, none⟩) BS.out (show w.heap.size ≠ tb by have h1_ := HTB.out; have h2_ := HNX.out; omega) (.int .i64 base.f0))
                replace BR := Aside0.mk (blk_far (p := ⟨tb, 2, none⟩) BR.out (show w.heap.size + 1 ≠ tb by have h1_ := HTB.out; have h2_ := HNX.out; omega) (.int .i64 base.f0))
                replace HB := Aside0.mk (below_set (g := tb) HB.out HLT2.out (j := 2) (v := .int .i64 base.f0))
                replace BT := Aside0.mk (blk_put BT.out 2 (.int .i64 base.f0) (show (#[.slice AN nodes.length cN, .slice A6 (putO ⟨nodes, [], acc, base⟩ (rd_T28 ops y) (chkO (rd_T28 ops y))).1.length c6, .int .i64 base.f0, .int .i64 base.f1] : Array Value).setIfInBounds 2 (.int .i64 base.f0) = #[.slice AN nodes.length cN, .slice A6 (putO ⟨nodes, [], acc, base⟩ (rd_T28 ops y) (chkO (rd_T28 ops y))).1.length c6, .int .i64 base.f0, .int .i64 base.f1] from rfl))
                generalize w8_2.setCell ⟨tb, 2, none⟩ (.int .i64 base.f0) = w8_3 at HB BT BS BR HRO ⊢
                replace HRO := Aside0.mk (RowSO.set HRO.out HLT2.out BT.out (by decide) 3 (.int .i64 base.f1))
                replace BS := Aside0.mk (blk_far (p := ⟨tb, 3, none⟩) BS.out (show w.heap.size ≠ tb by have h1_ := HTB.out; have h2_ := HNX.out; omega) (.int .i64 base.f1))
                replace BR := Aside0.mk (blk_far (p := ⟨tb, 3, none⟩) BR.out (show w.heap.size + 1 ≠ tb by have h1_ := HTB.out; have h2_ := HNX.out; omega) (.int .i64 base.f1))
                replace HB := Aside0.mk (below_set (g := tb) HB.out HLT2.out (j := 3) (v := .int .i64 base.f1))
                replace BT := Aside0.mk (blk_put BT.out 3 (.int .i64 base.f1) (show (#[.slice AN nodes.length cN, .slice A6 (putO ⟨nodes, [], acc, base⟩ (rd_T28 ops y) (chkO (rd_T28 ops y))).1.length c6, .int .i64 base.f0, .int .i64 base.f1] : Array Value).setIfInBounds 3 (.int .i64 base.f1) = #[.slice AN nodes.length cN, .slice A6 (putO ⟨nodes, [], acc, base⟩ (rd_T28 ops y) (chkO (rd_T28 ops y))).1.length c6, .int .i64 base.f0, .int .i64 base.f1] from rfl))
                generalize w8_3.setCell ⟨tb, 3, none⟩ (.int .i64 base.f1) = w8 at HB BT BS BR HRO ⊢
                clear u0 u1 u2 u3 uf0 uf1 uf2 uf3 t0 t1 t2 t3 tf0 tf1 tf2 tf3
                go_wp2
                go_roundg k3
                case measure => exact Nat.lt_succ_self _
                case rel => exact ⟨y + 1, _, _, _, ⟨by have := HK3.out; have := H1.out; omega⟩, (by first | rfl | rw [hw3]), BT, HRO, HIN, ⟨HIV.out.1⟩, ⟨HIV.out.2⟩, HX, BS, BR, HB⟩
          · have b3 : decide (y < (ops.length : Int)) = false := decide_eq_false hyo
            have HX := Aside0.mk (show putAll (T0 base nodes) ops = (acc, 0) by
              rw [← HPA.out, show y.toNat = ops.length by have := HK3.out; omega, List.drop_length]; rfl)
            clear hyo
            obtain ⟨n0, n1, n2, n3, nf0, nf1, nf2, nf3⟩ := Z4 BR.out
            go_wp2
            try simp only [Exit.inBlock, Exit.then]
            refine bodyPost_ret (results_ct rfl _ _ (w.heap.size + 1) 50 #[.slice AN nodes.length cN, .slice A5 acc.length c5, .int .i64 base.f0, .int .i64 base.f1] (0, 0) _ rfl (blk_put (blk_put (blk_put (blk_put (BR.out) 0 _ rfl) 1 _ rfl) 2 _ rfl) 3 _ rfl) Tryd.underlying50 rfl (by kernel_rfl)) rfl ?_
            exact ROfSpec.good HSO.out HX.out (RowSO.set (RowSO.set (RowSO.set (RowSO.set (HQ.out) hg (BR.out) (by decide) 0 _) hg (blk_put (BR.out) 0 _ rfl) (by decide) 1 _) hg (blk_put (blk_put (BR.out) 0 _ rfl) 1 _ rfl) (by decide) 2 _) hg (blk_put (blk_put (blk_put (BR.out) 0 _ rfl) 1 _ rfl) 2 _ rfl) (by decide) 3 _) HNW.out (below_set (below_set (below_set (below_set (HB.out) hg) hg) hg) hg)
end Go.Proofs.YtiffeljmeahmkaaDoor.S
/- A tree of what a tree is of is that tree. Plain laws. -/
namespace Go.Proofs.YtiffeljmeahmkaaDoor.S
open Go.RowKit Go.Proofs.YtiffeljmeahmkaaDoorW.PrintWords Go.Proofs.YtiffeljmeahmkaaDoorW.PrintLast Go.Proofs.YtiffeljmeahmkaaDoorW.PrintMore
open Go.Proofs.YtiffeljmeahmkaaDoor.P (isName L chkO goodO)
set_option linter.unusedVariables false
set_option linter.unusedSimpArgs false
/-- What lies there behind putting: each passes the check. -/
theorem all_chk : ∀ (os : List Opn) (T : Tr), (∀ o ∈ T.ops, chkO o = 0) → ∀ o ∈ (putAll T os).1, chkO o = 0
  | [], T, h => h
  | x :: os, T, h => by
    intro o ho
    unfold putAll at ho
    split at ho
    · exact h o ho
    · split at ho
      · exact h o ho
      · refine all_chk os _ (fun q hq => ?_) o ho
        rcases putO_mem (T := T) hq with hq | ⟨rfl, e⟩
        · exact h q hq
        · exact e
theorem rank_all {l : List Opn} {s : Stp} (h : ∀ o ∈ l, lessB o.f1 s = true) : rank l s = l.length := by
  unfold rank
  induction l with
  | nil => rfl
  | cons x l ih =>
    rw [List.takeWhile_cons, if_pos (h x (List.mem_cons_self ..)), List.length_cons, List.length_cons, ih (fun o ho => h o (List.mem_cons_of_mem _ ho))]
/-- An operation behind all others is put at the end. -/
theorem put_last {T : Tr} {o : Opn} (hc : chkO o = 0) (hb : lessB T.base o.f1 = true) (hl : ∀ x ∈ T.ops, lessB x.f1 o.f1 = true) (hf : fullB T o = false) : putO T o (chkO o) = (T.ops ++ [o], 0) := by
  have hr := rank_all hl
  have hi : isIn T.ops o.f1 = false := by
    unfold isIn found
    rw [hr, decide_eq_false (Nat.lt_irrefl _)]; rfl
  unfold putO
  rw [hc, hb, if_neg (by decide), hi, if_neg (by decide), hf, if_neg (by decide), end_is hr]
theorem put_again (nodes : List Nod) (base : Stp) : ∀ (os acc : List Opn), Sorted (acc ++ os) → (∀ o ∈ acc ++ os, chkO o = 0 ∧ lessB base o.f1 = true) → (acc ++ os).length ≤ 512 → nodes.length + creates (acc ++ os) ≤ 512 → putAll ⟨nodes, [], acc, base⟩ os = (acc ++ os, 0)
  | [], acc, _, _, _, _ => by rw [List.append_nil]; rfl
  | o :: os, acc, hs, hc, hl, hf => by
    have h1 := hc o (by simp)
    have hlast : ∀ x ∈ acc, lessB x.f1 o.f1 = true := fun x hx => (List.pairwise_append.1 hs).2.2 x hx o (List.mem_cons_self ..)
    have hcr : creates (acc ++ o :: os) = creates acc + (if o.f0 = 1 then 1 else 0) + creates os := by
      unfold creates
      rw [List.filter_append, List.length_append, List.filter_cons]
      by_cases hk : o.f0 = 1
      · rw [if_pos (by simp [hk]), if_pos hk, List.length_cons]; omega
      · rw [if_neg (by simp [hk]), if_neg hk]; omega
    have hful : fullB ⟨nodes, [], acc, base⟩ o = false := by
      unfold fullB
      have hl2 : acc.length < 512 := by rw [List.length_append, List.length_cons] at hl; omega
      show (decide (512 ≤ acc.length) || ((o.f0 == 1) && decide (512 ≤ nodes.length + creates acc))) = false
      rw [decide_eq_false (by omega), Bool.false_or]
      by_cases hk : o.f0 = 1
      · rw [hk] at hcr
        rw [decide_eq_false (by simp at hcr; omega), Bool.and_false]
      · rw [show (o.f0 == 1) = false from beq_eq_false_iff_ne.2 hk]; rfl
    have hp := put_last (T := ⟨nodes, [], acc, base⟩) h1.1 h1.2 hlast hful
    unfold putAll
    rw [hp, if_neg (fun h => h rfl), if_neg (by simp)]
    have := put_again nodes base os (acc ++ [o]) (by simpa using hs) (by simpa using hc) (by simpa using hl) (by simpa using hf)
    rw [this]
    simp
/-- What a good tree is of makes it anew. -/
theorem again_of {T : Tr} (hg : Good T) (hc : ∀ o ∈ T.ops, chkO o = 0) : putAll (T0 T.base T.fixed) T.ops = (T.ops, 0) :=
  put_again T.fixed T.base T.ops [] hg.srt (fun o ho => ⟨hc o ho, hg.aft o ho⟩) hg.len hg.fl
end Go.Proofs.YtiffeljmeahmkaaDoor.S
/- TreeOf: which trees there are of any nodes for good, and operations; a tree is one of what it is of. -/
namespace Go.Proofs.YtiffeljmeahmkaaDoor.S
open Go.RowKit Go.Proofs.YtiffeljmeahmkaaDoorW.PrintWords Go.Proofs.YtiffeljmeahmkaaDoorW.PrintLast Go.Proofs.YtiffeljmeahmkaaDoorW.PrintMore
open Go.Proofs.YtiffeljmeahmkaaDoor.P (isName L chkO goodO)
set_option linter.unusedVariables false
set_option linter.unusedSimpArgs false
attribute [local go_sem high] eqA25
theorem TreeAt.low {w : World} {B B' g f n : Nat} {v : Value} {T : Tr} (h : TreeAt w B g f n v T) (hb : B' ≤ B) : TreeAt w B' g f n v T := by
  refine ⟨h.blk, h.fix, h.now, OpsAt.of_row ?_, h.ne, Nat.le_trans hb h.bg, Nat.le_trans hb h.bf, Nat.le_trans hb h.bn⟩
  obtain ⟨h1, h2⟩ := h.ops.row
  exact ⟨h1, h2.imp id (fun ⟨g, c, cur, a, b, r⟩ => ⟨g, c, cur, a, Nat.le_trans hb b, r⟩)⟩
theorem foot_ge {w : World} {B g f n : Nat} {v : Value} {T : Tr} (h : TreeAt w B g f n v T) {k : Nat} (hk : foot g f n v k) : B ≤ k := by
  rcases hk with rfl | rfl | rfl | hk
  · exact h.bg
  · exact h.bf
  · exact h.bn
  · exact (h.ops.row.lt k hk).1
/-- Both trees, as the two Of make them. -/
theorem both_of {w w2 w3 w4 : World} {vN vO' : Value} {nodes : List Nod} {ops : List Opn} {base : Stp} {g f n : Nat} {v : Value} {T : Tr} (hs : StartOk base nodes) (hN : RowN w vN nodes) (hb2 : Below w.heap.size w w2) (ht : TreeAt w3 w2.heap.size g f n v T) (hg : Good T) (h1 : T.fixed = nodes) (h2 : T.base = base) (h3 : T.ops = (putAll (T0 base nodes) ops).1)
    (hb3 : Below w2.heap.size w2 w3) (hr : RowSO w3.heap.size w4 vO' (putAll (T0 base nodes) ops).1) (hw : Newer w3.heap.size vO') (hb4 : Below w3.heap.size w3 w4) : Both w w4 g f n v T vN vO' nodes := by
  have hb43 : Below w.heap.size w w3 := below_then hb2 hb2.size hb3
  have hb : Below w.heap.size w w4 := below_then hb43 hb43.size hb4
  have hsr := ok_srt (base := base) nodes.length (Nat.le_refl _) (fun y a b => hs.all y a b)
  rw [List.take_length] at hsr
  refine ⟨(ht.low hb2.size).below hb4, hg, hb, fun o ho => ?_, ⟨hN.below hb, fun A m c e => (hN.lt A m c e).imp id .inl⟩, ⟨by rw [h3]; exact hr.1, fun A m c e => ?_⟩, fun A m c e => ?_, fun A m c e => .inr (fun hf => ?_), hsr, by rw [h1]⟩
  · rw [h3] at ho
    have := P.chk_fine (all_chk ops (T0 base nodes) (fun q hq => by simp at hq) o ho)
    exact ⟨this.1.1, this.2⟩
  · rw [h3]
    rcases hr.2 A m c e with q | q | q
    · exact .inl q
    · have := hw A m c e; omega
    · exact .inr (.inr q)
  · rcases hN.lt A m c e with q | q
    · exact .inl q
    · refine .inr (fun hf => ?_)
      have := foot_ge ht hf
      have := hb2.size
      omega
  · have h5 := hw A m c e
    have h6 := foot_in2 ht hf
    omega
theorem put_mem : ∀ (os : List Opn) (T : Tr) {o : Opn}, o ∈ (putAll T os).1 → o ∈ T.ops ∨ o ∈ os
  | [], T, o, h => .inl h
  | x :: os, T, o, h => by
    unfold putAll at h
    split at h
    · exact .inl h
    · split at h
      · exact .inl h
      · rcases put_mem os _ h with h | h
        · rcases putO_mem (T := T) h with h | ⟨rfl, _⟩
          · exact .inl h
          · exact .inr (List.mem_cons_self ..)
        · exact .inr (List.mem_cons_of_mem _ h)
theorem now_same {T U : Tr} (ht : Good T) (hu : Good U) (h1 : U.fixed = T.fixed) (h2 : U.ops = T.ops) : U.now.Perm T.now := by
  obtain ⟨a, ha, ea⟩ := ht.now
  obtain ⟨b, hb, eb⟩ := hu.now
  rw [ea, eb, h2]
  rw [h1] at hb
  exact fold_perm T.ops (hb.trans ha.symm) ((ha.map _).nodup_iff.2 ht.nd)
set_option maxHeartbeats 16000000 in
set_option maxRecDepth 100000 in
theorem of_law_calls (w : World) (A0 A1 : Option Addr) (c0 c1 : Nat) (nodes : List Nod) (ops : List Opn) (base : Stp) (hr0 : Kd.C k36 w A0 nodes.length nodes) (hc0 : nodes.length ≤ c0) (hr1 : Kd.C k28 w A1 ops.length ops) (hc1 : ops.length ≤ c1) (hL : Laid w) :
    Calls Tryd.prog 11 #[.agg #[.slice A0 nodes.length c0, .slice A1 ops.length c1, .int .i64 base.f0, .int .i64 base.f1]] w fun e w' => e = .returned (.bool true) ∧ Below w.heap.size w w' := by
  have hu := Tryd.underlying71
  have hu1 := Tryd.underlying25
  have hu2 := Tryd.underlying36
  have hu3 := Tryd.underlying50
  have HL := Aside0.mk hL
  have HN := Aside0.mk (show RowN w (.slice A0 nodes.length c0) nodes from ⟨A0, c0, rfl, hc0, hr0⟩)
  have HO := Aside0.mk (show RowO w (.slice A1 ops.length c1) ops from ⟨A1, c1, rfl, hc1, hr1⟩)
  have BS := Aside0.mk (heap_alloc_new w (.cells #[.slice A0 nodes.length c0, .slice A1 ops.length c1, .int .i64 base.f0, .int .i64 base.f1] 71))
  have HB := Aside0.mk (below_alloc (Below.refl w.heap.size w) (.cells #[.slice A0 nodes.length c0, .slice A1 ops.length c1, .int .i64 base.f0, .int .i64 base.f1] 71))
  obtain ⟨kf, rf, hfw, hfew⟩ := few_is ops 30 (by decide)
  have HFW := Aside0.mk hfw
  have HFEW := Aside0.mk hfew
  clear hL hr0 hc0 hr1 hc1 hfw hfew
  go_enter Tryd.func11, Tryd.ntmps11
  obtain ⟨z0, z1, z2, z3, zf⟩ := Z4 BS.out
  cases rf with
  | false =>
    go_wp2_with (first | (go_at_call 20; refine (samphirelaw11_few.calls kf A1 c1 ops 30 false _ (HO.out.below HB.out).at.2.2 (HO.out.below HB.out).at.2.1 HFW.out).mono ?_; rintro e w1 ⟨rfl, hb⟩; replace BS := Aside0.mk (blk_below BS.out hb); replace HB := Aside0.mk (below_then HB.out HB.out.size hb); clear hb z0 z1 z2 z3 zf; obtain ⟨z0, z1, z2, z3, zf⟩ := Z4 BS.out) | (go_at_call 16; refine (awake_calls _ (HL.out.below HB.out)).mono ?_; rintro e w2 ⟨rfl, hb⟩; replace HB := Aside0.mk (below_then HB.out HB.out.size hb); clear hb))
    go_ret
    exact ⟨rfl, HB.out⟩
  | true =>
    have HFT := Aside0.mk (HFEW.out rfl)
    clear HFEW
    by_cases hn30 : nodes.length ≤ 30
    rotate_left
    · have m1 : decide ((30 : Int) < (nodes.length : Int)) = true := decide_eq_true (by omega)
      have m2 : (30 < nodes.length) = True := eq_true (by omega)
      have m3 : decide ((nodes.length : Int) > 30) = true := decide_eq_true (by omega)
      clear hn30
      go_wp2_with (first | (go_at_call 20; refine (samphirelaw11_few.calls kf A1 c1 ops 30 true _ (HO.out.below HB.out).at.2.2 (HO.out.below HB.out).at.2.1 HFW.out).mono ?_; rintro e w1 ⟨rfl, hb⟩; replace BS := Aside0.mk (blk_below BS.out hb); replace HB := Aside0.mk (below_then HB.out HB.out.size hb); clear hb z0 z1 z2 z3 zf; obtain ⟨z0, z1, z2, z3, zf⟩ := Z4 BS.out) | (go_at_call 16; refine (awake_calls _ (HL.out.below HB.out)).mono ?_; rintro e w2 ⟨rfl, hb⟩; replace HB := Aside0.mk (below_then HB.out HB.out.size hb); clear hb))
      go_ret
      exact ⟨rfl, HB.out⟩
    · have m1 : decide ((30 : Int) < (nodes.length : Int)) = false := decide_eq_false (by omega)
      have m2 : (30 < nodes.length) = False := eq_false (by omega)
      have m3 : decide ((nodes.length : Int) > 30) = false := decide_eq_false (by omega)
      have HN30 := Aside0.mk hn30
      clear hn30
      go_upto_region 3 with (go_at_call 20; refine (samphirelaw11_few.calls kf A1 c1 ops 30 true _ (HO.out.below HB.out).at.2.2 (HO.out.below HB.out).at.2.1 HFW.out).mono ?_; rintro e w1 ⟨rfl, hb⟩; replace BS := Aside0.mk (blk_below BS.out hb); replace HB := Aside0.mk (below_then HB.out HB.out.size hb); clear hb z0 z1 z2 z3 zf; obtain ⟨z0, z1, z2, z3, zf⟩ := Z4 BS.out)
      clear m1 m2 m3
      go_wp2_with fail
      try go_frame
      go_loopg [3] (nodes.length + 1) (fun kq p wr => ∃ (x : Int), Aside0 ((kq : Int) + x = (nodes.length : Int) + 1 ∧ 0 ≤ x ∧ x ≤ (nodes.length : Int)) ∧ p = .int .i64 x ∧ Aside0 (∀ y : Int, 0 ≤ y → y < x → (rd_T36 nodes y).f2.size ≤ 200) ∧ Aside0 (wr.heap[w.heap.size]? = some (.cells #[.slice A0 nodes.length c0, .slice A1 ops.length c1, .int .i64 base.f0, .int .i64 base.f1] 71 (0, 0))) ∧ Aside0 (Below w.heap.size w wr))
      case atStart => exact ⟨0, ⟨by omega⟩, rfl, ⟨fun y a b => by omega⟩, BS, HB⟩
      case round =>
        clear z0 z1 z2 z3 zf BS HB
        obtain ⟨x, HK, rfl, HJ, BS, HB⟩ := hrel
        obtain ⟨k1, rfl⟩ : ∃ k1, gk = k1 + 1 := ⟨((nodes.length : Int) - x).toNat, by have := HK.out; omega⟩
        have h0 : 0 ≤ x := HK.out.2.1
        obtain ⟨z0, z1, z2, z3, zf⟩ := Z4 BS.out
        by_cases hx : x < (nodes.length : Int)
        · have b1 : decide (x < (nodes.length : Int)) = true := decide_eq_true hx
          obtain ⟨ad, e, x0, x1, x2, x3, x4, x5⟩ := at_T36 (HN.out.below HB.out).at.2.2 x h0 hx
          cases e
          have p1 := eq_true h0
          have q1 := eq_true hx
          have H0 := Aside0.mk h0
          have H1 := Aside0.mk hx
          have hl5 := HN30.out
          have hw1 : wrap64 (x + 1) = x + 1 := by unfold wrap64; omega
          clear h0 hx hl5
          by_cases hs2 : (rd_T36 nodes x).f2.size ≤ 200
          rotate_left
          · have v1 : decide (((rd_T36 nodes x).f2.size : Int) > 200) = true := decide_eq_true (by omega)
            have v2 : decide ((200 : Int) < ((rd_T36 nodes x).f2.size : Int)) = true := decide_eq_true (by omega)
            have v3 : (200 < (rd_T36 nodes x).f2.size) = True := eq_true (by omega)
            clear hs2
            go_wp2_with (go_at_call 16; refine (awake_calls _ (HL.out.below HB.out)).mono ?_; rintro e w2 ⟨rfl, hb⟩; replace HB := Aside0.mk (below_then HB.out HB.out.size hb); clear hb)
            go_ret
            exact ⟨rfl, HB.out⟩
          · have v1 : decide (((rd_T36 nodes x).f2.size : Int) > 200) = false := decide_eq_false (by omega)
            have v2 : decide ((200 : Int) < ((rd_T36 nodes x).f2.size : Int)) = false := decide_eq_false (by omega)
            have v3 : (200 < (rd_T36 nodes x).f2.size) = False := eq_false (by omega)
            have HS2 := Aside0.mk hs2
            clear hs2
            by_cases hs3 : (rd_T36 nodes x).f3.size ≤ 200
            rotate_left
            · have u1 : decide (((rd_T36 nodes x).f3.size : Int) > 200) = true := decide_eq_true (by omega)
              have u2 : decide ((200 : Int) < ((rd_T36 nodes x).f3.size : Int)) = true := decide_eq_true (by omega)
              have u3 : (200 < (rd_T36 nodes x).f3.size) = True := eq_true (by omega)
              clear hs3
              go_wp2_with (go_at_call 16; refine (awake_calls _ (HL.out.below HB.out)).mono ?_; rintro e w2 ⟨rfl, hb⟩; replace HB := Aside0.mk (below_then HB.out HB.out.size hb); clear hb)
              go_ret
              exact ⟨rfl, HB.out⟩
            · have u1 : decide (((rd_T36 nodes x).f3.size : Int) > 200) = false := decide_eq_false (by omega)
              have u2 : decide ((200 : Int) < ((rd_T36 nodes x).f3.size : Int)) = false := decide_eq_false (by omega)
              have u3 : (200 < (rd_T36 nodes x).f3.size) = False := eq_false (by omega)
              clear hs3
              go_wp2
              go_roundg k1
              case measure => exact Nat.lt_succ_self _
              case rel => exact ⟨x + 1, ⟨by have := HK.out; have := H1.out; omega⟩, (by first | rfl | rw [hw1]), ⟨fun y a b => by
                  by_cases hy : y = x
                  · rw [hy]; exact HS2.out
                  · exact HJ.out y a (by omega)⟩, BS, HB⟩
        · have b1 : decide (x < (nodes.length : Int)) = false := decide_eq_false hx
          have HNM := Aside0.mk (show ∀ m ∈ nodes, m.f2.size ≤ 200 by
            intro m hm
            obtain ⟨i, hi, rfl⟩ := List.getElem_of_mem hm
            have := HJ.out (i : Int) (by omega) (by omega)
            rwa [rdN_at nodes i hi, getElem!_pos nodes i hi] at this)
          have HNB := Aside0.mk (show ∀ m ∈ nodes, m.f2.size < 9223372036854775807 from fun m hm => by have := HNM.out m hm; omega)
          have HON := Aside0.mk (show ∀ o ∈ ops, o.f4.size ≤ 200 from fun o ho => (HFT.out.2 o ho).1)
          have HOL := Aside0.mk (show ops.length ≤ 100000 from Nat.le_trans HFT.out.1 (by decide))
          clear hx
          by_cases hst : StartOk base nodes
          rotate_left
          · have HST := Aside0.mk hst
            clear hst
            go_wp2_with (first | (go_at_call 32; refine (Of_calls _ _ _ nodes ops base (HN.out.below HB.out) (HO.out.below HB.out) HNB.out HON.out HOL.out (HL.out.below HB.out)).mono ?_; rintro e w3 hsp; have hb := hsp.2.2.2; obtain rfl := hsp.1 HST.out; replace BS := Aside0.mk (blk_below BS.out hb); replace HB := Aside0.mk (below_then HB.out HB.out.size hb); clear hsp hb z0 z1 z2 z3 zf; obtain ⟨z0, z1, z2, z3, zf⟩ := Z4 BS.out) | (go_at_call 33; refine (rOf_calls _ _ _ nodes ops base (HN.out.below HB.out) (HO.out.below HB.out) HNM.out HON.out HOL.out).mono ?_; rintro e w4 hsp; have hb := hsp.2.2.2; obtain rfl := hsp.1 HST.out; replace BS := Aside0.mk (blk_below BS.out hb); replace HB := Aside0.mk (below_then HB.out HB.out.size hb); clear hsp hb) | (go_at_call 16; refine (awake_calls _ (HL.out.below (below_alloc HB.out _))).mono ?_; rintro e w2 ⟨rfl, hb⟩; replace HB := Aside0.mk (below_then (below_alloc HB.out _) (below_alloc HB.out _).size hb); clear hb))
            go_ret
            exact ⟨rfl, HB.out⟩
          · have HST := Aside0.mk hst
            clear hst
            obtain ⟨pe, hpe⟩ : ∃ pe, (putAll (T0 base nodes) ops).2 = pe := ⟨_, rfl⟩
            have HPE := Aside0.mk hpe
            by_cases he : pe = 0
            rotate_left
            · have n1 : decide (pe = 0) = false := decide_eq_false he
              have n2 : (pe == 0) = false := beq_eq_false_iff_ne.2 he
              have n3 : (pe = 0) = False := eq_false he
              have HNE := Aside0.mk he
              clear he hpe
              go_wp2_with (first | (go_at_call 32; refine (Of_calls _ _ _ nodes ops base (HN.out.below HB.out) (HO.out.below HB.out) HNB.out HON.out HOL.out (HL.out.below HB.out)).mono ?_; rintro e w3 hsp; have hb := hsp.2.2.2; obtain rfl := hsp.2.1 HST.out (by rw [HPE.out]; exact HNE.out); rw [HPE.out]; replace BS := Aside0.mk (blk_below BS.out hb); replace HB := Aside0.mk (below_then HB.out HB.out.size hb); clear hsp hb z0 z1 z2 z3 zf; obtain ⟨z0, z1, z2, z3, zf⟩ := Z4 BS.out) | (go_at_call 33; refine (rOf_calls _ _ _ nodes ops base (HN.out.below HB.out) (HO.out.below HB.out) HNM.out HON.out HOL.out).mono ?_; rintro e w4 hsp; have hb := hsp.2.2.2; obtain rfl := hsp.2.1 HST.out (by rw [HPE.out]; exact HNE.out); rw [HPE.out]; replace BS := Aside0.mk (blk_below BS.out hb); replace HB := Aside0.mk (below_then HB.out HB.out.size hb); clear hsp hb) | (go_at_call 16; refine (awake_calls _ (HL.out.below (below_alloc HB.out _))).mono ?_; rintro e w2 ⟨rfl, hb⟩; replace HB := Aside0.mk (below_then (below_alloc HB.out _) (below_alloc HB.out _).size hb); clear hb))
              go_ret
              exact ⟨rfl, HB.out⟩
            · skip
              subst he
              clear hpe
              go_upto_region 9 with (go_at_call 32; refine (Of_calls _ _ _ nodes ops base (HN.out.below HB.out) (HO.out.below HB.out) HNB.out HON.out HOL.out (HL.out.below HB.out)).mono ?_; rintro e w3 hsp; obtain ⟨g, f, n, v, T, rfl, ht, hg, h1, h2, h3⟩ := hsp.2.2.1 HST.out HPE.out; have HT := Aside0.mk ht; have HG := Aside0.mk hg; have HF1 := Aside0.mk h1; have HF2 := Aside0.mk h2; have HF3 := Aside0.mk h3; have HB3 := Aside0.mk hsp.2.2.2; replace BS := Aside0.mk (blk_below BS.out hsp.2.2.2); have HB5 := Aside0.mk (below_then HB.out HB.out.size hsp.2.2.2); clear hsp ht hg h1 h2 h3 z0 z1 z2 z3 zf; obtain ⟨z0, z1, z2, z3, zf⟩ := Z4 BS.out)
              go_upto_region 10 with (go_at_call 33; refine (rOf_calls _ _ _ nodes ops base (HN.out.below HB5.out) (HO.out.below HB5.out) HNM.out HON.out HOL.out).mono ?_; rintro e w4 hsp; obtain ⟨vO', rfl, hro, hnw⟩ := hsp.2.2.1 HST.out HPE.out; have HA := Aside0.mk (both_of HST.out HN.out HB.out HT.out HG.out HF1.out HF2.out HF3.out HB3.out hro hnw hsp.2.2.2); obtain ⟨A5, c5, e5, _, _⟩ := hro.1; subst e5; clear hsp hro hnw)
              have HQ := Aside0.mk (heap_alloc_new w4 (.cells #[.slice A0 nodes.length c0, .slice A5 (putAll (T0 base nodes) ops).1.length c5, .int .i64 base.f0, .int .i64 base.f1] 50))
              replace HA := Aside0.mk (HA.out.under (below_alloc (Below.refl w4.heap.size w4) (.cells #[.slice A0 nodes.length c0, .slice A5 (putAll (T0 base nodes) ops).1.length c5, .int .i64 base.f0, .int .i64 base.f1] 50)))
              generalize w4.heap.size = qb at HQ ⊢
              generalize w4.alloc (.cells #[.slice A0 nodes.length c0, .slice A5 (putAll (T0 base nodes) ops).1.length c5, .int .i64 base.f0, .int .i64 base.f1] 50) = w5 at HQ HA ⊢
              clear z0 z1 z2 z3 zf BS
              have HOL2 := Aside0.mk (show T.ops.length ≤ 1000000 from Nat.le_trans HA.out.good.len (by decide))
              have HOL3 := Aside0.mk (show T.ops.length ≤ 100000 from Nat.le_trans HA.out.good.len (by decide))
              have HFL := Aside0.mk (show T.fixed.length ≤ 1000000 by have := HA.out.good.fl; omega)
              have HNL := Aside0.mk (show T.now.length ≤ 1000000 from Nat.le_trans (now_len HA.out.good) (by decide))
              have HON2 := Aside0.mk (show ∀ o ∈ T.ops, o.f4.size ≤ 200 by
                intro o ho
                rw [HF3.out] at ho
                rcases put_mem ops (T0 base nodes) ho with h | h
                · simp at h
                · exact HON.out o h)
              have HST2 := Aside0.mk (show StartOk T.base nodes by rw [HF2.out]; exact HST.out)
              have HAG := Aside0.mk (show putAll (T0 T.base nodes) T.ops = (T.ops, 0) by
                have := again_of HA.out.good (fun o ho => by rw [HF3.out] at ho; exact all_chk ops (T0 base nodes) (fun q hq => by simp at hq) o ho)
                rwa [HF1.out] at this)
              go_upto_region 14 with fail
              go_upto_region 15 with (first | (go_at_call 30; refine (Fixed_calls _ _ g f n _ T HA.out.tree HFL.out).mono ?_; rintro e w6 ⟨v6, l6, rfl, hp, ho, hn, hb⟩; replace HA := Aside0.mk (HA.out.under hb); replace HQ := Aside0.mk (blk_below HQ.out hb); have he6 := srt_ext (hp.trans HA.out.perm.symm) (ho.srt ((hp.map _).nodup_iff.2 HA.out.good.nd)) HA.out.srt; obtain ⟨A6, c6, rfl, hc1, hC1⟩ := hn.reads; have HN6 := Aside0.mk (show RowN w6 (.slice A6 l6.length c6) l6 from ⟨A6, c6, rfl, hc1, hC1⟩); rw [he6] at HN6 ⊢; clear hp ho hn hc1 hC1 hb he6) | (go_at_call 17; refine (Ops_calls _ _ g f n _ T HA.out.tree HOL2.out).mono ?_; rintro e w7 ⟨v7, rfl, ho, hb⟩; replace HA := Aside0.mk (HA.out.under hb); replace HQ := Aside0.mk (blk_below HQ.out hb); replace HN6 := Aside0.mk (HN6.out.below hb); obtain ⟨A7, c7, rfl, hc1, hC1⟩ := Kd.R_reads ho; have HO7 := Aside0.mk (show RowO w7 (.slice A7 T.ops.length c7) T.ops from ⟨A7, c7, rfl, hc1, hC1⟩); clear ho hc1 hC1 hb) | (go_at_call 31; refine (Base_calls _ _ g f n _ T HA.out.tree).mono ?_; rintro e w8 ⟨rfl, hb⟩; replace HA := Aside0.mk (HA.out.under hb); replace HQ := Aside0.mk (blk_below HQ.out hb); replace HN6 := Aside0.mk (HN6.out.below hb); replace HO7 := Aside0.mk (HO7.out.below hb); clear hb) | (go_at_call 32; refine (Of_calls _ _ _ nodes T.ops T.base HN6.out HO7.out HNB.out HON2.out HOL3.out (HL.out.below HA.out.below)).mono ?_; rintro e w9 hsp; obtain ⟨g2, f2, n2, v2, T2, rfl, ht, hg, h1, h2, h3⟩ := hsp.2.2.1 HST2.out (by rw [HAG.out]); have HT2 := Aside0.mk ht; have HG2 := Aside0.mk hg; have HE1 := Aside0.mk h1; have HE3 := Aside0.mk (show T2.ops = T.ops by rw [h3, HAG.out]); have hb := hsp.2.2.2; replace HA := Aside0.mk (HA.out.under hb); replace HQ := Aside0.mk (blk_below HQ.out hb); clear hsp ht hg h1 h2 h3 hb))
              have HNS := Aside0.mk (now_same HA.out.good HG2.out (HE1.out.trans HF1.out.symm) HE3.out)
              have HNL2 := Aside0.mk (show T2.now.length ≤ 1000000 by rw [HNS.out.length_eq]; exact HNL.out)
              obtain ⟨q0, q1, q2, q3, qf⟩ := Z4 HQ.out
              go_wp2_with (first | (go_at_call 25; have hsm := same_calls HA.out; rw [HF2.out] at hsm; refine hsm.mono ?_; rintro e w10 ⟨rfl, hb⟩; replace HA := Aside0.mk (HA.out.under hb); replace HT2 := Aside0.mk (HT2.out.below hb); clear hb hsm; have K1 := True.intro) | (clear K1; go_at_call 28; refine (Nodes_calls _ _ g2 f2 n2 _ T2 HT2.out HNL2.out).mono ?_; rintro e w11 ⟨v11, l11, rfl, hp, ho, hn, hb⟩; replace HA := Aside0.mk (HA.out.under hb); replace HT2 := Aside0.mk (HT2.out.below hb); have HP1 := Aside0.mk hp; have HR1 := Aside0.mk ho; obtain ⟨A11, c11, rfl, hc1, hC1⟩ := hn.reads; have HN11 := Aside0.mk (show RowN w11 (.slice A11 l11.length c11) l11 from ⟨A11, c11, rfl, hc1, hC1⟩); clear hp ho hn hc1 hC1 hb; have K2 := True.intro) | (clear K2; go_at_call 28; refine (Nodes_calls _ _ g f n _ T HA.out.tree HNL.out).mono ?_; rintro e w12 ⟨v12, l12, rfl, hp, ho, hn, hb⟩; replace HA := Aside0.mk (HA.out.under hb); replace HT2 := Aside0.mk (HT2.out.below hb); replace HN11 := Aside0.mk (HN11.out.below hb); have he12 := ord_ext (now := T.now) (HP1.out.trans HNS.out) hp HR1.out ho (now_nodup HA.out.good); have HP2 := Aside0.mk hp; obtain ⟨A12, c12, rfl, hc1, hC1⟩ := hn.reads; have HN12 := Aside0.mk (show RowN w12 (.slice A12 l12.length c12) l12 from ⟨A12, c12, rfl, hc1, hC1⟩); rw [he12] at HN11 ⊢; clear hp ho hn hc1 hC1 hb he12; have K3 := True.intro) | (clear K3; go_at_call 27; obtain ⟨ks, hks⟩ := sameNodes_self l12 (by rw [HP2.out.length_eq]; exact HNL.out); refine (samphireref11_SameNodes.calls ks A11 c11 l12 A12 c12 l12 true _ HN11.out.at.2.2 HN11.out.at.2.1 HN12.out.at.2.2 HN12.out.at.2.1 hks).mono ?_; rintro e w13 ⟨rfl, hd⟩; have hb := hd.below; replace HA := Aside0.mk (HA.out.under hb); replace HT2 := Aside0.mk (HT2.out.below hb); clear hb hd hks) | (go_at_call 16; refine (awake_calls _ (HL.out.below HA.out.below)).mono ?_; rintro e w14 ⟨rfl, hb⟩; replace HA := Aside0.mk (HA.out.under hb); clear hb))
              go_ret
              exact ⟨rfl, HA.out.below⟩
end Go.Proofs.YtiffeljmeahmkaaDoor.S
