/- The document's node: may a node be one of a snapshot's? -/
import Derived.Test.YtlfgdaiegefjiaaDoorQc
import Derived.Test.YtlfgdaiegefjiaaDoorSA
import Derived.Test.YtlfgdaiegefjiaaDoorSC
import Derived.Test.YtlfgdaiegefjiaaDoorSx8
import Derived.Test.YtlfgdaiegefjiaaDoorUA
import Derived.Test.YtlfgdaiegefjiaaDoorRA
namespace Go.Proofs.YtlfgdaiegefjiaaDoor.S
open Go.RowKit Go.Proofs.YtlfgdaiegefjiaaDoorW.PrintWords Go.Proofs.YtlfgdaiegefjiaaDoorW.PrintLast Go.Proofs.YtlfgdaiegefjiaaDoorW.PrintMore
open Go.Proofs.YtlfgdaiegefjiaaDoor.P (isName L chkO)
set_option linter.unusedVariables false
set_option linter.unusedSimpArgs false
attribute [local go_sem high] eqA23
def node_.T2 : Bool × List (List Nat × List Nat) := (true, [([], []), ([0], [0]), ([1], [1]), ([2], [2]), ([3, 2], [3]), ([4], [4]), ([5, 4], [4, 5]), ([4], [4]), ([7, 4], [4, 7]), ([6, 8, 4, 4], [4, 6, 8]), ([4, 9], [4, 9]), ([10, 9], [10]), ([11], [11]), ([12, 11], [11, 12]), ([13, 11, 11], [11, 13]), ([14, 11], [11, 14]), ([11, 15], [11, 15]), ([16, 14], [16]), ([17], [17]), ([18, 17], [17, 18]), ([19, 17], [17, 19]), ([20, 17], [17, 20]), ([17, 21], [17, 21]), ([22, 17], [22]), ([23], [23]), ([24, 23], [23, 24]), ([25, 23, 23], [23, 25]), ([26], [26]), ([27, 26], [26, 27]), ([26], [26]), ([29, 26], [26, 29]), ([28, 30, 26], [26, 28, 30]), ([31, 26], [26, 31]), ([32, 26], [26, 32]), ([26], [26]), ([34, 26], [26, 34]), ([33, 35, 26, 26], [26, 33, 35]), ([36, 26], [26, 36]), ([26, 37, 23], [23, 26, 37]), ([23, 38], [23, 38])])
def node_.B2 : List Nat := [0, 1, 3, 7, 15, 31, 63, 31, 159, 511, 1023, 2047, 4095, 8191, 16383, 32767, 65535, 131071, 262143, 524287, 1048575, 2097151, 4194303, 8388607, 16777215, 33554431, 67108863, 134217727, 268435455, 134217727, 671088639, 2147483647, 4294967295, 8589934591, 134217727, 17314086911, 68719476735, 137438953471, 274877906943, 549755813887]
theorem node_.tab2 : rtab .any (opsOf Tryd.f95 2) = node_.T2 := by kernel_rfl
theorem node_.bits2 : waitsOk node_.T2.2 node_.B2 = true := by kernel_rfl
set_option maxHeartbeats 16000000 in
set_option maxRecDepth 100000 in
theorem node_calls (w : World) (vN vO : Value) (nodes : List Nod) (ops : List Opn) (base : Stp) (x : Int) (hN : RowN w vN nodes) (hO : RowO w vO ops) (h0 : 0 ≤ x) (h1 : x < nodes.length) (hl : nodes.length ≤ 512) (hnm : ∀ m ∈ nodes, m.f2.size ≤ 1024) :
 Calls Tryd.prog 95 #[.agg #[vN, vO, .int .i64 base.f0, .int .i64 base.f1], .int .i64 x] w fun e w' => e = .returned (.bool (nodeOk base nodes x && parB nodes (rd_T72 nodes x))) ∧ Below w.heap.size w w' := by
 have hu := Tryd.underlying37
 have hu1 := Tryd.underlying23
 have hu2 := Tryd.underlying72
 have HN := Aside0.mk hN
 obtain ⟨AN, cN, e, _, hCN⟩ := hN
 subst e
 obtain ⟨AO, cO, e, _, _⟩ := hO
 subst e
 obtain ⟨ad, e, _⟩ := at_T72 hCN x h0 h1
 cases e
 have H0 := Aside0.mk h0
 have H1 := Aside0.mk h1
 have HLN := Aside0.mk (show nodes.length ≤ 1000000 by omega)
 have HLEN := Aside0.mk hl
 have HNM0 := Aside0.mk (show (rd_T72 nodes x).f2.size ≤ 1024 by obtain ⟨i, hi, hii, e⟩ := rdn_is nodes x h0 h1; rw [e]; exact hnm _ (List.getElem_mem hi))
 have BS := Aside0.mk (heap_alloc_new w (.cells #[.slice (some ad) nodes.length cN, .slice AO ops.length cO, .int .i64 base.f0, .int .i64 base.f1] 37))
 have HB := Aside0.mk (below_alloc (Below.refl w.heap.size w) (.cells #[.slice (some ad) nodes.length cN, .slice AO ops.length cO, .int .i64 base.f0, .int .i64 base.f1] 37))
 have p1 := eq_true h0
 have q1 := eq_true h1
 obtain ⟨z, hz⟩ : ∃ z, wrap64 (x - 1) = z := ⟨_, rfl⟩
 have HZX := Aside0.mk (show z = x - 1 by rw [← hz]; unfold wrap64; omega)
 clear hCN hnm hl h0 h1
 go_enter Tryd.func95, Tryd.ntmps95
 go_upto_region 1 with fail
 generalize w.alloc (.cells #[.slice (some ad) nodes.length cN, .slice AO ops.length cO, .int .i64 base.f0, .int .i64 base.f1] 37) = wr at BS HB ⊢
 obtain ⟨z0, z1, z2, z3, zf⟩ := Z4 BS.out
 obtain ⟨ad_, e, x0, x1, x2, x3, x4, x5⟩ := at_T72 (HN.out.below HB.out).at.2.2 x H0.out H1.out
 cases e
 go_upto_region 2 with fail
 have BN := Aside0.mk (heap_alloc_new wr (.cells #[.int .i64 (rd_T72 nodes x).f0.f0, .int .i64 (rd_T72 nodes x).f0.f1, .int .i64 (rd_T72 nodes x).f1.f0, .int .i64 (rd_T72 nodes x).f1.f1, .string (rd_T72 nodes x).f2, .string (rd_T72 nodes x).f3] 72))
 replace BS := Aside0.mk (blk_below BS.out (below_alloc (Below.refl wr.heap.size wr) (.cells #[.int .i64 (rd_T72 nodes x).f0.f0, .int .i64 (rd_T72 nodes x).f0.f1, .int .i64 (rd_T72 nodes x).f1.f0, .int .i64 (rd_T72 nodes x).f1.f1, .string (rd_T72 nodes x).f2, .string (rd_T72 nodes x).f3] 72)))
 replace HB := Aside0.mk (below_alloc HB.out (.cells #[.int .i64 (rd_T72 nodes x).f0.f0, .int .i64 (rd_T72 nodes x).f0.f1, .int .i64 (rd_T72 nodes x).f1.f0, .int .i64 (rd_T72 nodes x).f1.f1, .string (rd_T72 nodes x).f2, .string (rd_T72 nodes x).f3] 72))
 generalize wr.heap.size = nb at BN ⊢
 generalize wr.alloc (.cells #[.int .i64 (rd_T72 nodes x).f0.f0, .int .i64 (rd_T72 nodes x).f0.f1, .int .i64 (rd_T72 nodes x).f1.f0, .int .i64 (rd_T72 nodes x).f1.f1, .string (rd_T72 nodes x).f2, .string (rd_T72 nodes x).f3] 72) = w5_ at BN BS HB ⊢
 clear x0 x1 x2 x3 x4 x5 z0 z1 z2 z3 zf
 replace BN := Aside0.mk (blk_below BN.out (Below.refl _ _).drew)
 replace BS := Aside0.mk (blk_below BS.out (Below.refl _ _).drew)
 replace HB := Aside0.mk HB.out.drew
 obtain ⟨b0, b1', b2, b3, b4, b5, bf⟩ := Z6 BN.out
 obtain ⟨z0, z1, z2, z3, zf⟩ := Z4 BS.out
 have HFI := Aside0.mk (P.may10_is (rd_T72 nodes x).f0.f0 (rd_T72 nodes x).f0.f1)
 have HLS := Aside0.mk (ref10_less base (rd_T72 nodes x).f0)
 have HNM := Aside0.mk (P.rcheck_is (rd_T72 nodes x).f2 1400 (by have := HNM0.out; omega) (by have := HNM0.out; omega))
 cases hfi : fineB (rd_T72 nodes x).f0.f0 (rd_T72 nodes x).f0.f1 with
 | false =>
  rw [hfi] at HFI
  have HX := Aside0.mk (show (nodeOk base nodes x && parB nodes (rd_T72 nodes x)) = false by unfold nodeOk; rw [hfi]; simp)
  refine st 40 (fun w' => w'.cell? ⟨nb, 0, none⟩ = some (.int .i64 (rd_T72 nodes x).f0.f0) ∧ w'.cell? ⟨nb, 1, none⟩ = some (.int .i64 (rd_T72 nodes x).f0.f1) ∧ w'.cell? ⟨nb, 2, none⟩ = some (.int .i64 (rd_T72 nodes x).f1.f0) ∧ w'.cell? ⟨nb, 3, none⟩ = some (.int .i64 (rd_T72 nodes x).f1.f1) ∧ w'.cell? ⟨nb, 4, none⟩ = some (.string (rd_T72 nodes x).f2) ∧ w'.cell? ⟨nb, 5, none⟩ = some (.string (rd_T72 nodes x).f3) ∧ w'.cell? ⟨w.heap.size, 0, none⟩ = some (.slice (some ad) nodes.length cN) ∧ w'.cell? ⟨w.heap.size, 2, none⟩ = some (.int .i64 base.f0) ∧ w'.cell? ⟨w.heap.size, 3, none⟩ = some (.int .i64 base.f1)) [] (fun hHeld => ?_)
  refine with_tabW node_.tab2 node_.bits2 (fun HT_ HW_ => ?_)
  refine pu 0 11 (mb 40 1) HT_ ?_
  refine tk 1 12 (mb 40 3) HT_ HW_ hHeld ?_
  refine on 2 (some 13) (mb 40 7) HT_ (fun K hK => ?_)
  refine gs Tryd.func57 #[.agg #[.int .i64 (rd_T72 nodes x).f0.f0, .int .i64 (rd_T72 nodes x).f0.f1]] ?_
  with_reducible refine (Go.Proofs.YtlfgdaiegefjiaaDoor.S.samphireref10_May.calls _ _ _ _ HFI.out).mono ?_
  rintro e w5 ⟨rfl, hb⟩
  refine ⟨_, rfl, ?_⟩
  replace BS := Aside0.mk (blk_below BS.out hb)
  replace BN := Aside0.mk (blk_below BN.out hb)
  replace HB := Aside0.mk (below_then HB.out HB.out.size hb)
  clear hb
  refine hq hK (fun hHeld => ?_)
  clear hK K
  refine nm _ ?_
  refine pu 3 14 (mb 40 15) HT_ ?_
  refine pu 4 15 (mb 40 31) HT_ ?_
  refine sk 5 16 5 (mb 40 1023) HT_ ?_
  refine pu 10 21 (mb 40 2047) HT_ ?_
  refine pu 11 22 (mb 40 4095) HT_ ?_
  refine sk 12 23 4 (mb 40 65535) HT_ ?_
  refine pu 16 27 (mb 40 131071) HT_ ?_
  refine pu 17 28 (mb 40 262143) HT_ ?_
  refine sk 18 29 4 (mb 40 4194303) HT_ ?_
  refine pu 22 33 (mb 40 8388607) HT_ ?_
  refine pu 23 34 (mb 40 16777215) HT_ ?_
  refine sk 24 35 15 (mb 40 549755813887) HT_ ?_
  refine pu 39 50 (mb 40 1099511627775) HT_ ?_
  refine dn HT_ ?_
  go_wp2
  go_ret
  exact ⟨by rw [HX.out]; rfl, HB.out⟩
 | true =>
  rw [hfi] at HFI
  cases hls : lessB base (rd_T72 nodes x).f0 with
  | true =>
   rw [hls] at HLS
   have HX := Aside0.mk (show (nodeOk base nodes x && parB nodes (rd_T72 nodes x)) = false by unfold nodeOk; rw [hls]; simp)
   refine st 40 (fun w' => w'.cell? ⟨nb, 0, none⟩ = some (.int .i64 (rd_T72 nodes x).f0.f0) ∧ w'.cell? ⟨nb, 1, none⟩ = some (.int .i64 (rd_T72 nodes x).f0.f1) ∧ w'.cell? ⟨nb, 2, none⟩ = some (.int .i64 (rd_T72 nodes x).f1.f0) ∧ w'.cell? ⟨nb, 3, none⟩ = some (.int .i64 (rd_T72 nodes x).f1.f1) ∧ w'.cell? ⟨nb, 4, none⟩ = some (.string (rd_T72 nodes x).f2) ∧ w'.cell? ⟨nb, 5, none⟩ = some (.string (rd_T72 nodes x).f3) ∧ w'.cell? ⟨w.heap.size, 0, none⟩ = some (.slice (some ad) nodes.length cN) ∧ w'.cell? ⟨w.heap.size, 2, none⟩ = some (.int .i64 base.f0) ∧ w'.cell? ⟨w.heap.size, 3, none⟩ = some (.int .i64 base.f1)) [] (fun hHeld => ?_)
   refine with_tabW node_.tab2 node_.bits2 (fun HT_ HW_ => ?_)
   refine pu 0 11 (mb 40 1) HT_ ?_
   refine tk 1 12 (mb 40 3) HT_ HW_ hHeld ?_
   refine on 2 (some 13) (mb 40 7) HT_ (fun K hK => ?_)
   refine gs Tryd.func57 #[.agg #[.int .i64 (rd_T72 nodes x).f0.f0, .int .i64 (rd_T72 nodes x).f0.f1]] ?_
   with_reducible refine (Go.Proofs.YtlfgdaiegefjiaaDoor.S.samphireref10_May.calls _ _ _ _ HFI.out).mono ?_
   rintro e w5 ⟨rfl, hb⟩
   refine ⟨_, rfl, ?_⟩
   replace BS := Aside0.mk (blk_below BS.out hb)
   replace BN := Aside0.mk (blk_below BN.out hb)
   replace HB := Aside0.mk (below_then HB.out HB.out.size hb)
   clear hb
   refine hq hK (fun hHeld => ?_)
   clear hK K
   refine nm _ ?_
   refine pu 3 14 (mb 40 15) HT_ ?_
   refine pu 4 15 (mb 40 31) HT_ ?_
   refine pu 5 16 (mb 40 63) HT_ ?_
   refine pu 7 18 (mb 40 191) HT_ ?_
   refine tk 6 17 (mb 40 255) HT_ HW_ hHeld ?_
   refine tk 8 19 (mb 40 511) HT_ HW_ hHeld ?_
   refine on 9 (some 20) (mb 40 1023) HT_ (fun K hK => ?_)
   refine gs Tryd.func56 #[.agg #[.int .i64 base.f0, .int .i64 base.f1], .agg #[.int .i64 (rd_T72 nodes x).f0.f0, .int .i64 (rd_T72 nodes x).f0.f1]] ?_
   with_reducible refine (samphireref10_Less.calls _ _ _ _ _ _ HLS.out).mono ?_
   rintro e w5 ⟨rfl, hb⟩
   refine ⟨_, rfl, ?_⟩
   replace BS := Aside0.mk (blk_below BS.out hb)
   replace BN := Aside0.mk (blk_below BN.out hb)
   replace HB := Aside0.mk (below_then HB.out HB.out.size hb)
   clear hb
   refine hq hK (fun hHeld => ?_)
   clear hK K
   refine nm _ ?_
   refine pu 10 21 (mb 40 2047) HT_ ?_
   refine pu 11 22 (mb 40 4095) HT_ ?_
   refine sk 12 23 4 (mb 40 65535) HT_ ?_
   refine pu 16 27 (mb 40 131071) HT_ ?_
   refine pu 17 28 (mb 40 262143) HT_ ?_
   refine sk 18 29 4 (mb 40 4194303) HT_ ?_
   refine pu 22 33 (mb 40 8388607) HT_ ?_
   refine pu 23 34 (mb 40 16777215) HT_ ?_
   refine sk 24 35 15 (mb 40 549755813887) HT_ ?_
   refine pu 39 50 (mb 40 1099511627775) HT_ ?_
   refine dn HT_ ?_
   go_wp2
   go_ret
   exact ⟨by rw [HX.out]; rfl, HB.out⟩
  | false =>
   rw [hls] at HLS
   cases hnb : isName (L (rd_T72 nodes x).f2) with
   | false =>
    rw [hnb] at HNM
    have HX := Aside0.mk (show (nodeOk base nodes x && parB nodes (rd_T72 nodes x)) = false by unfold nodeOk; rw [hnb]; simp)
    refine st 40 (fun w' => w'.cell? ⟨nb, 0, none⟩ = some (.int .i64 (rd_T72 nodes x).f0.f0) ∧ w'.cell? ⟨nb, 1, none⟩ = some (.int .i64 (rd_T72 nodes x).f0.f1) ∧ w'.cell? ⟨nb, 2, none⟩ = some (.int .i64 (rd_T72 nodes x).f1.f0) ∧ w'.cell? ⟨nb, 3, none⟩ = some (.int .i64 (rd_T72 nodes x).f1.f1) ∧ w'.cell? ⟨nb, 4, none⟩ = some (.string (rd_T72 nodes x).f2) ∧ w'.cell? ⟨nb, 5, none⟩ = some (.string (rd_T72 nodes x).f3) ∧ w'.cell? ⟨w.heap.size, 0, none⟩ = some (.slice (some ad) nodes.length cN) ∧ w'.cell? ⟨w.heap.size, 2, none⟩ = some (.int .i64 base.f0) ∧ w'.cell? ⟨w.heap.size, 3, none⟩ = some (.int .i64 base.f1)) [] (fun hHeld => ?_)
    refine with_tabW node_.tab2 node_.bits2 (fun HT_ HW_ => ?_)
    refine pu 0 11 (mb 40 1) HT_ ?_
    refine tk 1 12 (mb 40 3) HT_ HW_ hHeld ?_
    refine on 2 (some 13) (mb 40 7) HT_ (fun K hK => ?_)
    refine gs Tryd.func57 #[.agg #[.int .i64 (rd_T72 nodes x).f0.f0, .int .i64 (rd_T72 nodes x).f0.f1]] ?_
    with_reducible refine (Go.Proofs.YtlfgdaiegefjiaaDoor.S.samphireref10_May.calls _ _ _ _ HFI.out).mono ?_
    rintro e w5 ⟨rfl, hb⟩
    refine ⟨_, rfl, ?_⟩
    replace BS := Aside0.mk (blk_below BS.out hb)
    replace BN := Aside0.mk (blk_below BN.out hb)
    replace HB := Aside0.mk (below_then HB.out HB.out.size hb)
    clear hb
    refine hq hK (fun hHeld => ?_)
    clear hK K
    refine nm _ ?_
    refine pu 3 14 (mb 40 15) HT_ ?_
    refine pu 4 15 (mb 40 31) HT_ ?_
    refine pu 5 16 (mb 40 63) HT_ ?_
    refine pu 7 18 (mb 40 191) HT_ ?_
    refine tk 6 17 (mb 40 255) HT_ HW_ hHeld ?_
    refine tk 8 19 (mb 40 511) HT_ HW_ hHeld ?_
    refine on 9 (some 20) (mb 40 1023) HT_ (fun K hK => ?_)
    refine gs Tryd.func56 #[.agg #[.int .i64 base.f0, .int .i64 base.f1], .agg #[.int .i64 (rd_T72 nodes x).f0.f0, .int .i64 (rd_T72 nodes x).f0.f1]] ?_
    with_reducible refine (samphireref10_Less.calls _ _ _ _ _ _ HLS.out).mono ?_
    rintro e w5 ⟨rfl, hb⟩
    refine ⟨_, rfl, ?_⟩
    replace BS := Aside0.mk (blk_below BS.out hb)
    replace BN := Aside0.mk (blk_below BN.out hb)
    replace HB := Aside0.mk (below_then HB.out HB.out.size hb)
    clear hb
    refine hq hK (fun hHeld => ?_)
    clear hK K
    refine nm _ ?_
    refine pu 10 21 (mb 40 2047) HT_ ?_
    refine pu 11 22 (mb 40 4095) HT_ ?_
    refine pu 12 23 (mb 40 8191) HT_ ?_
    refine tk 13 24 (mb 40 16383) HT_ HW_ hHeld ?_
    refine on 14 (some 25) (mb 40 32767) HT_ (fun K hK => ?_)
    refine gs Tryd.func64 #[.string (rd_T72 nodes x).f2] ?_
    with_reducible refine (Go.Proofs.YtlfgdaiegefjiaaDoor.S.samphireref08_Check.calls 1400 _ _ _ HNM.out).mono ?_
    rintro e w5 ⟨rfl, hd⟩
    refine ⟨_, rfl, ?_⟩
    have hb := hd.below
    replace BS := Aside0.mk (blk_below BS.out hb)
    replace BN := Aside0.mk (blk_below BN.out hb)
    replace HB := Aside0.mk (below_then HB.out HB.out.size hb)
    clear hb
    clear hd
    refine hq hK (fun hHeld => ?_)
    clear hK K
    refine nm _ ?_
    refine pu 15 26 (mb 40 65535) HT_ ?_
    refine pu 16 27 (mb 40 131071) HT_ ?_
    refine pu 17 28 (mb 40 262143) HT_ ?_
    refine sk 18 29 4 (mb 40 4194303) HT_ ?_
    refine pu 22 33 (mb 40 8388607) HT_ ?_
    refine pu 23 34 (mb 40 16777215) HT_ ?_
    refine sk 24 35 15 (mb 40 549755813887) HT_ ?_
    refine pu 39 50 (mb 40 1099511627775) HT_ ?_
    refine dn HT_ ?_
    go_wp2
    go_ret
    exact ⟨by rw [HX.out]; rfl, HB.out⟩
   | true =>
    rw [hnb] at HNM
    by_cases hv : (rd_T72 nodes x).f3.size ≤ 64
    rotate_left
    · have v1 : decide (((rd_T72 nodes x).f3.size : Int) > 64) = true := decide_eq_true (by omega)
      have v2 : decide ((64 : Int) < ((rd_T72 nodes x).f3.size : Int)) = true := decide_eq_true (by omega)
      have v3 : (64 < (rd_T72 nodes x).f3.size) = True := eq_true (by omega)
      have HX := Aside0.mk (show (nodeOk base nodes x && parB nodes (rd_T72 nodes x)) = false by unfold nodeOk; rw [decide_eq_false hv]; simp)
      refine st 40 (fun w' => w'.cell? ⟨nb, 0, none⟩ = some (.int .i64 (rd_T72 nodes x).f0.f0) ∧ w'.cell? ⟨nb, 1, none⟩ = some (.int .i64 (rd_T72 nodes x).f0.f1) ∧ w'.cell? ⟨nb, 2, none⟩ = some (.int .i64 (rd_T72 nodes x).f1.f0) ∧ w'.cell? ⟨nb, 3, none⟩ = some (.int .i64 (rd_T72 nodes x).f1.f1) ∧ w'.cell? ⟨nb, 4, none⟩ = some (.string (rd_T72 nodes x).f2) ∧ w'.cell? ⟨nb, 5, none⟩ = some (.string (rd_T72 nodes x).f3) ∧ w'.cell? ⟨w.heap.size, 0, none⟩ = some (.slice (some ad) nodes.length cN) ∧ w'.cell? ⟨w.heap.size, 2, none⟩ = some (.int .i64 base.f0) ∧ w'.cell? ⟨w.heap.size, 3, none⟩ = some (.int .i64 base.f1)) [] (fun hHeld => ?_)
      refine with_tabW node_.tab2 node_.bits2 (fun HT_ HW_ => ?_)
      refine pu 0 11 (mb 40 1) HT_ ?_
      refine tk 1 12 (mb 40 3) HT_ HW_ hHeld ?_
      refine on 2 (some 13) (mb 40 7) HT_ (fun K hK => ?_)
      refine gs Tryd.func57 #[.agg #[.int .i64 (rd_T72 nodes x).f0.f0, .int .i64 (rd_T72 nodes x).f0.f1]] ?_
      with_reducible refine (Go.Proofs.YtlfgdaiegefjiaaDoor.S.samphireref10_May.calls _ _ _ _ HFI.out).mono ?_
      rintro e w5 ⟨rfl, hb⟩
      refine ⟨_, rfl, ?_⟩
      replace BS := Aside0.mk (blk_below BS.out hb)
      replace BN := Aside0.mk (blk_below BN.out hb)
      replace HB := Aside0.mk (below_then HB.out HB.out.size hb)
      clear hb
      refine hq hK (fun hHeld => ?_)
      clear hK K
      refine nm _ ?_
      refine pu 3 14 (mb 40 15) HT_ ?_
      refine pu 4 15 (mb 40 31) HT_ ?_
      refine pu 5 16 (mb 40 63) HT_ ?_
      refine pu 7 18 (mb 40 191) HT_ ?_
      refine tk 6 17 (mb 40 255) HT_ HW_ hHeld ?_
      refine tk 8 19 (mb 40 511) HT_ HW_ hHeld ?_
      refine on 9 (some 20) (mb 40 1023) HT_ (fun K hK => ?_)
      refine gs Tryd.func56 #[.agg #[.int .i64 base.f0, .int .i64 base.f1], .agg #[.int .i64 (rd_T72 nodes x).f0.f0, .int .i64 (rd_T72 nodes x).f0.f1]] ?_
      with_reducible refine (samphireref10_Less.calls _ _ _ _ _ _ HLS.out).mono ?_
      rintro e w5 ⟨rfl, hb⟩
      refine ⟨_, rfl, ?_⟩
      replace BS := Aside0.mk (blk_below BS.out hb)
      replace BN := Aside0.mk (blk_below BN.out hb)
      replace HB := Aside0.mk (below_then HB.out HB.out.size hb)
      clear hb
      refine hq hK (fun hHeld => ?_)
      clear hK K
      refine nm _ ?_
      refine pu 10 21 (mb 40 2047) HT_ ?_
      refine pu 11 22 (mb 40 4095) HT_ ?_
      refine pu 12 23 (mb 40 8191) HT_ ?_
      refine tk 13 24 (mb 40 16383) HT_ HW_ hHeld ?_
      refine on 14 (some 25) (mb 40 32767) HT_ (fun K hK => ?_)
      refine gs Tryd.func64 #[.string (rd_T72 nodes x).f2] ?_
      with_reducible refine (Go.Proofs.YtlfgdaiegefjiaaDoor.S.samphireref08_Check.calls 1400 _ _ _ HNM.out).mono ?_
      rintro e w5 ⟨rfl, hd⟩
      refine ⟨_, rfl, ?_⟩
      have hb := hd.below
      replace BS := Aside0.mk (blk_below BS.out hb)
      replace BN := Aside0.mk (blk_below BN.out hb)
      replace HB := Aside0.mk (below_then HB.out HB.out.size hb)
      clear hb
      clear hd
      refine hq hK (fun hHeld => ?_)
      clear hK K
      refine nm _ ?_
      refine pu 15 26 (mb 40 65535) HT_ ?_
      refine pu 16 27 (mb 40 131071) HT_ ?_
      refine pu 17 28 (mb 40 262143) HT_ ?_
      refine pu 18 29 (mb 40 524287) HT_ ?_
      refine tk 19 30 (mb 40 1048575) HT_ HW_ hHeld ?_
      refine pu 20 31 (mb 40 2097151) HT_ ?_
      refine pu 21 32 (mb 40 4194303) HT_ ?_
      refine pu 22 33 (mb 40 8388607) HT_ ?_
      refine pu 23 34 (mb 40 16777215) HT_ ?_
      refine sk 24 35 15 (mb 40 549755813887) HT_ ?_
      refine pu 39 50 (mb 40 1099511627775) HT_ ?_
      refine dn HT_ ?_
      go_wp2
      go_ret
      exact ⟨by rw [HX.out]; rfl, HB.out⟩
    · have v1 : decide (((rd_T72 nodes x).f3.size : Int) > 64) = false := decide_eq_false (by omega)
      have v2 : decide ((64 : Int) < ((rd_T72 nodes x).f3.size : Int)) = false := decide_eq_false (by omega)
      have v3 : (64 < (rd_T72 nodes x).f3.size) = False := eq_false (by omega)
      by_cases hx0 : x = 0
      · have y1 : decide (x > 0) = false := decide_eq_false (by omega)
        have y2 : decide (0 < x) = false := decide_eq_false (by omega)
        have y3 : (0 < x) = False := eq_false (by omega)
        have HX0 := Aside0.mk hx0
        have HV := Aside0.mk hv
        clear hx0 hv
        have HOKX := Aside0.mk (show nodeOk base nodes x = true by unfold nodeOk; rw [hfi, hls, hnb, decide_eq_true HV.out, decide_eq_true HX0.out]; simp)
        refine st 40 (fun w' => w'.cell? ⟨nb, 0, none⟩ = some (.int .i64 (rd_T72 nodes x).f0.f0) ∧ w'.cell? ⟨nb, 1, none⟩ = some (.int .i64 (rd_T72 nodes x).f0.f1) ∧ w'.cell? ⟨nb, 2, none⟩ = some (.int .i64 (rd_T72 nodes x).f1.f0) ∧ w'.cell? ⟨nb, 3, none⟩ = some (.int .i64 (rd_T72 nodes x).f1.f1) ∧ w'.cell? ⟨nb, 4, none⟩ = some (.string (rd_T72 nodes x).f2) ∧ w'.cell? ⟨nb, 5, none⟩ = some (.string (rd_T72 nodes x).f3) ∧ w'.cell? ⟨w.heap.size, 0, none⟩ = some (.slice (some ad) nodes.length cN) ∧ w'.cell? ⟨w.heap.size, 2, none⟩ = some (.int .i64 base.f0) ∧ w'.cell? ⟨w.heap.size, 3, none⟩ = some (.int .i64 base.f1)) [] (fun hHeld => ?_)
        refine with_tabW node_.tab2 node_.bits2 (fun HT_ HW_ => ?_)
        refine pu 0 11 (mb 40 1) HT_ ?_
        refine tk 1 12 (mb 40 3) HT_ HW_ hHeld ?_
        refine on 2 (some 13) (mb 40 7) HT_ (fun K hK => ?_)
        refine gs Tryd.func57 #[.agg #[.int .i64 (rd_T72 nodes x).f0.f0, .int .i64 (rd_T72 nodes x).f0.f1]] ?_
        with_reducible refine (Go.Proofs.YtlfgdaiegefjiaaDoor.S.samphireref10_May.calls _ _ _ _ HFI.out).mono ?_
        rintro e w5 ⟨rfl, hb⟩
        refine ⟨_, rfl, ?_⟩
        replace BS := Aside0.mk (blk_below BS.out hb)
        replace BN := Aside0.mk (blk_below BN.out hb)
        replace HB := Aside0.mk (below_then HB.out HB.out.size hb)
        clear hb
        refine hq hK (fun hHeld => ?_)
        clear hK K
        refine nm _ ?_
        refine pu 3 14 (mb 40 15) HT_ ?_
        refine pu 4 15 (mb 40 31) HT_ ?_
        refine pu 5 16 (mb 40 63) HT_ ?_
        refine pu 7 18 (mb 40 191) HT_ ?_
        refine tk 6 17 (mb 40 255) HT_ HW_ hHeld ?_
        refine tk 8 19 (mb 40 511) HT_ HW_ hHeld ?_
        refine on 9 (some 20) (mb 40 1023) HT_ (fun K hK => ?_)
        refine gs Tryd.func56 #[.agg #[.int .i64 base.f0, .int .i64 base.f1], .agg #[.int .i64 (rd_T72 nodes x).f0.f0, .int .i64 (rd_T72 nodes x).f0.f1]] ?_
        with_reducible refine (samphireref10_Less.calls _ _ _ _ _ _ HLS.out).mono ?_
        rintro e w5 ⟨rfl, hb⟩
        refine ⟨_, rfl, ?_⟩
        replace BS := Aside0.mk (blk_below BS.out hb)
        replace BN := Aside0.mk (blk_below BN.out hb)
        replace HB := Aside0.mk (below_then HB.out HB.out.size hb)
        clear hb
        refine hq hK (fun hHeld => ?_)
        clear hK K
        refine nm _ ?_
        refine pu 10 21 (mb 40 2047) HT_ ?_
        refine pu 11 22 (mb 40 4095) HT_ ?_
        refine pu 12 23 (mb 40 8191) HT_ ?_
        refine tk 13 24 (mb 40 16383) HT_ HW_ hHeld ?_
        refine on 14 (some 25) (mb 40 32767) HT_ (fun K hK => ?_)
        refine gs Tryd.func64 #[.string (rd_T72 nodes x).f2] ?_
        with_reducible refine (Go.Proofs.YtlfgdaiegefjiaaDoor.S.samphireref08_Check.calls 1400 _ _ _ HNM.out).mono ?_
        rintro e w5 ⟨rfl, hd⟩
        refine ⟨_, rfl, ?_⟩
        have hb := hd.below
        replace BS := Aside0.mk (blk_below BS.out hb)
        replace BN := Aside0.mk (blk_below BN.out hb)
        replace HB := Aside0.mk (below_then HB.out HB.out.size hb)
        clear hb
        clear hd
        refine hq hK (fun hHeld => ?_)
        clear hK K
        refine nm _ ?_
        refine pu 15 26 (mb 40 65535) HT_ ?_
        refine pu 16 27 (mb 40 131071) HT_ ?_
        refine pu 17 28 (mb 40 262143) HT_ ?_
        refine pu 18 29 (mb 40 524287) HT_ ?_
        refine tk 19 30 (mb 40 1048575) HT_ HW_ hHeld ?_
        refine pu 20 31 (mb 40 2097151) HT_ ?_
        refine pu 21 32 (mb 40 4194303) HT_ ?_
        refine pu 22 33 (mb 40 8388607) HT_ ?_
        refine pu 23 34 (mb 40 16777215) HT_ ?_
        refine pu 24 35 (mb 40 33554431) HT_ ?_
        refine pu 25 36 (mb 40 67108863) HT_ ?_
        refine pu 26 37 (mb 40 134217727) HT_ ?_
        refine sk 27 38 11 (mb 40 274877906943) HT_ ?_
        refine pu 38 49 (mb 40 549755813887) HT_ ?_
        refine pu 39 50 (mb 40 1099511627775) HT_ ?_
        refine dn HT_ ?_
        clear b0 b1' b2 b3 b4 b5 bf z0 z1 z2 z3 zf
        obtain ⟨b0, b1', b2, b3, b4, b5, bf⟩ := Z6 BN.out
        obtain ⟨z0, z1, z2, z3, zf⟩ := Z4 BS.out
        by_cases hp0 : (rd_T72 nodes x).f1.f0 = 0
        · have o1 : decide ((rd_T72 nodes x).f1.f0 = 0) = true := decide_eq_true hp0
          have o2 : ((rd_T72 nodes x).f1.f0 == 0) = true := beq_iff_eq.2 hp0
          have HX := Aside0.mk (show (nodeOk base nodes x && parB nodes (rd_T72 nodes x)) = outerB (rd_T72 nodes x).f1 by rw [HOKX.out]; unfold parB; rw [if_pos hp0]; rfl)
          have HPR := Aside0.mk (P.parent_is (rd_T72 nodes x).f1.f0 (rd_T72 nodes x).f1.f1)
          have hf1 : fineB (rd_T72 nodes x).f1.f0 (rd_T72 nodes x).f1.f1 = false := by unfold fineB; exact decide_eq_false (by omega)
          rw [outB_is, hf1, Bool.or_false] at HPR
          clear hf1
          have o3 := eq_true hp0
          clear hp0
          go_wp2_with (go_at_call 63; refine (Go.Proofs.YtlfgdaiegefjiaaDoor.S.samphireref11_parent.calls _ _ _ _ HPR.out).mono ?_; rintro e w6 ⟨rfl, hb⟩; replace BS := Aside0.mk (blk_below BS.out hb); replace BN := Aside0.mk (blk_below BN.out hb); replace HB := Aside0.mk (below_then HB.out HB.out.size hb); clear hb)
          go_ret
          exact ⟨by rw [HX.out]; rfl, HB.out⟩
        · have o1 : decide ((rd_T72 nodes x).f1.f0 = 0) = false := decide_eq_false hp0
          have o2 : ((rd_T72 nodes x).f1.f0 == 0) = false := beq_eq_false_iff_ne.2 hp0
          have o3 : ((rd_T72 nodes x).f1.f0 = 0) = False := eq_false hp0
          have HX := Aside0.mk (show (nodeOk base nodes x && parB nodes (rd_T72 nodes x)) = (has nodes (rd_T72 nodes x).f1 && !undR nodes (rd_T72 nodes x).f0 (nodes.length + 1) (rd_T72 nodes x).f1) by rw [HOKX.out]; unfold parB; rw [if_neg hp0]; rfl)
          clear hp0
          rcases fI_is nodes (rd_T72 nodes x).f1 with ⟨f1, f2, _, _⟩ | ⟨f1, f2⟩
          · rw [f1] at HX
            have g1 : decide (0 ≤ fI nodes (rd_T72 nodes x).f1) = true := decide_eq_true f2
            have g2 : (0 ≤ fI nodes (rd_T72 nodes x).f1) = True := eq_true f2
            have g3 : decide (fI nodes (rd_T72 nodes x).f1 ≥ 0) = true := decide_eq_true f2
            clear f1 f2
            go_wp2_with (first | (go_at_call 83; refine (find_calls _ _ nodes (rd_T72 nodes x).f1 (HN.out.below HB.out) HLN.out).mono ?_; rintro e w6 ⟨rfl, hb⟩; replace BS := Aside0.mk (blk_below BS.out hb); replace BN := Aside0.mk (blk_below BN.out hb); replace HB := Aside0.mk (below_then HB.out HB.out.size hb); clear hb; clear b0 b1' b2 b3 b4 b5 bf z0 z1 z2 z3 zf; obtain ⟨b0, b1', b2, b3, b4, b5, bf⟩ := Z6 BN.out; obtain ⟨z0, z1, z2, z3, zf⟩ := Z4 BS.out) | (go_at_call 85; refine (under_calls _ _ nodes (rd_T72 nodes x).f1 (rd_T72 nodes x).f0 (HN.out.below HB.out) HLN.out).mono ?_; rintro e w7 ⟨rfl, hb⟩; replace BS := Aside0.mk (blk_below BS.out hb); replace BN := Aside0.mk (blk_below BN.out hb); replace HB := Aside0.mk (below_then HB.out HB.out.size hb); clear hb))
            go_ret
            exact ⟨by rw [HX.out]; simp, HB.out⟩
          · rw [f1] at HX
            have g1 : decide (0 ≤ fI nodes (rd_T72 nodes x).f1) = false := decide_eq_false (by omega)
            have g2 : (0 ≤ fI nodes (rd_T72 nodes x).f1) = False := eq_false (by omega)
            have g3 : decide (fI nodes (rd_T72 nodes x).f1 ≥ 0) = false := decide_eq_false (by omega)
            clear f1 f2
            go_wp2_with (first | (go_at_call 83; refine (find_calls _ _ nodes (rd_T72 nodes x).f1 (HN.out.below HB.out) HLN.out).mono ?_; rintro e w6 ⟨rfl, hb⟩; replace BS := Aside0.mk (blk_below BS.out hb); replace BN := Aside0.mk (blk_below BN.out hb); replace HB := Aside0.mk (below_then HB.out HB.out.size hb); clear hb; clear b0 b1' b2 b3 b4 b5 bf z0 z1 z2 z3 zf; obtain ⟨b0, b1', b2, b3, b4, b5, bf⟩ := Z6 BN.out; obtain ⟨z0, z1, z2, z3, zf⟩ := Z4 BS.out) | (go_at_call 85; refine (under_calls _ _ nodes (rd_T72 nodes x).f1 (rd_T72 nodes x).f0 (HN.out.below HB.out) HLN.out).mono ?_; rintro e w7 ⟨rfl, hb⟩; replace BS := Aside0.mk (blk_below BS.out hb); replace BN := Aside0.mk (blk_below BN.out hb); replace HB := Aside0.mk (below_then HB.out HB.out.size hb); clear hb))
            go_ret
            exact ⟨by rw [HX.out]; rfl, HB.out⟩
      · have y1 : decide (x > 0) = true := decide_eq_true (by have := H0.out; omega)
        have y2 : decide (0 < x) = true := decide_eq_true (by have := H0.out; omega)
        have y3 : (0 < x) = True := eq_true (by have := H0.out; omega)
        have HZ0 := Aside0.mk (show 0 ≤ z by have := H0.out; have := HZX.out; omega)
        have HZ1 := Aside0.mk (show z < (nodes.length : Int) by have := H1.out; have := HZX.out; omega)
        have pz := eq_true HZ0.out
        have qz := eq_true HZ1.out
        have HX0 := Aside0.mk hx0
        have HV := Aside0.mk hv
        clear hx0 hv
        have HLP := Aside0.mk (ref10_less (rd_T72 nodes z).f0 (rd_T72 nodes x).f0)
        have hpz : (rd_T72 nodes (x - 1)) = (rd_T72 nodes z) := by rw [HZX.out]
        cases hpl : lessB (rd_T72 nodes z).f0 (rd_T72 nodes x).f0 with
        | false =>
         rw [hpl] at HLP
         have HX := Aside0.mk (show (nodeOk base nodes x && parB nodes (rd_T72 nodes x)) = false by unfold nodeOk; rw [hpz, hpl, decide_eq_false HX0.out]; simp)
         refine start_ (n := 40) (S := fun w' => w'.cell? ⟨nb, 0, none⟩ = some (.int .i64 (rd_T72 nodes x).f0.f0) ∧ w'.cell? ⟨nb, 1, none⟩ = some (.int .i64 (rd_T72 nodes x).f0.f1) ∧ w'.cell? ⟨nb, 2, none⟩ = some (.int .i64 (rd_T72 nodes x).f1.f0) ∧ w'.cell? ⟨nb, 3, none⟩ = some (.int .i64 (rd_T72 nodes x).f1.f1) ∧ w'.cell? ⟨nb, 4, none⟩ = some (.string (rd_T72 nodes x).f2) ∧ w'.cell? ⟨nb, 5, none⟩ = some (.string (rd_T72 nodes x).f3) ∧ w'.cell? ⟨w.heap.size, 0, none⟩ = some (.slice (some ad) nodes.length cN) ∧ w'.cell? ⟨w.heap.size, 2, none⟩ = some (.int .i64 base.f0) ∧ w'.cell? ⟨w.heap.size, 3, none⟩ = some (.int .i64 base.f1) ∧ w'.cell? (ad.add (z.toNat * 6)) = some (.int .i64 (rd_T72 nodes z).f0.f0) ∧ w'.cell? ⟨(ad.add (z.toNat * 6)).block, (ad.add (z.toNat * 6)).off + 1, none⟩ = some (.int .i64 (rd_T72 nodes z).f0.f1)) (ds := []) (mb 40 0) (by kernel_rfl) rfl (by kernel_rfl) ⟨(blk_cell BN.out 0), (blk_cell BN.out 1), (blk_cell BN.out 2), (blk_cell BN.out 3), (blk_cell BN.out 4), (blk_cell BN.out 5), (blk_cell BS.out 0), (blk_cell BS.out 2), (blk_cell BS.out 3), (ndx (HN.out.below HB.out) HZ0.out HZ1.out).1, (ndx (HN.out.below HB.out) HZ0.out HZ1.out).2⟩ (fun hHeld => ?_)
         refine with_tabW node_.tab2 node_.bits2 (fun HT_ HW_ => ?_)
         refine pu 0 11 (mb 40 1) HT_ ?_
         refine tk 1 12 (mb 40 3) HT_ HW_ hHeld ?_
         refine on 2 (some 13) (mb 40 7) HT_ (fun K hK => ?_)
         refine gs Tryd.func57 #[.agg #[.int .i64 (rd_T72 nodes x).f0.f0, .int .i64 (rd_T72 nodes x).f0.f1]] ?_
         with_reducible refine (Go.Proofs.YtlfgdaiegefjiaaDoor.S.samphireref10_May.calls _ _ _ _ HFI.out).mono ?_
         rintro e w5 ⟨rfl, hb⟩
         refine ⟨_, rfl, ?_⟩
         replace BS := Aside0.mk (blk_below BS.out hb)
         replace BN := Aside0.mk (blk_below BN.out hb)
         replace HB := Aside0.mk (below_then HB.out HB.out.size hb)
         clear hb
         refine hK.out _ _ ⟨(blk_cell BN.out 0), (blk_cell BN.out 1), (blk_cell BN.out 2), (blk_cell BN.out 3), (blk_cell BN.out 4), (blk_cell BN.out 5), (blk_cell BS.out 0), (blk_cell BS.out 2), (blk_cell BS.out 3), (ndx (HN.out.below HB.out) HZ0.out HZ1.out).1, (ndx (HN.out.below HB.out) HZ0.out HZ1.out).2⟩ (fun hHeld => ?_)
         clear hK K
         refine nm _ ?_
         refine pu 3 14 (mb 40 15) HT_ ?_
         refine pu 4 15 (mb 40 31) HT_ ?_
         refine pu 5 16 (mb 40 63) HT_ ?_
         refine pu 7 18 (mb 40 191) HT_ ?_
         refine tk 6 17 (mb 40 255) HT_ HW_ hHeld ?_
         refine tk 8 19 (mb 40 511) HT_ HW_ hHeld ?_
         refine on 9 (some 20) (mb 40 1023) HT_ (fun K hK => ?_)
         refine gs Tryd.func56 #[.agg #[.int .i64 base.f0, .int .i64 base.f1], .agg #[.int .i64 (rd_T72 nodes x).f0.f0, .int .i64 (rd_T72 nodes x).f0.f1]] ?_
         with_reducible refine (samphireref10_Less.calls _ _ _ _ _ _ HLS.out).mono ?_
         rintro e w5 ⟨rfl, hb⟩
         refine ⟨_, rfl, ?_⟩
         replace BS := Aside0.mk (blk_below BS.out hb)
         replace BN := Aside0.mk (blk_below BN.out hb)
         replace HB := Aside0.mk (below_then HB.out HB.out.size hb)
         clear hb
         refine hK.out _ _ ⟨(blk_cell BN.out 0), (blk_cell BN.out 1), (blk_cell BN.out 2), (blk_cell BN.out 3), (blk_cell BN.out 4), (blk_cell BN.out 5), (blk_cell BS.out 0), (blk_cell BS.out 2), (blk_cell BS.out 3), (ndx (HN.out.below HB.out) HZ0.out HZ1.out).1, (ndx (HN.out.below HB.out) HZ0.out HZ1.out).2⟩ (fun hHeld => ?_)
         clear hK K
         refine nm _ ?_
         refine pu 10 21 (mb 40 2047) HT_ ?_
         refine pu 11 22 (mb 40 4095) HT_ ?_
         refine pu 12 23 (mb 40 8191) HT_ ?_
         refine tk 13 24 (mb 40 16383) HT_ HW_ hHeld ?_
         refine on 14 (some 25) (mb 40 32767) HT_ (fun K hK => ?_)
         refine gs Tryd.func64 #[.string (rd_T72 nodes x).f2] ?_
         with_reducible refine (Go.Proofs.YtlfgdaiegefjiaaDoor.S.samphireref08_Check.calls 1400 _ _ _ HNM.out).mono ?_
         rintro e w5 ⟨rfl, hd⟩
         refine ⟨_, rfl, ?_⟩
         have hb := hd.below
         replace BS := Aside0.mk (blk_below BS.out hb)
         replace BN := Aside0.mk (blk_below BN.out hb)
         replace HB := Aside0.mk (below_then HB.out HB.out.size hb)
         clear hb
         clear hd
         refine hK.out _ _ ⟨(blk_cell BN.out 0), (blk_cell BN.out 1), (blk_cell BN.out 2), (blk_cell BN.out 3), (blk_cell BN.out 4), (blk_cell BN.out 5), (blk_cell BS.out 0), (blk_cell BS.out 2), (blk_cell BS.out 3), (ndx (HN.out.below HB.out) HZ0.out HZ1.out).1, (ndx (HN.out.below HB.out) HZ0.out HZ1.out).2⟩ (fun hHeld => ?_)
         clear hK K
         refine nm _ ?_
         refine pu 15 26 (mb 40 65535) HT_ ?_
         refine pu 16 27 (mb 40 131071) HT_ ?_
         refine pu 17 28 (mb 40 262143) HT_ ?_
         refine pu 18 29 (mb 40 524287) HT_ ?_
         refine tk 19 30 (mb 40 1048575) HT_ HW_ hHeld ?_
         refine pu 20 31 (mb 40 2097151) HT_ ?_
         refine pu 21 32 (mb 40 4194303) HT_ ?_
         refine pu 22 33 (mb 40 8388607) HT_ ?_
         refine pu 23 34 (mb 40 16777215) HT_ ?_
         refine pu 24 35 (mb 40 33554431) HT_ ?_
         refine pu 25 36 (mb 40 67108863) HT_ ?_
         refine pu 26 37 (mb 40 134217727) HT_ ?_
         refine pu 27 38 (mb 40 268435455) HT_ ?_
         refine pu 29 40 (mb 40 805306367) HT_ ?_
         refine pu 30 41 (mb 40 1879048191) HT_ ?_
         refine pu 34 45 (mb 40 19058917375) HT_ ?_
         refine tk 28 39 (mb 40 19327352831) HT_ HW_ hHeld ?_
         refine pu 31 42 (mb 40 21474836479) HT_ ?_
         refine pu 32 43 (mb 40 25769803775) HT_ ?_
         refine tk 33 44 (mb 40 34359738367) HT_ HW_ hHeld ?_
         refine tk 35 46 (mb 40 68719476735) HT_ HW_ hHeld ?_
         refine on 36 (some 47) (mb 40 137438953471) HT_ (fun K hK => ?_)
         refine gs Tryd.func56 #[.agg #[.int .i64 (rd_T72 nodes z).f0.f0, .int .i64 (rd_T72 nodes z).f0.f1], .agg #[.int .i64 (rd_T72 nodes x).f0.f0, .int .i64 (rd_T72 nodes x).f0.f1]] ?_
         with_reducible refine (samphireref10_Less.calls _ _ _ _ _ _ HLP.out).mono ?_
         rintro e w5 ⟨rfl, hb⟩
         refine ⟨_, rfl, ?_⟩
         replace BS := Aside0.mk (blk_below BS.out hb)
         replace BN := Aside0.mk (blk_below BN.out hb)
         replace HB := Aside0.mk (below_then HB.out HB.out.size hb)
         clear hb
         refine hK.out _ _ ⟨(blk_cell BN.out 0), (blk_cell BN.out 1), (blk_cell BN.out 2), (blk_cell BN.out 3), (blk_cell BN.out 4), (blk_cell BN.out 5), (blk_cell BS.out 0), (blk_cell BS.out 2), (blk_cell BS.out 3), (ndx (HN.out.below HB.out) HZ0.out HZ1.out).1, (ndx (HN.out.below HB.out) HZ0.out HZ1.out).2⟩ (fun hHeld => ?_)
         clear hK K
         refine nm _ ?_
         refine pu 37 48 (mb 40 274877906943) HT_ ?_
         refine pu 38 49 (mb 40 549755813887) HT_ ?_
         refine pu 39 50 (mb 40 1099511627775) HT_ ?_
         refine dn HT_ ?_
         go_wp2
         go_ret
         exact ⟨by rw [HX.out]; rfl, HB.out⟩
        | true =>
         rw [hpl] at HLP
         have HOKX := Aside0.mk (show nodeOk base nodes x = true by unfold nodeOk; rw [hfi, hls, hnb, decide_eq_true HV.out, decide_eq_false HX0.out, hpz, hpl]; simp)
         refine start_ (n := 40) (S := fun w' => w'.cell? ⟨nb, 0, none⟩ = some (.int .i64 (rd_T72 nodes x).f0.f0) ∧ w'.cell? ⟨nb, 1, none⟩ = some (.int .i64 (rd_T72 nodes x).f0.f1) ∧ w'.cell? ⟨nb, 2, none⟩ = some (.int .i64 (rd_T72 nodes x).f1.f0) ∧ w'.cell? ⟨nb, 3, none⟩ = some (.int .i64 (rd_T72 nodes x).f1.f1) ∧ w'.cell? ⟨nb, 4, none⟩ = some (.string (rd_T72 nodes x).f2) ∧ w'.cell? ⟨nb, 5, none⟩ = some (.string (rd_T72 nodes x).f3) ∧ w'.cell? ⟨w.heap.size, 0, none⟩ = some (.slice (some ad) nodes.length cN) ∧ w'.cell? ⟨w.heap.size, 2, none⟩ = some (.int .i64 base.f0) ∧ w'.cell? ⟨w.heap.size, 3, none⟩ = some (.int .i64 base.f1) ∧ w'.cell? (ad.add (z.toNat * 6)) = some (.int .i64 (rd_T72 nodes z).f0.f0) ∧ w'.cell? ⟨(ad.add (z.toNat * 6)).block, (ad.add (z.toNat * 6)).off + 1, none⟩ = some (.int .i64 (rd_T72 nodes z).f0.f1)) (ds := []) (mb 40 0) (by kernel_rfl) rfl (by kernel_rfl) ⟨(blk_cell BN.out 0), (blk_cell BN.out 1), (blk_cell BN.out 2), (blk_cell BN.out 3), (blk_cell BN.out 4), (blk_cell BN.out 5), (blk_cell BS.out 0), (blk_cell BS.out 2), (blk_cell BS.out 3), (ndx (HN.out.below HB.out) HZ0.out HZ1.out).1, (ndx (HN.out.below HB.out) HZ0.out HZ1.out).2⟩ (fun hHeld => ?_)
         refine with_tabW node_.tab2 node_.bits2 (fun HT_ HW_ => ?_)
         refine pu 0 11 (mb 40 1) HT_ ?_
         refine tk 1 12 (mb 40 3) HT_ HW_ hHeld ?_
         refine on 2 (some 13) (mb 40 7) HT_ (fun K hK => ?_)
         refine gs Tryd.func57 #[.agg #[.int .i64 (rd_T72 nodes x).f0.f0, .int .i64 (rd_T72 nodes x).f0.f1]] ?_
         with_reducible refine (Go.Proofs.YtlfgdaiegefjiaaDoor.S.samphireref10_May.calls _ _ _ _ HFI.out).mono ?_
         rintro e w5 ⟨rfl, hb⟩
         refine ⟨_, rfl, ?_⟩
         replace BS := Aside0.mk (blk_below BS.out hb)
         replace BN := Aside0.mk (blk_below BN.out hb)
         replace HB := Aside0.mk (below_then HB.out HB.out.size hb)
         clear hb
         refine hK.out _ _ ⟨(blk_cell BN.out 0), (blk_cell BN.out 1), (blk_cell BN.out 2), (blk_cell BN.out 3), (blk_cell BN.out 4), (blk_cell BN.out 5), (blk_cell BS.out 0), (blk_cell BS.out 2), (blk_cell BS.out 3), (ndx (HN.out.below HB.out) HZ0.out HZ1.out).1, (ndx (HN.out.below HB.out) HZ0.out HZ1.out).2⟩ (fun hHeld => ?_)
         clear hK K
         refine nm _ ?_
         refine pu 3 14 (mb 40 15) HT_ ?_
         refine pu 4 15 (mb 40 31) HT_ ?_
         refine pu 5 16 (mb 40 63) HT_ ?_
         refine pu 7 18 (mb 40 191) HT_ ?_
         refine tk 6 17 (mb 40 255) HT_ HW_ hHeld ?_
         refine tk 8 19 (mb 40 511) HT_ HW_ hHeld ?_
         refine on 9 (some 20) (mb 40 1023) HT_ (fun K hK => ?_)
         refine gs Tryd.func56 #[.agg #[.int .i64 base.f0, .int .i64 base.f1], .agg #[.int .i64 (rd_T72 nodes x).f0.f0, .int .i64 (rd_T72 nodes x).f0.f1]] ?_
         with_reducible refine (samphireref10_Less.calls _ _ _ _ _ _ HLS.out).mono ?_
         rintro e w5 ⟨rfl, hb⟩
         refine ⟨_, rfl, ?_⟩
         replace BS := Aside0.mk (blk_below BS.out hb)
         replace BN := Aside0.mk (blk_below BN.out hb)
         replace HB := Aside0.mk (below_then HB.out HB.out.size hb)
         clear hb
         refine hK.out _ _ ⟨(blk_cell BN.out 0), (blk_cell BN.out 1), (blk_cell BN.out 2), (blk_cell BN.out 3), (blk_cell BN.out 4), (blk_cell BN.out 5), (blk_cell BS.out 0), (blk_cell BS.out 2), (blk_cell BS.out 3), (ndx (HN.out.below HB.out) HZ0.out HZ1.out).1, (ndx (HN.out.below HB.out) HZ0.out HZ1.out).2⟩ (fun hHeld => ?_)
         clear hK K
         refine nm _ ?_
         refine pu 10 21 (mb 40 2047) HT_ ?_
         refine pu 11 22 (mb 40 4095) HT_ ?_
         refine pu 12 23 (mb 40 8191) HT_ ?_
         refine tk 13 24 (mb 40 16383) HT_ HW_ hHeld ?_
         refine on 14 (some 25) (mb 40 32767) HT_ (fun K hK => ?_)
         refine gs Tryd.func64 #[.string (rd_T72 nodes x).f2] ?_
         with_reducible refine (Go.Proofs.YtlfgdaiegefjiaaDoor.S.samphireref08_Check.calls 1400 _ _ _ HNM.out).mono ?_
         rintro e w5 ⟨rfl, hd⟩
         refine ⟨_, rfl, ?_⟩
         have hb := hd.below
         replace BS := Aside0.mk (blk_below BS.out hb)
         replace BN := Aside0.mk (blk_below BN.out hb)
         replace HB := Aside0.mk (below_then HB.out HB.out.size hb)
         clear hb
         clear hd
         refine hK.out _ _ ⟨(blk_cell BN.out 0), (blk_cell BN.out 1), (blk_cell BN.out 2), (blk_cell BN.out 3), (blk_cell BN.out 4), (blk_cell BN.out 5), (blk_cell BS.out 0), (blk_cell BS.out 2), (blk_cell BS.out 3), (ndx (HN.out.below HB.out) HZ0.out HZ1.out).1, (ndx (HN.out.below HB.out) HZ0.out HZ1.out).2⟩ (fun hHeld => ?_)
         clear hK K
         refine nm _ ?_
         refine pu 15 26 (mb 40 65535) HT_ ?_
         refine pu 16 27 (mb 40 131071) HT_ ?_
         refine pu 17 28 (mb 40 262143) HT_ ?_
         refine pu 18 29 (mb 40 524287) HT_ ?_
         refine tk 19 30 (mb 40 1048575) HT_ HW_ hHeld ?_
         refine pu 20 31 (mb 40 2097151) HT_ ?_
         refine pu 21 32 (mb 40 4194303) HT_ ?_
         refine pu 22 33 (mb 40 8388607) HT_ ?_
         refine pu 23 34 (mb 40 16777215) HT_ ?_
         refine pu 24 35 (mb 40 33554431) HT_ ?_
         refine pu 25 36 (mb 40 67108863) HT_ ?_
         refine pu 26 37 (mb 40 134217727) HT_ ?_
         refine pu 27 38 (mb 40 268435455) HT_ ?_
         refine pu 29 40 (mb 40 805306367) HT_ ?_
         refine pu 30 41 (mb 40 1879048191) HT_ ?_
         refine pu 34 45 (mb 40 19058917375) HT_ ?_
         refine tk 28 39 (mb 40 19327352831) HT_ HW_ hHeld ?_
         refine pu 31 42 (mb 40 21474836479) HT_ ?_
         refine pu 32 43 (mb 40 25769803775) HT_ ?_
         refine tk 33 44 (mb 40 34359738367) HT_ HW_ hHeld ?_
         refine tk 35 46 (mb 40 68719476735) HT_ HW_ hHeld ?_
         refine on 36 (some 47) (mb 40 137438953471) HT_ (fun K hK => ?_)
         refine gs Tryd.func56 #[.agg #[.int .i64 (rd_T72 nodes z).f0.f0, .int .i64 (rd_T72 nodes z).f0.f1], .agg #[.int .i64 (rd_T72 nodes x).f0.f0, .int .i64 (rd_T72 nodes x).f0.f1]] ?_
         with_reducible refine (samphireref10_Less.calls _ _ _ _ _ _ HLP.out).mono ?_
         rintro e w5 ⟨rfl, hb⟩
         refine ⟨_, rfl, ?_⟩
         replace BS := Aside0.mk (blk_below BS.out hb)
         replace BN := Aside0.mk (blk_below BN.out hb)
         replace HB := Aside0.mk (below_then HB.out HB.out.size hb)
         clear hb
         refine hK.out _ _ ⟨(blk_cell BN.out 0), (blk_cell BN.out 1), (blk_cell BN.out 2), (blk_cell BN.out 3), (blk_cell BN.out 4), (blk_cell BN.out 5), (blk_cell BS.out 0), (blk_cell BS.out 2), (blk_cell BS.out 3), (ndx (HN.out.below HB.out) HZ0.out HZ1.out).1, (ndx (HN.out.below HB.out) HZ0.out HZ1.out).2⟩ (fun hHeld => ?_)
         clear hK K
         refine nm _ ?_
         refine pu 37 48 (mb 40 274877906943) HT_ ?_
         refine pu 38 49 (mb 40 549755813887) HT_ ?_
         refine pu 39 50 (mb 40 1099511627775) HT_ ?_
         refine dn HT_ ?_
         clear b0 b1' b2 b3 b4 b5 bf z0 z1 z2 z3 zf
         obtain ⟨b0, b1', b2, b3, b4, b5, bf⟩ := Z6 BN.out
         obtain ⟨z0, z1, z2, z3, zf⟩ := Z4 BS.out
         by_cases hp0 : (rd_T72 nodes x).f1.f0 = 0
         · have o1 : decide ((rd_T72 nodes x).f1.f0 = 0) = true := decide_eq_true hp0
           have o2 : ((rd_T72 nodes x).f1.f0 == 0) = true := beq_iff_eq.2 hp0
           have HX := Aside0.mk (show (nodeOk base nodes x && parB nodes (rd_T72 nodes x)) = outerB (rd_T72 nodes x).f1 by rw [HOKX.out]; unfold parB; rw [if_pos hp0]; rfl)
           have HPR := Aside0.mk (P.parent_is (rd_T72 nodes x).f1.f0 (rd_T72 nodes x).f1.f1)
           have hf1 : fineB (rd_T72 nodes x).f1.f0 (rd_T72 nodes x).f1.f1 = false := by unfold fineB; exact decide_eq_false (by omega)
           rw [outB_is, hf1, Bool.or_false] at HPR
           clear hf1
           have o3 := eq_true hp0
           clear hp0
           go_wp2_with (go_at_call 63; refine (Go.Proofs.YtlfgdaiegefjiaaDoor.S.samphireref11_parent.calls _ _ _ _ HPR.out).mono ?_; rintro e w6 ⟨rfl, hb⟩; replace BS := Aside0.mk (blk_below BS.out hb); replace BN := Aside0.mk (blk_below BN.out hb); replace HB := Aside0.mk (below_then HB.out HB.out.size hb); clear hb)
           go_ret
           exact ⟨by rw [HX.out]; rfl, HB.out⟩
         · have o1 : decide ((rd_T72 nodes x).f1.f0 = 0) = false := decide_eq_false hp0
           have o2 : ((rd_T72 nodes x).f1.f0 == 0) = false := beq_eq_false_iff_ne.2 hp0
           have o3 : ((rd_T72 nodes x).f1.f0 = 0) = False := eq_false hp0
           have HX := Aside0.mk (show (nodeOk base nodes x && parB nodes (rd_T72 nodes x)) = (has nodes (rd_T72 nodes x).f1 && !undR nodes (rd_T72 nodes x).f0 (nodes.length + 1) (rd_T72 nodes x).f1) by rw [HOKX.out]; unfold parB; rw [if_neg hp0]; rfl)
           clear hp0
           rcases fI_is nodes (rd_T72 nodes x).f1 with ⟨f1, f2, _, _⟩ | ⟨f1, f2⟩
           · rw [f1] at HX
             have g1 : decide (0 ≤ fI nodes (rd_T72 nodes x).f1) = true := decide_eq_true f2
             have g2 : (0 ≤ fI nodes (rd_T72 nodes x).f1) = True := eq_true f2
             have g3 : decide (fI nodes (rd_T72 nodes x).f1 ≥ 0) = true := decide_eq_true f2
             clear f1 f2
             go_wp2_with (first | (go_at_call 83; refine (find_calls _ _ nodes (rd_T72 nodes x).f1 (HN.out.below HB.out) HLN.out).mono ?_; rintro e w6 ⟨rfl, hb⟩; replace BS := Aside0.mk (blk_below BS.out hb); replace BN := Aside0.mk (blk_below BN.out hb); replace HB := Aside0.mk (below_then HB.out HB.out.size hb); clear hb; clear b0 b1' b2 b3 b4 b5 bf z0 z1 z2 z3 zf; obtain ⟨b0, b1', b2, b3, b4, b5, bf⟩ := Z6 BN.out; obtain ⟨z0, z1, z2, z3, zf⟩ := Z4 BS.out) | (go_at_call 85; refine (under_calls _ _ nodes (rd_T72 nodes x).f1 (rd_T72 nodes x).f0 (HN.out.below HB.out) HLN.out).mono ?_; rintro e w7 ⟨rfl, hb⟩; replace BS := Aside0.mk (blk_below BS.out hb); replace BN := Aside0.mk (blk_below BN.out hb); replace HB := Aside0.mk (below_then HB.out HB.out.size hb); clear hb))
             go_ret
             exact ⟨by rw [HX.out]; simp, HB.out⟩
           · rw [f1] at HX
             have g1 : decide (0 ≤ fI nodes (rd_T72 nodes x).f1) = false := decide_eq_false (by omega)
             have g2 : (0 ≤ fI nodes (rd_T72 nodes x).f1) = False := eq_false (by omega)
             have g3 : decide (fI nodes (rd_T72 nodes x).f1 ≥ 0) = false := decide_eq_false (by omega)
             clear f1 f2
             go_wp2_with (first | (go_at_call 83; refine (find_calls _ _ nodes (rd_T72 nodes x).f1 (HN.out.below HB.out) HLN.out).mono ?_; rintro e w6 ⟨rfl, hb⟩; replace BS := Aside0.mk (blk_below BS.out hb); replace BN := Aside0.mk (blk_below BN.out hb); replace HB := Aside0.mk (below_then HB.out HB.out.size hb); clear hb; clear b0 b1' b2 b3 b4 b5 bf z0 z1 z2 z3 zf; obtain ⟨b0, b1', b2, b3, b4, b5, bf⟩ := Z6 BN.out; obtain ⟨z0, z1, z2, z3, zf⟩ := Z4 BS.out) | (go_at_call 85; refine (under_calls _ _ nodes (rd_T72 nodes x).f1 (rd_T72 nodes x).f0 (HN.out.below HB.out) HLN.out).mono ?_; rintro e w7 ⟨rfl, hb⟩; replace BS := Aside0.mk (blk_below BS.out hb); replace BN := Aside0.mk (blk_below BN.out hb); replace HB := Aside0.mk (below_then HB.out HB.out.size hb); clear hb))
             go_ret
             exact ⟨by rw [HX.out]; rfl, HB.out⟩
end Go.Proofs.YtlfgdaiegefjiaaDoor.S
/- The document's Of. -/
namespace Go.Proofs.YtlfgdaiegefjiaaDoor.S
open Go.RowKit Go.Proofs.YtlfgdaiegefjiaaDoorW.PrintWords Go.Proofs.YtlfgdaiegefjiaaDoorW.PrintLast Go.Proofs.YtlfgdaiegefjiaaDoorW.PrintMore
open Go.Proofs.YtlfgdaiegefjiaaDoor.P (isName L chkO goodO)
set_option linter.unusedVariables false
set_option linter.unusedSimpArgs false
theorem putA_put {T : Tr} {n : Nat} {o : Opn} (hp : n = T.fixed.length) : putA n T.ops T.base o (goodO o) = putO T o (chkO o) := by
 subst hp
 unfold putA putO fullA fullB chkO
 cases goodO o <;> rfl
theorem opx {w : World} {ad : Addr} {m : Nat} {l : List Opn} {x : Int} (h : Kd.C k25 w (some ad) m l) (h0 : 0 ≤ x) (h1 : x < m) :
 w.cell? (ad.add (x.toNat * 9)) = some (.int .i64 (rd_T25 l x).f0) ∧ w.cell? ⟨(ad.add (x.toNat * 9)).block, (ad.add (x.toNat * 9)).off + 1, none⟩ = some (.int .i64 (rd_T25 l x).f1.f0) ∧ w.cell? ⟨(ad.add (x.toNat * 9)).block, (ad.add (x.toNat * 9)).off + 2, none⟩ = some (.int .i64 (rd_T25 l x).f1.f1) ∧ w.cell? ⟨(ad.add (x.toNat * 9)).block, (ad.add (x.toNat * 9)).off + 3, none⟩ = some (.int .i64 (rd_T25 l x).f2.f0) ∧ w.cell? ⟨(ad.add (x.toNat * 9)).block, (ad.add (x.toNat * 9)).off + 4, none⟩ = some (.int .i64 (rd_T25 l x).f2.f1) ∧
 w.cell? ⟨(ad.add (x.toNat * 9)).block, (ad.add (x.toNat * 9)).off + 5, none⟩ = some (.int .i64 (rd_T25 l x).f3.f0) ∧ w.cell? ⟨(ad.add (x.toNat * 9)).block, (ad.add (x.toNat * 9)).off + 6, none⟩ = some (.int .i64 (rd_T25 l x).f3.f1) ∧ w.cell? ⟨(ad.add (x.toNat * 9)).block, (ad.add (x.toNat * 9)).off + 7, none⟩ = some (.string (rd_T25 l x).f4) ∧ w.cell? ⟨(ad.add (x.toNat * 9)).block, (ad.add (x.toNat * 9)).off + 8, none⟩ = some (.string (rd_T25 l x).f5) := by
 obtain ⟨ad', e, x0, x1, x2, x3, x4, x5, x6, x7, x8⟩ := at_T25 h x h0 h1
 cases e
 exact ⟨x0, x1, x2, x3, x4, x5, x6, x7, x8⟩
attribute [local go_sem high] eqA23
theorem start_iff {base : Stp} {nodes : List Nod} : StartOk base nodes ↔ (nodes.length ≤ 512 ∧ baseOk base = true ∧ ∀ x : Int, 0 ≤ x → x < nodes.length → (nodeOk base nodes x && parB nodes (rd_T72 nodes x)) = true) := by
 have key : allOk base nodes → (nodes.map fun n => n.f0).Nodup ∧ ∀ n ∈ nodes, 1 ≤ n.f0.f0 := by
  intro h
  have hs := ok_srt (base := base) nodes.length (Nat.le_refl _) (fun y a b => h y a b)
  rw [List.take_length] at hs
  refine ⟨hs.nodup, fun n hn => ?_⟩
  obtain ⟨i, hi, rfl⟩ := List.getElem_of_mem hn
  have h1 := h (i : Int) (by omega) (by omega)
  unfold nodeOk at h1
  simp only [Bool.and_eq_true] at h1
  have h2 := of_decide_eq_true h1.1.1.1.1
  rw [rdN_at nodes i hi, getElem!_pos nodes i hi] at h2
  exact h2.1
 constructor
 · intro h
   obtain ⟨hd, hi⟩ := key h.all
   refine ⟨h.len, h.bas, fun x h0 h1 => ?_⟩
   obtain ⟨i, hi2, hii, e⟩ := rdn_is nodes x h0 h1
   rw [h.all x h0 h1, Bool.true_and, e]
   exact (par_chain hd hi).1 h.chain _ (List.getElem_mem hi2)
 · rintro ⟨h1, h2, h3⟩
   have ha : allOk base nodes := fun x a b => by have := h3 x a b; simp at this; exact this.1
   obtain ⟨hd, hi⟩ := key ha
   refine ⟨h1, h2, ha, (par_chain hd hi).2 (fun n hn => ?_)⟩
   obtain ⟨i, hi2, rfl⟩ := List.getElem_of_mem hn
   have := h3 (i : Int) (by omega) (by omega)
   simp at this
   rw [rdN_at nodes i hi2, getElem!_pos nodes i hi2] at this
   exact this.2
/-- What the document's Of answers. -/
def ROfSpec (w : World) (vN : Value) (nodes : List Nod) (ops : List Opn) (base : Stp) (e : Ending) (w' : World) : Prop :=
 (¬ StartOk base nodes → e = .returned (.tuple #[.agg #[.slice none 0 0, .slice none 0 0, .int .i64 0, .int .i64 0], .int .i64 1])) ∧
 (StartOk base nodes → (putAll (T0 base nodes) ops).2 ≠ 0 → e = .returned (.tuple #[.agg #[.slice none 0 0, .slice none 0 0, .int .i64 0, .int .i64 0], .int .i64 (putAll (T0 base nodes) ops).2])) ∧
 (StartOk base nodes → (putAll (T0 base nodes) ops).2 = 0 → ∃ vO', e = .returned (.tuple #[.agg (trCells vN vO' base), .int .i64 0]) ∧ RowSO w.heap.size w' vO' (putAll (T0 base nodes) ops).1 ∧ Newer w.heap.size vO') ∧ Below w.heap.size w w'
theorem ROfSpec.bad {w w' : World} {vN : Value} {nodes : List Nod} {ops : List Opn} {base : Stp} (h : ¬ StartOk base nodes) (hb : Below w.heap.size w w') : ROfSpec w vN nodes ops base (.returned (.tuple #[.agg #[.slice none 0 0, .slice none 0 0, .int .i64 0, .int .i64 0], .int .i64 1])) w' :=
 ⟨fun _ => rfl, fun h1 => absurd h1 h, fun h1 => absurd h1 h, hb⟩
theorem ROfSpec.fault {w w' : World} {vN : Value} {nodes : List Nod} {ops : List Opn} {base : Stp} {pe : Int} (hs : StartOk base nodes) (h : (putAll (T0 base nodes) ops).2 = pe) (hne : pe ≠ 0) (hb : Below w.heap.size w w') : ROfSpec w vN nodes ops base (.returned (.tuple #[.agg #[.slice none 0 0, .slice none 0 0, .int .i64 0, .int .i64 0], .int .i64 pe])) w' :=
 ⟨fun h1 => absurd hs h1, fun _ _ => by rw [h], fun _ h1 => absurd (h.symm.trans h1) hne, hb⟩
theorem ROfSpec.good {w w' : World} {vN vO' : Value} {nodes : List Nod} {acc' ops : List Opn} {base : Stp} (hs : StartOk base nodes) (h : putAll (T0 base nodes) ops = (acc', 0)) (hr : RowSO w.heap.size w' vO' acc') (hn : Newer w.heap.size vO') (hb : Below w.heap.size w w') : ROfSpec w vN nodes ops base (.returned (.tuple #[.agg (trCells vN vO' base), .int .i64 0])) w' :=
 ⟨fun h3 => absurd hs h3, fun _ h3 => absurd (by rw [h]) h3, fun _ _ => ⟨vO', rfl, by rw [h]; exact hr, hn⟩, hb⟩
theorem putO_inv {T : Tr} {o : Opn} {r : Int} (hs : Sorted T.ops) (hl : T.ops.length ≤ 512) : Sorted (putO T o r).1 ∧ (putO T o r).1.length ≤ 512 := by
 unfold putO
 split
 · exact ⟨hs, hl⟩
 · split
   · exact ⟨hs, hl⟩
   · rename_i hi
     split
     · exact ⟨hs, hl⟩
     · rename_i hf
       refine ⟨insO_sorted hs (by simpa using hi), ?_⟩
       rw [insO_length]
       unfold fullB at hf
       simp at hf
       omega
theorem rApplyC {w wr : World} {vN vO : Value} {nodes : List Nod} {acc : List Opn} {base : Stp} (hN : RowN wr vN nodes) (hQ : RowSO w.heap.size wr vO acc) (hW : Newer w.heap.size vO) (hs : Sorted acc) (hl : acc.length ≤ 512) (hn : nodes.length ≤ 512) (o : Opn) (ho : o.f4.size ≤ 1024) (hsz : w.heap.size ≤ wr.heap.size) :
 Calls Tryd.prog 20 #[.agg (trCells vN vO base), opVal o] wr fun e w' => ∃ A' c', e = .returned (.tuple #[.agg (trCells vN (.slice A' (putO ⟨nodes, [], acc, base⟩ o (chkO o)).1.length c') base), .int .i64 (putO ⟨nodes, [], acc, base⟩ o (chkO o)).2]) ∧ RowSO w.heap.size w' (.slice A' (putO ⟨nodes, [], acc, base⟩ o (chkO o)).1.length c') (putO ⟨nodes, [], acc, base⟩ o (chkO o)).1 ∧ Newer w.heap.size (.slice A' (putO ⟨nodes, [], acc, base⟩ o (chkO o)).1.length c') ∧ Below wr.heap.size wr w' := by
 refine (rApply_calls wr vN vO nodes acc base o 1300 (goodO o) hN hQ.1 (P.may_good o ho) hs (Nat.le_trans hl (by decide)) (Nat.le_trans hn (by decide))).mono ?_
 rintro e w' ⟨v', rfl, hr, ht, hb⟩
 have hpa : putA nodes.length acc base o (goodO o) = putO ⟨nodes, [], acc, base⟩ o (chkO o) := putA_put (T := ⟨nodes, [], acc, base⟩) rfl
 rw [hpa] at hr ht ⊢
 have h1 : RowSO w.heap.size w' v' (putO ⟨nodes, [], acc, base⟩ o (chkO o)).1 := by
  rcases ht with ⟨rfl, e⟩ | ⟨ht, _⟩
  · rw [e]; exact hQ.below hb
  · exact RowSO.of hr ht
 have h2 : Newer w.heap.size v' := by
  rcases ht with ⟨rfl, _⟩ | ⟨_, ht⟩
  · exact hW
  · exact ht.mono hsz
 obtain ⟨A', c', rfl, _, _⟩ := hr
 exact ⟨A', c', rfl, h1, h2, hb⟩
theorem opx_ {w : World} {ad : Addr} {m c : Nat} {l : List Opn} {x : Int} (h : RowO w (.slice (some ad) m c) l) (h0 : 0 ≤ x) (h1 : x < l.length) :
 w.cell? (ad.add (x.toNat * 9)) = some (.int .i64 (rd_T25 l x).f0) ∧ w.cell? ⟨(ad.add (x.toNat * 9)).block, (ad.add (x.toNat * 9)).off + 1, none⟩ = some (.int .i64 (rd_T25 l x).f1.f0) ∧ w.cell? ⟨(ad.add (x.toNat * 9)).block, (ad.add (x.toNat * 9)).off + 2, none⟩ = some (.int .i64 (rd_T25 l x).f1.f1) ∧ w.cell? ⟨(ad.add (x.toNat * 9)).block, (ad.add (x.toNat * 9)).off + 3, none⟩ = some (.int .i64 (rd_T25 l x).f2.f0) ∧ w.cell? ⟨(ad.add (x.toNat * 9)).block, (ad.add (x.toNat * 9)).off + 4, none⟩ = some (.int .i64 (rd_T25 l x).f2.f1) ∧
 w.cell? ⟨(ad.add (x.toNat * 9)).block, (ad.add (x.toNat * 9)).off + 5, none⟩ = some (.int .i64 (rd_T25 l x).f3.f0) ∧ w.cell? ⟨(ad.add (x.toNat * 9)).block, (ad.add (x.toNat * 9)).off + 6, none⟩ = some (.int .i64 (rd_T25 l x).f3.f1) ∧ w.cell? ⟨(ad.add (x.toNat * 9)).block, (ad.add (x.toNat * 9)).off + 7, none⟩ = some (.string (rd_T25 l x).f4) ∧ w.cell? ⟨(ad.add (x.toNat * 9)).block, (ad.add (x.toNat * 9)).off + 8, none⟩ = some (.string (rd_T25 l x).f5) := opx h.at.2.2 h0 h1
def rof_.T12 : Bool × List (List Nat × List Nat) := (true, [([], []), ([], []), ([1], [1]), ([], []), ([2, 3], [2, 3]), ([4], [4]), ([0, 5], [0, 5]), ([6], [6]), ([7], [7]), ([7], [7]), ([], []), ([10, 8, 6, 0, 1, 2, 3, 4, 5, 6, 7, 8, 10], [8, 10]), ([9, 11, 0, 1, 2, 3, 4, 5, 6, 7, 8, 9, 10, 11], [9])])
def rof_.B12 : List Nat := [0, 0, 2, 0, 14, 30, 63, 127, 255, 255, 0, 1535, 4095]
theorem rof_.tab12 : rtab .any (opsOf Tryd.f74 12) = rof_.T12 := by kernel_rfl
theorem rof_.bits12 : waitsOk rof_.T12.2 rof_.B12 = true := by kernel_rfl
set_option maxHeartbeats 16000000 in
set_option maxRecDepth 100000 in
theorem rOf_calls (w : World) (vN vO : Value) (nodes : List Nod) (ops : List Opn) (base : Stp) (hN : RowN w vN nodes) (hO : RowO w vO ops) (hnm : ∀ m ∈ nodes, m.f2.size ≤ 1024) (hon : ∀ o ∈ ops, o.f4.size ≤ 1024) (hol : ops.length ≤ 100000) :
 Calls Tryd.prog 74 #[.agg #[vN, vO, .int .i64 base.f0, .int .i64 base.f1]] w (ROfSpec w vN nodes ops base) := by
 have hu := Tryd.underlying37
 have hu1 := Tryd.underlying23
 have hu2 := Tryd.underlying45
 have hu3 := Tryd.underlying25
 have HN := Aside0.mk hN
 have HO := Aside0.mk hO
 obtain ⟨AN, cN, e, _, _⟩ := hN
 subst e
 obtain ⟨AO, cO, e, _, _⟩ := hO
 subst e
 have HNM := Aside0.mk hnm
 have HON := Aside0.mk hon
 have HOL := Aside0.mk hol
 have hg : w.heap.size ≤ w.heap.size + 1 := by omega
 have two := two_new w (.cells #[.slice AN nodes.length cN, .slice AO ops.length cO, .int .i64 base.f0, .int .i64 base.f1] 37) (.cells #[.slice none 0 0, .slice none 0 0, .int .i64 0, .int .i64 0] 45)
 have BS := Aside0.mk two.1
 have BR := Aside0.mk two.2
 have HB := Aside0.mk (two_below w (.cells #[.slice AN nodes.length cN, .slice AO ops.length cO, .int .i64 base.f0, .int .i64 base.f1] 37) (.cells #[.slice none 0 0, .slice none 0 0, .int .i64 0, .int .i64 0] 45))
 clear two hnm hon hol
 go_enter Tryd.func74, Tryd.ntmps74
 go_upto_region 1 with fail
 generalize (w.alloc (.cells #[.slice AN nodes.length cN, .slice AO ops.length cO, .int .i64 base.f0, .int .i64 base.f1] 37)).alloc (.cells #[.slice none 0 0, .slice none 0 0, .int .i64 0, .int .i64 0] 45) = w1 at BS BR HB ⊢
 obtain ⟨z0, z1, z2, z3, zf⟩ := Z4 BS.out
 by_cases hlen : 512 < nodes.length
 · have m1 : decide ((512 : Int) < (nodes.length : Int)) = true := decide_eq_true (by omega)
   have m2 : (512 < nodes.length) = True := eq_true hlen
   have m3 : decide ((nodes.length : Int) > 512) = true := decide_eq_true (by omega)
   have HX := Aside0.mk (show ¬ StartOk base nodes from fun h => by have := h.len; omega)
   clear hlen
   obtain ⟨n0, n1, n2, n3, nf0, nf1, nf2, nf3⟩ := Z4 BR.out
   go_wp2
   try simp only [Exit.inBlock, Exit.then]
   refine bodyPost_ret (results_ct rfl _ _ (w.heap.size + 1) 45 #[.slice none 0 0, .slice none 0 0, .int .i64 0, .int .i64 0] (0, 0) _ rfl (blk_put (blk_put (blk_put (blk_put (BR.out) 0 _ rfl) 1 _ rfl) 2 _ rfl) 3 _ rfl) Tryd.underlying45 rfl (by kernel_rfl)) rfl ?_
   exact ROfSpec.bad HX.out (below_set (below_set (below_set (below_set (HB.out) hg) hg) hg) hg)
 have HLEN := Aside0.mk (show nodes.length ≤ 512 by omega)
 have m1 : decide ((512 : Int) < (nodes.length : Int)) = false := decide_eq_false (by omega)
 have m2 : (512 < nodes.length) = False := eq_false hlen
 have m3 : decide ((nodes.length : Int) > 512) = false := decide_eq_false (by omega)
 clear hlen
 have HFB := Aside0.mk (P.may10_is base.f0 base.f1)
 by_cases hbo : baseOk base = true
 rotate_left
 · have HX := Aside0.mk (show ¬ StartOk base nodes from fun h => hbo h.bas)
   unfold baseOk at hbo
   have hbo : (fineB base.f0 base.f1 || (base.f0 == 0 && base.f1 == 0)) = false := by simpa using hbo
   rw [Bool.or_eq_false_iff] at hbo
   obtain ⟨q0, q1⟩ := hbo
   rw [q0] at HFB
   clear q0
   cases q2 : (base.f0 == 0) <;> cases q3 : (base.f1 == 0)
   all_goals first
    | (rw [q2, q3] at q1; cases q1; done)
    | (clear q1
       go_upto_region 2 with (go_at_call 57; refine (Go.Proofs.YtlfgdaiegefjiaaDoor.S.samphireref10_May.calls _ _ _ _ HFB.out).mono ?_; rintro e w2 ⟨rfl, hb⟩; replace BS := Aside0.mk (blk_below BS.out hb); replace BR := Aside0.mk (blk_below BR.out hb); replace HB := Aside0.mk (below_then HB.out HB.out.size hb); clear hb)
       clear q2 q3
       obtain ⟨n0, n1, n2, n3, nf0, nf1, nf2, nf3⟩ := Z4 BR.out
       go_wp2
       try simp only [Exit.inBlock, Exit.then]
       refine bodyPost_ret (results_ct rfl _ _ (w.heap.size + 1) 45 #[.slice none 0 0, .slice none 0 0, .int .i64 0, .int .i64 0] (0, 0) _ rfl (blk_put (blk_put (blk_put (blk_put (BR.out) 0 _ rfl) 1 _ rfl) 2 _ rfl) 3 _ rfl) Tryd.underlying45 rfl (by kernel_rfl)) rfl ?_
       exact ROfSpec.bad HX.out (below_set (below_set (below_set (below_set (HB.out) hg) hg) hg) hg))
 rw [show baseOk base = (fineB base.f0 base.f1 || (base.f0 == 0 && base.f1 == 0)) from rfl] at hbo
 have HBO := Aside0.mk (show baseOk base = true from hbo)
 cases q2 : (base.f0 == 0) <;> cases q3 : (base.f1 == 0)
 all_goals
  rw [q2, q3] at hbo
  first
   | (have hfb : fineB base.f0 base.f1 = true := by simpa using hbo
      rw [hfb] at HFB
      clear hfb)
   | skip
  clear hbo
  go_upto_region 3 with (go_at_call 57; refine (Go.Proofs.YtlfgdaiegefjiaaDoor.S.samphireref10_May.calls _ _ _ _ HFB.out).mono ?_; rintro e w2 ⟨rfl, hb⟩; replace BS := Aside0.mk (blk_below BS.out hb); replace BR := Aside0.mk (blk_below BR.out hb); replace HB := Aside0.mk (below_then HB.out HB.out.size hb); clear hb)
  clear q2 q3 m1 m2 m3 HFB
  go_wp2_with fail
  try go_frame
  go_loopg [4] (nodes.length + 1) (fun kq p wr => ∃ (x : Int), Aside0 ((kq : Int) + x = (nodes.length : Int) + 1 ∧ 0 ≤ x ∧ x ≤ (nodes.length : Int)) ∧ p = .int .i64 x ∧ Aside0 (∀ y : Int, 0 ≤ y → y < x → (nodeOk base nodes y && parB nodes (rd_T72 nodes y)) = true) ∧ Aside0 (wr.heap[w.heap.size]? = some (.cells #[.slice AN nodes.length cN, .slice AO ops.length cO, .int .i64 base.f0, .int .i64 base.f1] 37 (0, 0))) ∧ Aside0 (wr.heap[w.heap.size + 1]? = some (.cells #[.slice none 0 0, .slice none 0 0, .int .i64 0, .int .i64 0] 45)) ∧ Aside0 (Below w.heap.size w wr))
  case atStart => exact ⟨0, ⟨by omega⟩, rfl, ⟨fun y a b => by omega⟩, BS, BR, HB⟩
  case round =>
   clear z0 z1 z2 z3 zf BS BR HB
   obtain ⟨x, HK, rfl, HJ, BS, BR, HB⟩ := hrel
   obtain ⟨k1, rfl⟩ : ∃ k1, gk = k1 + 1 := ⟨((nodes.length : Int) - x).toNat, by have := HK.out; omega⟩
   have h0 : 0 ≤ x := HK.out.2.1
   obtain ⟨z0, z1, z2, z3, zf⟩ := Z4 BS.out
   by_cases hx : x < (nodes.length : Int)
   · have b1 : decide (x < (nodes.length : Int)) = true := decide_eq_true hx
     have H0 := Aside0.mk h0
     have H1 := Aside0.mk hx
     have hl5 := HLEN.out
     have hw1 : wrap64 (x + 1) = x + 1 := by unfold wrap64; omega
     clear h0 hx hl5
     cases hok : (nodeOk base nodes x && parB nodes (rd_T72 nodes x)) with
     | false =>
      have HOK := Aside0.mk hok
      have HX := Aside0.mk (show ¬ StartOk base nodes from fun h => by
       have h1 := (start_iff.1 h).2.2 x H0.out H1.out
       rw [hok] at h1
       cases h1)
      clear hok
      go_upto_region 7 with (go_at_call 95; refine (node_calls _ _ _ nodes ops base x (HN.out.below HB.out) (HO.out.below HB.out) H0.out H1.out HLEN.out HNM.out).mono ?_; rintro e w3 ⟨rfl, hb⟩; rw [HOK.out]; replace BS := Aside0.mk (blk_below BS.out hb); replace BR := Aside0.mk (blk_below BR.out hb); replace HB := Aside0.mk (below_then HB.out HB.out.size hb); clear hb)
      obtain ⟨n0, n1, n2, n3, nf0, nf1, nf2, nf3⟩ := Z4 BR.out
      go_wp2
      try simp only [Exit.inBlock, Exit.then]
      refine bodyPost_ret (results_ct rfl _ _ (w.heap.size + 1) 45 #[.slice none 0 0, .slice none 0 0, .int .i64 0, .int .i64 0] (0, 0) _ rfl (blk_put (blk_put (blk_put (blk_put (BR.out) 0 _ rfl) 1 _ rfl) 2 _ rfl) 3 _ rfl) Tryd.underlying45 rfl (by kernel_rfl)) rfl ?_
      exact ROfSpec.bad HX.out (below_set (below_set (below_set (below_set (HB.out) hg) hg) hg) hg)
     | true =>
      have HOK := Aside0.mk hok
      clear hok
      go_wp2_with (go_at_call 95; refine (node_calls _ _ _ nodes ops base x (HN.out.below HB.out) (HO.out.below HB.out) H0.out H1.out HLEN.out HNM.out).mono ?_; rintro e w3 ⟨rfl, hb⟩; rw [HOK.out]; replace BS := Aside0.mk (blk_below BS.out hb); replace BR := Aside0.mk (blk_below BR.out hb); replace HB := Aside0.mk (below_then HB.out HB.out.size hb); clear hb)
      go_roundg k1
      case measure => exact Nat.lt_succ_self _
      case rel => exact ⟨x + 1, ⟨by have := HK.out; have := H1.out; omega⟩, (by first | rfl | rw [hw1]), ⟨fun y a b => by
       by_cases hy : y = x
       · rw [hy]; exact HOK.out
       · exact HJ.out y a (by omega)⟩, BS, BR, HB⟩
   · have b1 : decide (x < (nodes.length : Int)) = false := decide_eq_false hx
     have HSO := Aside0.mk (start_iff.2 ⟨HLEN.out, HBO.out, fun y a b => HJ.out y a (by omega)⟩)
     clear hx
     go_upto_region 9 with fail
     have BT := Aside0.mk (heap_alloc_new wr (.cells #[.slice AN nodes.length cN, .slice none 0 0, .int .i64 base.f0, .int .i64 base.f1] 45))
     have HTB := Aside0.mk (show w.heap.size + 1 < wr.heap.size from blk_lt BR.out)
     replace BS := Aside0.mk (blk_below BS.out (below_alloc (Below.refl wr.heap.size wr) (.cells #[.slice AN nodes.length cN, .slice none 0 0, .int .i64 base.f0, .int .i64 base.f1] 45)))
     replace BR := Aside0.mk (blk_below BR.out (below_alloc (Below.refl wr.heap.size wr) (.cells #[.slice AN nodes.length cN, .slice none 0 0, .int .i64 base.f0, .int .i64 base.f1] 45)))
     replace HB := Aside0.mk (below_alloc HB.out (.cells #[.slice AN nodes.length cN, .slice none 0 0, .int .i64 base.f0, .int .i64 base.f1] 45))
     generalize wr.heap.size = tb at BT HTB ⊢
     generalize wr.alloc (.cells #[.slice AN nodes.length cN, .slice none 0 0, .int .i64 base.f0, .int .i64 base.f1] 45) = w4 at BT BS BR HB ⊢
     clear z0 z1 z2 z3 zf
     go_wp2_with fail
     try go_frame
     go_loopg [6, 7, 8] (ops.length + 1) (fun kq p _ _ wr => ∃ (y : Int) (acc : List Opn) (A5 : Option Addr) (c5 : Nat), Aside0 ((kq : Int) + y = (ops.length : Int) + 1 ∧ 0 ≤ y ∧ y ≤ (ops.length : Int)) ∧ p = .int .i64 y ∧ Aside0 (wr.heap[tb]? = some (.cells #[.slice AN nodes.length cN, .slice A5 acc.length c5, .int .i64 base.f0, .int .i64 base.f1] 45 (0, 0))) ∧ Aside0 (RowSO w.heap.size wr (.slice A5 acc.length c5) acc) ∧ Aside0 (Newer w.heap.size (.slice A5 acc.length c5)) ∧ Aside0 (Sorted acc) ∧ Aside0 (acc.length ≤ 512) ∧ Aside0 (putAll ⟨nodes, [], acc, base⟩ (ops.drop y.toNat) = putAll (T0 base nodes) ops) ∧ Aside0 (wr.heap[w.heap.size]? = some (.cells #[.slice AN nodes.length cN, .slice AO ops.length cO, .int .i64 base.f0, .int .i64 base.f1] 37 (0, 0))) ∧ Aside0 (wr.heap[w.heap.size + 1]? = some (.cells #[.slice none 0 0, .slice none 0 0, .int .i64 0, .int .i64 0] 45)) ∧ Aside0 (Below w.heap.size w wr))
     case atStart => exact ⟨0, [], none, 0, ⟨by omega⟩, rfl, BT, ⟨RowSO.nil _ _⟩, ⟨fun A n c e => by cases e⟩, ⟨List.Pairwise.nil⟩, ⟨by simp⟩, ⟨rfl⟩, BS, BR, HB⟩
     case round =>
      clear BT BS BR HB
      obtain ⟨y, acc, A5, c5, HK3, rfl, BT, HQ, HNW, HSR, HLA, HPA, BS, BR, HB⟩ := hrel
      obtain ⟨k3, rfl⟩ : ∃ k3, gk = k3 + 1 := ⟨((ops.length : Int) - y).toNat, by have := HK3.out; omega⟩
      have h0 : 0 ≤ y := HK3.out.2.1
      obtain ⟨z0, z1, z2, z3, zf⟩ := Z4 BS.out
      obtain ⟨t0, t1, t2, t3, tf0, tf1, tf2, tf3⟩ := Z4 BT.out
      by_cases hyo : y < (ops.length : Int)
      · have b3 : decide (y < (ops.length : Int)) = true := decide_eq_true hyo
        obtain ⟨ad, e, _⟩ := at_T25 (HO.out.below HB.out).at.2.2 y h0 hyo
        cases e
        have p1 := eq_true h0
        have q1 := eq_true hyo
        have H0 := Aside0.mk h0
        have H1 := Aside0.mk hyo
        have hol5 := HOL.out
        have hw3 : wrap64 (y + 1) = y + 1 := by unfold wrap64; omega
        have HLT := Aside0.mk (show (rd_T25 ops y).f4.size ≤ 1024 by obtain ⟨i, hi, hii, e⟩ := rd_is ops y h0 hyo; rw [e]; exact HON.out _ (List.getElem_mem hi))
        have HDR := Aside0.mk (drop_rd ops h0 hyo)
        clear h0 hyo hol5
        go_upto_region 12 with fail
        replace BS := Aside0.mk (blk_below BS.out (Below.refl _ _).drew)
        replace BR := Aside0.mk (blk_below BR.out (Below.refl _ _).drew)
        replace BT := Aside0.mk (blk_below BT.out (Below.refl _ _).drew)
        replace HQ := Aside0.mk (HQ.out.below (Below.refl _ _).drew)
        replace HB := Aside0.mk HB.out.drew
        clear z0 z1 z2 z3 zf t0 t1 t2 t3 tf0 tf1 tf2 tf3
        refine start_ (n := 13) (S := fun w' => w'.cell? ⟨tb, 0, none⟩ = some (.slice AN nodes.length cN) ∧ w'.cell? ⟨tb, 1, none⟩ = some (.slice A5 acc.length c5) ∧ w'.cell? ⟨tb, 2, none⟩ = some (.int .i64 base.f0) ∧ w'.cell? ⟨tb, 3, none⟩ = some (.int .i64 base.f1) ∧ w'.cell? ⟨w.heap.size, 1, none⟩ = some (.slice (some ad) ops.length cO) ∧ w'.cell? (ad.add (y.toNat * 9)) = some (.int .i64 (rd_T25 ops y).f0) ∧ w'.cell? ⟨(ad.add (y.toNat * 9)).block, (ad.add (y.toNat * 9)).off + 1, none⟩ = some (.int .i64 (rd_T25 ops y).f1.f0) ∧ w'.cell? ⟨(ad.add (y.toNat * 9)).block, (ad.add (y.toNat * 9)).off + 2, none⟩ = some (.int .i64 (rd_T25 ops y).f1.f1) ∧ w'.cell? ⟨(ad.add (y.toNat * 9)).block, (ad.add (y.toNat * 9)).off + 3, none⟩ = some (.int .i64 (rd_T25 ops y).f2.f0) ∧ w'.cell? ⟨(ad.add (y.toNat * 9)).block, (ad.add (y.toNat * 9)).off + 4, none⟩ = some (.int .i64 (rd_T25 ops y).f2.f1) ∧ w'.cell? ⟨(ad.add (y.toNat * 9)).block, (ad.add (y.toNat * 9)).off + 5, none⟩ = some (.int .i64 (rd_T25 ops y).f3.f0) ∧ w'.cell? ⟨(ad.add (y.toNat * 9)).block, (ad.add (y.toNat * 9)).off + 6, none⟩ = some (.int .i64 (rd_T25 ops y).f3.f1) ∧ w'.cell? ⟨(ad.add (y.toNat * 9)).block, (ad.add (y.toNat * 9)).off + 7, none⟩ = some (.string (rd_T25 ops y).f4) ∧ w'.cell? ⟨(ad.add (y.toNat * 9)).block, (ad.add (y.toNat * 9)).off + 8, none⟩ = some (.string (rd_T25 ops y).f5)) (ds := [11]) (mb 13 0) (by kernel_rfl) rfl (by kernel_rfl) ⟨(blk_cell BT.out 0), (blk_cell BT.out 1), (blk_cell BT.out 2), (blk_cell BT.out 3), (blk_cell BS.out 1), (opx_ (HO.out.below HB.out) H0.out H1.out).1, (opx_ (HO.out.below HB.out) H0.out H1.out).2.1, (opx_ (HO.out.below HB.out) H0.out H1.out).2.2.1, (opx_ (HO.out.below HB.out) H0.out H1.out).2.2.2.1, (opx_ (HO.out.below HB.out) H0.out H1.out).2.2.2.2.1, (opx_ (HO.out.below HB.out) H0.out H1.out).2.2.2.2.2.1, (opx_ (HO.out.below HB.out) H0.out H1.out).2.2.2.2.2.2.1, (opx_ (HO.out.below HB.out) H0.out H1.out).2.2.2.2.2.2.2.1, (opx_ (HO.out.below HB.out) H0.out H1.out).2.2.2.2.2.2.2.2⟩ (fun hHeld => ?_)
        refine with_tabW rof_.tab12 rof_.bits12 (fun HT_ HW_ => ?_)
        refine pu 1 52 (mb 13 2) HT_ ?_
        refine pu 3 54 (mb 13 10) HT_ ?_
        refine tk 0 51 (mb 13 11) HT_ HW_ hHeld ?_
        refine tk 2 53 (mb 13 15) HT_ HW_ hHeld ?_
        refine pu 4 55 (mb 13 31) HT_ ?_
        refine tk 5 56 (mb 13 63) HT_ HW_ hHeld ?_
        refine join_ (σ := (Option Addr × Nat) × Nat) 2 #[true, true, true, true, true, true, true, true, true, true, true, false, false] (fun s => [(57, .tuple #[.agg #[.slice AN nodes.length cN, .slice s.1.1 (putO ⟨nodes, [], acc, base⟩ (rd_T25 ops y) (chkO (rd_T25 ops y))).1.length s.1.2, .int .i64 base.f0, .int .i64 base.f1], .int .i64 (putO ⟨nodes, [], acc, base⟩ (rd_T25 ops y) (chkO (rd_T25 ops y))).2]), (50, .tuple #[.agg #[.slice AN nodes.length cN, .slice s.1.1 (putO ⟨nodes, [], acc, base⟩ (rd_T25 ops y) (chkO (rd_T25 ops y))).1.length s.1.2, .int .i64 base.f0, .int .i64 base.f1], .int .i64 (putO ⟨nodes, [], acc, base⟩ (rd_T25 ops y) (chkO (rd_T25 ops y))).2]), (58, .agg #[.slice AN nodes.length cN, .slice s.1.1 (putO ⟨nodes, [], acc, base⟩ (rd_T25 ops y) (chkO (rd_T25 ops y))).1.length s.1.2, .int .i64 base.f0, .int .i64 base.f1]), (59, .int .i64 (putO ⟨nodes, [], acc, base⟩ (rd_T25 ops y) (chkO (rd_T25 ops y))).2), (7, .pointer (some ⟨s.2, 0, none⟩))]) (fun s w' => w'.heap[w.heap.size]? = some (.cells #[.slice AN nodes.length cN, .slice (some ad) ops.length cO, .int .i64 base.f0, .int .i64 base.f1] 37 (0, 0)) ∧ w'.heap[w.heap.size + 1]? = some (.cells #[.slice none 0 0, .slice none 0 0, .int .i64 0, .int .i64 0] 45) ∧ w'.heap[tb]? = some (.cells #[.slice AN nodes.length cN, .slice A5 acc.length c5, .int .i64 base.f0, .int .i64 base.f1] 45 (0, 0)) ∧ RowSO w.heap.size w' (.slice s.1.1 (putO ⟨nodes, [], acc, base⟩ (rd_T25 ops y) (chkO (rd_T25 ops y))).1.length s.1.2) (putO ⟨nodes, [], acc, base⟩ (rd_T25 ops y) (chkO (rd_T25 ops y))).1 ∧ Newer w.heap.size (.slice s.1.1 (putO ⟨nodes, [], acc, base⟩ (rd_T25 ops y) (chkO (rd_T25 ops y))).1.length s.1.2) ∧ w'.heap[s.2]? = some (.cells #[.slice none 0 0, .slice none 0 0, .int .i64 0, .int .i64 0] 45) ∧ tb < s.2 ∧ Below w.heap.size w w') ?_ ?_
        rotate_left
        · intro hCont
          refine two_ (i := 6) (j := 10) (Ni := some 57) (Nj := some 7) #[true, true, true, true, true, true, true, false, false, false, false, false, false] (mb 13 1087) rfl rfl rfl rfl (two_of HT_.out (by kernel_rfl)) (by decide) (by decide) (fun K hK => ?_) (fun K hK => ?_)
          · skip
            refine gs Tryd.func20 #[.agg (trCells (.slice AN nodes.length cN) (.slice A5 acc.length c5) base), .agg #[.int .i64 (rd_T25 ops y).f0, .int .i64 (rd_T25 ops y).f1.f0, .int .i64 (rd_T25 ops y).f1.f1, .int .i64 (rd_T25 ops y).f2.f0, .int .i64 (rd_T25 ops y).f2.f1, .int .i64 (rd_T25 ops y).f3.f0, .int .i64 (rd_T25 ops y).f3.f1, .string (rd_T25 ops y).f4, .string (rd_T25 ops y).f5]] ?_
            with_reducible refine (rApplyC (HN.out.below HB.out) HQ.out HNW.out HSR.out HLA.out HLEN.out (rd_T25 ops y) HLT.out HB.out.size).mono ?_
            rintro e w5 ⟨A6, c6, rfl, hro, hin, hb⟩
            refine ⟨_, rfl, ?_⟩
            have HRO := Aside0.mk hro
            have HIN := Aside0.mk hin
            clear hro hin
            replace BS := Aside0.mk (blk_below BS.out hb)
            replace BR := Aside0.mk (blk_below BR.out hb)
            replace BT := Aside0.mk (blk_below BT.out hb)
            replace HQ := Aside0.mk (HQ.out.below hb)
            replace HB := Aside0.mk (below_then HB.out HB.out.size hb)
            clear hb
            refine hK.out _ _ ⟨(blk_cell BT.out 0), (blk_cell BT.out 1), (blk_cell BT.out 2), (blk_cell BT.out 3), (blk_cell BS.out 1), (opx_ (HO.out.below HB.out) H0.out H1.out).1, (opx_ (HO.out.below HB.out) H0.out H1.out).2.1, (opx_ (HO.out.below HB.out) H0.out H1.out).2.2.1, (opx_ (HO.out.below HB.out) H0.out H1.out).2.2.2.1, (opx_ (HO.out.below HB.out) H0.out H1.out).2.2.2.2.1, (opx_ (HO.out.below HB.out) H0.out H1.out).2.2.2.2.2.1, (opx_ (HO.out.below HB.out) H0.out H1.out).2.2.2.2.2.2.1, (opx_ (HO.out.below HB.out) H0.out H1.out).2.2.2.2.2.2.2.1, (opx_ (HO.out.below HB.out) H0.out H1.out).2.2.2.2.2.2.2.2⟩ (fun hHeld => ?_)
            clear hK K
            refine nm _ ?_
            refine pu 7 50 (mb 13 255) HT_ ?_
            refine pu 8 58 (mb 13 511) HT_ ?_
            refine pu 9 59 (mb 13 1023) HT_ ?_
            refine on 10 (some 7) (mb 13 2047) HT_ (fun K hK => ?_)
            refine value_ (w1 := ?_) (v := ?_) (by rfl) rfl ?_ ?_
            rotate_left 2
            · go_simp
              constructor
              · rfl
              · rfl
            have hb := below_alloc (Below.refl w5.heap.size w5) (.cells #[.slice none 0 0, .slice none 0 0, .int .i64 0, .int .i64 0] 45)
            have HNX := Aside0.mk (show tb < w5.heap.size from blk_lt BT.out)
            have HX5 := Aside0.mk (show (w5.alloc (.cells #[.slice none 0 0, .slice none 0 0, .int .i64 0, .int .i64 0] 45)).heap[w5.heap.size]? = some (.cells #[.slice none 0 0, .slice none 0 0, .int .i64 0, .int .i64 0] 45) from heap_alloc_new w5 (.cells #[.slice none 0 0, .slice none 0 0, .int .i64 0, .int .i64 0] 45))
            replace BS := Aside0.mk (blk_below BS.out hb)
            replace BR := Aside0.mk (blk_below BR.out hb)
            replace BT := Aside0.mk (blk_below BT.out hb)
            replace HQ := Aside0.mk (HQ.out.below hb)
            replace HB := Aside0.mk (below_then HB.out HB.out.size hb)
            replace HRO := Aside0.mk (HRO.out.below hb)
            clear hb
            refine hK.out _ _ ⟨(blk_cell BT.out 0), (blk_cell BT.out 1), (blk_cell BT.out 2), (blk_cell BT.out 3), (blk_cell BS.out 1), (opx_ (HO.out.below HB.out) H0.out H1.out).1, (opx_ (HO.out.below HB.out) H0.out H1.out).2.1, (opx_ (HO.out.below HB.out) H0.out H1.out).2.2.1, (opx_ (HO.out.below HB.out) H0.out H1.out).2.2.2.1, (opx_ (HO.out.below HB.out) H0.out H1.out).2.2.2.2.1, (opx_ (HO.out.below HB.out) H0.out H1.out).2.2.2.2.2.1, (opx_ (HO.out.below HB.out) H0.out H1.out).2.2.2.2.2.2.1, (opx_ (HO.out.below HB.out) H0.out H1.out).2.2.2.2.2.2.2.1, (opx_ (HO.out.below HB.out) H0.out H1.out).2.2.2.2.2.2.2.2⟩ (fun hHeld => ?_)
            clear hK K
            refine nm _ ?_
            exact norm_ (by simp only [Go.Proofs.YtlfgdaiegefjiaaDoorW.PrintLast.putAll, Act.put, List.setIfInBounds_toArray, List.set_cons_zero, List.set_cons_succ]) (hCont ((A6, c6), w5.heap.size) _ ⟨BS.out, BR.out, BT.out, HRO.out, HIN.out, HX5.out, HNX.out, HB.out⟩)
          · skip
            refine value_ (w1 := ?_) (v := ?_) (by rfl) rfl ?_ ?_
            rotate_left 2
            · go_simp
              constructor
              · rfl
              · rfl
            have hb := below_new wr (.cells #[.slice none 0 0, .slice none 0 0, .int .i64 0, .int .i64 0] 45)
            have HNX := Aside0.mk (show tb < wr.heap.size from blk_lt BT.out)
            have HX5 := Aside0.mk (show (wr.alloc (.cells #[.slice none 0 0, .slice none 0 0, .int .i64 0, .int .i64 0] 45)).drew.heap[wr.heap.size]? = some (.cells #[.slice none 0 0, .slice none 0 0, .int .i64 0, .int .i64 0] 45) from heap_alloc_new wr (.cells #[.slice none 0 0, .slice none 0 0, .int .i64 0, .int .i64 0] 45))
            replace BS := Aside0.mk (blk_below BS.out hb)
            replace BR := Aside0.mk (blk_below BR.out hb)
            replace BT := Aside0.mk (blk_below BT.out hb)
            replace HQ := Aside0.mk (HQ.out.below hb)
            replace HB := Aside0.mk (below_then HB.out HB.out.size hb)
            clear hb
            refine hK.out _ _ ⟨(blk_cell BT.out 0), (blk_cell BT.out 1), (blk_cell BT.out 2), (blk_cell BT.out 3), (blk_cell BS.out 1), (opx_ (HO.out.below HB.out) H0.out H1.out).1, (opx_ (HO.out.below HB.out) H0.out H1.out).2.1, (opx_ (HO.out.below HB.out) H0.out H1.out).2.2.1, (opx_ (HO.out.below HB.out) H0.out H1.out).2.2.2.1, (opx_ (HO.out.below HB.out) H0.out H1.out).2.2.2.2.1, (opx_ (HO.out.below HB.out) H0.out H1.out).2.2.2.2.2.1, (opx_ (HO.out.below HB.out) H0.out H1.out).2.2.2.2.2.2.1, (opx_ (HO.out.below HB.out) H0.out H1.out).2.2.2.2.2.2.2.1, (opx_ (HO.out.below HB.out) H0.out H1.out).2.2.2.2.2.2.2.2⟩ (fun hHeld => ?_)
            clear hK K
            refine nm _ ?_
            refine on 6 (some 57) (mb 13 1151) HT_ (fun K hK => ?_)
            refine gs Tryd.func20 #[.agg (trCells (.slice AN nodes.length cN) (.slice A5 acc.length c5) base), .agg #[.int .i64 (rd_T25 ops y).f0, .int .i64 (rd_T25 ops y).f1.f0, .int .i64 (rd_T25 ops y).f1.f1, .int .i64 (rd_T25 ops y).f2.f0, .int .i64 (rd_T25 ops y).f2.f1, .int .i64 (rd_T25 ops y).f3.f0, .int .i64 (rd_T25 ops y).f3.f1, .string (rd_T25 ops y).f4, .string (rd_T25 ops y).f5]] ?_
            with_reducible refine (rApplyC (HN.out.below HB.out) HQ.out HNW.out HSR.out HLA.out HLEN.out (rd_T25 ops y) HLT.out HB.out.size).mono ?_
            rintro e w5 ⟨A6, c6, rfl, hro, hin, hb⟩
            refine ⟨_, rfl, ?_⟩
            have HRO := Aside0.mk hro
            have HIN := Aside0.mk hin
            clear hro hin
            replace BS := Aside0.mk (blk_below BS.out hb)
            replace BR := Aside0.mk (blk_below BR.out hb)
            replace BT := Aside0.mk (blk_below BT.out hb)
            replace HQ := Aside0.mk (HQ.out.below hb)
            replace HB := Aside0.mk (below_then HB.out HB.out.size hb)
            replace HX5 := Aside0.mk (blk_below HX5.out hb)
            clear hb
            refine hK.out _ _ ⟨(blk_cell BT.out 0), (blk_cell BT.out 1), (blk_cell BT.out 2), (blk_cell BT.out 3), (blk_cell BS.out 1), (opx_ (HO.out.below HB.out) H0.out H1.out).1, (opx_ (HO.out.below HB.out) H0.out H1.out).2.1, (opx_ (HO.out.below HB.out) H0.out H1.out).2.2.1, (opx_ (HO.out.below HB.out) H0.out H1.out).2.2.2.1, (opx_ (HO.out.below HB.out) H0.out H1.out).2.2.2.2.1, (opx_ (HO.out.below HB.out) H0.out H1.out).2.2.2.2.2.1, (opx_ (HO.out.below HB.out) H0.out H1.out).2.2.2.2.2.2.1, (opx_ (HO.out.below HB.out) H0.out H1.out).2.2.2.2.2.2.2.1, (opx_ (HO.out.below HB.out) H0.out H1.out).2.2.2.2.2.2.2.2⟩ (fun hHeld => ?_)
            clear hK K
            refine nm _ ?_
            refine pu 7 50 (mb 13 1279) HT_ ?_
            refine pu 8 58 (mb 13 1535) HT_ ?_
            refine pu 9 59 (mb 13 2047) HT_ ?_
            exact norm_ (by simp only [Go.Proofs.YtlfgdaiegefjiaaDoorW.PrintLast.putAll, Act.put, List.setIfInBounds_toArray, List.set_cons_zero, List.set_cons_succ]) (hCont ((A6, c6), wr.heap.size) _ ⟨BS.out, BR.out, BT.out, HRO.out, HIN.out, HX5.out, HNX.out, HB.out⟩)
        clear BS BR BT HQ HB hHeld
        rintro ⟨⟨A6, c6⟩, xn⟩ w' ⟨h1, h2, h3, h4, h5, h6, h7, h8⟩
        dsimp only at h4 h5 h6 h7
        dsimp only
        have BS := Aside0.mk h1
        have BR := Aside0.mk h2
        have BT := Aside0.mk h3
        have HRO := Aside0.mk h4
        have HIN := Aside0.mk h5
        have HX5 := Aside0.mk h6
        have HNX := Aside0.mk h7
        have HB := Aside0.mk h8
        clear h1 h2 h3 h4 h5 h6 h7 h8
        have hHeld : w'.cell? ⟨tb, 0, none⟩ = some (.slice AN nodes.length cN) ∧ w'.cell? ⟨tb, 1, none⟩ = some (.slice A5 acc.length c5) ∧ w'.cell? ⟨tb, 2, none⟩ = some (.int .i64 base.f0) ∧ w'.cell? ⟨tb, 3, none⟩ = some (.int .i64 base.f1) ∧ w'.cell? ⟨w.heap.size, 1, none⟩ = some (.slice (some ad) ops.length cO) ∧ w'.cell? (ad.add (y.toNat * 9)) = some (.int .i64 (rd_T25 ops y).f0) ∧ w'.cell? ⟨(ad.add (y.toNat * 9)).block, (ad.add (y.toNat * 9)).off + 1, none⟩ = some (.int .i64 (rd_T25 ops y).f1.f0) ∧ w'.cell? ⟨(ad.add (y.toNat * 9)).block, (ad.add (y.toNat * 9)).off + 2, none⟩ = some (.int .i64 (rd_T25 ops y).f1.f1) ∧ w'.cell? ⟨(ad.add (y.toNat * 9)).block, (ad.add (y.toNat * 9)).off + 3, none⟩ = some (.int .i64 (rd_T25 ops y).f2.f0) ∧ w'.cell? ⟨(ad.add (y.toNat * 9)).block, (ad.add (y.toNat * 9)).off + 4, none⟩ = some (.int .i64 (rd_T25 ops y).f2.f1) ∧ w'.cell? ⟨(ad.add (y.toNat * 9)).block, (ad.add (y.toNat * 9)).off + 5, none⟩ = some (.int .i64 (rd_T25 ops y).f3.f0) ∧ w'.cell? ⟨(ad.add (y.toNat * 9)).block, (ad.add (y.toNat * 9)).off + 6, none⟩ = some (.int .i64 (rd_T25 ops y).f3.f1) ∧ w'.cell? ⟨(ad.add (y.toNat * 9)).block, (ad.add (y.toNat * 9)).off + 7, none⟩ = some (.string (rd_T25 ops y).f4) ∧ w'.cell? ⟨(ad.add (y.toNat * 9)).block, (ad.add (y.toNat * 9)).off + 8, none⟩ = some (.string (rd_T25 ops y).f5) := ⟨(blk_cell BT.out 0), (blk_cell BT.out 1), (blk_cell BT.out 2), (blk_cell BT.out 3), (blk_cell BS.out 1), (opx_ (HO.out.below HB.out) H0.out H1.out).1, (opx_ (HO.out.below HB.out) H0.out H1.out).2.1, (opx_ (HO.out.below HB.out) H0.out H1.out).2.2.1, (opx_ (HO.out.below HB.out) H0.out H1.out).2.2.2.1, (opx_ (HO.out.below HB.out) H0.out H1.out).2.2.2.2.1, (opx_ (HO.out.below HB.out) H0.out H1.out).2.2.2.2.2.1, (opx_ (HO.out.below HB.out) H0.out H1.out).2.2.2.2.2.2.1, (opx_ (HO.out.below HB.out) H0.out H1.out).2.2.2.2.2.2.2.1, (opx_ (HO.out.below HB.out) H0.out H1.out).2.2.2.2.2.2.2.2⟩
        obtain ⟨u0, u1, u2, u3, uf0, uf1, uf2, uf3⟩ := Z4 HX5.out
        refine norm_ (a' := ?_) ?_ ?_
        rotate_left
        · simp only [Go.Proofs.YtlfgdaiegefjiaaDoorW.PrintLast.putAll, Act.put, List.setIfInBounds_toArray, List.set_cons_zero, List.set_cons_succ]
          rfl
        refine last_ (i := 11) (N := none) (mb 13 4095) rfl rfl (one_of HT_.out (by kernel_rfl)) (by decide) (fun K hK => ?_)
        refine skip_ (w1 := ?_) (by rfl) rfl ?_ ?_
        rotate_left
        · go_simp
          rfl
        refine hK.out _ _ ?_
        clear hK K
        refine pu 12 8 (mb 13 8191) HT_ ?_
        refine dn HT_ ?_
        clear u0 u1 u2 u3 uf0 uf1 uf2 uf3
        go_upto_region 13 with fail
        have HLE := Aside0.mk (show w.heap.size ≤ xn by have h1 := HNX.out; have h2 := HTB.out; omega)
        replace HRO := Aside0.mk (RowSO.set HRO.out HLE.out HX5.out (by decide) 0 (.slice AN nodes.length cN))
        replace BS := Aside0.mk (blk_far (p := ⟨xn, 0, none⟩) BS.out (show w.heap.size ≠ xn by have h1_ := HTB.out; have h2_ := HNX.out; omega) (.slice AN nodes.length cN))
        replace BR := Aside0.mk (blk_far (p := ⟨xn, 0, none⟩) BR.out (show w.heap.size + 1 ≠ xn by have h1_ := HTB.out; have h2_ := HNX.out; omega) (.slice AN nodes.length cN))
        replace BT := Aside0.mk (blk_far (p := ⟨xn, 0, none⟩) BT.out (show tb ≠ xn by have h1_ := HTB.out; have h2_ := HNX.out; omega) (.slice AN nodes.length cN))
        replace HB := Aside0.mk (below_set (g := xn) HB.out HLE.out (j := 0) (v := .slice AN nodes.length cN))
        replace HX5 := Aside0.mk (blk_put HX5.out 0 (.slice AN nodes.length cN) (show (#[.slice none 0 0, .slice none 0 0, .int .i64 0, .int .i64 0] : Array Value).setIfInBounds 0 (.slice AN nodes.length cN) = #[.slice AN nodes.length cN, .slice none 0 0, .int .i64 0, .int .i64 0] from rfl))
        generalize w'.setCell ⟨xn, 0, none⟩ (.slice AN nodes.length cN) = w6_1 at HB HX5 BS BR BT HRO ⊢
        replace HRO := Aside0.mk (RowSO.set HRO.out HLE.out HX5.out (by decide) 1 (.slice A6 (putO ⟨nodes, [], acc, base⟩ (rd_T25 ops y) (chkO (rd_T25 ops y))).1.length c6))
        replace BS := Aside0.mk (blk_far (p := ⟨xn, 1, none⟩) BS.out (show w.heap.size ≠ xn by have h1_ := HTB.out; have h2_ := HNX.out; omega) (.slice A6 (putO ⟨nodes, [], acc, base⟩ (rd_T25 ops y) (chkO (rd_T25 ops y))).1.length c6))
        replace BR := Aside0.mk (blk_far (p := ⟨xn, 1, none⟩) BR.out (show w.heap.size + 1 ≠ xn by have h1_ := HTB.out; have h2_ := HNX.out; omega) (.slice A6 (putO ⟨nodes, [], acc, base⟩ (rd_T25 ops y) (chkO (rd_T25 ops y))).1.length c6))
        replace BT := Aside0.mk (blk_far (p := ⟨xn, 1, none⟩) BT.out (show tb ≠ xn by have h1_ := HTB.out; have h2_ := HNX.out; omega) (.slice A6 (putO ⟨nodes, [], acc, base⟩ (rd_T25 ops y) (chkO (rd_T25 ops y))).1.length c6))
        replace HB := Aside0.mk (below_set (g := xn) HB.out HLE.out (j := 1) (v := .slice A6 (putO ⟨nodes, [], acc, base⟩ (rd_T25 ops y) (chkO (rd_T25 ops y))).1.length c6))
        replace HX5 := Aside0.mk (blk_put HX5.out 1 (.slice A6 (putO ⟨nodes, [], acc, base⟩ (rd_T25 ops y) (chkO (rd_T25 ops y))).1.length c6) (show (#[.slice AN nodes.length cN, .slice none 0 0, .int .i64 0, .int .i64 0] : Array Value).setIfInBounds 1 (.slice A6 (putO ⟨nodes, [], acc, base⟩ (rd_T25 ops y) (chkO (rd_T25 ops y))).1.length c6) = #[.slice AN nodes.length cN, .slice A6 (putO ⟨nodes, [], acc, base⟩ (rd_T25 ops y) (chkO (rd_T25 ops y))).1.length c6, .int .i64 0, .int .i64 0] from rfl))
        generalize w6_1.setCell ⟨xn, 1, none⟩ (.slice A6 (putO ⟨nodes, [], acc, base⟩ (rd_T25 ops y) (chkO (rd_T25 ops y))).1.length c6) = w6_2 at HB HX5 BS BR BT HRO ⊢
        replace HRO := Aside0.mk (RowSO.set HRO.out HLE.out HX5.out (by decide) 2 (.int .i64 base.f0))
        replace BS := Aside0.mk (blk_far (p := ⟨xn, 2, none⟩) BS.out (show w.heap.size ≠ xn by have h1_ := HTB.out; have h2_ := HNX.out; omega) (.int .i64 base.f0))
        replace BR := Aside0.mk (blk_far (p := ⟨xn, 2, none⟩) BR.out (show w.heap.size + 1 ≠ xn by have h1_ := HTB.out; have h2_ := HNX.out; omega) (.int .i64 base.f0))
        replace BT := Aside0.mk (blk_far (p := ⟨xn, 2, none⟩) BT.out (show tb ≠ xn by have h1_ := HTB.out; have h2_ := HNX.out; omega) (.int .i64 base.f0))
        replace HB := Aside0.mk (below_set (g := xn) HB.out HLE.out (j := 2) (v := .int .i64 base.f0))
        replace HX5 := Aside0.mk (blk_put HX5.out 2 (.int .i64 base.f0) (show (#[.slice AN nodes.length cN, .slice A6 (putO ⟨nodes, [], acc, base⟩ (rd_T25 ops y) (chkO (rd_T25 ops y))).1.length c6, .int .i64 0, .int .i64 0] : Array Value).setIfInBounds 2 (.int .i64 base.f0) = #[.slice AN nodes.length cN, .slice A6 (putO ⟨nodes, [], acc, base⟩ (rd_T25 ops y) (chkO (rd_T25 ops y))).1.length c6, .int .i64 base.f0, .int .i64 0] from rfl))
        generalize w6_2.setCell ⟨xn, 2, none⟩ (.int .i64 base.f0) = w6_3 at HB HX5 BS BR BT HRO ⊢
        replace HRO := Aside0.mk (RowSO.set HRO.out HLE.out HX5.out (by decide) 3 (.int .i64 base.f1))
        replace BS := Aside0.mk (blk_far (p := ⟨xn, 3, none⟩) BS.out (show w.heap.size ≠ xn by have h1_ := HTB.out; have h2_ := HNX.out; omega) (.int .i64 base.f1))
        replace BR := Aside0.mk (blk_far (p := ⟨xn, 3, none⟩) BR.out (show w.heap.size + 1 ≠ xn by have h1_ := HTB.out; have h2_ := HNX.out; omega) (.int .i64 base.f1))
        replace BT := Aside0.mk (blk_far (p := ⟨xn, 3, none⟩) BT.out (show tb ≠ xn by have h1_ := HTB.out; have h2_ := HNX.out; omega) (.int .i64 base.f1))
        replace HB := Aside0.mk (below_set (g := xn) HB.out HLE.out (j := 3) (v := .int .i64 base.f1))
        replace HX5 := Aside0.mk (blk_put HX5.out 3 (.int .i64 base.f1) (show (#[.slice AN nodes.length cN, .slice A6 (putO ⟨nodes, [], acc, base⟩ (rd_T25 ops y) (chkO (rd_T25 ops y))).1.length c6, .int .i64 base.f0, .int .i64 0] : Array Value).setIfInBounds 3 (.int .i64 base.f1) = #[.slice AN nodes.length cN, .slice A6 (putO ⟨nodes, [], acc, base⟩ (rd_T25 ops y) (chkO (rd_T25 ops y))).1.length c6, .int .i64 base.f0, .int .i64 base.f1] from rfl))
        generalize w6_3.setCell ⟨xn, 3, none⟩ (.int .i64 base.f1) = w6 at HB HX5 BS BR BT HRO ⊢
        have HPD := Aside0.mk (show putAll ⟨nodes, [], acc, base⟩ ((rd_T25 ops y) :: ops.drop (y + 1).toNat) = putAll (T0 base nodes) ops by rw [← HDR.out]; exact HPA.out)
        have HIV := Aside0.mk (putO_inv (T := ⟨nodes, [], acc, base⟩) (o := (rd_T25 ops y)) (r := chkO (rd_T25 ops y)) HSR.out HLA.out)
        obtain ⟨pe, hpe⟩ : ∃ pe, (putO ⟨nodes, [], acc, base⟩ (rd_T25 ops y) (chkO (rd_T25 ops y))).2 = pe := ⟨_, rfl⟩
        rw [hpe]
        obtain ⟨u0, u1, u2, u3, uf0, uf1, uf2, uf3⟩ := Z4 HX5.out
        obtain ⟨t0, t1, t2, t3, tf0, tf1, tf2, tf3⟩ := Z4 BT.out
        by_cases he : pe = 0
        rotate_left
        · have m1 : decide (pe = 0) = false := decide_eq_false he
          have m2 : (pe == 0) = false := beq_eq_false_iff_ne.2 he
          have m3 : (pe = 0) = False := eq_false he
          have HX := Aside0.mk (show (putAll (T0 base nodes) ops).2 = pe by
           rw [← HPD.out]
           show (if (putO ⟨nodes, [], acc, base⟩ (rd_T25 ops y) (chkO (rd_T25 ops y))).2 ≠ 0 then _ else _ : List Opn × Int).2 = pe
           rw [if_pos (by rw [hpe]; exact he)]; exact hpe)
          have HNE := Aside0.mk he
          clear he hpe
          obtain ⟨n0, n1, n2, n3, nf0, nf1, nf2, nf3⟩ := Z4 BR.out
          go_wp2
          try simp only [Exit.inBlock, Exit.then]
          refine bodyPost_ret (results_ct rfl _ _ (w.heap.size + 1) 45 #[.slice none 0 0, .slice none 0 0, .int .i64 0, .int .i64 0] (0, 0) _ rfl (blk_put (blk_put (blk_put (blk_put (BR.out) 0 _ rfl) 1 _ rfl) 2 _ rfl) 3 _ rfl) Tryd.underlying45 rfl (by kernel_rfl)) rfl ?_
          exact ROfSpec.fault HSO.out HX.out HNE.out (below_set (below_set (below_set (below_set (HB.out) hg) hg) hg) hg)
        · subst he
          by_cases hln : (putO ⟨nodes, [], acc, base⟩ (rd_T25 ops y) (chkO (rd_T25 ops y))).1.length = acc.length
          · have m1 : decide (((putO ⟨nodes, [], acc, base⟩ (rd_T25 ops y) (chkO (rd_T25 ops y))).1.length : Int) = (acc.length : Int)) = true := decide_eq_true (by omega)
            have m2 : ((putO ⟨nodes, [], acc, base⟩ (rd_T25 ops y) (chkO (rd_T25 ops y))).1.length = acc.length) = True := eq_true hln
            have m3 : (((putO ⟨nodes, [], acc, base⟩ (rd_T25 ops y) (chkO (rd_T25 ops y))).1.length : Int) == (acc.length : Int)) = true := beq_iff_eq.2 (by omega)
            have m4 : ((putO ⟨nodes, [], acc, base⟩ (rd_T25 ops y) (chkO (rd_T25 ops y))).1.length == acc.length) = true := beq_iff_eq.2 hln
            have HX := Aside0.mk (show (putAll (T0 base nodes) ops).2 = 1 by
             rw [← HPD.out]
             show (if (putO ⟨nodes, [], acc, base⟩ (rd_T25 ops y) (chkO (rd_T25 ops y))).2 ≠ 0 then _ else if (putO ⟨nodes, [], acc, base⟩ (rd_T25 ops y) (chkO (rd_T25 ops y))).1.length = acc.length then _ else _ : List Opn × Int).2 = 1
             rw [if_neg (by rw [hpe]; decide), if_pos hln])
            have HNE := Aside0.mk (show (1 : Int) ≠ 0 by decide)
            clear hln hpe
            obtain ⟨n0, n1, n2, n3, nf0, nf1, nf2, nf3⟩ := Z4 BR.out
            go_wp2
            try simp only [Exit.inBlock, Exit.then]
            refine bodyPost_ret (results_ct rfl _ _ (w.heap.size + 1) 45 #[.slice none 0 0, .slice none 0 0, .int .i64 0, .int .i64 0] (0, 0) _ rfl (blk_put (blk_put (blk_put (blk_put (BR.out) 0 _ rfl) 1 _ rfl) 2 _ rfl) 3 _ rfl) Tryd.underlying45 rfl (by kernel_rfl)) rfl ?_
            exact ROfSpec.fault HSO.out HX.out HNE.out (below_set (below_set (below_set (below_set (HB.out) hg) hg) hg) hg)
          · have m1 : decide (((putO ⟨nodes, [], acc, base⟩ (rd_T25 ops y) (chkO (rd_T25 ops y))).1.length : Int) = (acc.length : Int)) = false := decide_eq_false (by omega)
            have m2 : ((putO ⟨nodes, [], acc, base⟩ (rd_T25 ops y) (chkO (rd_T25 ops y))).1.length = acc.length) = False := eq_false hln
            have m3 : (((putO ⟨nodes, [], acc, base⟩ (rd_T25 ops y) (chkO (rd_T25 ops y))).1.length : Int) == (acc.length : Int)) = false := beq_eq_false_iff_ne.2 (by omega)
            have m4 : ((putO ⟨nodes, [], acc, base⟩ (rd_T25 ops y) (chkO (rd_T25 ops y))).1.length == acc.length) = false := beq_eq_false_iff_ne.2 hln
            have HX := Aside0.mk (show putAll ⟨nodes, [], (putO ⟨nodes, [], acc, base⟩ (rd_T25 ops y) (chkO (rd_T25 ops y))).1, base⟩ (ops.drop (y + 1).toNat) = putAll (T0 base nodes) ops by
             rw [← HPD.out]
             show _ = (if (putO ⟨nodes, [], acc, base⟩ (rd_T25 ops y) (chkO (rd_T25 ops y))).2 ≠ 0 then _ else if (putO ⟨nodes, [], acc, base⟩ (rd_T25 ops y) (chkO (rd_T25 ops y))).1.length = acc.length then _ else putAll ⟨nodes, [], (putO ⟨nodes, [], acc, base⟩ (rd_T25 ops y) (chkO (rd_T25 ops y))).1, base⟩ (ops.drop (y + 1).toNat) : List Opn × Int)
             rw [if_neg (by rw [hpe]; decide), if_neg hln])
            clear hln hpe
            go_upto_region 11 with fail
            have HLT2 := Aside0.mk (show w.heap.size ≤ tb by have h2 := HTB.out; omega)
            replace HRO := Aside0.mk (RowSO.set HRO.out HLT2.out BT.out (by decide) 0 (.slice AN nodes.length cN))
            replace BS := Aside0.mk (blk_far (p := ⟨tb, 0, none⟩) BS.out (show w.heap.size ≠ tb by have h1_ := HTB.out; have h2_ := HNX.out; omega) (.slice AN nodes.length cN))
            replace BR := Aside0.mk (blk_far (p := ⟨tb, 0, none⟩) BR.out (show w.heap.size + 1 ≠ tb by have h1_ := HTB.out; have h2_ := HNX.out; omega) (.slice AN nodes.length cN))
            replace HB := Aside0.mk (below_set (g := tb) HB.out HLT2.out (j := 0) (v := .slice AN nodes.length cN))
            replace BT := Aside0.mk (blk_put BT.out 0 (.slice AN nodes.length cN) (show (#[.slice AN nodes.length cN, .slice A5 acc.length c5, .int .i64 base.f0, .int .i64 base.f1] : Array Value).setIfInBounds 0 (.slice AN nodes.length cN) = #[.slice AN nodes.length cN, .slice A5 acc.length c5, .int .i64 base.f0, .int .i64 base.f1] from rfl))
            generalize w6.setCell ⟨tb, 0, none⟩ (.slice AN nodes.length cN) = w8_1 at HB BT BS BR HRO ⊢
            replace HRO := Aside0.mk (RowSO.set HRO.out HLT2.out BT.out (by decide) 1 (.slice A6 (putO ⟨nodes, [], acc, base⟩ (rd_T25 ops y) (chkO (rd_T25 ops y))).1.length c6))
            replace BS := Aside0.mk (blk_far (p := ⟨tb, 1, none⟩) BS.out (show w.heap.size ≠ tb by have h1_ := HTB.out; have h2_ := HNX.out; omega) (.slice A6 (putO ⟨nodes, [], acc, base⟩ (rd_T25 ops y) (chkO (rd_T25 ops y))).1.length c6))
            replace BR := Aside0.mk (blk_far (p := ⟨tb, 1, none⟩) BR.out (show w.heap.size + 1 ≠ tb by have h1_ := HTB.out; have h2_ := HNX.out; omega) (.slice A6 (putO ⟨nodes, [], acc, base⟩ (rd_T25 ops y) (chkO (rd_T25 ops y))).1.length c6))
            replace HB := Aside0.mk (below_set (g := tb) HB.out HLT2.out (j := 1) (v := .slice A6 (putO ⟨nodes, [], acc, base⟩ (rd_T25 ops y) (chkO (rd_T25 ops y))).1.length c6))
            replace BT := Aside0.mk (blk_put BT.out 1 (.slice A6 (putO ⟨nodes, [], acc, base⟩ (rd_T25 ops y) (chkO (rd_T25 ops y))).1.length c6) (show (#[.slice AN nodes.length cN, .slice A5 acc.length c5, .int .i64 base.f0, .int .i64 base.f1] : Array Value).setIfInBounds 1 (.slice A6 (putO ⟨nodes, [], acc, base⟩ (rd_T25 ops y) (chkO (rd_T25 ops y))).1.length c6) = #[.slice AN nodes.length cN, .slice A6 (putO ⟨nodes, [], acc, base⟩ (rd_T25 ops y) (chkO (rd_T25 ops y))).1.length c6, .int .i64 base.f0, .int .i64 base.f1] from rfl))
            generalize w8_1.setCell ⟨tb, 1, none⟩ (.slice A6 (putO ⟨nodes, [], acc, base⟩ (rd_T25 ops y) (chkO (rd_T25 ops y))).1.length c6) = w8_2 at HB BT BS BR HRO ⊢
            replace HRO := Aside0.mk (RowSO.set HRO.out HLT2.out BT.out (by decide) 2 (.int .i64 base.f0))
            replace BS := Aside0.mk (blk_far (p := ⟨tb, 2, none⟩) BS.out (show w.heap.size ≠ tb by have h1_ := HTB.out; have h2_ := HNX.out; omega) (.int .i64 base.f0))
            replace BR := Aside0.mk (blk_far (p := ⟨tb, 2, none⟩) BR.out (show w.heap.size + 1 ≠ tb by have h1_ := HTB.out; have h2_ := HNX.out; omega) (.int .i64 base.f0))
            replace HB := Aside0.mk (below_set (g := tb) HB.out HLT2.out (j := 2) (v := .int .i64 base.f0))
            replace BT := Aside0.mk (blk_put BT.out 2 (.int .i64 base.f0) (show (#[.slice AN nodes.length cN, .slice A6 (putO ⟨nodes, [], acc, base⟩ (rd_T25 ops y) (chkO (rd_T25 ops y))).1.length c6, .int .i64 base.f0, .int .i64 base.f1] : Array Value).setIfInBounds 2 (.int .i64 base.f0) = #[.slice AN nodes.length cN, .slice A6 (putO ⟨nodes, [], acc, base⟩ (rd_T25 ops y) (chkO (rd_T25 ops y))).1.length c6, .int .i64 base.f0, .int .i64 base.f1] from rfl))
            generalize w8_2.setCell ⟨tb, 2, none⟩ (.int .i64 base.f0) = w8_3 at HB BT BS BR HRO ⊢
            replace HRO := Aside0.mk (RowSO.set HRO.out HLT2.out BT.out (by decide) 3 (.int .i64 base.f1))
            replace BS := Aside0.mk (blk_far (p := ⟨tb, 3, none⟩) BS.out (show w.heap.size ≠ tb by have h1_ := HTB.out; have h2_ := HNX.out; omega) (.int .i64 base.f1))
            replace BR := Aside0.mk (blk_far (p := ⟨tb, 3, none⟩) BR.out (show w.heap.size + 1 ≠ tb by have h1_ := HTB.out; have h2_ := HNX.out; omega) (.int .i64 base.f1))
            replace HB := Aside0.mk (below_set (g := tb) HB.out HLT2.out (j := 3) (v := .int .i64 base.f1))
            replace BT := Aside0.mk (blk_put BT.out 3 (.int .i64 base.f1) (show (#[.slice AN nodes.length cN, .slice A6 (putO ⟨nodes, [], acc, base⟩ (rd_T25 ops y) (chkO (rd_T25 ops y))).1.length c6, .int .i64 base.f0, .int .i64 base.f1] : Array Value).setIfInBounds 3 (.int .i64 base.f1) = #[.slice AN nodes.length cN, .slice A6 (putO ⟨nodes, [], acc, base⟩ (rd_T25 ops y) (chkO (rd_T25 ops y))).1.length c6, .int .i64 base.f0, .int .i64 base.f1] from rfl))
            generalize w8_3.setCell ⟨tb, 3, none⟩ (.int .i64 base.f1) = w8 at HB BT BS BR HRO ⊢
            clear u0 u1 u2 u3 uf0 uf1 uf2 uf3 t0 t1 t2 t3 tf0 tf1 tf2 tf3
            go_wp2
            go_roundg k3
            case measure => exact Nat.lt_succ_self _
            case rel => exact ⟨y + 1, _, _, _, ⟨by have := HK3.out; have := H1.out; omega⟩, (by first | rfl | rw [hw3]), BT, HRO, HIN, ⟨HIV.out.1⟩, ⟨HIV.out.2⟩, HX, BS, BR, HB⟩
      · have b3 : decide (y < (ops.length : Int)) = false := decide_eq_false hyo
        have HX := Aside0.mk (show putAll (T0 base nodes) ops = (acc, 0) by
         rw [← HPA.out, show y.toNat = ops.length by have := HK3.out; omega, List.drop_length]; rfl)
        clear hyo
        obtain ⟨n0, n1, n2, n3, nf0, nf1, nf2, nf3⟩ := Z4 BR.out
        go_wp2
        try simp only [Exit.inBlock, Exit.then]
        refine bodyPost_ret (results_ct rfl _ _ (w.heap.size + 1) 45 #[.slice AN nodes.length cN, .slice A5 acc.length c5, .int .i64 base.f0, .int .i64 base.f1] (0, 0) _ rfl (blk_put (blk_put (blk_put (blk_put (BR.out) 0 _ rfl) 1 _ rfl) 2 _ rfl) 3 _ rfl) Tryd.underlying45 rfl (by kernel_rfl)) rfl ?_
        exact ROfSpec.good HSO.out HX.out (RowSO.set (RowSO.set (RowSO.set (RowSO.set (HQ.out) hg (BR.out) (by decide) 0 _) hg (blk_put (BR.out) 0 _ rfl) (by decide) 1 _) hg (blk_put (blk_put (BR.out) 0 _ rfl) 1 _ rfl) (by decide) 2 _) hg (blk_put (blk_put (blk_put (BR.out) 0 _ rfl) 1 _ rfl) 2 _ rfl) (by decide) 3 _) HNW.out (below_set (below_set (below_set (below_set (HB.out) hg) hg) hg) hg)
end Go.Proofs.YtlfgdaiegefjiaaDoor.S
