/- The document's tree: one operation more. -/
import Derived.Test.YtiffeljmeahmkaaDoorRA
import Derived.Test.YtiffeljmeahmkaaDoorPa
namespace Go.Proofs.YtiffeljmeahmkaaDoor.S
open Go.RowKit Go.Proofs.YtiffeljmeahmkaaDoorW.PrintWords Go.Proofs.YtiffeljmeahmkaaDoorW.PrintLast Go.Proofs.YtiffeljmeahmkaaDoorW.PrintMore
set_option linter.unusedVariables false
set_option linter.unusedSimpArgs false
attribute [local go_sem high] eqA25
theorem ap_hit {l : List Opn} (hs : Sorted l) {x : Int} {s : Stp} (h0 : 0 ≤ x) (h1 : x < l.length) (h : (rd_T28 l x).f1 = s) : isIn l s = true := by
  have hr := ranks l s hs
  have hx := hr.2 x h0 h1
  rw [h, less_irr] at hx
  have hle : (rank l s : Int) ≤ x := by have := of_decide_eq_false hx.symm; omega
  have hlt : rank l s < l.length := by omega
  have hq := hr.2 (rank l s : Int) (by omega) (by omega)
  rw [decide_eq_false (by omega)] at hq
  unfold isIn found
  rw [decide_eq_true hlt, Bool.true_and]
  by_cases he : (rank l s : Int) = x
  · rw [he, h]; exact eqS_self s
  · exfalso
    obtain ⟨i, hi, hii, e1⟩ := rd_is l (rank l s : Int) (by omega) (by omega)
    obtain ⟨k, hk, hkk, e2⟩ := rd_is l x h0 h1
    have hp := List.pairwise_iff_getElem.1 hs i k hi hk (by omega)
    rw [e2] at h
    rw [e1] at hq
    rw [h, hq] at hp
    cases hp
theorem ap_none {l : List Opn} {s : Stp} (h : ∀ i : Nat, i < l.length → (rd_T28 l (i : Int)).f1 ≠ s) : isIn l s = false := by
  unfold isIn found
  by_cases hr : rank l s < l.length
  · rw [eqS_false (h _ hr), Bool.and_false]
  · rw [decide_eq_false hr, Bool.false_and]
theorem ap_less {l : List Opn} (hs : Sorted l) {x : Int} {s : Stp} (h0 : 0 ≤ x) (h1 : x < l.length) (h : (rd_T28 l x).f1 ≠ s) : lessB s (rd_T28 l x).f1 = decide ((rank l s : Int) ≤ x) := by
  have hx := (ranks l s hs).2 x h0 h1
  by_cases hr : x < (rank l s : Int)
  · rw [decide_eq_true hr] at hx
    rw [decide_eq_false (by omega)]
    cases hq : lessB s (rd_T28 l x).f1 with
    | false => rfl
    | true => exact (less_asym _ _ hx hq).elim
  · rw [decide_eq_false hr] at hx
    rw [decide_eq_true (by omega)]
    rcases less_or _ _ hx with e | e
    · exact absurd (eqS_iff.1 e) h
    · exact e
theorem ap_creates (l : List Opn) {x : Int} {j : Nat} (h0 : 0 ≤ x) (h1 : x < l.length) (hj : (j : Int) = x + 1) : creates (l.drop x.toNat) = (if (rd_T28 l x).f0 = 1 then 1 else 0) + creates (l.drop j) := by
  obtain ⟨i, hi, hii, e⟩ := rd_is l x h0 h1
  obtain rfl : j = i + 1 := by omega
  rw [e, show x.toNat = i by omega, List.drop_eq_getElem_cons hi]
  unfold creates
  rw [List.filter_cons]
  by_cases h : l[i].f0 = 1
  · rw [if_pos (by simp [h]), if_pos h, List.length_cons]; omega
  · rw [if_neg (by simp [h]), if_neg h]; omega
/-- What the document's Apply makes of operations, and its answer. -/
def fullA (n : Nat) (ops : List Opn) (o : Opn) : Bool := decide (512 ≤ ops.length) || (o.f0 == 1 && decide (512 ≤ n + creates ops))
def putA (n : Nat) (ops : List Opn) (b : Stp) (o : Opn) (m : Bool) : List Opn × Int :=
  if (m && lessB b o.f1) = false then (ops, 1) else if isIn ops o.f1 = true then (ops, 0) else if fullA n ops o = true then (ops, 2) else (insO ops o, 0)
set_option maxHeartbeats 16000000 in
set_option maxRecDepth 100000 in
theorem rApply_calls (w : World) (vF vO : Value) (fx : List Nod) (ops : List Opn) (b : Stp) (o : Opn) (k : Nat) (m : Bool) (hF : RowN w vF fx) (hO : RowO w vO ops) (hm : Go.Proofs.YtiffeljmeahmkaaDoor.V.samphireref11_May.f k o.f0 o.f1.f0 o.f1.f1 o.f2.f0 o.f2.f1 o.f3.f0 o.f3.f1 o.f4 o.f5 = some m) (hs : Sorted ops) (hol : ops.length ≤ 100000) (hfl : fx.length ≤ 100000) :
    Calls Tryd.prog 21 #[.agg (trCells vF vO b), opVal o] w fun e w' => ∃ v', e = .returned (.tuple #[.agg (trCells vF v' b), .int .i64 (putA fx.length ops b o m).2]) ∧ RowO w' v' (putA fx.length ops b o m).1 ∧ ((v' = vO ∧ (putA fx.length ops b o m).1 = ops) ∨ (Typed w' 28 v' ∧ Newer w.heap.size v')) ∧ Below w.heap.size w w' := by
  have hu := Tryd.underlying50
  have hu1 := Tryd.underlying25
  have hu2 := Tryd.underlying28
  obtain ⟨AF, cF, rfl, hcF, hCF⟩ := hF
  obtain ⟨AO, cO, rfl, hcO, hCO⟩ := hO
  have HF := Aside0.mk (show RowN w (.slice AF fx.length cF) fx from ⟨AF, cF, rfl, hcF, hCF⟩)
  have HO := Aside0.mk (show RowO w (.slice AO ops.length cO) ops from ⟨AO, cO, rfl, hcO, hCO⟩)
  obtain ⟨bt, bo, bn, hb⟩ := three_new w (.cells (trCells (.slice AF fx.length cF) (.slice AO ops.length cO) b) 50) (.cells (opCells o) 28) (.cells #[.slice none 0 0, .slice none 0 0, .int .i64 0, .int .i64 0] 50)
  have BT := Aside0.mk bt
  have BO := Aside0.mk bo
  have BN := Aside0.mk bn
  have HB := Aside0.mk hb
  have HM := Aside0.mk hm
  have HS := Aside0.mk hs
  have HOL := Aside0.mk hol
  have HFL := Aside0.mk hfl
  have hg : w.heap.size ≤ w.heap.size + 1 + 1 := by omega
  clear bt bo bn hb hcF hCF hcO hCO hm hs hol hfl
  go_enter Tryd.func21, Tryd.ntmps21
  obtain ⟨y0, y1, y2, y3, y4, y5, y6, y7, y8, yf⟩ := Z9 BO.out
  obtain ⟨z0, z1, z2, z3, zf⟩ := Z4 BT.out
  cases m with
  | false =>
    have HP := Aside0.mk (show putA fx.length ops b o false = (ops, 1) from rfl)
    go_upto_region 2 with (go_at_call 47; refine (Go.Proofs.YtiffeljmeahmkaaDoor.V.samphireref11_May.calls k _ _ _ _ _ _ _ _ _ _ _ HM.out).mono ?_; rintro e w2 ⟨rfl, hb2⟩; replace BT := Aside0.mk (blk_below BT.out hb2); replace BO := Aside0.mk (blk_below BO.out hb2); replace BN := Aside0.mk (blk_below BN.out hb2); replace HB := Aside0.mk (below_then HB.out HB.out.size hb2); clear hb2 y0 y1 y2 y3 y4 y5 y6 y7 y8 yf z0 z1 z2 z3 zf; obtain ⟨y0, y1, y2, y3, y4, y5, y6, y7, y8, yf⟩ := Z9 BO.out; obtain ⟨z0, z1, z2, z3, zf⟩ := Z4 BT.out)
    obtain ⟨n0, n1, n2, n3, nf0, nf1, nf2, nf3⟩ := Z4 BN.out
    go_wp2
    try simp only [Exit.inBlock, Exit.then]
    refine bodyPost_ret (results_ct rfl _ _ (w.heap.size + 1 + 1) 50 #[.slice AF fx.length cF, (.slice AO ops.length cO), .int .i64 b.f0, .int .i64 b.f1] (0, 0) _ rfl (blk_put (blk_put (blk_put (blk_put (BN.out) 0 _ rfl) 1 _ rfl) 2 _ rfl) 3 _ rfl) Tryd.underlying50 rfl (by kernel_rfl)) rfl ?_
    exact ⟨(.slice AO ops.length cO), by rw [HP.out]; rfl, by rw [HP.out]; exact HO.out.below (below_set (below_set (below_set (below_set (HB.out) hg) hg) hg) hg), by rw [HP.out]; exact .inl ⟨rfl, rfl⟩, below_set (below_set (below_set (below_set (HB.out) hg) hg) hg) hg⟩
  | true =>
    have HLS := Aside0.mk (ref10_less b o.f1)
    generalize hle : lessB b o.f1 = le at HLS
    cases le with
    | false =>
      have HP := Aside0.mk (show putA fx.length ops b o true = (ops, 1) by unfold putA; rw [hle]; rfl)
      clear hle
      go_upto_region 2 with (first | (go_at_call 47; refine (Go.Proofs.YtiffeljmeahmkaaDoor.V.samphireref11_May.calls k _ _ _ _ _ _ _ _ _ _ _ HM.out).mono ?_; rintro e w2 ⟨rfl, hb2⟩; replace BT := Aside0.mk (blk_below BT.out hb2); replace BO := Aside0.mk (blk_below BO.out hb2); replace BN := Aside0.mk (blk_below BN.out hb2); replace HB := Aside0.mk (below_then HB.out HB.out.size hb2); clear hb2 y0 y1 y2 y3 y4 y5 y6 y7 y8 yf z0 z1 z2 z3 zf; obtain ⟨y0, y1, y2, y3, y4, y5, y6, y7, y8, yf⟩ := Z9 BO.out; obtain ⟨z0, z1, z2, z3, zf⟩ := Z4 BT.out) | (go_at_call 18; refine (samphireref10_Less.calls _ _ _ _ _ _ HLS.out).mono ?_; rintro e w3 ⟨rfl, hb2⟩; replace BT := Aside0.mk (blk_below BT.out hb2); replace BO := Aside0.mk (blk_below BO.out hb2); replace BN := Aside0.mk (blk_below BN.out hb2); replace HB := Aside0.mk (below_then HB.out HB.out.size hb2); clear hb2))
      clear y0 y1 y2 y3 y4 y5 y6 y7 y8 yf z0 z1 z2 z3 zf
      obtain ⟨y0, y1, y2, y3, y4, y5, y6, y7, y8, yf⟩ := Z9 BO.out
      obtain ⟨z0, z1, z2, z3, zf⟩ := Z4 BT.out
      obtain ⟨n0, n1, n2, n3, nf0, nf1, nf2, nf3⟩ := Z4 BN.out
      go_wp2
      try simp only [Exit.inBlock, Exit.then]
      refine bodyPost_ret (results_ct rfl _ _ (w.heap.size + 1 + 1) 50 #[.slice AF fx.length cF, (.slice AO ops.length cO), .int .i64 b.f0, .int .i64 b.f1] (0, 0) _ rfl (blk_put (blk_put (blk_put (blk_put (BN.out) 0 _ rfl) 1 _ rfl) 2 _ rfl) 3 _ rfl) Tryd.underlying50 rfl (by kernel_rfl)) rfl ?_
      exact ⟨(.slice AO ops.length cO), by rw [HP.out]; rfl, by rw [HP.out]; exact HO.out.below (below_set (below_set (below_set (below_set (HB.out) hg) hg) hg) hg), by rw [HP.out]; exact .inl ⟨rfl, rfl⟩, below_set (below_set (below_set (below_set (HB.out) hg) hg) hg) hg⟩
    | true =>
      have HLE := Aside0.mk hle
      clear hle
      have hol2 := HOL.out
      have hw0 : wrap64 ((ops.length : Int) - 1) = (ops.length : Int) - 1 := by unfold wrap64; omega
      go_upto_region 3 with (first | (go_at_call 47; refine (Go.Proofs.YtiffeljmeahmkaaDoor.V.samphireref11_May.calls k _ _ _ _ _ _ _ _ _ _ _ HM.out).mono ?_; rintro e w2 ⟨rfl, hb2⟩; replace BT := Aside0.mk (blk_below BT.out hb2); replace BO := Aside0.mk (blk_below BO.out hb2); replace BN := Aside0.mk (blk_below BN.out hb2); replace HB := Aside0.mk (below_then HB.out HB.out.size hb2); clear hb2 y0 y1 y2 y3 y4 y5 y6 y7 y8 yf z0 z1 z2 z3 zf; obtain ⟨y0, y1, y2, y3, y4, y5, y6, y7, y8, yf⟩ := Z9 BO.out; obtain ⟨z0, z1, z2, z3, zf⟩ := Z4 BT.out) | (go_at_call 18; refine (samphireref10_Less.calls _ _ _ _ _ _ HLS.out).mono ?_; rintro e w3 ⟨rfl, hb2⟩; replace BT := Aside0.mk (blk_below BT.out hb2); replace BO := Aside0.mk (blk_below BO.out hb2); replace BN := Aside0.mk (blk_below BN.out hb2); replace HB := Aside0.mk (below_then HB.out HB.out.size hb2); clear hb2))
      clear y0 y1 y2 y3 y4 y5 y6 y7 y8 yf z0 z1 z2 z3 zf
      obtain ⟨y0, y1, y2, y3, y4, y5, y6, y7, y8, yf⟩ := Z9 BO.out
      obtain ⟨z0, z1, z2, z3, zf⟩ := Z4 BT.out
      go_wp2_with fail
      try go_frame
      obtain ⟨R, hR⟩ : ∃ R, R = rank ops o.f1 := ⟨_, rfl⟩
      have HR := Aside0.mk hR
      have HRL := Aside0.mk (show R ≤ ops.length by rw [hR]; exact rank_le _ _)
      clear hR hol2
      go_loopg [6, 7, 8] (ops.length + 1) (fun kq pc pk p wr => ∃ (x : Int) (j c : Nat), Aside0 ((j : Int) = x + 1 ∧ kq = j + 1 ∧ j ≤ ops.length ∧ c = fx.length + creates (ops.drop j)) ∧ p = .int .i64 x ∧ pk = .int .i64 ((max j R : Nat) : Int) ∧ pc = .int .i64 (c : Int) ∧ Aside0 (∀ i : Nat, j ≤ i → i < ops.length → (rd_T28 ops (i : Int)).f1 ≠ o.f1) ∧ Aside0 (wr.heap[w.heap.size]? = some (.cells (trCells (.slice AF fx.length cF) (.slice AO ops.length cO) b) 50 (0, 0))) ∧ Aside0 (wr.heap[w.heap.size + 1]? = some (.cells (opCells o) 28 (0, 0))) ∧ Aside0 (wr.heap[w.heap.size + 1 + 1]? = some (.cells #[.slice none 0 0, .slice none 0 0, .int .i64 0, .int .i64 0] 50 (0, 0))) ∧ Aside0 (Below w.heap.size w wr))
      case atStart => exact ⟨(ops.length : Int) - 1, ops.length, fx.length, ⟨by omega, rfl, Nat.le_refl _, by rw [List.drop_length]; rfl⟩, (by first | rfl | rw [hw0]), (by rw [Nat.max_eq_left HRL.out]), rfl, ⟨fun i h1 h2 => by omega⟩, BT, BO, BN, HB⟩
      case round =>
        clear y0 y1 y2 y3 y4 y5 y6 y7 y8 yf z0 z1 z2 z3 zf BT BO BN HB
        obtain ⟨x, j, c, HK, rfl, rfl, rfl, HJ, BT, BO, BN, HB⟩ := hrel
        obtain ⟨k1, rfl⟩ : ∃ k1, gk = k1 + 1 := ⟨j, HK.out.2.1⟩
        obtain ⟨y0, y1, y2, y3, y4, y5, y6, y7, y8, yf⟩ := Z9 BO.out
        obtain ⟨z0, z1, z2, z3, zf⟩ := Z4 BT.out
        by_cases hx : 0 ≤ x
        · have b1 : decide (0 ≤ x) = true := decide_eq_true hx
          have b2 : decide (x ≥ 0) = true := decide_eq_true hx
          have hxl : x < (ops.length : Int) := by have := HK.out; omega
          obtain ⟨ad, e, x0, x1, x2, x3, x4, x5, x6, x7, x8⟩ := at_T28 (HO.out.below HB.out).at.2.2 x hx hxl
          cases e
          have p1 := eq_true hx
          have q1 := eq_true hxl
          have H0 := Aside0.mk hx
          have H1 := Aside0.mk hxl
          have hol2 := HOL.out
          have hw1 : wrap64 (x - 1) = x - 1 := by unfold wrap64; omega
          clear hx hxl hol2
          go_upto_region 8 with fail
          go_still_tail 8, (by kernel_rfl)
          by_cases he : (rd_T28 ops x).f1 = o.f1
          · have HP := Aside0.mk (show putA fx.length ops b o true = (ops, 0) by unfold putA; rw [HLE.out, if_neg (by decide), if_pos (ap_hit HS.out H0.out H1.out he)])
            have e0 : (rd_T28 ops x).f1.f0 = o.f1.f0 := by rw [he]
            have e1 : (rd_T28 ops x).f1.f1 = o.f1.f1 := by rw [he]
            clear he
            go_upto_region 9 with fail
            clear e0 e1
            replace BT := Aside0.mk (blk_below BT.out (Below.refl _ _).drew)
            replace BO := Aside0.mk (blk_below BO.out (Below.refl _ _).drew)
            replace BN := Aside0.mk (blk_below BN.out (Below.refl _ _).drew)
            replace HB := Aside0.mk HB.out.drew
            clear y0 y1 y2 y3 y4 y5 y6 y7 y8 yf z0 z1 z2 z3 zf x0 x1 x2 x3 x4 x5 x6 x7 x8
            generalize wr.drew = wd1 at BT BO BN HB ⊢
            obtain ⟨y0, y1, y2, y3, y4, y5, y6, y7, y8, yf⟩ := Z9 BO.out
            obtain ⟨z0, z1, z2, z3, zf⟩ := Z4 BT.out
            obtain ⟨ad1, e, x0, x1, x2, x3, x4, x5, x6, x7, x8⟩ := at_T28 (HO.out.below HB.out).at.2.2 x H0.out H1.out
            cases e
            obtain ⟨n0, n1, n2, n3, nf0, nf1, nf2, nf3⟩ := Z4 BN.out
            go_wp2
            try simp only [Exit.inBlock, Exit.then]
            refine bodyPost_ret (results_ct rfl _ _ (w.heap.size + 1 + 1) 50 #[.slice AF fx.length cF, (.slice (some ad) ops.length cO), .int .i64 b.f0, .int .i64 b.f1] (0, 0) _ rfl (blk_put (blk_put (blk_put (blk_put (BN.out) 0 _ rfl) 1 _ rfl) 2 _ rfl) 3 _ rfl) Tryd.underlying50 rfl (by kernel_rfl)) rfl ?_
            exact ⟨(.slice (some ad) ops.length cO), by rw [HP.out]; rfl, by rw [HP.out]; exact HO.out.below (below_set (below_set (below_set (below_set (HB.out) hg) hg) hg) hg), by rw [HP.out]; exact .inl ⟨rfl, rfl⟩, below_set (below_set (below_set (below_set (HB.out) hg) hg) hg) hg⟩
          · have HN := Aside0.mk he
            have HC := Aside0.mk (ap_creates ops H0.out H1.out HK.out.1)
            have hal := ap_less HS.out H0.out H1.out he
            rw [← HR.out] at hal
            have HLS2 := Aside0.mk (ref10_less o.f1 (rd_T28 ops x).f1)
            obtain ⟨e0, e1⟩ := stp_ne he
            clear he
            go_upto_region 10 with fail
            clear e0 e1
            replace BT := Aside0.mk (blk_below BT.out (Below.refl _ _).drew)
            replace BO := Aside0.mk (blk_below BO.out (Below.refl _ _).drew)
            replace BN := Aside0.mk (blk_below BN.out (Below.refl _ _).drew)
            replace HB := Aside0.mk HB.out.drew
            clear y0 y1 y2 y3 y4 y5 y6 y7 y8 yf z0 z1 z2 z3 zf x0 x1 x2 x3 x4 x5 x6 x7 x8
            generalize wr.drew = wd2 at BT BO BN HB ⊢
            obtain ⟨y0, y1, y2, y3, y4, y5, y6, y7, y8, yf⟩ := Z9 BO.out
            obtain ⟨z0, z1, z2, z3, zf⟩ := Z4 BT.out
            obtain ⟨ad2, e, x0, x1, x2, x3, x4, x5, x6, x7, x8⟩ := at_T28 (HO.out.below HB.out).at.2.2 x H0.out H1.out
            cases e
            go_still_tail 8, (by kernel_rfl)
            replace BT := Aside0.mk (blk_below BT.out (Below.refl _ _).drew)
            replace BO := Aside0.mk (blk_below BO.out (Below.refl _ _).drew)
            replace BN := Aside0.mk (blk_below BN.out (Below.refl _ _).drew)
            replace HB := Aside0.mk HB.out.drew
            by_cases hr : (R : Int) ≤ x
            · rw [hal, decide_eq_true hr] at HLS2
              by_cases hk : (rd_T28 ops x).f0 = 1
              · have m1 : ((rd_T28 ops x).f0 == 1) = true := beq_iff_eq.2 hk
                have m2 : decide ((rd_T28 ops x).f0 = 1) = true := decide_eq_true hk
                have m3 : ((rd_T28 ops x).f0 = 1) = True := eq_true hk
                have hw2 : wrap64 ((c : Int) + 1) = (c : Int) + 1 := by
                  have h1 := HK.out.2.2.2
                  have h2 := HFL.out
                  have h3 := HOL.out
                  have h4 : creates (ops.drop j) ≤ ops.length := by
                    unfold creates
                    exact Nat.le_trans (List.length_filter_le _ _) (by rw [List.length_drop]; omega)
                  unfold wrap64; omega
                have hkk := Aside0.mk hk
                clear hk
                go_upto_region 12 with (go_at_call 18; refine (samphireref10_Less.calls _ _ _ _ _ _ HLS2.out).mono ?_; rintro e w3 ⟨rfl, hb2⟩; replace BT := Aside0.mk (blk_below BT.out hb2); replace BO := Aside0.mk (blk_below BO.out hb2); replace BN := Aside0.mk (blk_below BN.out hb2); replace HB := Aside0.mk (below_then HB.out HB.out.size hb2); clear hb2)
                clear hal
                clear y0 y1 y2 y3 y4 y5 y6 y7 y8 yf z0 z1 z2 z3 zf
                obtain ⟨y0, y1, y2, y3, y4, y5, y6, y7, y8, yf⟩ := Z9 BO.out
                obtain ⟨z0, z1, z2, z3, zf⟩ := Z4 BT.out
                clear x0 x1 x2 x3 x4 x5 x6 x7 x8
                obtain ⟨ad3, e, x0, x1, x2, x3, x4, x5, x6, x7, x8⟩ := at_T28 (HO.out.below HB.out).at.2.2 x H0.out H1.out
                cases e
                go_wp2
                go_roundg k1
                case measure => exact Nat.lt_succ_self _
                case rel => exact ⟨x - 1, x.toNat, c + 1, ⟨by have := HK.out; have := H0.out; omega, by have := HK.out; have := H0.out; omega, by have := HK.out; have := H0.out; omega, by rw [HC.out]; have := HK.out; rw [if_pos hkk.out]; omega⟩, (by first | rfl | rw [hw1]), (by first | exact congrArg (Value.int .i64) (by have := HK.out; have := H0.out; omega)), (by first | rfl | exact congrArg (Value.int .i64) (by omega) | (rw [hw2]; exact congrArg (Value.int .i64) (by omega))), ⟨fun i h1 h2 => by
                    by_cases hi : (i : Int) = x
                    · rw [hi]; exact HN.out
                    · exact HJ.out i (by have := HK.out; have := H0.out; omega) h2⟩, BT, BO, BN, HB⟩
              · have m1 : ((rd_T28 ops x).f0 == 1) = false := beq_eq_false_iff_ne.2 hk
                have m2 : decide ((rd_T28 ops x).f0 = 1) = false := decide_eq_false hk
                have m3 : ((rd_T28 ops x).f0 = 1) = False := eq_false hk
                have hw2 := True.intro
                have hkk := Aside0.mk hk
                clear hk
                go_upto_region 12 with (go_at_call 18; refine (samphireref10_Less.calls _ _ _ _ _ _ HLS2.out).mono ?_; rintro e w3 ⟨rfl, hb2⟩; replace BT := Aside0.mk (blk_below BT.out hb2); replace BO := Aside0.mk (blk_below BO.out hb2); replace BN := Aside0.mk (blk_below BN.out hb2); replace HB := Aside0.mk (below_then HB.out HB.out.size hb2); clear hb2)
                clear hal
                clear y0 y1 y2 y3 y4 y5 y6 y7 y8 yf z0 z1 z2 z3 zf
                obtain ⟨y0, y1, y2, y3, y4, y5, y6, y7, y8, yf⟩ := Z9 BO.out
                obtain ⟨z0, z1, z2, z3, zf⟩ := Z4 BT.out
                clear x0 x1 x2 x3 x4 x5 x6 x7 x8
                obtain ⟨ad3, e, x0, x1, x2, x3, x4, x5, x6, x7, x8⟩ := at_T28 (HO.out.below HB.out).at.2.2 x H0.out H1.out
                cases e
                go_wp2
                go_roundg k1
                case measure => exact Nat.lt_succ_self _
                case rel => exact ⟨x - 1, x.toNat, c, ⟨by have := HK.out; have := H0.out; omega, by have := HK.out; have := H0.out; omega, by have := HK.out; have := H0.out; omega, by rw [HC.out]; have := HK.out; rw [if_neg hkk.out]; omega⟩, (by first | rfl | rw [hw1]), (by first | exact congrArg (Value.int .i64) (by have := HK.out; have := H0.out; omega)), (by first | rfl | exact congrArg (Value.int .i64) (by omega) | (rw [hw2]; exact congrArg (Value.int .i64) (by omega))), ⟨fun i h1 h2 => by
                    by_cases hi : (i : Int) = x
                    · rw [hi]; exact HN.out
                    · exact HJ.out i (by have := HK.out; have := H0.out; omega) h2⟩, BT, BO, BN, HB⟩
            · rw [hal, decide_eq_false hr] at HLS2
              by_cases hk : (rd_T28 ops x).f0 = 1
              · have m1 : ((rd_T28 ops x).f0 == 1) = true := beq_iff_eq.2 hk
                have m2 : decide ((rd_T28 ops x).f0 = 1) = true := decide_eq_true hk
                have m3 : ((rd_T28 ops x).f0 = 1) = True := eq_true hk
                have hw2 : wrap64 ((c : Int) + 1) = (c : Int) + 1 := by
                  have h1 := HK.out.2.2.2
                  have h2 := HFL.out
                  have h3 := HOL.out
                  have h4 : creates (ops.drop j) ≤ ops.length := by
                    unfold creates
                    exact Nat.le_trans (List.length_filter_le _ _) (by rw [List.length_drop]; omega)
                  unfold wrap64; omega
                have hkk := Aside0.mk hk
                clear hk
                go_upto_region 12 with (go_at_call 18; refine (samphireref10_Less.calls _ _ _ _ _ _ HLS2.out).mono ?_; rintro e w3 ⟨rfl, hb2⟩; replace BT := Aside0.mk (blk_below BT.out hb2); replace BO := Aside0.mk (blk_below BO.out hb2); replace BN := Aside0.mk (blk_below BN.out hb2); replace HB := Aside0.mk (below_then HB.out HB.out.size hb2); clear hb2)
                clear hal
                clear y0 y1 y2 y3 y4 y5 y6 y7 y8 yf z0 z1 z2 z3 zf
                obtain ⟨y0, y1, y2, y3, y4, y5, y6, y7, y8, yf⟩ := Z9 BO.out
                obtain ⟨z0, z1, z2, z3, zf⟩ := Z4 BT.out
                clear x0 x1 x2 x3 x4 x5 x6 x7 x8
                obtain ⟨ad3, e, x0, x1, x2, x3, x4, x5, x6, x7, x8⟩ := at_T28 (HO.out.below HB.out).at.2.2 x H0.out H1.out
                cases e
                go_wp2
                go_roundg k1
                case measure => exact Nat.lt_succ_self _
                case rel => exact ⟨x - 1, x.toNat, c + 1, ⟨by have := HK.out; have := H0.out; omega, by have := HK.out; have := H0.out; omega, by have := HK.out; have := H0.out; omega, by rw [HC.out]; have := HK.out; rw [if_pos hkk.out]; omega⟩, (by first | rfl | rw [hw1]), (by first | exact congrArg (Value.int .i64) (by have := HK.out; have := H0.out; omega)), (by first | rfl | exact congrArg (Value.int .i64) (by omega) | (rw [hw2]; exact congrArg (Value.int .i64) (by omega))), ⟨fun i h1 h2 => by
                    by_cases hi : (i : Int) = x
                    · rw [hi]; exact HN.out
                    · exact HJ.out i (by have := HK.out; have := H0.out; omega) h2⟩, BT, BO, BN, HB⟩
              · have m1 : ((rd_T28 ops x).f0 == 1) = false := beq_eq_false_iff_ne.2 hk
                have m2 : decide ((rd_T28 ops x).f0 = 1) = false := decide_eq_false hk
                have m3 : ((rd_T28 ops x).f0 = 1) = False := eq_false hk
                have hw2 := True.intro
                have hkk := Aside0.mk hk
                clear hk
                go_upto_region 12 with (go_at_call 18; refine (samphireref10_Less.calls _ _ _ _ _ _ HLS2.out).mono ?_; rintro e w3 ⟨rfl, hb2⟩; replace BT := Aside0.mk (blk_below BT.out hb2); replace BO := Aside0.mk (blk_below BO.out hb2); replace BN := Aside0.mk (blk_below BN.out hb2); replace HB := Aside0.mk (below_then HB.out HB.out.size hb2); clear hb2)
                clear hal
                clear y0 y1 y2 y3 y4 y5 y6 y7 y8 yf z0 z1 z2 z3 zf
                obtain ⟨y0, y1, y2, y3, y4, y5, y6, y7, y8, yf⟩ := Z9 BO.out
                obtain ⟨z0, z1, z2, z3, zf⟩ := Z4 BT.out
                clear x0 x1 x2 x3 x4 x5 x6 x7 x8
                obtain ⟨ad3, e, x0, x1, x2, x3, x4, x5, x6, x7, x8⟩ := at_T28 (HO.out.below HB.out).at.2.2 x H0.out H1.out
                cases e
                go_wp2
                go_roundg k1
                case measure => exact Nat.lt_succ_self _
                case rel => exact ⟨x - 1, x.toNat, c, ⟨by have := HK.out; have := H0.out; omega, by have := HK.out; have := H0.out; omega, by have := HK.out; have := H0.out; omega, by rw [HC.out]; have := HK.out; rw [if_neg hkk.out]; omega⟩, (by first | rfl | rw [hw1]), (by first | exact congrArg (Value.int .i64) (by have := HK.out; have := H0.out; omega)), (by first | rfl | exact congrArg (Value.int .i64) (by omega) | (rw [hw2]; exact congrArg (Value.int .i64) (by omega))), ⟨fun i h1 h2 => by
                    by_cases hi : (i : Int) = x
                    · rw [hi]; exact HN.out
                    · exact HJ.out i (by have := HK.out; have := H0.out; omega) h2⟩, BT, BO, BN, HB⟩
        · have hx2 : x = -1 := by have := HK.out; omega
          subst hx2
          obtain rfl : j = 0 := by have := HK.out; omega
          obtain rfl : c = fx.length + creates ops := by have := HK.out.2.2.2; rwa [List.drop_zero] at this
          rw [Nat.zero_max]
          clear hx
          have HI := Aside0.mk (ap_none (fun i h => HJ.out i (Nat.zero_le _) h))
          by_cases hf1 : 512 ≤ ops.length
          · have HP := Aside0.mk (show putA fx.length ops b o true = (ops, 2) by unfold putA; rw [HLE.out, if_neg (by decide), if_neg (by rw [HI.out]; decide), if_pos (by unfold fullA; rw [decide_eq_true hf1]; rfl)])
            have m1 : decide ((512 : Int) ≤ (ops.length : Int)) = true := decide_eq_true (by omega)
            have m2 : (512 ≤ ops.length) = True := eq_true hf1
            have m3 : decide ((ops.length : Int) ≥ 512) = true := decide_eq_true (by omega)
            clear hf1
            go_upto_region 15 with fail
            obtain ⟨n0, n1, n2, n3, nf0, nf1, nf2, nf3⟩ := Z4 BN.out
            go_wp2
            try simp only [Exit.inBlock, Exit.then]
            refine bodyPost_ret (results_ct rfl _ _ (w.heap.size + 1 + 1) 50 #[.slice AF fx.length cF, (.slice AO ops.length cO), .int .i64 b.f0, .int .i64 b.f1] (0, 0) _ rfl (blk_put (blk_put (blk_put (blk_put (BN.out) 0 _ rfl) 1 _ rfl) 2 _ rfl) 3 _ rfl) Tryd.underlying50 rfl (by kernel_rfl)) rfl ?_
            exact ⟨(.slice AO ops.length cO), by rw [HP.out]; rfl, by rw [HP.out]; exact HO.out.below (below_set (below_set (below_set (below_set (HB.out) hg) hg) hg) hg), by rw [HP.out]; exact .inl ⟨rfl, rfl⟩, below_set (below_set (below_set (below_set (HB.out) hg) hg) hg) hg⟩
          · have m1 : decide ((512 : Int) ≤ (ops.length : Int)) = false := decide_eq_false (by omega)
            have m2 : (512 ≤ ops.length) = False := eq_false hf1
            have m3 : decide ((ops.length : Int) ≥ 512) = false := decide_eq_false (by omega)
            have HF1 := Aside0.mk hf1
            clear hf1
            by_cases hk : o.f0 = 1
            · have m4 : (o.f0 == 1) = true := beq_iff_eq.2 hk
              have m5 : (o.f0 = 1) = True := eq_true hk
              have m6 : decide (o.f0 = 1) = true := decide_eq_true hk
              have HK1 := Aside0.mk hk
              clear hk
              by_cases hc : 512 ≤ fx.length + creates ops
              · have HP := Aside0.mk (show putA fx.length ops b o true = (ops, 2) by unfold putA; rw [HLE.out, if_neg (by decide), if_neg (by rw [HI.out]; decide), if_pos (by unfold fullA; rw [decide_eq_true hc, m4]; simp)])
                have m7 : decide ((512 : Int) ≤ ((fx.length + creates ops : Nat) : Int)) = true := decide_eq_true (by omega)
                have m8 : (512 ≤ fx.length + creates ops) = True := eq_true hc
                have m9 : decide (((fx.length + creates ops : Nat) : Int) ≥ 512) = true := decide_eq_true (by omega)
                generalize fx.length + creates ops = c at m7 m8 m9 ⊢
                clear hc
                go_upto_region 15 with fail
                obtain ⟨n0, n1, n2, n3, nf0, nf1, nf2, nf3⟩ := Z4 BN.out
                go_wp2
                try simp only [Exit.inBlock, Exit.then]
                refine bodyPost_ret (results_ct rfl _ _ (w.heap.size + 1 + 1) 50 #[.slice AF fx.length cF, (.slice AO ops.length cO), .int .i64 b.f0, .int .i64 b.f1] (0, 0) _ rfl (blk_put (blk_put (blk_put (blk_put (BN.out) 0 _ rfl) 1 _ rfl) 2 _ rfl) 3 _ rfl) Tryd.underlying50 rfl (by kernel_rfl)) rfl ?_
                exact ⟨(.slice AO ops.length cO), by rw [HP.out]; rfl, by rw [HP.out]; exact HO.out.below (below_set (below_set (below_set (below_set (HB.out) hg) hg) hg) hg), by rw [HP.out]; exact .inl ⟨rfl, rfl⟩, below_set (below_set (below_set (below_set (HB.out) hg) hg) hg) hg⟩
              · have HP := Aside0.mk (show putA fx.length ops b o true = (insO ops o, 0) by unfold putA; rw [HLE.out, if_neg (by decide), if_neg (by rw [HI.out]; decide), if_neg (by unfold fullA; rw [decide_eq_false hc, decide_eq_false HF1.out]; simp)])
                have m7 : decide ((512 : Int) ≤ ((fx.length + creates ops : Nat) : Int)) = false := decide_eq_false (by omega)
                have m8 : (512 ≤ fx.length + creates ops) = False := eq_false hc
                have m9 : decide (((fx.length + creates ops : Nat) : Int) ≥ 512) = false := decide_eq_false (by omega)
                generalize fx.length + creates ops = c at m7 m8 m9 ⊢
                clear hc
                go_upto_region 16 with fail
                have HINS := Aside0.mk (show [] ++ ops.take R ++ [o] ++ ops.drop R = insO ops o by unfold insO; rw [← HR.out]; simp)
                obtain ⟨⟨s1, hs1, hp1⟩, ⟨s2, hs2, hp2, _⟩⟩ := HO.out.cut R HRL.out
                have HP1 := Aside0.mk hp1
                have HP2 := Aside0.mk hp2
                clear hp1 hp2 m1 m2 m3 m4 m5 m6
                have K1 := True.intro
                go_upto_region 20 with (first | (clear K1; at_builtin; refine wl_appO (B := w.heap.size + 1 + 1 + 1) (l := []) (ns := ops.take R) _ _ rfl rfl rfl (World.ownsRow_nil _ _ _ _) (blk_lt BN.out) (HP1.out.below HB.out) (by have := HOL.out; simp; omega) ?_; intro v1_ w1_ h1 h2 h3; have HA := Aside0.mk h1; replace BT := Aside0.mk ((h2 _ (by omega)).trans BT.out); replace BO := Aside0.mk ((h2 _ (by omega)).trans BO.out); replace BN := Aside0.mk ((h2 _ (by omega)).trans BN.out); replace HB := Aside0.mk (h3 HB.out (by omega)); clear y0 y1 y2 y3 y4 y5 y6 y7 y8 yf z0 z1 z2 z3 zf; obtain ⟨y0, y1, y2, y3, y4, y5, y6, y7, y8, yf⟩ := Z9 BO.out; obtain ⟨z0, z1, z2, z3, zf⟩ := Z4 BT.out; clear h1 h2 h3; have K2 := True.intro) | (clear K2; at_builtin; refine wl_appO (B := w.heap.size + 1 + 1 + 1) (l := [] ++ ops.take R) (ns := [o]) _ _ rfl rfl rfl (HA.out.alloc _) (by have := blk_lt BN.out; simp; omega) (one_part _ o) (by have := HOL.out; simp; omega) ?_; intro v2_ w2_ h1 h2 h3; have HA := Aside0.mk h1; replace BT := Aside0.mk ((h2 _ (by omega)).trans (blk_below BT.out (below_alloc (Below.refl _ _) _))); replace BO := Aside0.mk ((h2 _ (by omega)).trans (blk_below BO.out (below_alloc (Below.refl _ _) _))); replace BN := Aside0.mk ((h2 _ (by omega)).trans (blk_below BN.out (below_alloc (Below.refl _ _) _))); replace HB := Aside0.mk (h3 (below_alloc HB.out _) (by omega)); clear y0 y1 y2 y3 y4 y5 y6 y7 y8 yf z0 z1 z2 z3 zf; obtain ⟨y0, y1, y2, y3, y4, y5, y6, y7, y8, yf⟩ := Z9 BO.out; obtain ⟨z0, z1, z2, z3, zf⟩ := Z4 BT.out; clear h1 h2 h3; have K3 := True.intro) | (clear K3; at_builtin; refine wl_appO (B := w.heap.size + 1 + 1 + 1) (l := [] ++ ops.take R ++ [o]) (ns := ops.drop R) _ _ rfl rfl rfl HA.out (blk_lt BN.out) (HP2.out.below HB.out) (by have := HOL.out; simp; omega) ?_; intro v3_ w3_ h1 h2 h3; have HA := Aside0.mk h1; replace BT := Aside0.mk ((h2 _ (by omega)).trans BT.out); replace BO := Aside0.mk ((h2 _ (by omega)).trans BO.out); replace BN := Aside0.mk ((h2 _ (by omega)).trans BN.out); replace HB := Aside0.mk (h3 HB.out (by omega)); rw [HINS.out] at h1; replace HA := Aside0.mk h1; obtain ⟨A5, c5, e5, _, _⟩ := own_row h1; subst e5; clear y0 y1 y2 y3 y4 y5 y6 y7 y8 yf z0 z1 z2 z3 zf; obtain ⟨y0, y1, y2, y3, y4, y5, y6, y7, y8, yf⟩ := Z9 BO.out; obtain ⟨z0, z1, z2, z3, zf⟩ := Z4 BT.out; clear h1 h2 h3; have K4 := True.intro))
                replace BT := Aside0.mk (blk_put BT.out 1 (.slice A5 (insO ops o).length c5) rfl)
                replace BN := Aside0.mk (blk_far (p := ⟨w.heap.size, 1, none⟩) BN.out (show w.heap.size + 1 + 1 ≠ w.heap.size by omega) (.slice A5 (insO ops o).length c5))
                replace BO := Aside0.mk (blk_far (p := ⟨w.heap.size, 1, none⟩) BO.out (show w.heap.size + 1 ≠ w.heap.size by omega) (.slice A5 (insO ops o).length c5))
                replace HB := Aside0.mk (below_set HB.out (Nat.le_refl _) (j := 1) (v := .slice A5 (insO ops o).length c5))
                replace HA := Aside0.mk (ownsRow_setCell_below HA.out (a := ⟨w.heap.size, 1, none⟩) (show w.heap.size < w.heap.size + 1 + 1 + 1 by omega) (.slice A5 (insO ops o).length c5))
                generalize w3_.setCell ⟨w.heap.size, 1, none⟩ (.slice A5 (insO ops o).length c5) = w6 at BT BN BO HB HA ⊢
                clear y0 y1 y2 y3 y4 y5 y6 y7 y8 yf z0 z1 z2 z3 zf
                obtain ⟨y0, y1, y2, y3, y4, y5, y6, y7, y8, yf⟩ := Z9 BO.out
                obtain ⟨z0, z1, z2, z3, zf⟩ := Z4 BT.out
                obtain ⟨n0, n1, n2, n3, nf0, nf1, nf2, nf3⟩ := Z4 BN.out
                go_wp2
                try simp only [Exit.inBlock, Exit.then]
                refine bodyPost_ret (results_ct rfl _ _ (w.heap.size + 1 + 1) 50 #[.slice AF fx.length cF, (.slice A5 (insO ops o).length c5), .int .i64 b.f0, .int .i64 b.f1] (0, 0) _ rfl (blk_put (blk_put (blk_put (blk_put (BN.out) 0 _ rfl) 1 _ rfl) 2 _ rfl) 3 _ rfl) Tryd.underlying50 rfl (by kernel_rfl)) rfl ?_
                exact ⟨(.slice A5 (insO ops o).length c5), by rw [HP.out]; rfl, by rw [HP.out]; exact own_row (ownsRow_setCell_below (ownsRow_setCell_below (ownsRow_setCell_below (ownsRow_setCell_below HA.out (a := ⟨w.heap.size + 1 + 1, 0, none⟩) (show w.heap.size + 1 + 1 < w.heap.size + 1 + 1 + 1 by omega) _) (a := ⟨w.heap.size + 1 + 1, 1, none⟩) (show w.heap.size + 1 + 1 < w.heap.size + 1 + 1 + 1 by omega) _) (a := ⟨w.heap.size + 1 + 1, 2, none⟩) (show w.heap.size + 1 + 1 < w.heap.size + 1 + 1 + 1 by omega) _) (a := ⟨w.heap.size + 1 + 1, 3, none⟩) (show w.heap.size + 1 + 1 < w.heap.size + 1 + 1 + 1 by omega) _), by rw [HP.out]; exact .inr ⟨typed_own (ownsRow_setCell_below (ownsRow_setCell_below (ownsRow_setCell_below (ownsRow_setCell_below HA.out (a := ⟨w.heap.size + 1 + 1, 0, none⟩) (show w.heap.size + 1 + 1 < w.heap.size + 1 + 1 + 1 by omega) _) (a := ⟨w.heap.size + 1 + 1, 1, none⟩) (show w.heap.size + 1 + 1 < w.heap.size + 1 + 1 + 1 by omega) _) (a := ⟨w.heap.size + 1 + 1, 2, none⟩) (show w.heap.size + 1 + 1 < w.heap.size + 1 + 1 + 1 by omega) _) (a := ⟨w.heap.size + 1 + 1, 3, none⟩) (show w.heap.size + 1 + 1 < w.heap.size + 1 + 1 + 1 by omega) _), newer_own HA.out (by omega)⟩, below_set (below_set (below_set (below_set (HB.out) hg) hg) hg) hg⟩
            · have m4 : (o.f0 == 1) = false := beq_eq_false_iff_ne.2 hk
              have m5 : (o.f0 = 1) = False := eq_false hk
              have m6 : decide (o.f0 = 1) = false := decide_eq_false hk
              have HP := Aside0.mk (show putA fx.length ops b o true = (insO ops o, 0) by unfold putA; rw [HLE.out, if_neg (by decide), if_neg (by rw [HI.out]; decide), if_neg (by unfold fullA; rw [decide_eq_false HF1.out, m4]; simp)])
              clear hk
              generalize fx.length + creates ops = c
              go_upto_region 16 with fail
              have HINS := Aside0.mk (show [] ++ ops.take R ++ [o] ++ ops.drop R = insO ops o by unfold insO; rw [← HR.out]; simp)
              obtain ⟨⟨s1, hs1, hp1⟩, ⟨s2, hs2, hp2, _⟩⟩ := HO.out.cut R HRL.out
              have HP1 := Aside0.mk hp1
              have HP2 := Aside0.mk hp2
              clear hp1 hp2 m1 m2 m3 m4 m5 m6
              have K1 := True.intro
              go_upto_region 20 with (first | (clear K1; at_builtin; refine wl_appO (B := w.heap.size + 1 + 1 + 1) (l := []) (ns := ops.take R) _ _ rfl rfl rfl (World.ownsRow_nil _ _ _ _) (blk_lt BN.out) (HP1.out.below HB.out) (by have := HOL.out; simp; omega) ?_; intro v1_ w1_ h1 h2 h3; have HA := Aside0.mk h1; replace BT := Aside0.mk ((h2 _ (by omega)).trans BT.out); replace BO := Aside0.mk ((h2 _ (by omega)).trans BO.out); replace BN := Aside0.mk ((h2 _ (by omega)).trans BN.out); replace HB := Aside0.mk (h3 HB.out (by omega)); clear y0 y1 y2 y3 y4 y5 y6 y7 y8 yf z0 z1 z2 z3 zf; obtain ⟨y0, y1, y2, y3, y4, y5, y6, y7, y8, yf⟩ := Z9 BO.out; obtain ⟨z0, z1, z2, z3, zf⟩ := Z4 BT.out; clear h1 h2 h3; have K2 := True.intro) | (clear K2; at_builtin; refine wl_appO (B := w.heap.size + 1 + 1 + 1) (l := [] ++ ops.take R) (ns := [o]) _ _ rfl rfl rfl (HA.out.alloc _) (by have := blk_lt BN.out; simp; omega) (one_part _ o) (by have := HOL.out; simp; omega) ?_; intro v2_ w2_ h1 h2 h3; have HA := Aside0.mk h1; replace BT := Aside0.mk ((h2 _ (by omega)).trans (blk_below BT.out (below_alloc (Below.refl _ _) _))); replace BO := Aside0.mk ((h2 _ (by omega)).trans (blk_below BO.out (below_alloc (Below.refl _ _) _))); replace BN := Aside0.mk ((h2 _ (by omega)).trans (blk_below BN.out (below_alloc (Below.refl _ _) _))); replace HB := Aside0.mk (h3 (below_alloc HB.out _) (by omega)); clear y0 y1 y2 y3 y4 y5 y6 y7 y8 yf z0 z1 z2 z3 zf; obtain ⟨y0, y1, y2, y3, y4, y5, y6, y7, y8, yf⟩ := Z9 BO.out; obtain ⟨z0, z1, z2, z3, zf⟩ := Z4 BT.out; clear h1 h2 h3; have K3 := True.intro) | (clear K3; at_builtin; refine wl_appO (B := w.heap.size + 1 + 1 + 1) (l := [] ++ ops.take R ++ [o]) (ns := ops.drop R) _ _ rfl rfl rfl HA.out (blk_lt BN.out) (HP2.out.below HB.out) (by have := HOL.out; simp; omega) ?_; intro v3_ w3_ h1 h2 h3; have HA := Aside0.mk h1; replace BT := Aside0.mk ((h2 _ (by omega)).trans BT.out); replace BO := Aside0.mk ((h2 _ (by omega)).trans BO.out); replace BN := Aside0.mk ((h2 _ (by omega)).trans BN.out); replace HB := Aside0.mk (h3 HB.out (by omega)); rw [HINS.out] at h1; replace HA := Aside0.mk h1; obtain ⟨A5, c5, e5, _, _⟩ := own_row h1; subst e5; clear y0 y1 y2 y3 y4 y5 y6 y7 y8 yf z0 z1 z2 z3 zf; obtain ⟨y0, y1, y2, y3, y4, y5, y6, y7, y8, yf⟩ := Z9 BO.out; obtain ⟨z0, z1, z2, z3, zf⟩ := Z4 BT.out; clear h1 h2 h3; have K4 := True.intro))
              replace BT := Aside0.mk (blk_put BT.out 1 (.slice A5 (insO ops o).length c5) rfl)
              replace BN := Aside0.mk (blk_far (p := ⟨w.heap.size, 1, none⟩) BN.out (show w.heap.size + 1 + 1 ≠ w.heap.size by omega) (.slice A5 (insO ops o).length c5))
              replace BO := Aside0.mk (blk_far (p := ⟨w.heap.size, 1, none⟩) BO.out (show w.heap.size + 1 ≠ w.heap.size by omega) (.slice A5 (insO ops o).length c5))
              replace HB := Aside0.mk (below_set HB.out (Nat.le_refl _) (j := 1) (v := .slice A5 (insO ops o).length c5))
              replace HA := Aside0.mk (ownsRow_setCell_below HA.out (a := ⟨w.heap.size, 1, none⟩) (show w.heap.size < w.heap.size + 1 + 1 + 1 by omega) (.slice A5 (insO ops o).length c5))
              generalize w3_.setCell ⟨w.heap.size, 1, none⟩ (.slice A5 (insO ops o).length c5) = w6 at BT BN BO HB HA ⊢
              clear y0 y1 y2 y3 y4 y5 y6 y7 y8 yf z0 z1 z2 z3 zf
              obtain ⟨y0, y1, y2, y3, y4, y5, y6, y7, y8, yf⟩ := Z9 BO.out
              obtain ⟨z0, z1, z2, z3, zf⟩ := Z4 BT.out
              obtain ⟨n0, n1, n2, n3, nf0, nf1, nf2, nf3⟩ := Z4 BN.out
              go_wp2
              try simp only [Exit.inBlock, Exit.then]
              refine bodyPost_ret (results_ct rfl _ _ (w.heap.size + 1 + 1) 50 #[.slice AF fx.length cF, (.slice A5 (insO ops o).length c5), .int .i64 b.f0, .int .i64 b.f1] (0, 0) _ rfl (blk_put (blk_put (blk_put (blk_put (BN.out) 0 _ rfl) 1 _ rfl) 2 _ rfl) 3 _ rfl) Tryd.underlying50 rfl (by kernel_rfl)) rfl ?_
              exact ⟨(.slice A5 (insO ops o).length c5), by rw [HP.out]; rfl, by rw [HP.out]; exact own_row (ownsRow_setCell_below (ownsRow_setCell_below (ownsRow_setCell_below (ownsRow_setCell_below HA.out (a := ⟨w.heap.size + 1 + 1, 0, none⟩) (show w.heap.size + 1 + 1 < w.heap.size + 1 + 1 + 1 by omega) _) (a := ⟨w.heap.size + 1 + 1, 1, none⟩) (show w.heap.size + 1 + 1 < w.heap.size + 1 + 1 + 1 by omega) _) (a := ⟨w.heap.size + 1 + 1, 2, none⟩) (show w.heap.size + 1 + 1 < w.heap.size + 1 + 1 + 1 by omega) _) (a := ⟨w.heap.size + 1 + 1, 3, none⟩) (show w.heap.size + 1 + 1 < w.heap.size + 1 + 1 + 1 by omega) _), by rw [HP.out]; exact .inr ⟨typed_own (ownsRow_setCell_below (ownsRow_setCell_below (ownsRow_setCell_below (ownsRow_setCell_below HA.out (a := ⟨w.heap.size + 1 + 1, 0, none⟩) (show w.heap.size + 1 + 1 < w.heap.size + 1 + 1 + 1 by omega) _) (a := ⟨w.heap.size + 1 + 1, 1, none⟩) (show w.heap.size + 1 + 1 < w.heap.size + 1 + 1 + 1 by omega) _) (a := ⟨w.heap.size + 1 + 1, 2, none⟩) (show w.heap.size + 1 + 1 < w.heap.size + 1 + 1 + 1 by omega) _) (a := ⟨w.heap.size + 1 + 1, 3, none⟩) (show w.heap.size + 1 + 1 < w.heap.size + 1 + 1 + 1 by omega) _), newer_own HA.out (by omega)⟩, below_set (below_set (below_set (below_set (HB.out) hg) hg) hg) hg⟩
end Go.Proofs.YtiffeljmeahmkaaDoor.S
/- The document's tree: what is for good. -/
namespace Go.Proofs.YtiffeljmeahmkaaDoor.S
open Go.RowKit Go.Proofs.YtiffeljmeahmkaaDoorW.PrintWords Go.Proofs.YtiffeljmeahmkaaDoorW.PrintLast Go.Proofs.YtiffeljmeahmkaaDoorW.PrintMore
set_option linter.unusedVariables false
set_option linter.unusedSimpArgs false
attribute [local go_sem high] eqA25
theorem RowSO.drop {B : Nat} {w : World} {v : Value} {l : List Opn} (h : RowSO B w v l) (k : Nat) (hk : k ≤ l.length) : ∃ A2 c2, (∀ W : World, (Instr.slice 39 v (some (.int .i64 (k : Int))) none none).run Tryd.prog W = .ok (.slice A2 (l.drop k).length c2) W) ∧ RowSO B w (.slice A2 (l.drop k).length c2) (l.drop k) ∧ (∀ S, InS S v (l = []) → InS S (.slice A2 (l.drop k).length c2) (l.drop k = [])) := by
  obtain ⟨⟨A, c, rfl, hc, hC⟩, hq⟩ := h
  have hbk : ∀ A' n' c', Value.slice (if c = k then A else A.map (·.add (k * 9))) (l.drop k).length (c - k) = .slice (some A') n' c' → ∃ ad, A = some ad ∧ A'.block = ad.block := by
    intro A' n' c' e
    cases A with
    | none => split at e <;> cases e
    | some ad =>
      refine ⟨ad, rfl, ?_⟩
      split at e
      · cases e; rfl
      · cases e; exact add_block _ _
  refine ⟨if c = k then A else A.map (·.add (k * 9)), c - k, fun W => by rw [List.length_drop]; exact slice_low W A l.length c k hk, ⟨⟨_, c - k, rfl, by rw [List.length_drop]; omega, rfl, ?_, fun hp => ?_⟩, fun A' n' c' e => ?_⟩, fun S hS A' n' c' e => ?_⟩
  · have := hC.2.1
    rw [List.length_drop]
    omega
  · rw [List.length_drop] at hp
    obtain ⟨ad, e, hcl⟩ := hC.2.2 (by omega)
    subst e
    rw [if_neg (by omega)]
    refine ⟨ad.add (k * 9), rfl, fun j p hj => ?_⟩
    rw [List.getElem?_drop] at hj
    obtain ⟨cs, h1, h2, h3⟩ := hcl (k + j) p hj
    refine ⟨cs, h1, h2, fun i u hu => ?_⟩
    have := h3 i u hu
    rw [Addr.add_add, show k * 9 + (j * k28.sz + i) = (k + j) * k28.sz + i by rw [show k28.sz = 9 from rfl]; omega]
    exact this
  · obtain ⟨ad, rfl, hbl⟩ := hbk _ _ _ e
    rw [hbl]
    rcases hq ad _ _ rfl with q | q
    · exact .inl (by rw [q]; simp)
    · exact .inr q
  · obtain ⟨ad, rfl, hbl⟩ := hbk _ _ _ e
    rw [hbl]
    rcases hS ad _ _ rfl with q | q
    · exact .inl (by rw [q]; simp)
    · exact .inr q
end Go.Proofs.YtiffeljmeahmkaaDoor.S
/- Both trees, the program's and the document's, side by side; the law's same. -/
namespace Go.Proofs.YtiffeljmeahmkaaDoor.S
open Go.RowKit Go.Proofs.YtiffeljmeahmkaaDoorW.PrintWords Go.Proofs.YtiffeljmeahmkaaDoorW.PrintLast Go.Proofs.YtiffeljmeahmkaaDoorW.PrintMore
set_option linter.unusedVariables false
set_option linter.unusedSimpArgs false
attribute [local go_sem high] eqA25
abbrev marksRj_0 : Array Bool := #[false, false, false, false, false, false, false, false, false, false, false, false, false, false, false, false, false, false, false, false, false, false, false, false, false, false, false]
abbrev marksRj_1 : Array Bool := #[true, false, false, false, false, false, false, false, false, false, false, false, false, false, false, false, false, false, false, false, false, false, false, false, false, false, false]
abbrev marksRj_2 : Array Bool := #[true, false, true, false, false, false, false, false, false, false, false, false, false, false, false, false, false, false, false, false, false, false, false, false, false, false, false]
abbrev marksRj_3 : Array Bool := #[true, true, true, false, false, false, false, false, false, false, false, false, false, false, false, false, false, false, false, false, false, false, false, false, false, false, false]
abbrev marksRj_4 : Array Bool := #[true, true, true, true, false, false, false, false, false, false, false, false, false, false, false, false, false, false, false, false, false, false, false, false, false, false, false]
abbrev marksRj_5 : Array Bool := #[true, true, true, true, true, false, false, false, false, false, false, false, false, false, false, false, false, false, false, false, false, false, false, false, false, false, false]
abbrev marksRj_6 : Array Bool := #[true, true, true, true, true, true, false, false, false, false, false, false, false, false, false, false, false, false, false, false, false, false, false, false, false, false, false]
abbrev marksRj_7 : Array Bool := #[true, true, true, true, true, true, true, false, false, false, false, false, false, false, false, false, false, false, false, false, false, false, false, false, false, false, false]
abbrev marksRj_8 : Array Bool := #[true, true, true, true, true, true, true, false, true, false, false, false, false, false, false, false, false, false, false, false, false, false, false, false, false, false, false]
abbrev marksRj_9 : Array Bool := #[true, true, true, true, true, true, true, false, true, true, false, false, false, false, false, false, false, false, false, false, false, false, false, false, false, false, false]
abbrev marksRj_10 : Array Bool := #[true, true, true, true, true, true, true, true, true, true, false, false, false, false, false, false, false, false, false, false, false, false, false, false, false, false, false]
abbrev marksRj_11 : Array Bool := #[true, true, true, true, true, true, true, true, true, true, true, false, false, false, false, false, false, false, false, false, false, false, false, false, false, false, false]
abbrev marksRj_12 : Array Bool := #[true, true, true, true, true, true, true, true, true, true, true, true, false, false, false, false, false, false, false, false, false, false, false, false, false, false, false]
abbrev marksRj_13 : Array Bool := #[true, true, true, true, true, true, true, true, true, true, true, true, true, false, false, false, false, false, false, false, false, false, false, false, false, false, false]
abbrev marksRj_14 : Array Bool := #[true, true, true, true, true, true, true, true, true, true, true, true, true, true, false, false, false, false, false, false, false, false, false, false, false, false, false]
abbrev marksRj_15 : Array Bool := #[true, true, true, true, true, true, true, true, true, true, true, true, true, true, false, true, false, false, false, false, false, false, false, false, false, false, false]
abbrev marksRj_16 : Array Bool := #[true, true, true, true, true, true, true, true, true, true, true, true, true, true, false, true, true, false, false, false, false, false, false, false, false, false, false]
abbrev marksRj_17 : Array Bool := #[true, true, true, true, true, true, true, true, true, true, true, true, true, true, true, true, true, false, false, false, false, false, false, false, false, false, false]
abbrev marksRj_18 : Array Bool := #[true, true, true, true, true, true, true, true, true, true, true, true, true, true, true, true, true, true, false, false, false, false, false, false, false, false, false]
abbrev marksRj_19 : Array Bool := #[true, true, true, true, true, true, true, true, true, true, true, true, true, true, true, true, true, true, true, false, false, false, false, false, false, false, false]
abbrev marksRj_20 : Array Bool := #[true, true, true, true, true, true, true, true, true, true, true, true, true, true, true, true, true, true, true, true, false, false, false, false, false, false, false]
abbrev marksRj_21 : Array Bool := #[true, true, true, true, true, true, true, true, true, true, true, true, true, true, true, true, true, true, true, true, true, false, false, false, false, false, false]
abbrev marksRj_22 : Array Bool := #[true, true, true, true, true, true, true, true, true, true, true, true, true, true, true, true, true, true, true, true, true, false, true, false, false, false, false]
abbrev marksRj_23 : Array Bool := #[true, true, true, true, true, true, true, true, true, true, true, true, true, true, true, true, true, true, true, true, true, false, true, true, false, false, false]
abbrev marksRj_24 : Array Bool := #[true, true, true, true, true, true, true, true, true, true, true, true, true, true, true, true, true, true, true, true, true, true, true, true, false, false, false]
abbrev marksRj_25 : Array Bool := #[true, true, true, true, true, true, true, true, true, true, true, true, true, true, true, true, true, true, true, true, true, true, true, true, true, false, false]
abbrev marksRj_26 : Array Bool := #[true, true, true, true, true, true, true, true, true, true, true, true, true, true, true, true, true, true, true, true, true, true, true, true, true, true, false]
abbrev marksRj_27 : Array Bool := #[true, true, true, true, true, true, true, true, true, true, true, true, true, true, true, true, true, true, true, true, true, true, true, true, true, true, true]
theorem cell_lt {w : World} {a : Addr} {u : Value} (h : w.cell? a = some u) : a.block < w.heap.size := by
  rcases Nat.lt_or_ge a.block w.heap.size with h1 | h1
  · exact h1
  · unfold World.cell? at h
    rw [Array.getElem?_eq_none h1] at h
    cases h
theorem RowN.lt {w : World} {v : Value} {l : List Nod} (h : RowN w v l) : ∀ A n c, v = .slice (some A) n c → l = [] ∨ A.block < w.heap.size := by
  intro A n c e
  obtain ⟨A', c', e', hc, h1, h2, h3⟩ := h
  rw [e] at e'
  cases e'
  cases l with
  | nil => exact .inl rfl
  | cons p l =>
    obtain ⟨ad, ea, hcl⟩ := h3 (by simp)
    cases ea
    obtain ⟨cs, k1, k2, k3⟩ := hcl 0 p rfl
    have ek := k36_open k2
    have := cell_lt (k3 0 _ (by rw [ek]; rfl))
    rw [add_block] at this
    exact .inr this
theorem RowO.lt {w : World} {v : Value} {l : List Opn} (h : RowO w v l) : ∀ A n c, v = .slice (some A) n c → l = [] ∨ A.block < w.heap.size := by
  intro A n c e
  obtain ⟨A', c', e', hc, h1, h2, h3⟩ := h
  rw [e] at e'
  cases e'
  cases l with
  | nil => exact .inl rfl
  | cons p l =>
    obtain ⟨ad, ea, hcl⟩ := h3 (by simp)
    cases ea
    obtain ⟨cs, k1, k2, k3⟩ := hcl 0 p rfl
    have ek := k28_open k2
    have := cell_lt (k3 0 _ (by rw [ek]; rfl))
    rw [add_block] at this
    exact .inr this
/-- Rows stay where nothing of them is turned. -/
theorem RowS.stay {b : Nat} {w w1 : World} {F : Nat → Prop} {v : Value} {l : List Nod} (h : RowS b w v l) (hs : Stay w w1 F) (hsep : InS (fun k => ¬ F k) v (l = [])) : RowS b w1 v l := by
  have hlt := h.1.lt
  obtain ⟨⟨A, c, e, hc, h1, h2, h3⟩, hq⟩ := h
  have hblk : ∀ ad, A = some ad → l ≠ [] → w1.heap[ad.block]? = w.heap[ad.block]? := by
    rintro ad rfl hl
    refine hs.block _ ((hlt _ _ _ e).resolve_left hl) ((hsep _ _ _ e).resolve_left hl)
  refine ⟨⟨A, c, e, hc, h1, h2, fun hp => ?_⟩, fun A' n' c' e' => ?_⟩
  · obtain ⟨ad, ea, hcl⟩ := h3 hp
    have hx := hblk ad ea (fun q => by rw [q] at hp; simp at hp)
    refine ⟨ad, ea, fun i q hj => ?_⟩
    obtain ⟨cs', k1, k2, k3⟩ := hcl i q hj
    have ek := k36_open k2
    refine ⟨cs', k1, by rw [ek]; exact k36_mk _ q, fun i' u' hu => ?_⟩
    have := k3 i' u' hu
    unfold World.cell? at this ⊢
    rw [add_block] at this ⊢
    rw [hx]
    exact this
  · rcases hq A' n' c' e' with q | q | ⟨cs, q⟩
    · exact .inl q
    · exact .inr (.inl q)
    · by_cases hl : l = []
      · exact .inl hl
      · rw [e] at e'
        cases e'
        exact .inr (.inr ⟨cs, (hblk _ rfl hl).trans q⟩)
theorem RowSO.stay {b : Nat} {w w1 : World} {F : Nat → Prop} {v : Value} {l : List Opn} (h : RowSO b w v l) (hs : Stay w w1 F) (hsep : InS (fun k => ¬ F k) v (l = [])) : RowSO b w1 v l := by
  have hlt := h.1.lt
  obtain ⟨⟨A, c, e, hc, h1, h2, h3⟩, hq⟩ := h
  have hblk : ∀ ad, A = some ad → l ≠ [] → w1.heap[ad.block]? = w.heap[ad.block]? := by
    rintro ad rfl hl
    refine hs.block _ ((hlt _ _ _ e).resolve_left hl) ((hsep _ _ _ e).resolve_left hl)
  refine ⟨⟨A, c, e, hc, h1, h2, fun hp => ?_⟩, fun A' n' c' e' => ?_⟩
  · obtain ⟨ad, ea, hcl⟩ := h3 hp
    have hx := hblk ad ea (fun q => by rw [q] at hp; simp at hp)
    refine ⟨ad, ea, fun i q hj => ?_⟩
    obtain ⟨cs', k1, k2, k3⟩ := hcl i q hj
    have ek := k28_open k2
    refine ⟨cs', k1, by rw [ek]; exact k28_mk _ q, fun i' u' hu => ?_⟩
    have := k3 i' u' hu
    unfold World.cell? at this ⊢
    rw [add_block] at this ⊢
    rw [hx]
    exact this
  · rcases hq A' n' c' e' with q | q | ⟨cs, q⟩
    · exact .inl q
    · exact .inr (.inl q)
    · by_cases hl : l = []
      · exact .inl hl
      · rw [e] at e'
        cases e'
        exact .inr (.inr ⟨cs, (hblk _ rfl hl).trans q⟩)
/-- A tree of the program and one of the document that say the same. -/
structure Both (w wr : World) (g f n : Nat) (v : Value) (T : Tr) (vF vO : Value) (fx : List Nod) : Prop where
  tree : TreeAt wr w.heap.size g f n v T
  good : Good T
  below : Below w.heap.size w wr
  fine : ∀ o ∈ T.ops, OpOk o ∧ ParOk o
  rowF : RowS w.heap.size wr vF fx
  rowO : RowSO w.heap.size wr vO T.ops
  sepF : InS (fun k => ¬ foot g f n v k) vF (fx = [])
  sepO : InS (fun k => ¬ foot g f n v k) vO (T.ops = [])
  srt : SrtN fx
  perm : fx.Perm T.fixed
theorem Both.under {w wr w' : World} {g f n : Nat} {v : Value} {T : Tr} {vF vO : Value} {fx : List Nod} (h : Both w wr g f n v T vF vO fx) (hb : Below wr.heap.size wr w') : Both w w' g f n v T vF vO fx :=
  ⟨h.tree.below hb, h.good, below_then h.below h.below.size hb, h.fine, h.rowF.below hb, h.rowO.below hb, h.sepF, h.sepO, h.srt, h.perm⟩
theorem Both.rF {w wr : World} {g f n : Nat} {v : Value} {T : Tr} {vF vO : Value} {fx : List Nod} (h : Both w wr g f n v T vF vO fx) : RowN wr vF fx := h.rowF.1
theorem Both.rO {w wr : World} {g f n : Nat} {v : Value} {T : Tr} {vF vO : Value} {fx : List Nod} (h : Both w wr g f n v T vF vO fx) : RowO wr vO T.ops := h.rowO.1
theorem InS.foot {w : World} {g f n : Nat} {v v' vx : Value} {e : Prop} (h : InS (fun k => ¬ foot g f n v k) vx e) (hlt : ∀ A m c, vx = .slice (some A) m c → e ∨ A.block < w.heap.size) (hn : ∀ k, v'.ownBlock = some k → v.ownBlock = some k ∨ w.heap.size ≤ k) : InS (fun k => ¬ foot g f n v' k) vx e := by
  intro A m c he
  rcases h A m c he with q | q
  · exact .inl q
  · rcases hlt A m c he with q2 | q2
    · exact .inl q2
    · refine .inr (fun hf => ?_)
      rcases hf with hf | hf | hf | hf
      · exact q (.inl hf)
      · exact q (.inr (.inl hf))
      · exact q (.inr (.inr (.inl hf)))
      · rcases hn _ hf with h1 | h1
        · exact q (.inr (.inr (.inr h1)))
        · omega
theorem Both.step {w wr w' : World} {g f n : Nat} {v v' : Value} {T T' : Tr} {vF vO vF' vO' : Value} {fx fx' : List Nod} (h : Both w wr g f n v T vF vO fx)
    (hF : RowS w.heap.size wr vF' fx') (hO : RowSO w.heap.size wr vO' T'.ops) (sF : InS (fun k => ¬ foot g f n v k) vF' (fx' = [])) (sO : InS (fun k => ¬ foot g f n v k) vO' (T'.ops = []))
    (srt : SrtN fx') (perm : fx'.Perm T'.fixed) (fine : ∀ o ∈ T'.ops, OpOk o ∧ ParOk o) (ht : TreeAt w' w.heap.size g f n v' T') (hg : Good T') (hs : Stay wr w' (foot g f n v)) (hn : ∀ k, v'.ownBlock = some k → v.ownBlock = some k ∨ wr.heap.size ≤ k) : Both w w' g f n v' T' vF' vO' fx' :=
  ⟨ht, hg, h.tree.back hs h.below, fine, hF.stay hs sF, hO.stay hs sO, sF.foot hF.1.lt hn, sO.foot hO.1.lt hn, srt, perm⟩
theorem Both.all {w wr : World} {g f n : Nat} {v : Value} {T : Tr} {vF vO : Value} {fx : List Nod} (h : Both w wr g f n v T vF vO fx) : (T.ops.foldl doR fx).Perm T.now ∧ SrtN (T.ops.foldl doR fx) := by
  obtain ⟨l0, hp, he⟩ := h.good.now
  have hr : Rooted fx := h.good.rt.perm h.perm h.good.nd
  have := fold_ref T.ops fx l0 h.srt hr (h.perm.trans hp.symm) h.fine
  rw [he]
  exact this
theorem part_len {fx : List Nod} {T : Tr} (hg : Good T) (hs : SrtN fx) (hp : fx.Perm T.fixed) (hf : ∀ o ∈ T.ops, OpOk o ∧ ParOk o) : ∀ i, i ≤ T.ops.length → ((T.ops.take i).foldl doR fx).length ≤ 100000 := by
  intro i _
  have hr : Rooted fx := hg.rt.perm hp hg.nd
  have h1 := (fold_ref (T.ops.take i) fx fx hs hr (List.Perm.refl _) (fun o ho => hf o (List.mem_of_mem_take ho))).1.length_eq
  have h2 := fold_length (T.ops.take i) fx
  have h3 := hg.fl
  have h4 : creates (T.ops.take i) ≤ creates T.ops := by have := creates_split T.ops i; omega
  have h5 := hp.length_eq
  omega
theorem Both.len {w wr : World} {g f n : Nat} {v : Value} {T : Tr} {vF vO : Value} {fx : List Nod} (h : Both w wr g f n v T vF vO fx) : ∀ i, i ≤ T.ops.length → ((T.ops.take i).foldl doR fx).length ≤ 100000 := part_len h.good h.srt h.perm h.fine
-- TABLE BEGIN
def same_.T1 : Bool × List (List Nat × List Nat) := (true, [([], []), ([0], [0]), ([], []), ([2, 1], [2]), ([1, 3, 3], [1, 3]), ([4, 4], [4]), ([5], [5]), ([6, 5, 5], [5, 6]), ([5], [5]), ([8, 5], [5, 8]), ([7, 9, 7, 5], [5, 7, 9]), ([5, 10], [5, 10]), ([11, 10], [11]), ([12], [12]), ([13, 12, 12], [12, 13]), ([12], [12]), ([15, 12], [12, 15]), ([14, 16, 14, 12], [12, 14, 16]), ([12, 17], [12, 17]), ([18, 17], [18]), ([19], [19]), ([20, 19, 19], [19, 20]), ([19], [19]), ([22, 19], [19, 22]), ([21, 23, 19], [19, 21, 23]), ([19, 24], [19, 24]), ([25, 21, 0, 1, 2, 3, 4, 5, 6, 7, 8, 9, 10, 11, 12, 13, 14, 15, 16, 17, 18, 19, 20, 21, 22, 23, 24, 25], [25])])
def same_.B1 : List Nat := [0, 1, 0, 7, 15, 31, 63, 127, 63, 319, 1023, 2047, 4095, 8191, 16383, 8191, 40959, 131071, 262143, 524287, 1048575, 2097151, 1048575, 5242879, 16777215, 33554431, 67108863]
theorem same_.tab1 : rtab .any (opsOf Tryd.f25 1) = same_.T1 := by kernel_rfl
theorem same_.bits1 : waitsOk same_.T1.2 same_.B1 = true := by kernel_rfl
-- TABLE END
set_option maxHeartbeats 16000000 in
set_option maxRecDepth 100000 in
theorem same_calls {w wr : World} {g f n : Nat} {v : Value} {T : Tr} {vF vO : Value} {fx : List Nod} (h : Both w wr g f n v T vF vO fx) : Calls Tryd.prog 25 #[.pointer (some ⟨g, 0, none⟩), .agg (trCells vF vO T.base)] wr fun e w' => e = .returned (.bool true) ∧ Below wr.heap.size wr w' := by
  have hu := Tryd.underlying50
  have hu1 := Tryd.underlying25
  have HHL := Aside0.mk h.len
  have HHO := Aside0.mk (show T.ops.length ≤ 1000000 from Nat.le_trans h.good.len (by decide))
  have HOL := Aside0.mk (show T.ops.length ≤ 1000000 from Nat.le_trans h.good.len (by decide))
  have HNL := Aside0.mk (show T.now.length ≤ 1000000 from Nat.le_trans (now_len h.good) (by decide))
  have hfl : T.fixed.length ≤ 1000000 := by have := h.good.fl; omega
  have HFL := Aside0.mk hfl
  have hall := h.all
  obtain ⟨k7, hk7⟩ := sameOps_self T.ops HOL.out
  have HK7 := Aside0.mk hk7
  obtain ⟨k9, hk9⟩ := sameNodes_self fx (by rw [h.perm.length_eq]; exact hfl)
  have HK9 := Aside0.mk hk9
  obtain ⟨ln, hln⟩ : ∃ ln, T.ops.foldl doR fx = ln := ⟨_, rfl⟩
  have HLE := Aside0.mk hln
  rw [hln] at hall
  obtain ⟨k3, hk3⟩ := sameNodes_self ln (by rw [hall.1.length_eq]; exact HNL.out)
  have HK3 := Aside0.mk hk3
  have HLR := Aside0.mk hall
  obtain ⟨AF, cF, e, _, _⟩ := h.rowF.1
  subst e
  obtain ⟨AO, cO, e, _, _⟩ := h.rowO.1
  subst e
  have BX := Aside0.mk (heap_alloc_new wr (.cells (trCells (.slice AF fx.length cF) (.slice AO T.ops.length cO) T.base) 50))
  have HB := Aside0.mk (below_alloc (Below.refl wr.heap.size wr) (.cells (trCells (.slice AF fx.length cF) (.slice AO T.ops.length cO) T.base) 50))
  have HA := Aside0.mk (h.under (below_alloc (Below.refl wr.heap.size wr) (.cells (trCells (.slice AF fx.length cF) (.slice AO T.ops.length cO) T.base) 50)))
  clear h hfl hall hk7 hk9 hk3 hln
  go_enter Tryd.func25, Tryd.ntmps25
  go_upto_region 1 with fail
  generalize wr.alloc (.cells (trCells (.slice AF fx.length cF) (.slice AO T.ops.length cO) T.base) 50) = wb at BX HB HA ⊢
  replace BX := Aside0.mk (blk_below BX.out (Below.refl _ _).drew)
  replace HA := Aside0.mk (HA.out.under (Below.refl _ _).drew)
  replace HB := Aside0.mk HB.out.drew
  -- REGION R1 BEGIN
  refine start_ (n := 27) (S := fun w' => w'.cell? ⟨wr.heap.size, 0, none⟩ = some (.slice AF fx.length cF) ∧ w'.cell? ⟨wr.heap.size, 1, none⟩ = some (.slice AO T.ops.length cO) ∧ w'.cell? ⟨wr.heap.size, 2, none⟩ = some (.int .i64 T.base.f0) ∧ w'.cell? ⟨wr.heap.size, 3, none⟩ = some (.int .i64 T.base.f1)) (ds := []) marksRj_0 (by kernel_rfl) rfl rfl ⟨(blk_cell BX.out 0), (blk_cell BX.out 1), (blk_cell BX.out 2), (blk_cell BX.out 3)⟩ (fun hHeld => ?_)
  refine with_tabW same_.tab1 same_.bits1 (fun HT_ HW_ => ?_)
  refine pureQ (i := 0) (N := some 5) marksRj_1 (any_of HT_.out (by kernel_rfl)) ?_
  refine take_ (i := 2) (N := some 7) (v := ?_) (a' := ?_) marksRj_2 rfl rfl (take_ofW HT_.out HW_.out (by kernel_rfl)) (fun _ _ _ h => h) (Or.inl ⟨by rfl, ?_⟩) hHeld ?_ ?_
  rotate_left
  · rintro w' ⟨s0, s1, s2, s3⟩
    go_simp
    with_reducible rfl
  rotate_left
  · simp only [Act.put, List.setIfInBounds_toArray, List.set_cons_zero, List.set_cons_succ, i64_w, i32_w]
    rfl
  refine one_ (i := 1) (N := some 6) marksRj_3 rfl rfl (one_of HT_.out (by kernel_rfl)) (by decide) (fun K hK => ?_)
  refine goes_ Tryd.func28 (by kernel_rfl) rfl #[.pointer (some ⟨g, 0, none⟩)] (by rfl) rfl rfl (by simp only [List.map_toArray, List.map_cons, List.map_nil]; rfl) ?_
  with_reducible refine (Nodes_calls _ _ g f n _ T HA.out.tree HNL.out).mono ?_
  rintro e w3 ⟨v3, l3, rfl, hp, ho, hn, hb⟩
  refine ⟨_, rfl, ?_⟩
  replace HA := Aside0.mk (HA.out.under hb)
  replace BX := Aside0.mk (blk_below BX.out hb)
  replace HB := Aside0.mk (below_then HB.out HB.out.size hb)
  have he3 := srt_ext (hp.trans HLR.out.1.symm) (ho.srt ((hp.map _).nodup_iff.2 (now_nodup HA.out.good))) HLR.out.2
  obtain ⟨A3, c3, rfl, hc1, hC1⟩ := hn.reads
  have HN3 := Aside0.mk (show RowN w3 (.slice A3 l3.length c3) l3 from ⟨A3, c3, rfl, hc1, hC1⟩)
  rw [he3] at HN3 ⊢
  clear hp ho hn hc1 hC1 hb he3
  refine hK.out _ _ ⟨(blk_cell BX.out 0), (blk_cell BX.out 1), (blk_cell BX.out 2), (blk_cell BX.out 3)⟩ (fun hHeld => ?_)
  clear hK K
  refine norm_ (a' := ?_) ?_ ?_
  rotate_left
  · show Act.put _ (some 6) _ = _
    simp only [Act.put, List.setIfInBounds_toArray, List.set_cons_zero, List.set_cons_succ, i64_w, i32_w]
    rfl
  refine one_ (i := 3) (N := some 8) marksRj_4 rfl rfl (one_of HT_.out (by kernel_rfl)) (by decide) (fun K hK => ?_)
  refine goes_ Tryd.func52 (by kernel_rfl) rfl #[.agg (trCells (.slice AF fx.length cF) (.slice AO T.ops.length cO) T.base)] (by rfl) rfl rfl (by simp only [List.map_toArray, List.map_cons, List.map_nil]; rfl) ?_
  with_reducible refine (rNodes_calls _ _ _ fx T.ops T.base HA.out.rF HA.out.rO HHL.out HHO.out).mono ?_
  rintro e w4 ⟨v4, rfl, hr, hb⟩
  refine ⟨_, rfl, ?_⟩
  replace HA := Aside0.mk (HA.out.under hb)
  replace BX := Aside0.mk (blk_below BX.out hb)
  replace HB := Aside0.mk (below_then HB.out HB.out.size hb)
  replace HN3 := Aside0.mk (HN3.out.below hb)
  rw [HLE.out] at hr
  obtain ⟨A4, c4, rfl, hc1, hC1⟩ := hr
  have HN4 := Aside0.mk (show RowN w4 (.slice A4 ln.length c4) ln from ⟨A4, c4, rfl, hc1, hC1⟩)
  clear hc1 hC1 hb
  refine hK.out _ _ ⟨(blk_cell BX.out 0), (blk_cell BX.out 1), (blk_cell BX.out 2), (blk_cell BX.out 3)⟩ (fun hHeld => ?_)
  clear hK K
  refine norm_ (a' := ?_) ?_ ?_
  rotate_left
  · show Act.put _ (some 8) _ = _
    simp only [Act.put, List.setIfInBounds_toArray, List.set_cons_zero, List.set_cons_succ, i64_w, i32_w]
    rfl
  refine one_ (i := 4) (N := some 9) marksRj_5 rfl rfl (one_of HT_.out (by kernel_rfl)) (by decide) (fun K hK => ?_)
  refine goes_ Tryd.func27 (by kernel_rfl) rfl #[.slice A3 ln.length c3, .slice A4 ln.length c4] (by rfl) rfl rfl (by simp only [List.map_toArray, List.map_cons, List.map_nil]; rfl) ?_
  with_reducible refine (samphireref11_SameNodes.calls k3 A3 c3 ln A4 c4 ln true _ HN3.out.at.2.2 HN3.out.at.2.1 HN4.out.at.2.2 HN4.out.at.2.1 HK3.out).mono ?_
  rintro e w5 ⟨rfl, hd⟩
  refine ⟨_, rfl, ?_⟩
  have hb := hd.below
  replace HA := Aside0.mk (HA.out.under hb)
  replace BX := Aside0.mk (blk_below BX.out hb)
  replace HB := Aside0.mk (below_then HB.out HB.out.size hb)
  clear hb hd
  refine hK.out _ _ ⟨(blk_cell BX.out 0), (blk_cell BX.out 1), (blk_cell BX.out 2), (blk_cell BX.out 3)⟩ (fun hHeld => ?_)
  clear hK K
  refine norm_ (a' := ?_) ?_ ?_
  rotate_left
  · show Act.put _ (some 9) _ = _
    simp only [Act.put, List.setIfInBounds_toArray, List.set_cons_zero, List.set_cons_succ, i64_w, i32_w]
    rfl
  refine pureQ (i := 5) (N := some 10) marksRj_6 (any_of HT_.out (by kernel_rfl)) ?_
  refine pureQ (i := 6) (N := some 11) marksRj_7 (any_of HT_.out (by kernel_rfl)) ?_
  refine pureQ (i := 8) (N := some 13) marksRj_8 (any_of HT_.out (by kernel_rfl)) ?_
  refine take_ (i := 9) (N := some 14) (v := ?_) (a' := ?_) marksRj_9 rfl rfl (take_ofW HT_.out HW_.out (by kernel_rfl)) (fun _ _ _ h => h) (Or.inl ⟨by rfl, ?_⟩) hHeld ?_ ?_
  rotate_left
  · rintro w' ⟨s0, s1, s2, s3⟩
    go_simp
    with_reducible rfl
  rotate_left
  · simp only [Act.put, List.setIfInBounds_toArray, List.set_cons_zero, List.set_cons_succ, i64_w, i32_w]
    rfl
  refine one_ (i := 7) (N := some 12) marksRj_10 rfl rfl (one_of HT_.out (by kernel_rfl)) (by decide) (fun K hK => ?_)
  refine goes_ Tryd.func17 (by kernel_rfl) rfl #[.pointer (some ⟨g, 0, none⟩)] (by rfl) rfl rfl (by simp only [List.map_toArray, List.map_cons, List.map_nil]; rfl) ?_
  with_reducible refine (Ops_calls _ _ g f n _ T HA.out.tree HOL.out).mono ?_
  rintro e w7 ⟨v7, rfl, ho, hb⟩
  refine ⟨_, rfl, ?_⟩
  replace HA := Aside0.mk (HA.out.under hb)
  replace BX := Aside0.mk (blk_below BX.out hb)
  replace HB := Aside0.mk (below_then HB.out HB.out.size hb)
  obtain ⟨A7, c7, rfl, hc1, hC1⟩ := Kd.R_reads ho
  have HN7 := Aside0.mk (show RowO w7 (.slice A7 T.ops.length c7) T.ops from ⟨A7, c7, rfl, hc1, hC1⟩)
  clear ho hc1 hC1 hb
  refine hK.out _ _ ⟨(blk_cell BX.out 0), (blk_cell BX.out 1), (blk_cell BX.out 2), (blk_cell BX.out 3)⟩ (fun hHeld => ?_)
  clear hK K
  refine norm_ (a' := ?_) ?_ ?_
  rotate_left
  · show Act.put _ (some 12) _ = _
    simp only [Act.put, List.setIfInBounds_toArray, List.set_cons_zero, List.set_cons_succ, i64_w, i32_w]
    rfl
  refine one_ (i := 10) (N := some 15) marksRj_11 rfl rfl (one_of HT_.out (by kernel_rfl)) (by decide) (fun K hK => ?_)
  refine goes_ Tryd.func29 (by kernel_rfl) rfl #[.slice A7 T.ops.length c7, .slice AO T.ops.length cO] (by rfl) rfl rfl (by simp only [List.map_toArray, List.map_cons, List.map_nil]; rfl) ?_
  with_reducible refine (samphireref11_SameOps.calls k7 A7 c7 T.ops AO cO T.ops true _ HN7.out.at.2.2 HN7.out.at.2.1 HA.out.rO.at.2.2 HA.out.rO.at.2.1 HK7.out).mono ?_
  rintro e w8 ⟨rfl, hd⟩
  refine ⟨_, rfl, ?_⟩
  have hb := hd.below
  replace HA := Aside0.mk (HA.out.under hb)
  replace BX := Aside0.mk (blk_below BX.out hb)
  replace HB := Aside0.mk (below_then HB.out HB.out.size hb)
  clear hb hd
  refine hK.out _ _ ⟨(blk_cell BX.out 0), (blk_cell BX.out 1), (blk_cell BX.out 2), (blk_cell BX.out 3)⟩ (fun hHeld => ?_)
  clear hK K
  refine norm_ (a' := ?_) ?_ ?_
  rotate_left
  · show Act.put _ (some 15) _ = _
    simp only [Act.put, List.setIfInBounds_toArray, List.set_cons_zero, List.set_cons_succ, i64_w, i32_w]
    rfl
  refine pureQ (i := 11) (N := some 16) marksRj_12 (any_of HT_.out (by kernel_rfl)) ?_
  refine pureQ (i := 12) (N := some 17) marksRj_13 (any_of HT_.out (by kernel_rfl)) ?_
  refine pureQ (i := 13) (N := some 18) marksRj_14 (any_of HT_.out (by kernel_rfl)) ?_
  refine pureQ (i := 15) (N := some 20) marksRj_15 (any_of HT_.out (by kernel_rfl)) ?_
  refine take_ (i := 16) (N := some 21) (v := ?_) (a' := ?_) marksRj_16 rfl rfl (take_ofW HT_.out HW_.out (by kernel_rfl)) (fun _ _ _ h => h) (Or.inl ⟨by rfl, ?_⟩) hHeld ?_ ?_
  rotate_left
  · rintro w' ⟨s0, s1, s2, s3⟩
    go_simp
    with_reducible rfl
  rotate_left
  · simp only [Act.put, List.setIfInBounds_toArray, List.set_cons_zero, List.set_cons_succ, i64_w, i32_w]
    rfl
  refine one_ (i := 14) (N := some 19) marksRj_17 rfl rfl (one_of HT_.out (by kernel_rfl)) (by decide) (fun K hK => ?_)
  refine goes_ Tryd.func30 (by kernel_rfl) rfl #[.pointer (some ⟨g, 0, none⟩)] (by rfl) rfl rfl (by simp only [List.map_toArray, List.map_cons, List.map_nil]; rfl) ?_
  with_reducible refine (Fixed_calls _ _ g f n _ T HA.out.tree HFL.out).mono ?_
  rintro e w9 ⟨v9, l9, rfl, hp, ho, hn, hb⟩
  refine ⟨_, rfl, ?_⟩
  replace HA := Aside0.mk (HA.out.under hb)
  replace BX := Aside0.mk (blk_below BX.out hb)
  replace HB := Aside0.mk (below_then HB.out HB.out.size hb)
  have he9 := srt_ext (hp.trans HA.out.perm.symm) (ho.srt ((hp.map _).nodup_iff.2 HA.out.good.nd)) HA.out.srt
  obtain ⟨A9, c9, rfl, hc1, hC1⟩ := hn.reads
  have HN9 := Aside0.mk (show RowN w9 (.slice A9 l9.length c9) l9 from ⟨A9, c9, rfl, hc1, hC1⟩)
  rw [he9] at HN9 ⊢
  clear hp ho hn hc1 hC1 hb he9
  refine hK.out _ _ ⟨(blk_cell BX.out 0), (blk_cell BX.out 1), (blk_cell BX.out 2), (blk_cell BX.out 3)⟩ (fun hHeld => ?_)
  clear hK K
  refine norm_ (a' := ?_) ?_ ?_
  rotate_left
  · show Act.put _ (some 19) _ = _
    simp only [Act.put, List.setIfInBounds_toArray, List.set_cons_zero, List.set_cons_succ, i64_w, i32_w]
    rfl
  refine one_ (i := 17) (N := some 22) marksRj_18 rfl rfl (one_of HT_.out (by kernel_rfl)) (by decide) (fun K hK => ?_)
  refine goes_ Tryd.func27 (by kernel_rfl) rfl #[.slice A9 fx.length c9, .slice AF fx.length cF] (by rfl) rfl rfl (by simp only [List.map_toArray, List.map_cons, List.map_nil]; rfl) ?_
  with_reducible refine (samphireref11_SameNodes.calls k9 A9 c9 fx AF cF fx true _ HN9.out.at.2.2 HN9.out.at.2.1 HA.out.rF.at.2.2 HA.out.rF.at.2.1 HK9.out).mono ?_
  rintro e w10 ⟨rfl, hd⟩
  refine ⟨_, rfl, ?_⟩
  have hb := hd.below
  replace HA := Aside0.mk (HA.out.under hb)
  replace BX := Aside0.mk (blk_below BX.out hb)
  replace HB := Aside0.mk (below_then HB.out HB.out.size hb)
  clear hb hd
  refine hK.out _ _ ⟨(blk_cell BX.out 0), (blk_cell BX.out 1), (blk_cell BX.out 2), (blk_cell BX.out 3)⟩ (fun hHeld => ?_)
  clear hK K
  refine norm_ (a' := ?_) ?_ ?_
  rotate_left
  · show Act.put _ (some 22) _ = _
    simp only [Act.put, List.setIfInBounds_toArray, List.set_cons_zero, List.set_cons_succ, i64_w, i32_w]
    rfl
  refine pureQ (i := 18) (N := some 23) marksRj_19 (any_of HT_.out (by kernel_rfl)) ?_
  refine pureQ (i := 19) (N := some 24) marksRj_20 (any_of HT_.out (by kernel_rfl)) ?_
  refine pureQ (i := 20) (N := some 25) marksRj_21 (any_of HT_.out (by kernel_rfl)) ?_
  refine pureQ (i := 22) (N := some 27) marksRj_22 (any_of HT_.out (by kernel_rfl)) ?_
  refine take_ (i := 23) (N := some 28) (v := ?_) (a' := ?_) marksRj_23 rfl rfl (take_ofW HT_.out HW_.out (by kernel_rfl)) (fun _ _ _ h => h) (Or.inl ⟨by rfl, ?_⟩) hHeld ?_ ?_
  rotate_left
  · rintro w' ⟨s0, s1, s2, s3⟩
    go_simp
    with_reducible rfl
  rotate_left
  · simp only [Act.put, List.setIfInBounds_toArray, List.set_cons_zero, List.set_cons_succ, i64_w, i32_w]
    rfl
  refine one_ (i := 21) (N := some 26) marksRj_24 rfl rfl (one_of HT_.out (by kernel_rfl)) (by decide) (fun K hK => ?_)
  refine goes_ Tryd.func31 (by kernel_rfl) rfl #[.pointer (some ⟨g, 0, none⟩)] (by rfl) rfl rfl (by simp only [List.map_toArray, List.map_cons, List.map_nil]; rfl) ?_
  with_reducible refine (Base_calls _ _ g f n _ T HA.out.tree).mono ?_
  rintro e w11 ⟨rfl, hb⟩
  refine ⟨_, rfl, ?_⟩
  replace HA := Aside0.mk (HA.out.under hb)
  replace BX := Aside0.mk (blk_below BX.out hb)
  replace HB := Aside0.mk (below_then HB.out HB.out.size hb)
  clear hb
  refine hK.out _ _ ⟨(blk_cell BX.out 0), (blk_cell BX.out 1), (blk_cell BX.out 2), (blk_cell BX.out 3)⟩ (fun hHeld => ?_)
  clear hK K
  refine norm_ (a' := ?_) ?_ ?_
  rotate_left
  · show Act.put _ (some 26) _ = _
    simp only [Act.put, List.setIfInBounds_toArray, List.set_cons_zero, List.set_cons_succ, i64_w, i32_w]
    rfl
  refine pureQ (i := 24) (N := some 29) marksRj_25 (any_of HT_.out (by kernel_rfl)) ?_
  refine pureQ (i := 25) (N := some 30) marksRj_26 (any_of HT_.out (by kernel_rfl)) ?_
  refine pureQ (i := 26) (N := some 4) marksRj_27 (any_of HT_.out (by kernel_rfl)) ?_
  refine done_ (done_of HT_.out (by kernel_rfl)) ?_

-- REGION END
  go_wp2
  go_ret
  exact ⟨rfl, HB.out⟩
end Go.Proofs.YtiffeljmeahmkaaDoor.S
/- Both trees: what each operation makes of them. -/
namespace Go.Proofs.YtiffeljmeahmkaaDoor.S
open Go.RowKit Go.Proofs.YtiffeljmeahmkaaDoorW.PrintWords Go.Proofs.YtiffeljmeahmkaaDoorW.PrintLast Go.Proofs.YtiffeljmeahmkaaDoorW.PrintMore
open Go.Proofs.YtiffeljmeahmkaaDoor.P (goodO chkO)
set_option linter.unusedVariables false
set_option linter.unusedSimpArgs false
theorem putA_put {T : Tr} {n : Nat} {o : Opn} (hp : n = T.fixed.length) : putA n T.ops T.base o (goodO o) = putO T o (chkO o) := by
  subst hp
  unfold putA putO fullA fullB chkO
  cases goodO o <;> rfl
theorem Both.put {w wr w' : World} {g f n : Nat} {v v' : Value} {T T' : Tr} {vF vO vO' : Value} {fx : List Nod} {o : Opn} (h : Both w wr g f n v T vF vO fx)
    (hO : RowSO w.heap.size wr vO' (putO T o (chkO o)).1) (sO : InS (fun k => ¬ foot g f n v k) vO' ((putO T o (chkO o)).1 = [])) (ht : TreeAt w' w.heap.size g f n v' T') (hg : Good T') (e1 : T'.fixed = T.fixed) (e3 : T'.ops = (putO T o (chkO o)).1) (hs : Stay wr w' (foot g f n v)) (hn : ∀ k, v'.ownBlock = some k → v.ownBlock = some k ∨ wr.heap.size ≤ k) : Both w w' g f n v' T' vF vO' fx := by
  refine h.step h.rowF (by rw [e3]; exact hO) h.sepF (by rw [e3]; exact sO) h.srt (by rw [e1]; exact h.perm) (fun x hx => ?_) ht hg hs hn
  rw [e3] at hx
  rcases putO_mem hx with hx | ⟨rfl, hc⟩
  · exact h.fine x hx
  · exact ⟨(P.chk_fine hc).1.1, (P.chk_fine hc).2⟩
/-- The law's state: both trees, the document's in box qb (cells qc), the number asked for at the law's first block. -/
structure Ply (w wr : World) (id : Stp) (g f n : Nat) (v : Value) (T : Tr) (vF vO : Value) (fx : List Nod) (qb : Nat) (qc : Array Value) : Prop where
  both : Both w wr g f n v T vF vO fx
  q : wr.heap[qb]? = some (.cells qc 50 (0, 0))
  i : wr.heap[w.heap.size]? = some (.cells #[.int .i64 id.f0, .int .i64 id.f1] 25 (0, 0))
  fq : ¬ foot g f n v qb
  fi : ¬ foot g f n v w.heap.size
  hq : w.heap.size < qb
section
variable {w wr w' : World} {id : Stp} {g f n : Nat} {v v' : Value} {T T' : Tr} {vF vO vF' vO' : Value} {fx fx' : List Nod} {qb : Nat} {qc : Array Value}
theorem Ply.under (h : Ply w wr id g f n v T vF vO fx qb qc) (hb : Below wr.heap.size wr w') : Ply w w' id g f n v T vF vO fx qb qc :=
  ⟨h.both.under hb, blk_below h.q hb, blk_below h.i hb, h.fq, h.fi, h.hq⟩
theorem Ply.below (h : Ply w wr id g f n v T vF vO fx qb qc) : Below w.heap.size w wr := h.both.below
theorem foot_next {k : Nat} (h : ¬ foot g f n v k) (hk : k < wr.heap.size) (hn : ∀ k, v'.ownBlock = some k → v.ownBlock = some k ∨ wr.heap.size ≤ k) : ¬ foot g f n v' k := by
  intro hf
  rcases hf with hf | hf | hf | hf
  · exact h (.inl hf)
  · exact h (.inr (.inl hf))
  · exact h (.inr (.inr (.inl hf)))
  · rcases hn _ hf with h1 | h1
    · exact h (.inr (.inr (.inr h1)))
    · omega
theorem Ply.turn (h : Ply w wr id g f n v T vF vO fx qb qc) (hb : Both w w' g f n v' T' vF' vO' fx') (hs : Stay wr w' (foot g f n v)) (hn : ∀ k, v'.ownBlock = some k → v.ownBlock = some k ∨ wr.heap.size ≤ k) : Ply w w' id g f n v' T' vF' vO' fx' qb qc :=
  ⟨hb, hs.blk h.q h.fq, hs.blk h.i h.fi, foot_next h.fq (blk_lt h.q) hn, foot_next h.fi (blk_lt h.i) hn, h.hq⟩
theorem Ply.store (h : Ply w wr id g f n v T vF vO fx qb qc) (j : Nat) (u : Value) {qc' : Array Value} (hc : qc.setIfInBounds j u = qc') : Ply w (wr.setCell ⟨qb, j, none⟩ u) id g f n v T vF vO fx qb qc' := by
  have hle : w.heap.size ≤ qb := Nat.le_of_lt h.hq
  refine ⟨⟨?_, h.both.good, below_set h.both.below hle, h.both.fine, h.both.rowF.set hle h.q (by decide) j u, h.both.rowO.set hle h.q (by decide) j u, h.both.sepF, h.both.sepO, h.both.srt, h.both.perm⟩, ?_, blk_far h.i (show w.heap.size ≠ qb by have := h.hq; omega) u, h.fq, h.fi, h.hq⟩
  · exact h.both.tree.stay (Stay.cell wr ⟨qb, j, none⟩ u) (fun k hk e => h.fq (by rw [← show k = qb from e]; exact hk))
  · rw [← hc]; exact blk_set h.q j u
end
theorem opx {w : World} {ad : Addr} {m : Nat} {l : List Opn} {x : Int} (h : Kd.C k28 w (some ad) m l) (h0 : 0 ≤ x) (h1 : x < m) :
    w.cell? (ad.add (x.toNat * 9)) = some (.int .i64 (rd_T28 l x).f0) ∧ w.cell? ⟨(ad.add (x.toNat * 9)).block, (ad.add (x.toNat * 9)).off + 1, none⟩ = some (.int .i64 (rd_T28 l x).f1.f0) ∧ w.cell? ⟨(ad.add (x.toNat * 9)).block, (ad.add (x.toNat * 9)).off + 2, none⟩ = some (.int .i64 (rd_T28 l x).f1.f1) ∧ w.cell? ⟨(ad.add (x.toNat * 9)).block, (ad.add (x.toNat * 9)).off + 3, none⟩ = some (.int .i64 (rd_T28 l x).f2.f0) ∧ w.cell? ⟨(ad.add (x.toNat * 9)).block, (ad.add (x.toNat * 9)).off + 4, none⟩ = some (.int .i64 (rd_T28 l x).f2.f1) ∧
    w.cell? ⟨(ad.add (x.toNat * 9)).block, (ad.add (x.toNat * 9)).off + 5, none⟩ = some (.int .i64 (rd_T28 l x).f3.f0) ∧ w.cell? ⟨(ad.add (x.toNat * 9)).block, (ad.add (x.toNat * 9)).off + 6, none⟩ = some (.int .i64 (rd_T28 l x).f3.f1) ∧ w.cell? ⟨(ad.add (x.toNat * 9)).block, (ad.add (x.toNat * 9)).off + 7, none⟩ = some (.string (rd_T28 l x).f4) ∧ w.cell? ⟨(ad.add (x.toNat * 9)).block, (ad.add (x.toNat * 9)).off + 8, none⟩ = some (.string (rd_T28 l x).f5) := by
  obtain ⟨ad', e, x0, x1, x2, x3, x4, x5, x6, x7, x8⟩ := at_T28 h x h0 h1
  cases e
  exact ⟨x0, x1, x2, x3, x4, x5, x6, x7, x8⟩
end Go.Proofs.YtiffeljmeahmkaaDoor.S
/- TreePlays: whatever operations come, in whatever order, and whenever what is for good is so, a tree has the document's nodes. -/
namespace Go.Proofs.YtiffeljmeahmkaaDoor.S
open Go.RowKit Go.Proofs.YtiffeljmeahmkaaDoorW.PrintWords Go.Proofs.YtiffeljmeahmkaaDoorW.PrintLast Go.Proofs.YtiffeljmeahmkaaDoorW.PrintMore
open Go.Proofs.YtiffeljmeahmkaaDoor.P (goodO chkO)
set_option linter.unusedVariables false
set_option linter.unusedSimpArgs false
attribute [local go_sem high] eqA25 eqA36
theorem Ply.far {w wr : World} {id : Stp} {g f n : Nat} {v : Value} {T : Tr} {vF vO : Value} {fx : List Nod} {qb : Nat} {qc : Array Value} (h : Ply w wr id g f n v T vF vO fx qb qc) {nb : Nat} {cs : Array Value} (hx : wr.heap[nb]? = some (.cells cs 50 (0, 0))) (hf : ¬ foot g f n v nb ∧ qb < nb) (j : Nat) (u : Value) : Ply w (wr.setCell ⟨nb, j, none⟩ u) id g f n v T vF vO fx qb qc := by
  have hq := h.hq
  have hle : w.heap.size ≤ nb := by omega
  refine ⟨⟨?_, h.both.good, below_set h.both.below hle, h.both.fine, h.both.rowF.set hle hx (by decide) j u, h.both.rowO.set hle hx (by decide) j u, h.both.sepF, h.both.sepO, h.both.srt, h.both.perm⟩, blk_far h.q (show qb ≠ nb by omega) u, blk_far h.i (show w.heap.size ≠ nb by omega) u, h.fq, h.fi, hq⟩
  exact h.both.tree.stay (Stay.cell wr ⟨nb, j, none⟩ u) (fun k hk e => hf.1 (by rw [← show k = nb from e]; exact hk))
end Go.Proofs.YtiffeljmeahmkaaDoor.S
