/- Whether a tree may be put; Put, as the machine walks them. -/
import Derived.Test.YtlfgdaiegefjiaaDoorSA
import Derived.Test.YtlfgdaiegefjiaaDoorSx5
import Derived.Test.YtlfgdaiegefjiaaDoorZC
import Derived.Test.YtlfgdaiegefjiaaDoorUA
import Derived.Test.YtlfgdaiegefjiaaDoorSx4
import Derived.Test.YtlfgdaiegefjiaaDoorSx8
import Derived.Test.YtlfgdaiegefjiaaDoorUB
namespace Go.Proofs.YtlfgdaiegefjiaaDoor.S
open Go.RowKit Go.Proofs.YtlfgdaiegefjiaaDoorW.PrintWords Go.Proofs.YtlfgdaiegefjiaaDoorW.PrintLast Go.Proofs.YtlfgdaiegefjiaaDoorW.PrintMore
set_option linter.unusedVariables false
set_option linter.unusedSimpArgs false
/-- Operations ahead of x stand in strict order. -/
def incTo (ops : List Opn) (x : Int) : Prop := ∀ y : Int, 1 ≤ y → y < x → lessB (rd_T25 ops (y - 1)).f1 (rd_T25 ops y).f1 = true
/-- Whether a tree may be put. -/
def MayP (nodes : List Nod) (ops : List Opn) (base : Stp) : Prop := incTo ops ops.length ∧ StartOk base nodes ∧ (putAll (T0 base nodes) ops).2 = 0
def startB (nodes : List Nod) (base : Stp) : Bool := decide (nodes.length ≤ 512) && (baseOk base && ((List.range nodes.length).all (fun i => nodeOk base nodes (i : Int)) && nodes.all (fun n => chainB nodes (nodes.length + 1) n.f1)))
theorem startB_iff {nodes : List Nod} {base : Stp} : startB nodes base = true ↔ StartOk base nodes := by
 unfold startB
 simp only [Bool.and_eq_true, decide_eq_true_eq, List.all_eq_true, List.mem_range]
 constructor
 · rintro ⟨h1, h2, h3, h4⟩
   exact ⟨h1, h2, fun x h0 hx => by have := h3 x.toNat (by omega); rwa [show ((x.toNat : Nat) : Int) = x by omega] at this, h4⟩
 · intro h
   exact ⟨h.len, h.bas, fun i hi => h.all i (by omega) (by omega), h.chain⟩
def incB (ops : List Opn) : Bool := (List.range ops.length).all (fun i => decide (i = 0) || lessB (rd_T25 ops ((i : Int) - 1)).f1 (rd_T25 ops (i : Int)).f1)
theorem incB_iff {ops : List Opn} : incB ops = true ↔ incTo ops ops.length := by
 unfold incB incTo
 simp only [List.all_eq_true, List.mem_range, Bool.or_eq_true, decide_eq_true_eq]
 constructor
 · intro h y h1 h2
   rcases h y.toNat (by omega) with h3 | h3
   · omega
   · rwa [show ((y.toNat : Nat) : Int) = y by omega] at h3
 · intro h i hi
   by_cases h0 : i = 0
   · exact .inl h0
   · exact .inr (h i (by omega) (by omega))
def mayB (nodes : List Nod) (ops : List Opn) (base : Stp) : Bool := incB ops && (startB nodes base && decide ((putAll (T0 base nodes) ops).2 = 0))
theorem mayB_iff {nodes : List Nod} {ops : List Opn} {base : Stp} : mayB nodes ops base = true ↔ MayP nodes ops base := by
 unfold mayB MayP
 rw [Bool.and_eq_true, Bool.and_eq_true, incB_iff, startB_iff, decide_eq_true_eq]
theorem may_no {nodes : List Nod} {ops : List Opn} {base : Stp} (h : ¬ MayP nodes ops base) : mayB nodes ops base = false := by
 cases e : mayB nodes ops base with
 | false => rfl
 | true => exact absurd (mayB_iff.1 e) h
theorem may_yes {nodes : List Nod} {ops : List Opn} {base : Stp} (h : MayP nodes ops base) : mayB nodes ops base = true := mayB_iff.2 h
theorem opx2 {w : World} {ad : Addr} {m c : Nat} {l : List Opn} {x : Int} (h : RowO w (.slice (some ad) m c) l) (h0 : 0 ≤ x) (h1 : x < l.length) :
 w.cell? ⟨(ad.add (x.toNat * 9)).block, (ad.add (x.toNat * 9)).off + 1, none⟩ = some (.int .i64 (rd_T25 l x).f1.f0) ∧ w.cell? ⟨(ad.add (x.toNat * 9)).block, (ad.add (x.toNat * 9)).off + 2, none⟩ = some (.int .i64 (rd_T25 l x).f1.f1) := by
 obtain ⟨ad', e, x0, x1, x2, _⟩ := at_T25 h.at.2.2 x h0 h1
 cases e
 exact ⟨x1, x2⟩
/-- Of, in short: which trees there are. -/
theorem ofE (w : World) (vN vO : Value) (nodes : List Nod) (ops : List Opn) (base : Stp) (hN : RowN w vN nodes) (hO : RowO w vO ops) (hnm : ∀ m ∈ nodes, m.f2.size < 9223372036854775807) (hon : ∀ o ∈ ops, o.f4.size ≤ 1024) (hol : ops.length ≤ 100000) (hL : Laid w) :
 Calls Tryd.prog 69 #[.agg #[vN, vO, .int .i64 base.f0, .int .i64 base.f1]] w fun e w' => ∃ p cd, e = .returned (.tuple #[.pointer p, .int .i64 cd]) ∧ (cd = 0 ↔ (StartOk base nodes ∧ (putAll (T0 base nodes) ops).2 = 0)) ∧ Below w.heap.size w w' := by
 refine (Of_calls w vN vO nodes ops base hN hO hnm hon hol hL).mono ?_
 rintro e w' ⟨h1, h2, h3, hb⟩
 by_cases hs : StartOk base nodes
 · by_cases hp : (putAll (T0 base nodes) ops).2 = 0
   · obtain ⟨g, f, n, v, T', e, _⟩ := h3 hs hp
     exact ⟨_, _, e, ⟨fun _ => ⟨hs, hp⟩, fun _ => rfl⟩, hb⟩
   · exact ⟨_, _, h2 hs hp, ⟨fun h => absurd h hp, fun h => absurd h.2 hp⟩, hb⟩
 · exact ⟨_, _, h1 hs, ⟨fun h => absurd h (by decide), fun h => absurd h.1 hs⟩, hb⟩
abbrev snapC (vN vO : Value) (base : Stp) : Array Value := #[vN, vO, .int .i64 base.f0, .int .i64 base.f1]
set_option maxHeartbeats 8000000 in
set_option maxRecDepth 100000 in
theorem may_calls (w : World) (vN vO : Value) (nodes : List Nod) (ops : List Opn) (base : Stp) (hN : RowN w vN nodes) (hO : RowO w vO ops) (hnm : ∀ m ∈ nodes, m.f2.size < 9223372036854775807) (hon : ∀ o ∈ ops, o.f4.size ≤ 1024) (hol : ops.length ≤ 100000) (hL : Laid w) :
 Calls Tryd.prog 34 #[.agg (snapC vN vO base)] w fun e w' => e = .returned (.bool (mayB nodes ops base)) ∧ Below w.heap.size w w' := by
 have hu := Tryd.underlying37
 have hu1 := Tryd.underlying25
 have hu2 := Tryd.underlying23
 have HOL := Aside0.mk hol
 have HNM := Aside0.mk hnm
 have HON := Aside0.mk hon
 have HLD := Aside0.mk hL
 have HN := Aside0.mk hN
 obtain ⟨A, c, rfl, hc1, hC1⟩ := hO
 have HO := Aside0.mk (show RowO w (.slice A ops.length c) ops from ⟨A, c, rfl, hc1, hC1⟩)
 have HX := Aside0.mk (heap_alloc_new w (.cells (snapC vN (.slice A ops.length c) base) 37))
 have HB := Aside0.mk (below_alloc (Below.refl w.heap.size w) (.cells (snapC vN (.slice A ops.length c) base) 37))
 clear hN hc1 hC1 hnm hon hol hL
 go_enter Tryd.func34, Tryd.ntmps34
 go_upto_region 1 with fail
 generalize hb : w.heap.size = b at HX ⊢
 generalize w.alloc (.cells (snapC vN (.slice A ops.length c) base) 37) = w1 at HX HB ⊢
 go_wp2_with fail
 try go_frame
 go_loopg [3] (ops.length + 1) (fun kq p wr => ∃ i : Int, Aside0 ((kq : Int) + i = (ops.length : Int) + 2 ∧ 1 ≤ i ∧ i ≤ (ops.length : Int) + 1) ∧ p = .int .i64 i ∧ Aside0 (incTo ops i) ∧ Aside0 (wr.heap[b]? = some (.cells (snapC vN (.slice A ops.length c) base) 37 (0, 0))) ∧ Aside0 (Below w.heap.size w wr))
 case atStart => exact ⟨1, ⟨by omega⟩, rfl, ⟨fun y h1 h2 => by omega⟩, HX, HB⟩
 case round =>
  clear HX HB
  obtain ⟨i, HI, rfl, HJ, HX, HB⟩ := hrel
  obtain ⟨z0, z1, z2, z3, zf⟩ := Z4 HX.out
  by_cases hi : i < (ops.length : Int)
  · obtain ⟨k1, rfl⟩ : ∃ k1, gk = k1 + 1 := ⟨((ops.length : Int) - i).toNat + 1, by have := HI.out; omega⟩
    have d0 : decide (i < (ops.length : Int)) = true := decide_eq_true hi
    have h1 : 1 ≤ i := HI.out.2.1
    obtain ⟨ad, e, x0, x1, x2, x3, x4, x5, x6, x7, x8⟩ := at_T25 (HO.out.below HB.out).at.2.2 i (by omega) hi
    cases e
    have p1 : (0 ≤ i) = True := eq_true (by omega)
    have q1 := eq_true hi
    have hw1 : wrap64 (i + 1) = i + 1 := by have := HOL.out; unfold wrap64; omega
    obtain ⟨z, hz⟩ : ∃ z, wrap64 (i - 1) = z := ⟨_, rfl⟩
    have hz2 : IntKind.i64.wrap (i - 1) = z := by have := HOL.out; rw [IntKind.wrap_i64, ← hz]; unfold wrap64; omega
    have HZX := Aside0.mk (show z = i - 1 by rw [← hz]; have := HOL.out; unfold wrap64; omega)
    have HZ0 := Aside0.mk (show 0 ≤ z by have := HZX.out; omega)
    have HZ1 := Aside0.mk (show z < (ops.length : Int) by have := HZX.out; omega)
    have p2 := eq_true HZ0.out
    have q2 := eq_true HZ1.out
    have HI1 := Aside0.mk hi
    obtain ⟨y1, y2⟩ := opx2 (HO.out.below HB.out) HZ0.out HZ1.out
    have HLS := Aside0.mk (less_f (rd_T25 ops z).f1 (rd_T25 ops i).f1)
    have HPZ := Aside0.mk (show rd_T25 ops (i - 1) = rd_T25 ops z by rw [HZX.out])
    clear hi h1
    go_upto_region 4 with fail
    go_still_tail 13, (by kernel_rfl)
    replace HX := Aside0.mk (show wr.drew.heap[b]? = _ from HX.out)
    replace HB := Aside0.mk HB.out.drew
    cases hl : lessB (rd_T25 ops z).f1 (rd_T25 ops i).f1 with
    | false =>
     rw [hl] at HLS
     have HF := Aside0.mk (show ¬ MayP nodes ops base from fun h => by
      have := h.1 i (HI.out.2.1) HI1.out
      rw [HPZ.out, hl] at this
      cases this)
     clear hl
     go_wp2_with (go_at_call 68; refine (clock_Less.calls _ _ _ _ _ _ HLS.out).mono ?_; rintro e w5 ⟨rfl, hb5⟩)
     go_ret
     exact ⟨by rw [may_no HF.out]; first | done | rfl, below_then HB.out HB.out.size hb5⟩
    | true =>
     rw [hl] at HLS
     have HJ2 := Aside0.mk (show incTo ops (i + 1) from fun y a b => by
      by_cases hy : y = i
      · rw [hy, HPZ.out]; exact hl
      · exact HJ.out y a (by omega))
     clear hl
     go_wp2_with (go_at_call 68; refine (clock_Less.calls _ _ _ _ _ _ HLS.out).mono ?_; rintro e w5 ⟨rfl, hb5⟩; have HX5 := Aside0.mk (blk_below HX.out hb5); have HB5 := Aside0.mk (below_then HB.out HB.out.size hb5); clear hb5)
     go_roundg k1
     case measure => exact Nat.lt_succ_self _
     case rel => exact ⟨i + 1, ⟨by have := HI.out; have := HI1.out; omega⟩, (by first | rfl | rw [hw1]), HJ2, HX5, HB5⟩
  · have d0 : decide (i < (ops.length : Int)) = false := decide_eq_false hi
    have HJ2 := Aside0.mk (show incTo ops ops.length from fun y a b => HJ.out y a (by omega))
    obtain ⟨AN, cN, rfl, hc2, hC2⟩ := (HN.out.below HB.out)
    have HN2 := Aside0.mk (show RowN wr (.slice AN nodes.length cN) nodes from ⟨AN, cN, rfl, hc2, hC2⟩)
    have HO2 := Aside0.mk (HO.out.below HB.out)
    have HL2 := Aside0.mk (HLD.out.below HB.out)
    clear hi hc2 hC2
    go_wp2_with (go_at_call 69; refine (ofE wr _ _ nodes ops base HN2.out HO2.out HNM.out HON.out HOL.out HL2.out).mono ?_; rintro e w5 ⟨p, cd, rfl, hcd, hb5⟩; have HC := Aside0.mk hcd; have HB5 := Aside0.mk (below_then HB.out HB.out.size hb5); clear hcd hb5)
    go_ret
    refine ⟨?_, HB5.out⟩
    by_cases h : cd = 0
    · rw [may_yes ⟨HJ2.out, HC.out.1 h⟩]; simp [h]
    · rw [may_no (fun hm => h (HC.out.2 hm.2))]; simp [h]
/-- What Put writes. -/
def snapSt (nodes : List Nod) (ops : List Opn) (base : Stp) : St := ((((St.stamp (false, []) base.f0 base.f1).num nodes.length).nodes nodes).num ops.length).opns ops
def putP (nodes : List Nod) (ops : List Opn) (base : Stp) : ByteArray × Int := if mayB nodes ops base = true then (snapSt nodes ops base).done else (⟨#[]⟩, 1)
set_option maxHeartbeats 8000000 in
set_option maxRecDepth 100000 in
theorem Put_calls (w : World) (vN vO : Value) (nodes : List Nod) (ops : List Opn) (base : Stp) (hN : RowN w vN nodes) (hO : RowO w vO ops) (hsn : ∀ m ∈ nodes, m.f2.size ≤ 140737488355328 ∧ m.f3.size ≤ 140737488355328) (hso : ∀ o ∈ ops, o.f4.size ≤ 1024 ∧ o.f5.size ≤ 140737488355328) (hnl : nodes.length ≤ 100000) (hol : ops.length ≤ 100000) (hL : Laid w) :
 Calls Tryd.prog 15 #[.agg (snapC vN vO base)] w fun e w' => e = .returned (.tuple #[.string (putP nodes ops base).1, .int .i64 (putP nodes ops base).2]) ∧ Below w.heap.size w w' := by
 have hu := Tryd.underlying37
 have hu2 := Tryd.underlying23
 have HSN := Aside0.mk hsn
 have HSO := Aside0.mk (show ∀ o ∈ ops, o.f4.size ≤ 140737488355328 ∧ o.f5.size ≤ 140737488355328 from fun o ho => ⟨Nat.le_trans (hso o ho).1 (by decide), (hso o ho).2⟩)
 have HNL := Aside0.mk hnl
 have HOL := Aside0.mk hol
 have HN := Aside0.mk hN
 have HO := Aside0.mk hO
 obtain ⟨AN, cN, rfl, hc2, hC2⟩ := hN
 obtain ⟨A, c, rfl, hc1, hC1⟩ := hO
 have HX := Aside0.mk (heap_alloc_new w (.cells (snapC (.slice AN nodes.length cN) (.slice A ops.length c) base) 37))
 have HB := Aside0.mk (below_alloc (Below.refl w.heap.size w) (.cells (snapC (.slice AN nodes.length cN) (.slice A ops.length c) base) 37))
 have HM := Aside0.mk (fun w1 (hb : Below w.heap.size w w1) => may_calls w1 _ _ nodes ops base (HN.out.below hb) (HO.out.below hb) (fun m hm => by have := (hsn m hm).1; omega) (fun o ho => (hso o ho).1) hol (hL.below hb))
 clear hc1 hC1 hc2 hC2 hsn hso hnl hol hL
 go_enter Tryd.func15, Tryd.ntmps15
 go_upto_region 1 with fail
 generalize hb : w.heap.size = b at HX ⊢
 have HBW := Aside0.mk hb
 clear hb
 generalize w.alloc (.cells (snapC (.slice AN nodes.length cN) (.slice A ops.length c) base) 37) = w1 at HX HB ⊢
 obtain ⟨z0, z1, z2, z3, zf⟩ := Z4 HX.out
 cases hm : mayB nodes ops base with
 | false =>
  have HP := Aside0.mk (show putP nodes ops base = (⟨#[]⟩, 1) by unfold putP; rw [hm]; rfl)
  rw [hm] at HM
  go_wp2_with (go_at_call 34; refine (HM.out w1 HB.out).mono ?_; rintro e w2 ⟨rfl, hb⟩)
  go_ret2
  exact ⟨by rw [HP.out]; first | done | rfl, below_then HB.out HB.out.size hb⟩
 | true =>
  have HP := Aside0.mk (show putP nodes ops base = (snapSt nodes ops base).done by unfold putP; rw [hm]; rfl)
  rw [hm] at HM
  go_upto_region 3 with (go_at_call 34; refine (HM.out w1 HB.out).mono ?_; rintro e w2 ⟨rfl, hb⟩)
  have HX2 := Aside0.mk (blk_below HX.out hb)
  have HB2 := Aside0.mk (below_then HB.out HB.out.size hb)
  clear hb z0 z1 z2 z3 zf HX HB HM hm
  go_upto_region 4 with (go_at_call 23; refine (NewOut_calls w w2 HB2.out).mono ?_; rintro e w3 ⟨g, rfl, hO, hge, hb⟩)
  have hgx : b ≠ g := by have := HBW.out; have := HX2.out; have := blk_lt this; omega
  have HX3 := blk_below HX2.out hb
  have HQ := Aside0.mk (heap_alloc_new w3 (.cells #[.pointer (some ⟨g, 0, none⟩)] 54))
  have HX4 := Aside0.mk (blk_below HX3 (below_alloc (Below.refl w3.heap.size w3) (.cells #[.pointer (some ⟨g, 0, none⟩)] 54)))
  have HO4 := Aside0.mk (hO.below (below_alloc (Below.refl w3.heap.size w3) (.cells #[.pointer (some ⟨g, 0, none⟩)] 54)))
  have HB4 := Aside0.mk (below_alloc (below_then HB2.out HB2.out.size hb) (.cells #[.pointer (some ⟨g, 0, none⟩)] 54))
  clear HX3 hO hb HX2 HB2 hge
  generalize w3.heap.size = q at HQ ⊢
  generalize w3.alloc (.cells #[.pointer (some ⟨g, 0, none⟩)] 54) = w4 at HX4 HQ HO4 HB4 ⊢
  have hqg : q ≠ g := OutAt.ne HO4.out HQ.out
  have q0 : w4.cell? ⟨q, 0, none⟩ = some (.pointer (some ⟨g, 0, none⟩)) := (blk_cell HQ.out 0).trans rfl
  obtain ⟨z0, z1, z2, z3, zf⟩ := Z4 HX4.out
  have HC := Aside0.mk (Stamp_calls g base.f0 base.f1 (false, []) true w w4 HO4.out HB4.out (by decide))
  go_upto_region 5 with (go_at_call 35; refine HC.out.mono ?_; rintro e w5 ⟨rfl, h1, hk, hb⟩)
  clear q0 z0 z1 z2 z3 zf HC HO4 HB4
  have HX5 := Aside0.mk (hk.2 _ _ HX4.out hgx (fun cs e => by cases e))
  have HQ5 := Aside0.mk (hk.box HQ.out hqg)
  have q0 : w5.cell? ⟨q, 0, none⟩ = some (.pointer (some ⟨g, 0, none⟩)) := (blk_cell HQ5.out 0).trans rfl
  obtain ⟨z0, z1, z2, z3, zf⟩ := Z4 HX5.out
  have HC := Aside0.mk (list1_calls g q _ nodes _ w w5 HN.out HNL.out HSN.out h1 hb (St.stamp_le _ _ _ (by decide)) HQ5.out)
  clear h1 hk hb
  go_upto_region 6 with (go_at_call 36; refine HC.out.mono ?_; rintro e w6 ⟨rfl, h1, hk, hb⟩)
  clear q0 z0 z1 z2 z3 zf HC
  have HX6 := Aside0.mk (hk.2 _ _ HX5.out hgx (fun cs e => by cases e))
  have HQ6 := Aside0.mk (hk.box HQ5.out hqg)
  have q0 : w6.cell? ⟨q, 0, none⟩ = some (.pointer (some ⟨g, 0, none⟩)) := (blk_cell HQ6.out 0).trans rfl
  obtain ⟨z0, z1, z2, z3, zf⟩ := Z4 HX6.out
  have HC := Aside0.mk (list2_calls g q _ ops _ w w6 HO.out HOL.out HSO.out h1 hb (St.nodes_le _ _ (St.num_le _ _ (St.stamp_le _ _ _ (by decide)))) HQ6.out)
  clear h1 hk hb
  go_upto_region 7 with (go_at_call 39; refine HC.out.mono ?_; rintro e w7 ⟨rfl, h1, hk, hb⟩)
  clear q0 z0 z1 z2 z3 zf HC
  have HQ7 := Aside0.mk (hk.box HQ6.out hqg)
  have q0 : w7.cell? ⟨q, 0, none⟩ = some (.pointer (some ⟨g, 0, none⟩)) := (blk_cell HQ7.out 0).trans rfl
  have HC := Aside0.mk (Done_calls g (snapSt nodes ops base) w w7 h1)
  have HB7 := Aside0.mk hb
  clear h1 hk hb
  go_wp2_with (go_at_call 25; refine HC.out.mono ?_; rintro e w8 ⟨rfl, hb⟩)
  go_ret2
  exact ⟨by rw [HP.out]; first | done | rfl, below_then HB7.out HB7.out.size hb⟩
end Go.Proofs.YtlfgdaiegefjiaaDoor.S
/- Take, as the machine walks it. -/
namespace Go.Proofs.YtlfgdaiegefjiaaDoor.S
open Go.RowKit Go.Proofs.YtlfgdaiegefjiaaDoorW.PrintWords Go.Proofs.YtlfgdaiegefjiaaDoorW.PrintLast Go.Proofs.YtlfgdaiegefjiaaDoorW.PrintMore
set_option linter.unusedVariables false
set_option linter.unusedSimpArgs false
def inDone (s : ByteArray) (e : Int) : Int := if e = 0 then (if s.toList = ([] : List UInt8) then 0 else 91) else e
theorem done_is (s : ByteArray) (e : Int) : code_In_Done.f true s e = some (inDone s e, true, s, e) := by
 unfold code_In_Done.f inDone
 rw [if_pos rfl]
 by_cases he : e = 0
 · subst he
   by_cases hs : s.toList = ([] : List UInt8) <;> simp [hs]
 · simp [he]
/-- What Take makes of bytes. -/
def takeP (s : ByteArray) : (List Nod × List Opn × Stp) × Int :=
 if ((someN (rdStamp s 0).2.1 (rdStamp s 0).2.2).2.1 && ((someO (someN (rdStamp s 0).2.1 (rdStamp s 0).2.2).2.2.1 (someN (rdStamp s 0).2.1 (rdStamp s 0).2.2).2.2.2).2.1 && (decide (inDone (someO (someN (rdStamp s 0).2.1 (rdStamp s 0).2.2).2.2.1 (someN (rdStamp s 0).2.1 (rdStamp s 0).2.2).2.2.2).2.2.1 (someO (someN (rdStamp s 0).2.1 (rdStamp s 0).2.2).2.2.1 (someN (rdStamp s 0).2.1 (rdStamp s 0).2.2).2.2.2).2.2.2 = 0) && (decide (s.size ≤ 65536) && mayB (someN (rdStamp s 0).2.1 (rdStamp s 0).2.2).1 (someO (someN (rdStamp s 0).2.1 (rdStamp s 0).2.2).2.2.1 (someN (rdStamp s 0).2.1 (rdStamp s 0).2.2).2.2.2).1 (rdStamp s 0).1)))) = true
 then (((someN (rdStamp s 0).2.1 (rdStamp s 0).2.2).1, (someO (someN (rdStamp s 0).2.1 (rdStamp s 0).2.2).2.2.1 (someN (rdStamp s 0).2.1 (rdStamp s 0).2.2).2.2.2).1, (rdStamp s 0).1), 0) else (([], [], ⟨0, 0⟩), 91)
theorem take_of {s s1 s2 s3 : ByteArray} {b : Stp} {e1 e2 e3 : Int} {ln : List Nod} {lo : List Opn} {okN okO : Bool} (h1 : rdStamp s 0 = (b, s1, e1)) (h2 : someN s1 e1 = (ln, okN, s2, e2)) (h3 : someO s2 e2 = (lo, okO, s3, e3)) :
 takeP s = if (okN && (okO && (decide (inDone s3 e3 = 0) && (decide (s.size ≤ 65536) && mayB ln lo b)))) = true then ((ln, lo, b), 0) else (([], [], ⟨0, 0⟩), 91) := by
 unfold takeP
 simp only [h1, h2, h3]
theorem someN_ok (s : ByteArray) (e : Int) : (someN s e).1.length ≤ 512 ∧ ∀ m ∈ (someN s e).1, m.f2.size ≤ 1024 ∧ m.f3.size ≤ 1024 := by
 unfold someN
 split
 · exact ⟨Nat.zero_le _, fun m h => by cases h⟩
 · rename_i h
   exact ⟨by rw [rdNodes_len]; omega, rdNodes_size _ _ _⟩
theorem someO_ok (s : ByteArray) (e : Int) : (someO s e).1.length ≤ 512 ∧ ∀ m ∈ (someO s e).1, m.f4.size ≤ 1024 ∧ m.f5.size ≤ 1024 := by
 unfold someO
 split
 · exact ⟨Nat.zero_le _, fun m h => by cases h⟩
 · rename_i h
   exact ⟨by rw [rdOpns_len]; omega, rdOpns_size _ _ _⟩
theorem NodesAt.set {w : World} {B k : Nat} {v : Value} {l : List Nod} (h : NodesAt w B v l) (hk : k < B) (j : Nat) (u : Value) : NodesAt (w.setCell ⟨k, j, none⟩ u) B v l := h.keep ((KeepBut.refl w k none).set_ j u) hk
theorem OpsAt.set {w : World} {B k : Nat} {v : Value} {l : List Opn} (h : OpsAt w B v l) (hk : k < B) (j : Nat) (u : Value) : OpsAt (w.setCell ⟨k, j, none⟩ u) B v l := h.keep ((KeepBut.refl w k none).set_ j u) hk
set_option maxHeartbeats 16000000 in
set_option maxRecDepth 100000 in
theorem Take_calls (w : World) (s : ByteArray) (hs : s.size ≤ 140737488355328) (hL : Laid w) :
 Calls Tryd.prog 17 #[.string s] w fun en w' => ∃ vN vO, en = .returned (.tuple #[.agg (snapC vN vO (takeP s).1.2.2), .int .i64 (takeP s).2]) ∧ NodesAt w' w.heap.size vN (takeP s).1.1 ∧ OpsAt w' w.heap.size vO (takeP s).1.2.1 ∧ Below w.heap.size w w' := by
 have hu := Tryd.underlying37
 have HL := Aside0.mk hL
 have HS0 := Aside0.mk hs
 obtain ⟨b, s1, e1, hb⟩ : ∃ b s1 e1, rdStamp s 0 = (b, s1, e1) := ⟨_, _, _, rfl⟩
 obtain ⟨ln, okN, s2, e2, hn⟩ : ∃ ln okN s2 e2, someN s1 e1 = (ln, okN, s2, e2) := ⟨_, _, _, _, rfl⟩
 obtain ⟨lo, okO, s3, e3, ho⟩ : ∃ lo okO s3 e3, someO s2 e2 = (lo, okO, s3, e3) := ⟨_, _, _, _, rfl⟩
 have HTK := Aside0.mk (take_of hb hn ho)
 have HSN := Aside0.mk (someN_ok s1 e1)
 have HSO := Aside0.mk (someO_ok s2 e2)
 rw [hn] at HSN
 rw [ho] at HSO
 have HRS := Aside0.mk (rdStamp_is s 0)
 rw [hb] at HRS
 have HHN := Aside0.mk hn
 have HHO := Aside0.mk ho
 generalize takeP s = tp at HTK ⊢
 have hnew := heap_alloc_new w (.cells #[.slice none 0 0, .slice none 0 0, .int .i64 0, .int .i64 0] 37)
 have hB1 := below_alloc (Below.refl w.heap.size w) (.cells #[.slice none 0 0, .slice none 0 0, .int .i64 0, .int .i64 0] 37)
 clear hL hs hb hn ho
 go_enter Tryd.func17, Tryd.ntmps17
 go_upto_region 1 with fail
 generalize hr : w.heap.size = r at hnew ⊢
 have HRW := Aside0.mk hr
 clear hr
 generalize w.alloc (.cells #[.slice none 0 0, .slice none 0 0, .int .i64 0, .int .i64 0] 37) = w1 at hnew hB1 ⊢
 have HB1 := Aside0.mk hB1
 have Hr1 := Aside0.mk hnew
 clear hnew hB1
 go_upto_region 2 with (go_at_call 29; refine (code_NewIn.calls s true s 0 w _ HB1.out rfl).mono ?_; rintro en w2 ⟨g, rfl, hI, hb, hb'⟩)
 have Hr2 := Aside0.mk (blk_below Hr1.out hb')
 have nr : r ≠ g := blk_ne Hr2.out hI.1 (by decide)
 have hI3 := Aside0.mk (hI.alloc (.cells #[.pointer (some ⟨g, 0, none⟩)] 62))
 have HB3 := Aside0.mk (below_alloc hb (.cells #[.pointer (some ⟨g, 0, none⟩)] 62))
 have Hq3 := Aside0.mk (heap_alloc_new w2 (.cells #[.pointer (some ⟨g, 0, none⟩)] 62))
 have Hr3 := Aside0.mk (blk_below Hr2.out (below_alloc (Below.refl w2.heap.size w2) (.cells #[.pointer (some ⟨g, 0, none⟩)] 62)))
 clear hI hb hb' HB1 Hr1 Hr2
 generalize w2.heap.size = q at Hq3 ⊢
 generalize w2.alloc (.cells #[.pointer (some ⟨g, 0, none⟩)] 62) = w3 at hI3 HB3 Hq3 Hr3 ⊢
 have nq : q ≠ g := in_ne hI3.out Hq3.out
 have cq : w3.cell? ⟨q, 0, none⟩ = some (.pointer (some ⟨g, 0, none⟩)) := (blk_cell Hq3.out 0).trans rfl
 have hS := Aside0.mk (code_In_Stamp.calls 20 g true s 0 _ _ _ _ _ w w3 hI3.out HB3.out HRS.out)
 go_upto_region 3 with (go_at_call 45; refine hS.out.mono ?_; rintro en w4 ⟨rfl, h1, h2, h3⟩)
 have Hr4 := Aside0.mk (keep_blk h3 Hr3.out nr)
 have Hq4 := Aside0.mk (keep_blk h3 Hq3.out nq)
 have hI5 := Aside0.mk (h1.alloc (.cells (snapC (.slice none 0 0) (.slice none 0 0) b) 37))
 have HB5 := Aside0.mk (below_alloc h2 (.cells (snapC (.slice none 0 0) (.slice none 0 0) b) 37))
 have Ho5 := Aside0.mk (heap_alloc_new w4 (.cells (snapC (.slice none 0 0) (.slice none 0 0) b) 37))
 have Hr5 := Aside0.mk (blk_below Hr4.out (below_alloc (Below.refl w4.heap.size w4) (.cells (snapC (.slice none 0 0) (.slice none 0 0) b) 37)))
 have Hq5 := Aside0.mk (blk_below Hq4.out (below_alloc (Below.refl w4.heap.size w4) (.cells (snapC (.slice none 0 0) (.slice none 0 0) b) 37)))
 have hor : w4.heap.size ≠ r := by have := blk_lt Hr4.out; omega
 have hoq : w4.heap.size ≠ q := by have := blk_lt Hq4.out; omega
 have hob : w.heap.size ≤ w4.heap.size := h2.size
 clear h1 h2 h3 cq hS hI3 HB3 Hq3 Hr3 Hr4 Hq4
 generalize w4.heap.size = o at Ho5 hor hoq hob ⊢
 generalize w4.alloc (.cells (snapC (.slice none 0 0) (.slice none 0 0) b) 37) = w5 at hI5 HB5 Ho5 Hr5 Hq5 ⊢
 have no : o ≠ g := blk_ne Ho5.out hI5.out.1 (by decide)
 have cq : w5.cell? ⟨q, 0, none⟩ = some (.pointer (some ⟨g, 0, none⟩)) := (blk_cell Hq5.out 0).trans rfl
 have hN := some1_calls g q s1 e1 w w5 hI5.out HB5.out Hq5.out
 rw [HHN.out] at hN
 replace hN := Aside0.mk hN
 have HgB : Aside0 (g < w5.heap.size ∧ o < w5.heap.size ∧ r < w5.heap.size) := ⟨blk_lt hI5.out.1, blk_lt Ho5.out, blk_lt Hr5.out⟩
 go_upto_region 4 with fail
 go_upto_region 5 with (go_at_call 46; refine hN.out.mono ?_; rintro en w6 ⟨vN, rfl, hn, h1, h2, h3⟩; obtain ⟨AN, cN, rfl, _, _⟩ := NodesAt.reads hn; have cf := blk_frozen (keep_blk h3 Ho5.out no) 0; have co := (blk_cell (keep_blk h3 Ho5.out no) 0).trans rfl)
 generalize hB5 : w5.heap.size = B5 at HgB hn
 have Hr6 := keep_blk h3 Hr5.out nr
 have Hq6 := keep_blk h3 Hq5.out nq
 have Ho6 := keep_blk h3 Ho5.out no
 have hI7 := Aside0.mk (in_set h1 no 0 (.slice AN ln.length cN))
 have HB7 := Aside0.mk (below_set (j := 0) (v := .slice AN ln.length cN) h2 hob)
 have Ho7 := Aside0.mk (blk_set Ho6 0 (.slice AN ln.length cN))
 have Hr7 := Aside0.mk ((Below.heap_setCell w6 ⟨o, 0, none⟩ (.slice AN ln.length cN) r (Ne.symm hor)).trans Hr6)
 have Hq7 := Aside0.mk ((Below.heap_setCell w6 ⟨o, 0, none⟩ (.slice AN ln.length cN) q (Ne.symm hoq)).trans Hq6)
 have HN7 := Aside0.mk (hn.set HgB.out.2.1 0 (.slice AN ln.length cN))
 have HB5s := Aside0.mk (show B5 ≤ (w6.setCell ⟨o, 0, none⟩ (.slice AN ln.length cN)).heap.size by have := h3.1; simp; omega)
 clear h1 h2 h3 cq hN hn Hr6 Hq6 Ho6 hB5 hI5 HB5 Ho5 Hr5 Hq5
 generalize w6.setCell ⟨o, 0, none⟩ (.slice AN ln.length cN) = w7 at hI7 HB7 Ho7 Hr7 Hq7 HN7 HB5s ⊢
 clear cf co
 have cq : w7.cell? ⟨q, 0, none⟩ = some (.pointer (some ⟨g, 0, none⟩)) := (blk_cell Hq7.out 0).trans rfl
 have hO := some2_calls g q s2 e2 w w7 hI7.out HB7.out Hq7.out
 rw [HHO.out] at hO
 replace hO := Aside0.mk hO
 go_upto_region 6 with (go_at_call 49; refine hO.out.mono ?_; rintro en w8 ⟨vO, rfl, hn, h1, h2, h3⟩; obtain ⟨AO, cO, rfl, _, _⟩ := own_row hn.row; have cf := blk_frozen (keep_blk h3 Ho7.out no) 1; have co := (blk_cell (keep_blk h3 Ho7.out no) 1).trans rfl)
 have Hr8 := keep_blk h3 Hr7.out nr
 have Hq8 := keep_blk h3 Hq7.out nq
 have Ho8 := keep_blk h3 Ho7.out no
 have hI9 := Aside0.mk (in_set h1 no 1 (.slice AO lo.length cO))
 have HB9 := Aside0.mk (below_set (j := 1) (v := .slice AO lo.length cO) h2 hob)
 have Ho9 := Aside0.mk (show (w8.setCell ⟨o, 1, none⟩ (.slice AO lo.length cO)).heap[o]? = some (.cells (snapC (.slice AN ln.length cN) (.slice AO lo.length cO) b) 37 (0, 0)) from blk_set Ho8 1 (.slice AO lo.length cO))
 have Hr9 := Aside0.mk ((Below.heap_setCell w8 ⟨o, 1, none⟩ (.slice AO lo.length cO) r (Ne.symm hor)).trans Hr8)
 have Hq9 := Aside0.mk ((Below.heap_setCell w8 ⟨o, 1, none⟩ (.slice AO lo.length cO) q (Ne.symm hoq)).trans Hq8)
 have HN9 := Aside0.mk ((HN7.out.keep h3 HgB.out.1).set HgB.out.2.1 1 (.slice AO lo.length cO))
 have HO9 := Aside0.mk (hn.set (show o < w7.heap.size by have := HB5s.out; have := HgB.out.2.1; omega) 1 (.slice AO lo.length cO))
 have HgO : Aside0 (g < w7.heap.size ∧ r < w7.heap.size) := ⟨by have := HB5s.out; have := HgB.out.1; omega, by have := HB5s.out; have := HgB.out.2.2; omega⟩
 clear h1 h2 h3 cq hO hn Hr8 Hq8 Ho8 hI7 HB7 Ho7 Hr7 Hq7 HN7 HB5s
 generalize w7.heap.size = B7 at HO9 HgO
 generalize w8.setCell ⟨o, 1, none⟩ (.slice AO lo.length cO) = w9 at hI9 HB9 Ho9 Hr9 Hq9 HN9 HO9 ⊢
 clear cf co
 have cq : w9.cell? ⟨q, 0, none⟩ = some (.pointer (some ⟨g, 0, none⟩)) := (blk_cell Hq9.out 0).trans rfl
 obtain ⟨o0, o1, o2, o3, of⟩ := Z4 Ho9.out
 obtain ⟨r0, r1, r2, r3, f0, f1, f2, f3⟩ := Z4 Hr9.out
 have hrw : w.heap.size ≤ r := Nat.le_of_eq HRW.out
 cases okN with
 | false =>
  have HF := Aside0.mk (show tp = (([], [], ⟨0, 0⟩), 91) by rw [HTK.out]; simp)
  go_wp2
  refine bodyPost_ret (results_ct rfl _ _ r 37 (snapC (.slice none 0 0) (.slice none 0 0) ⟨0, 0⟩) (0, 0) _ rfl (blk_set (blk_set (blk_set (blk_set Hr9.out 0 _) 1 _) 2 _) 3 _) Tryd.underlying37 rfl (by kernel_rfl)) rfl ?_
  rw [HF.out]
  exact ⟨_, _, rfl, World.ownsRow_nil _ _ _ _, OpsAt.of_row (World.ownsRow_nil _ _ _ _), below_set (below_set (below_set (below_set HB9.out hrw) hrw) hrw) hrw⟩
 | true =>
  cases okO with
  | false =>
   have HF := Aside0.mk (show tp = (([], [], ⟨0, 0⟩), 91) by rw [HTK.out]; simp)
   go_wp2
   refine bodyPost_ret (results_ct rfl _ _ r 37 (snapC (.slice none 0 0) (.slice none 0 0) ⟨0, 0⟩) (0, 0) _ rfl (blk_set (blk_set (blk_set (blk_set Hr9.out 0 _) 1 _) 2 _) 3 _) Tryd.underlying37 rfl (by kernel_rfl)) rfl ?_
   rw [HF.out]
   exact ⟨_, _, rfl, World.ownsRow_nil _ _ _ _, OpsAt.of_row (World.ownsRow_nil _ _ _ _), below_set (below_set (below_set (below_set HB9.out hrw) hrw) hrw) hrw⟩
  | true =>
   have HD := Aside0.mk (done_is s3 e3)
   generalize inDone s3 e3 = d at HD HTK
   by_cases hd : d = 0
   rotate_left
   · have m1 : decide (d = 0) = false := decide_eq_false hd
     have m2 : (d == 0) = false := beq_eq_false_iff_ne.2 hd
     have m3 : (d = 0) = False := eq_false hd
     have HNE := Aside0.mk hd
     clear hd
     have HF := Aside0.mk (show tp = (([], [], ⟨0, 0⟩), 91) by rw [HTK.out]; simp [HNE.out])
     go_wp2_with (go_at_call 31; refine (code_In_Done.calls g true s3 e3 _ _ _ _ w w9 hI9.out HB9.out HD.out).mono ?_; rintro en w10 ⟨rfl, h1, h2, h3⟩; have Ho10 := Aside0.mk (keep_blk h3 Ho9.out no); have Hr10 := Aside0.mk (keep_blk h3 Hr9.out nr); have HB10 := Aside0.mk h2; have HN10 := Aside0.mk (HN9.out.keep h3 HgB.out.1); have HO10 := Aside0.mk (HO9.out.keep h3 HgO.out.1); clear h1 h2 h3 o0 o1 o2 o3 of r0 r1 r2 r3 f0 f1 f2 f3 cq; obtain ⟨o0, o1, o2, o3, of⟩ := Z4 Ho10.out; obtain ⟨r0, r1, r2, r3, f0, f1, f2, f3⟩ := Z4 Hr10.out)
     refine bodyPost_ret (results_ct rfl _ _ r 37 (snapC (.slice none 0 0) (.slice none 0 0) ⟨0, 0⟩) (0, 0) _ rfl (blk_set (blk_set (blk_set (blk_set Hr10.out 0 _) 1 _) 2 _) 3 _) Tryd.underlying37 rfl (by kernel_rfl)) rfl ?_
     rw [HF.out]
     exact ⟨_, _, rfl, World.ownsRow_nil _ _ _ _, OpsAt.of_row (World.ownsRow_nil _ _ _ _), below_set (below_set (below_set (below_set HB10.out hrw) hrw) hrw) hrw⟩
   · subst hd
     have hsz := HS0.out
     by_cases hz : s.size ≤ 65536
     rotate_left
     · have z1 : decide ((s.size : Int) > 65536) = true := decide_eq_true (by omega)
       have z2 : decide ((65536 : Int) < (s.size : Int)) = true := decide_eq_true (by omega)
       have z3 : (65536 < s.size) = True := eq_true (by omega)
       have HNE := Aside0.mk hz
       clear hz hsz
       have HF := Aside0.mk (show tp = (([], [], ⟨0, 0⟩), 91) by rw [HTK.out]; simp [HNE.out])
       go_wp2_with (go_at_call 31; refine (code_In_Done.calls g true s3 e3 _ _ _ _ w w9 hI9.out HB9.out HD.out).mono ?_; rintro en w10 ⟨rfl, h1, h2, h3⟩; have Ho10 := Aside0.mk (keep_blk h3 Ho9.out no); have Hr10 := Aside0.mk (keep_blk h3 Hr9.out nr); have HB10 := Aside0.mk h2; have HN10 := Aside0.mk (HN9.out.keep h3 HgB.out.1); have HO10 := Aside0.mk (HO9.out.keep h3 HgO.out.1); clear h1 h2 h3 o0 o1 o2 o3 of r0 r1 r2 r3 f0 f1 f2 f3 cq; obtain ⟨o0, o1, o2, o3, of⟩ := Z4 Ho10.out; obtain ⟨r0, r1, r2, r3, f0, f1, f2, f3⟩ := Z4 Hr10.out)
       refine bodyPost_ret (results_ct rfl _ _ r 37 (snapC (.slice none 0 0) (.slice none 0 0) ⟨0, 0⟩) (0, 0) _ rfl (blk_set (blk_set (blk_set (blk_set Hr10.out 0 _) 1 _) 2 _) 3 _) Tryd.underlying37 rfl (by kernel_rfl)) rfl ?_
       rw [HF.out]
       exact ⟨_, _, rfl, World.ownsRow_nil _ _ _ _, OpsAt.of_row (World.ownsRow_nil _ _ _ _), below_set (below_set (below_set (below_set HB10.out hrw) hrw) hrw) hrw⟩
     · have z1 : decide ((s.size : Int) > 65536) = false := decide_eq_false (by omega)
       have z2 : decide ((65536 : Int) < (s.size : Int)) = false := decide_eq_false (by omega)
       have z3 : (65536 < s.size) = False := eq_false (by omega)
       have HZ := Aside0.mk hz
       clear hz hsz
       cases hm : mayB ln lo b with
       | false =>
        have HM := Aside0.mk hm
        have HF := Aside0.mk (show tp = (([], [], ⟨0, 0⟩), 91) by rw [HTK.out]; simp [HM.out])
        go_wp2_with (first | (go_at_call 31; refine (code_In_Done.calls g true s3 e3 _ _ _ _ w w9 hI9.out HB9.out HD.out).mono ?_; rintro en w10 ⟨rfl, h1, h2, h3⟩; have Ho10 := Aside0.mk (keep_blk h3 Ho9.out no); have Hr10 := Aside0.mk (keep_blk h3 Hr9.out nr); have HB10 := Aside0.mk h2; have HN10 := Aside0.mk (HN9.out.keep h3 HgB.out.1); have HO10 := Aside0.mk (HO9.out.keep h3 HgO.out.1); clear h1 h2 h3 o0 o1 o2 o3 of r0 r1 r2 r3 f0 f1 f2 f3 cq; obtain ⟨o0, o1, o2, o3, of⟩ := Z4 Ho10.out; obtain ⟨r0, r1, r2, r3, f0, f1, f2, f3⟩ := Z4 Hr10.out) | (go_at_call 34; refine (may_calls w10 _ _ ln lo b (NodesAt.reads HN10.out) (own_row HO10.out.row) (fun m hm => by have := (HSN.out.2 m hm).1; omega) (fun m hm => (HSO.out.2 m hm).1) (by have := HSO.out.1; omega) (HL.out.below HB10.out)).mono ?_; rintro en w11 ⟨rfl, hb⟩; have Ho11 := Aside0.mk (blk_below Ho10.out hb); have Hr11 := Aside0.mk (blk_below Hr10.out hb); have HB11 := Aside0.mk (below_then HB10.out HB10.out.size hb); have HN11 := Aside0.mk (HN10.out.keep (KeepBut.of_below hb r none) HgB.out.2.2); have HO11 := Aside0.mk (HO10.out.keep (KeepBut.of_below hb r none) HgO.out.2); clear hb o0 o1 o2 o3 of r0 r1 r2 r3 f0 f1 f2 f3; obtain ⟨o0, o1, o2, o3, of⟩ := Z4 Ho11.out; obtain ⟨r0, r1, r2, r3, f0, f1, f2, f3⟩ := Z4 Hr11.out; rw [hm]))
        refine bodyPost_ret (results_ct rfl _ _ r 37 (snapC (.slice none 0 0) (.slice none 0 0) ⟨0, 0⟩) (0, 0) _ rfl (blk_set (blk_set (blk_set (blk_set Hr11.out 0 _) 1 _) 2 _) 3 _) Tryd.underlying37 rfl (by kernel_rfl)) rfl ?_
        rw [HF.out]
        exact ⟨_, _, rfl, World.ownsRow_nil _ _ _ _, OpsAt.of_row (World.ownsRow_nil _ _ _ _), below_set (below_set (below_set (below_set HB11.out hrw) hrw) hrw) hrw⟩
       | true =>
        have HF := Aside0.mk (show tp = ((ln, lo, b), 0) by rw [HTK.out]; simp [hm, HZ.out])
        go_wp2_with (first | (go_at_call 31; refine (code_In_Done.calls g true s3 e3 _ _ _ _ w w9 hI9.out HB9.out HD.out).mono ?_; rintro en w10 ⟨rfl, h1, h2, h3⟩; have Ho10 := Aside0.mk (keep_blk h3 Ho9.out no); have Hr10 := Aside0.mk (keep_blk h3 Hr9.out nr); have HB10 := Aside0.mk h2; have HN10 := Aside0.mk (HN9.out.keep h3 HgB.out.1); have HO10 := Aside0.mk (HO9.out.keep h3 HgO.out.1); clear h1 h2 h3 o0 o1 o2 o3 of r0 r1 r2 r3 f0 f1 f2 f3 cq; obtain ⟨o0, o1, o2, o3, of⟩ := Z4 Ho10.out; obtain ⟨r0, r1, r2, r3, f0, f1, f2, f3⟩ := Z4 Hr10.out) | (go_at_call 34; refine (may_calls w10 _ _ ln lo b (NodesAt.reads HN10.out) (own_row HO10.out.row) (fun m hm => by have := (HSN.out.2 m hm).1; omega) (fun m hm => (HSO.out.2 m hm).1) (by have := HSO.out.1; omega) (HL.out.below HB10.out)).mono ?_; rintro en w11 ⟨rfl, hb⟩; have Ho11 := Aside0.mk (blk_below Ho10.out hb); have Hr11 := Aside0.mk (blk_below Hr10.out hb); have HB11 := Aside0.mk (below_then HB10.out HB10.out.size hb); have HN11 := Aside0.mk (HN10.out.keep (KeepBut.of_below hb r none) HgB.out.2.2); have HO11 := Aside0.mk (HO10.out.keep (KeepBut.of_below hb r none) HgO.out.2); clear hb o0 o1 o2 o3 of r0 r1 r2 r3 f0 f1 f2 f3; obtain ⟨o0, o1, o2, o3, of⟩ := Z4 Ho11.out; obtain ⟨r0, r1, r2, r3, f0, f1, f2, f3⟩ := Z4 Hr11.out; rw [hm]))
        refine bodyPost_ret (results_ct rfl _ _ r 37 (snapC (.slice AN ln.length cN) (.slice AO lo.length cO) b) (0, 0) _ rfl (blk_set (blk_set (blk_set (blk_set Hr11.out 0 _) 1 _) 2 _) 3 _) Tryd.underlying37 rfl (by kernel_rfl)) rfl ?_
        rw [HF.out]
        exact ⟨_, _, rfl, ownsRow_le ((((HN11.out.set HgB.out.2.2 _ _).set HgB.out.2.2 _ _).set HgB.out.2.2 _ _).set HgB.out.2.2 _ _) (by have := HRW.out; have := HgB.out.2.2; omega), OpsAt.of_row (ownsRow_le ((((HO11.out.set HgO.out.2 _ _).set HgO.out.2 _ _).set HgO.out.2 _ _).set HgO.out.2 _ _).row (by have := HRW.out; have := HgO.out.2; omega)), below_set (below_set (below_set (below_set HB11.out hrw) hrw) hrw) hrw⟩
end Go.Proofs.YtlfgdaiegefjiaaDoor.S
/- The document's may; Put and Take; in the form of the printed contracts. -/
namespace Go.Proofs.YtlfgdaiegefjiaaDoor.S
open Go.RowKit Go.Proofs.YtlfgdaiegefjiaaDoorW.PrintWords Go.Proofs.YtlfgdaiegefjiaaDoorW.PrintLast Go.Proofs.YtlfgdaiegefjiaaDoorW.PrintMore
set_option linter.unusedVariables false
set_option linter.unusedSimpArgs false
/-- The document's Of, in short. -/
theorem rofE (w : World) (vN vO : Value) (nodes : List Nod) (ops : List Opn) (base : Stp) (hN : RowN w vN nodes) (hO : RowO w vO ops) (hnm : ∀ m ∈ nodes, m.f2.size ≤ 1024) (hon : ∀ o ∈ ops, o.f4.size ≤ 1024) (hol : ops.length ≤ 100000) :
 Calls Tryd.prog 74 #[.agg #[vN, vO, .int .i64 base.f0, .int .i64 base.f1]] w fun e w' => ∃ A n c A' n' c' t1 t2 cd, e = .returned (.tuple #[.agg #[.slice A n c, .slice A' n' c', .int .i64 t1, .int .i64 t2], .int .i64 cd]) ∧ (cd = 0 ↔ (StartOk base nodes ∧ (putAll (T0 base nodes) ops).2 = 0)) ∧ Below w.heap.size w w' := by
 refine (rOf_calls w vN vO nodes ops base hN hO hnm hon hol).mono ?_
 rintro e w' ⟨h1, h2, h3, hb⟩
 by_cases hs : StartOk base nodes
 · by_cases hp : (putAll (T0 base nodes) ops).2 = 0
   · obtain ⟨vO', e, hq, _⟩ := h3 hs hp
     obtain ⟨A, c, rfl, _⟩ := hN
     obtain ⟨A', c', rfl, _⟩ := hq.1
     exact ⟨_, _, _, _, _, _, _, _, _, e, ⟨fun _ => ⟨hs, hp⟩, fun _ => rfl⟩, hb⟩
   · exact ⟨_, _, _, _, _, _, _, _, _, h2 hs hp, ⟨fun h => absurd h hp, fun h => absurd h.2 hp⟩, hb⟩
 · exact ⟨_, _, _, _, _, _, _, _, _, h1 hs, ⟨fun h => absurd h (by decide), fun h => absurd h.1 hs⟩, hb⟩
set_option maxHeartbeats 8000000 in
set_option maxRecDepth 100000 in
theorem rmay_calls (w : World) (vN vO : Value) (nodes : List Nod) (ops : List Opn) (base : Stp) (hN : RowN w vN nodes) (hO : RowO w vO ops) (hnm : ∀ m ∈ nodes, m.f2.size ≤ 1024) (hon : ∀ o ∈ ops, o.f4.size ≤ 1024) (hol : ops.length ≤ 100000) :
 Calls Tryd.prog 41 #[.agg (snapC vN vO base)] w fun e w' => e = .returned (.bool (mayB nodes ops base)) ∧ Below w.heap.size w w' := by
 have hu := Tryd.underlying37
 have hu1 := Tryd.underlying25
 have hu2 := Tryd.underlying23
 have hu3 := Tryd.underlying45
 have HOL := Aside0.mk hol
 have HNM := Aside0.mk hnm
 have HON := Aside0.mk hon
 have HN := Aside0.mk hN
 obtain ⟨AN, cN, rfl, hc2, hC2⟩ := hN
 obtain ⟨A, c, rfl, hc1, hC1⟩ := hO
 have HO := Aside0.mk (show RowO w (.slice A ops.length c) ops from ⟨A, c, rfl, hc1, hC1⟩)
 have HX := Aside0.mk (heap_alloc_new w (.cells (snapC (.slice AN nodes.length cN) (.slice A ops.length c) base) 37))
 have HB := Aside0.mk (below_alloc (Below.refl w.heap.size w) (.cells (snapC (.slice AN nodes.length cN) (.slice A ops.length c) base) 37))
 clear hc1 hC1 hc2 hC2 hnm hon hol
 go_enter Tryd.func41, Tryd.ntmps41
 go_upto_region 1 with fail
 generalize w.heap.size = b at HX ⊢
 generalize w.alloc (.cells (snapC (.slice AN nodes.length cN) (.slice A ops.length c) base) 37) = w1 at HX HB ⊢
 obtain ⟨z0, z1, z2, z3, zf⟩ := Z4 HX.out
 go_upto_region 2 with (go_at_call 74; refine (rofE w1 _ _ nodes ops base (HN.out.below HB.out) (HO.out.below HB.out) HNM.out HON.out HOL.out).mono ?_; rintro e w2 ⟨Ax, nx, cx, Ay, ny, cy, t1, t2, cd, rfl, hcd, hb5⟩)
 have HX2 := Aside0.mk (blk_below HX.out (below_alloc hb5 (.cells #[.slice Ax nx cx, .slice Ay ny cy, .int .i64 t1, .int .i64 t2] 45)))
 have HB2 := Aside0.mk (below_then HB.out HB.out.size (below_alloc hb5 (.cells #[.slice Ax nx cx, .slice Ay ny cy, .int .i64 t1, .int .i64 t2] 45)))
 have HC := Aside0.mk hcd
 clear hb5 hcd z0 z1 z2 z3 zf HX HB
 generalize w2.alloc (.cells #[.slice Ax nx cx, .slice Ay ny cy, .int .i64 t1, .int .i64 t2] 45) = w3 at HX2 HB2 ⊢
 by_cases hc : cd = 0
 rotate_left
 · have m1 : decide (cd = 0) = false := decide_eq_false hc
   have m2 : (cd == 0) = false := beq_eq_false_iff_ne.2 hc
   have m3 : (cd = 0) = False := eq_false hc
   have HF := Aside0.mk (show mayB nodes ops base = false from may_no (fun h => hc (HC.out.2 h.2)))
   clear hc
   go_wp2
   go_ret
   exact ⟨by rw [HF.out]; first | done | rfl, HB2.out⟩
 · subst hc
   have HSP := Aside0.mk (HC.out.1 rfl)
   clear HC
   go_upto_region 4 with fail
   go_wp2_with fail
   try go_frame
   go_loopg [5] (ops.length + 1) (fun kq p wr => ∃ i : Int, Aside0 ((kq : Int) + i = (ops.length : Int) + 2 ∧ 1 ≤ i ∧ i ≤ (ops.length : Int) + 1) ∧ p = .int .i64 i ∧ Aside0 (incTo ops i) ∧ Aside0 (wr.heap[b]? = some (.cells (snapC (.slice AN nodes.length cN) (.slice A ops.length c) base) 37 (0, 0))) ∧ Aside0 (Below w.heap.size w wr))
   case atStart => exact ⟨1, ⟨by omega⟩, rfl, ⟨fun y h1 h2 => by omega⟩, HX2, HB2⟩
   case round =>
    clear HX2 HB2
    obtain ⟨i, HI, rfl, HJ, HX, HB⟩ := hrel
    obtain ⟨z0, z1, z2, z3, zf⟩ := Z4 HX.out
    by_cases hi : i < (ops.length : Int)
    · obtain ⟨k1, rfl⟩ : ∃ k1, gk = k1 + 1 := ⟨((ops.length : Int) - i).toNat + 1, by have := HI.out; omega⟩
      have d0 : decide (i < (ops.length : Int)) = true := decide_eq_true hi
      have h1 : 1 ≤ i := HI.out.2.1
      obtain ⟨ad, e, x0, x1, x2, x3, x4, x5, x6, x7, x8⟩ := at_T25 (HO.out.below HB.out).at.2.2 i (by omega) hi
      cases e
      have p1 : (0 ≤ i) = True := eq_true (by omega)
      have q1 := eq_true hi
      have hw1 : wrap64 (i + 1) = i + 1 := by have := HOL.out; unfold wrap64; omega
      obtain ⟨z, hz⟩ : ∃ z, wrap64 (i - 1) = z := ⟨_, rfl⟩
      have hz2 : IntKind.i64.wrap (i - 1) = z := by have := HOL.out; rw [IntKind.wrap_i64, ← hz]; unfold wrap64; omega
      have HZX := Aside0.mk (show z = i - 1 by rw [← hz]; have := HOL.out; unfold wrap64; omega)
      have HZ0 := Aside0.mk (show 0 ≤ z by have := HZX.out; omega)
      have HZ1 := Aside0.mk (show z < (ops.length : Int) by have := HZX.out; omega)
      have p2 := eq_true HZ0.out
      have q2 := eq_true HZ1.out
      have HI1 := Aside0.mk hi
      obtain ⟨y1, y2⟩ := opx2 (HO.out.below HB.out) HZ0.out HZ1.out
      have HLS := Aside0.mk (ref10_less (rd_T25 ops z).f1 (rd_T25 ops i).f1)
      have HPZ := Aside0.mk (show rd_T25 ops (i - 1) = rd_T25 ops z by rw [HZX.out])
      clear hi h1
      go_upto_region 7 with fail
      go_still_tail 13, (by kernel_rfl)
      replace HX := Aside0.mk (show wr.drew.heap[b]? = _ from HX.out)
      replace HB := Aside0.mk HB.out.drew
      cases hl : lessB (rd_T25 ops z).f1 (rd_T25 ops i).f1 with
      | false =>
       rw [hl] at HLS
       have HF := Aside0.mk (show mayB nodes ops base = false from may_no (fun h => by
        have := h.1 i (HI.out.2.1) HI1.out
        rw [HPZ.out, hl] at this
        cases this))
       clear hl
       go_wp2_with (go_at_call 56; refine (samphireref10_Less.calls _ _ _ _ _ _ HLS.out).mono ?_; rintro e w5 ⟨rfl, hb5⟩)
       go_ret
       exact ⟨by rw [HF.out]; first | done | rfl, below_then HB.out HB.out.size hb5⟩
      | true =>
       rw [hl] at HLS
       have HJ2 := Aside0.mk (show incTo ops (i + 1) from fun y a b => by
        by_cases hy : y = i
        · rw [hy, HPZ.out]; exact hl
        · exact HJ.out y a (by omega))
       clear hl
       go_wp2_with (go_at_call 56; refine (samphireref10_Less.calls _ _ _ _ _ _ HLS.out).mono ?_; rintro e w5 ⟨rfl, hb5⟩; have HX5 := Aside0.mk (blk_below HX.out hb5); have HB5 := Aside0.mk (below_then HB.out HB.out.size hb5); clear hb5)
       go_roundg k1
       case measure => exact Nat.lt_succ_self _
       case rel => exact ⟨i + 1, ⟨by have := HI.out; have := HI1.out; omega⟩, (by first | rfl | rw [hw1]), HJ2, HX5, HB5⟩
    · have d0 : decide (i < (ops.length : Int)) = false := decide_eq_false hi
      have HT := Aside0.mk (show mayB nodes ops base = true from may_yes ⟨fun y a b => HJ.out y a (by omega), HSP.out⟩)
      clear hi
      go_wp2
      go_ret
      exact ⟨by rw [HT.out]; first | done | rfl, HB.out⟩
/-! ### in the print's form -/
def lightN (l : List Nod) : Bool := l.all fun m => decide (m.f2.size ≤ 1024) && decide (m.f3.size ≤ 1024)
def lightO (l : List Opn) : Bool := l.all fun o => decide (o.f4.size ≤ 1024) && decide (o.f5.size ≤ 1024)
theorem lightN_iff {l : List Nod} : lightN l = true ↔ ∀ m ∈ l, m.f2.size ≤ 1024 ∧ m.f3.size ≤ 1024 := by simp [lightN]
theorem lightO_iff {l : List Opn} : lightO l = true ↔ ∀ o ∈ l, o.f4.size ≤ 1024 ∧ o.f5.size ≤ 1024 := by simp [lightO]
def putOk (l0 : List Nod) (l1 : List Opn) : Bool := lightN l0 && (lightO l1 && (decide (l0.length ≤ 100000) && decide (l1.length ≤ 100000)))
theorem putOk_iff {l0 : List Nod} {l1 : List Opn} : putOk l0 l1 = true ↔ ((∀ m ∈ l0, m.f2.size ≤ 1024 ∧ m.f3.size ≤ 1024) ∧ (∀ o ∈ l1, o.f4.size ≤ 1024 ∧ o.f5.size ≤ 1024) ∧ l0.length ≤ 100000 ∧ l1.length ≤ 100000) := by
 unfold putOk
 simp only [Bool.and_eq_true, decide_eq_true_eq, lightN_iff, lightO_iff]
def samphireref13_may.f (l0 : List (S72)) (l1 : List (S25)) (b0 b1 : Int) : Option Bool := if putOk l0 l1 = true then some (mayB l0 l1 ⟨b0, b1⟩) else none
def snap_Put.f (l0 : List (S72)) (l1 : List (S25)) (b0 b1 : Int) : Option (ByteArray × Int) := if putOk l0 l1 = true then some (putP l0 l1 ⟨b0, b1⟩) else none
def snap_Take.f (s : ByteArray) : Option ((List (S72)) × (List (S25)) × Int × Int × Int) := if s.size ≤ 140737488355328 then some ((takeP s).1.1, (takeP s).1.2.1, (takeP s).1.2.2.f0, (takeP s).1.2.2.f1, (takeP s).2) else none
theorem samphireref13_may.calls (A0 : Option Addr) (c0 : Nat) (l0 : List (S72)) (A1 : Option Addr) (c1 : Nat) (l1 : List (S25)) (b0 b1 : Int) (r : Bool) (w : World) (h0 : Kd.C k72 w A0 l0.length l0) (hc0 : l0.length ≤ c0) (h1 : Kd.C k25 w A1 l1.length l1) (hc1 : l1.length ≤ c1) (h : samphireref13_may.f l0 l1 b0 b1 = some r) :
 Calls Tryd.prog 41 #[.agg #[.slice A0 l0.length c0, .slice A1 l1.length c1, .int .i64 b0, .int .i64 b1]] w fun e w' => e = .returned (.bool r) ∧ Below w.heap.size w w' := by
 unfold samphireref13_may.f at h
 split at h
 · rename_i hk
   obtain ⟨k1, k2, _, k4⟩ := putOk_iff.1 hk
   obtain rfl := Option.some.inj h
   exact rmay_calls w _ _ l0 l1 ⟨b0, b1⟩ ⟨A0, c0, rfl, hc0, h0⟩ ⟨A1, c1, rfl, hc1, h1⟩ (fun m hm => (k1 m hm).1) (fun o ho => (k2 o ho).1) k4
 · cases h
theorem snap_Put.calls (A0 : Option Addr) (c0 : Nat) (l0 : List (S72)) (A1 : Option Addr) (c1 : Nat) (l1 : List (S25)) (b0 b1 : Int) (r1 : ByteArray) (r2 : Int) (w : World) (h0 : Kd.C k72 w A0 l0.length l0) (hc0 : l0.length ≤ c0) (h1 : Kd.C k25 w A1 l1.length l1) (hc1 : l1.length ≤ c1) (h : snap_Put.f l0 l1 b0 b1 = some (r1, r2)) (hL : Laid w) :
 Calls Tryd.prog 15 #[.agg #[.slice A0 l0.length c0, .slice A1 l1.length c1, .int .i64 b0, .int .i64 b1]] w fun e w' => e = .returned (.tuple #[.string r1, .int .i64 r2]) ∧ Below w.heap.size w w' := by
 unfold snap_Put.f at h
 split at h
 · rename_i hk
   obtain ⟨k1, k2, k3, k4⟩ := putOk_iff.1 hk
   have h := Option.some.inj h
   have hp := Put_calls w _ _ l0 l1 ⟨b0, b1⟩ ⟨A0, c0, rfl, hc0, h0⟩ ⟨A1, c1, rfl, hc1, h1⟩ (fun m hm => ⟨Nat.le_trans (k1 m hm).1 (by decide), Nat.le_trans (k1 m hm).2 (by decide)⟩) (fun o ho => ⟨(k2 o ho).1, Nat.le_trans (k2 o ho).2 (by decide)⟩) k3 k4 hL
   rw [h] at hp
   exact hp
 · cases h
theorem flatN_reps (w : World) (B : Nat) (ok : Nat → Prop) (l : List Nod) : Reps (k72.M w B ok) 6 l (flatN l) :=
 ⟨flatN_length l, fun j p hj => by
  have e : ((flatN l).drop (j * 6)).take 6 = nodC p := by
   obtain ⟨hlt, rfl⟩ := List.getElem?_eq_some_iff.1 hj
   have h1 : flatN l = flatN (l.take j) ++ (nodC l[j] ++ flatN (l.drop (j + 1))) := by
    conv => lhs; rw [← List.take_append_drop j l, flatN_append, List.drop_eq_getElem_cons hlt]
    rfl
   rw [h1, List.drop_append, List.drop_eq_nil_of_le (by rw [flatN_length, List.length_take]; omega), List.nil_append, flatN_length, List.length_take, show j * 6 - min j l.length * 6 = 0 by omega, List.drop_zero, List.take_append, List.take_of_length_le (Nat.le_of_eq (nodC_length _)), nodC_length, Nat.sub_self, List.take_zero, List.append_nil]
  rw [e]
  have := k72_mkM w B ok p
  simpa [nodC] using this⟩
theorem NodesAt.kd {w : World} {B : Nat} {v : Value} {l : List Nod} (h : NodesAt w B v l) : Kd.R k72 72 w B (fun _ => True) v l := ⟨fun _ _ => trivial, flatN l, h, flatN_reps w B _ l⟩
theorem snap_Take.calls (s : ByteArray) (r1 : List (S72)) (r2 : List (S25)) (r3 r4 r5 : Int) (w : World) (h : snap_Take.f s = some (r1, r2, r3, r4, r5)) (hL : Laid w) :
 Calls Tryd.prog 17 #[.string s] w fun e w' => ∃ v0_ v1_ : Value, e = .returned (.tuple #[.agg #[v0_, v1_, .int .i64 r3, .int .i64 r4], .int .i64 r5]) ∧ Kd.R k72 72 w' w.heap.size (fun _ => True) v0_ r1 ∧ Kd.R k25 25 w' w.heap.size (fun _ => True) v1_ r2 ∧ Below w.heap.size w w' := by
 unfold snap_Take.f at h
 split at h
 · rename_i hk
   have h := Option.some.inj h
   simp only [Prod.mk.injEq] at h
   obtain ⟨rfl, rfl, rfl, rfl, rfl⟩ := h
   refine (Take_calls w s hk hL).mono ?_
   rintro e w' ⟨vN, vO, rfl, h1, h2, h3⟩
   exact ⟨vN, vO, rfl, h1.kd, h2, h3⟩
 · cases h
end Go.Proofs.YtlfgdaiegefjiaaDoor.S
