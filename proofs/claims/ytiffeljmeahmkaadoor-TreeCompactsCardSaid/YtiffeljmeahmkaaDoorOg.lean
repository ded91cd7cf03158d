/- The law TreeCompacts. -/
import Derived.Test.YtiffeljmeahmkaaDoorOf
namespace Go.Proofs.YtiffeljmeahmkaaDoor.S
open Go.RowKit Go.Proofs.YtiffeljmeahmkaaDoorW.PrintWords Go.Proofs.YtiffeljmeahmkaaDoorW.PrintLast Go.Proofs.YtiffeljmeahmkaaDoorW.PrintMore
set_option linter.unusedVariables false
set_option linter.unusedSimpArgs false
theorem TreeAt.foot_lt {w : World} {B g f n : Nat} {v : Value} {T : Tr} (h : TreeAt w B g f n v T) {k : Nat} (hk : foot g f n v k) : k < w.heap.size := by
  rcases hk with rfl | rfl | rfl | hk
  · exact blk_lt h.blk
  · exact h.fix.lt
  · exact h.now.lt
  · exact h.ops.own_lt _ hk
theorem TreeAt.foot_ge {w : World} {B g f n : Nat} {v : Value} {T : Tr} (h : TreeAt w B g f n v T) {k : Nat} (hk : foot g f n v k) : B ≤ k := by
  rcases hk with rfl | rfl | rfl | hk
  · exact h.bg
  · exact h.bf
  · exact h.bn
  · exact OpsAt.own_ge h.ops k hk
theorem TreeAt.new_base {w : World} {B B' g f n : Nat} (h : TreeAt w B g f n (.slice none 0 0) ⟨[], [], [], St0⟩) (hb : B' ≤ B) : TreeAt w B' g f n (.slice none 0 0) ⟨[], [], [], St0⟩ :=
  ⟨h.blk, h.fix, h.now, Kd.R_nil _ _ _ _ _, h.ne, Nat.le_trans hb h.bg, Nat.le_trans hb h.bf, Nat.le_trans hb h.bn⟩
/-- Trees lie apart. -/
def Apart (g f n : Nat) (v : Value) (g' f' n' : Nat) (v' : Value) : Prop := ∀ k, foot g f n v k → ¬ foot g' f' n' v' k
theorem Apart.symm {g f n : Nat} {v : Value} {g' f' n' : Nat} {v' : Value} (h : Apart g f n v g' f' n' v') : Apart g' f' n' v' g f n v := fun k h1 h2 => h k h2 h1
theorem Apart.next {w : World} {B g f n : Nat} {v v1 : Value} {g' f' n' : Nat} {v' : Value} {T' : Tr} (h : Apart g f n v g' f' n' v') (ht : TreeAt w B g' f' n' v' T') (h5 : ∀ k, v1.ownBlock = some k → v.ownBlock = some k ∨ w.heap.size ≤ k) : Apart g f n v1 g' f' n' v' := by
  intro k hk hk'
  rcases hk with hk | hk | hk | hk
  · exact h k (.inl hk) hk'
  · exact h k (.inr (.inl hk)) hk'
  · exact h k (.inr (.inr (.inl hk))) hk'
  · rcases h5 k hk with h6 | h6
    · exact h k (.inr (.inr (.inr h6))) hk'
    · have := ht.foot_lt hk'
      omega
/-- Two trees of a law. -/
structure Two (w wr : World) (gA fA nA : Nat) (vA : Value) (TA : Tr) (gB fB nB : Nat) (vB : Value) (TB : Tr) : Prop where
  a : TreeAt wr w.heap.size gA fA nA vA TA
  b : TreeAt wr w.heap.size gB fB nB vB TB
  ab : Apart gA fA nA vA gB fB nB vB
  below : Below w.heap.size w wr
section
variable {w wr w' : World} {gA fA nA : Nat} {vA : Value} {TA : Tr} {gB fB nB : Nat} {vB : Value} {TB : Tr}
theorem Two.rot (h : Two w wr gA fA nA vA TA gB fB nB vB TB) : Two w wr gB fB nB vB TB gA fA nA vA TA := ⟨h.b, h.a, h.ab.symm, h.below⟩
theorem Two.under (h : Two w wr gA fA nA vA TA gB fB nB vB TB) (hb : Below wr.heap.size wr w') : Two w w' gA fA nA vA TA gB fB nB vB TB := ⟨h.a.below hb, h.b.below hb, h.ab, below_then h.below h.below.size hb⟩
theorem Two.step {v' : Value} {T' : Tr} (h : Two w wr gA fA nA vA TA gB fB nB vB TB) (ht : TreeAt w' w.heap.size gA fA nA v' T') (h4 : Stay wr w' (foot gA fA nA vA)) (h5 : ∀ k, v'.ownBlock = some k → vA.ownBlock = some k ∨ wr.heap.size ≤ k) : Two w w' gA fA nA v' T' gB fB nB vB TB :=
  ⟨ht, h.b.stay h4 (fun k hk hf => h.ab k hf hk), h.ab.next h.b h5, h.a.back h4 h.below⟩
theorem Two.not_foot (h : Two w wr gA fA nA vA TA gB fB nB vB TB) : ¬ foot gA fA nA vA wr.heap.size ∧ ¬ foot gB fB nB vB wr.heap.size := ⟨fun hk => by have := h.a.foot_lt hk; omega, fun hk => by have := h.b.foot_lt hk; omega⟩
end
theorem Two.start {w w1 w2 : World} {gA fA nA gB fB nB : Nat} (h : TreeAt w1 w.heap.size gA fA nA (.slice none 0 0) ⟨[], [], [], St0⟩) (hb : Below w.heap.size w w1) (h' : TreeAt w2 w1.heap.size gB fB nB (.slice none 0 0) ⟨[], [], [], St0⟩) (hb' : Below w1.heap.size w1 w2) : Two w w2 gA fA nA (.slice none 0 0) ⟨[], [], [], St0⟩ gB fB nB (.slice none 0 0) ⟨[], [], [], St0⟩ :=
  ⟨h.below hb', h'.new_base hb.size, fun k h1 h2 => by have := h.foot_lt h1; have := h'.foot_ge h2; omega, below_then hb hb.size hb'⟩
theorem bits_and16 (x : Int) : bits .and .i64 x 65535 = x % 65536 := by
  have h : bits .and .i64 x 65535 = IntKind.i64.wrap ((BitVec.ofInt 64 x &&& BitVec.ofInt 64 65535).toNat : Int) := rfl
  rw [h, IntKind.wrap_i64]
  have e : (BitVec.ofInt 64 x &&& BitVec.ofInt 64 65535).toNat = (x % 65536).toNat := by
    rw [BitVec.toNat_and, BitVec.toNat_ofInt, show (BitVec.ofInt 64 65535).toNat = 2 ^ 16 - 1 from by decide, Nat.and_two_pow_sub_one_eq_mod]
    omega
  rw [e]
  omega
theorem co_stamp (x : Int) : ∃ a c m : Int, bits .and .i64 x 65535 = a ∧ a.tmod 1000 = c ∧ wrap64 (1 + c) = m ∧ 1 ≤ m ∧ m ≤ 1000 := by
  refine ⟨x % 65536, (x % 65536) % 1000, 1 + (x % 65536) % 1000, bits_and16 x, ?_, ?_, by omega, by omega⟩
  · rw [Int.tmod_eq_emod_of_nonneg (by omega)]
  · unfold wrap64; omega
theorem Fine.ok {o : Opn} (h : Fine o) : OpOk o := h.1
theorem Part.mono {n n' : Nat} {s : Stp} {p : List Opn} {T U : Tr} (h : Part n s p T U) (hn : n ≤ n') : Part n' s p T U := ⟨h.a, h.b, h.fa, h.fb, h.ba, h.bb, h.ops, Nat.le_trans h.len hn, h.low⟩
theorem Two.store {w wr : World} {gA fA nA : Nat} {vA : Value} {TA : Tr} {gB fB nB : Nat} {vB : Value} {TB : Tr} (h : Two w wr gA fA nA vA TA gB fB nB vB TB) {b : Nat} (hb : w.heap.size ≤ b) (hf : ¬ foot gA fA nA vA b ∧ ¬ foot gB fB nB vB b) (i : Nat) (u : Value) : Two w (wr.setCell ⟨b, i, none⟩ u) gA fA nA vA TA gB fB nB vB TB :=
  ⟨h.a.stay (Stay.cell wr ⟨b, i, none⟩ u) (fun k hk e => hf.1 (by rw [← show k = b from e]; exact hk)), h.b.stay (Stay.cell wr ⟨b, i, none⟩ u) (fun k hk e => hf.2 (by rw [← show k = b from e]; exact hk)), h.ab, below_set h.below hb⟩
-- TABLE BEGIN
def compacts_.T19 : Bool × List (List Nat × List Nat) := (true, [([], []), ([], []), ([0, 1], [0, 1]), ([], []), ([], []), ([3, 4, 2], [3, 4]), ([2, 5], [2, 5])])
def compacts_.B19 : List Nat := [0, 0, 3, 0, 0, 31, 63]
theorem compacts_.tab19 : rtab .any (opsOf Tryd.f9 19) = compacts_.T19 := by kernel_rfl
theorem compacts_.bits19 : waitsOk compacts_.T19.2 compacts_.B19 = true := by kernel_rfl
-- TABLE END
set_option maxRecDepth 100000 in
set_option maxHeartbeats 4000000 in
theorem compacts_calls (w : World) (A0 : Option Addr) (c0 : Nat) (l0 : List Opn) (A1 : Option Addr) (c1 : Nat) (l1 : List Opn) (upto : Int) (hr0 : Kd.C k28 w A0 l0.length l0) (hc0 : l0.length ≤ c0) (hr1 : Kd.C k28 w A1 l1.length l1) (hc1 : l1.length ≤ c1) (hL : Laid w) : Calls Tryd.prog 9 #[.slice A0 l0.length c0, .slice A1 l1.length c1, .int .i64 upto] w fun e w' => e = .returned (.bool true) ∧ Below w.heap.size w w' := by
  have hu := Tryd.underlying28
  have hu1 := Tryd.underlying25
  have HL := Aside0.mk hL
  have HR0 := Aside0.mk hr0
  have HC0 := Aside0.mk hc0
  have HR1 := Aside0.mk hr1
  have HC1 := Aside0.mk hc1
  obtain ⟨ka, ra, hfw0, hfew0⟩ := few_is l0 30 (by decide)
  obtain ⟨kb, rb, hfw1, hfew1⟩ := few_is l1 30 (by decide)
  have HFW0 := Aside0.mk hfw0
  have HFEW0 := Aside0.mk hfew0
  have HFW1 := Aside0.mk hfw1
  have HFEW1 := Aside0.mk hfew1
  have KT := Aside0.mk (show (0 : Nat) = 0 from rfl)
  clear hL hr0 hc0 hr1 hc1 hfw0 hfew0 hfw1 hfew1
  go_enter Tryd.func9, Tryd.ntmps9
  cases ra with
  | false =>
    go_wp2_with (first
      | (go_at_call 12; have _ := HT1; refine (New_calls _).mono ?_; rintro e w1 ⟨gB, fB, nB, rfl, ht, hb⟩; have HX := Aside0.mk (Two.start HT1.out HB1.out ht hb); clear HT1 HB1; clear ht hb)
      | (go_at_call 12; refine (New_calls _).mono ?_; rintro e w1 ⟨gA, fA, nA, rfl, ht, hb⟩; have HT1 := Aside0.mk ht; have HB1 := Aside0.mk hb; clear ht hb)
      | (go_at_call 20; refine (samphirelaw11_few.calls ka A0 c0 l0 30 false _ (Kd.C_below HR0.out HX.out.below) HC0.out HFW0.out).mono ?_; rintro e w1 ⟨rfl, hb⟩; replace HX := Aside0.mk (HX.out.under hb); clear hb)
      | (go_at_call 16; refine (awake_calls _ (HL.out.below HX.out.below)).mono ?_; rintro e w1 ⟨rfl, hb⟩; replace HX := Aside0.mk (HX.out.under hb); clear hb))
    go_ret
    exact ⟨rfl, HX.out.below⟩
  | true =>
    cases rb with
    | false =>
      go_wp2_with (first
        | (go_at_call 12; have _ := HT1; refine (New_calls _).mono ?_; rintro e w1 ⟨gB, fB, nB, rfl, ht, hb⟩; have HX := Aside0.mk (Two.start HT1.out HB1.out ht hb); clear HT1 HB1; clear ht hb)
        | (go_at_call 12; refine (New_calls _).mono ?_; rintro e w1 ⟨gA, fA, nA, rfl, ht, hb⟩; have HT1 := Aside0.mk ht; have HB1 := Aside0.mk hb; clear ht hb)
        | (go_at_call 20; clear KT; refine (samphirelaw11_few.calls ka A0 c0 l0 30 true _ (Kd.C_below HR0.out HX.out.below) HC0.out HFW0.out).mono ?_; rintro e w1 ⟨rfl, hb⟩; replace HX := Aside0.mk (HX.out.under hb); clear hb)
        | (go_at_call 20; refine (samphirelaw11_few.calls kb A1 c1 l1 30 false _ (Kd.C_below HR1.out HX.out.below) HC1.out HFW1.out).mono ?_; rintro e w1 ⟨rfl, hb⟩; replace HX := Aside0.mk (HX.out.under hb); clear hb)
        | (go_at_call 16; refine (awake_calls _ (HL.out.below HX.out.below)).mono ?_; rintro e w1 ⟨rfl, hb⟩; replace HX := Aside0.mk (HX.out.under hb); clear hb))
      go_ret
      exact ⟨rfl, HX.out.below⟩
    | true =>
      have HF0 := Aside0.mk (HFEW0.out rfl)
      have HF1 := Aside0.mk (HFEW1.out rfl)
      clear HFEW0 HFEW1
      go_upto_region 4 with (first
        | (go_at_call 12; have _ := HT1; refine (New_calls _).mono ?_; rintro e w1 ⟨gB, fB, nB, rfl, ht, hb⟩; have HX := Aside0.mk (Two.start HT1.out HB1.out ht hb); clear HT1 HB1; clear ht hb)
        | (go_at_call 12; refine (New_calls _).mono ?_; rintro e w1 ⟨gA, fA, nA, rfl, ht, hb⟩; have HT1 := Aside0.mk ht; have HB1 := Aside0.mk hb; clear ht hb)
        | (go_at_call 20; clear KT; refine (samphirelaw11_few.calls ka A0 c0 l0 30 true _ (Kd.C_below HR0.out HX.out.below) HC0.out HFW0.out).mono ?_; rintro e w1 ⟨rfl, hb⟩; replace HX := Aside0.mk (HX.out.under hb); clear hb)
        | (go_at_call 20; refine (samphirelaw11_few.calls kb A1 c1 l1 30 true _ (Kd.C_below HR1.out HX.out.below) HC1.out HFW1.out).mono ?_; rintro e w1 ⟨rfl, hb⟩; replace HX := Aside0.mk (HX.out.under hb); clear hb)
        | (go_at_call 16; refine (awake_calls _ (HL.out.below HX.out.below)).mono ?_; rintro e w1 ⟨rfl, hb⟩; replace HX := Aside0.mk (HX.out.under hb); clear hb))
      go_wp2_with fail
      try go_frame
      have HT := Aside0.mk twin_new
      go_loopg [9] (l0.length + 1) (fun kq p wr => ∃ (x : Int) (m : Nat) (vA vB : Value) (TA TB : Tr), Aside0 ((kq : Int) + x = (l0.length : Int) + 1 ∧ 0 ≤ x ∧ x ≤ (l0.length : Int)) ∧ p = .int .i64 x ∧ Aside0 ((m : Int) = x) ∧ Aside0 (Two w wr gA fA nA vA TA gB fB nB vB TB) ∧ Aside0 (Twin m TA TB))
      case atStart => exact ⟨0, 0, _, _, _, _, ⟨by omega⟩, rfl, ⟨rfl⟩, HX, HT⟩
      case round =>
        clear HX HT
        obtain ⟨x, m, vA, vB, TA, TB, HK, rfl, HM, HX, HT⟩ := hrel
        obtain ⟨k1, rfl⟩ : ∃ k1, gk = k1 + 1 := ⟨((l0.length : Int) - x).toNat, by have := HK.out; omega⟩
        have h0 : 0 ≤ x := HK.out.2.1
        by_cases hx : x < (l0.length : Int)
        · have b1 : decide (x < (l0.length : Int)) = true := decide_eq_true hx
          have H0 := Aside0.mk h0
          have H1 := Aside0.mk hx
          have hw1 : wrap64 (x + 1) = x + 1 := by have := HF0.out.1; unfold wrap64; omega
          have p1_ := eq_true h0
          have q1_ := eq_true hx
          clear hx h0
          obtain ⟨ad, e, p0, p1, p2, p3, p4, p5, p6, p7, p8⟩ := at_T28 (Kd.C_below HR0.out HX.out.below) x H0.out H1.out; cases e
          by_cases g1 : (rd_T28 l0 x).f1.f0 ≤ 1000
          · have d1 : decide ((rd_T28 l0 x).f1.f0 ≤ 1000) = true := decide_eq_true g1
            have G1 := Aside0.mk g1
            by_cases g2 : (rd_T28 l0 x).f2.f0 ≤ 1000
            · have d2 : decide ((rd_T28 l0 x).f2.f0 ≤ 1000) = true := decide_eq_true g2
              by_cases g3 : (rd_T28 l0 x).f3.f0 ≤ 1000
              · have d3 : decide ((rd_T28 l0 x).f3.f0 ≤ 1000) = true := decide_eq_true g3
                go_upto_region 9 with (go_at_call 14; refine (Apply_calls _ _ gA fA nA _ _ (rd_T28 l0 x) 40 _ HX.out.a HT.out.a (chk_is (rd_T28 l0 x) (rd_small HF0.out.2 x)).1 (fun e => ((chk_is (rd_T28 l0 x) (rd_small HF0.out.2 x)).2 e).1) (HL.out.below HX.out.below)).mono ?_; rintro e w' ⟨TA', vA', rfl, ht, hg, h1, h2, h3, h4, h5⟩; replace HX := Aside0.mk (HX.out.step ht h4 h5); have HEA := Aside0.mk (And.intro hg (And.intro h1 (And.intro h2 h3))); clear ht hg h1 h2 h3 h4 h5)
                clear p0 p1 p2 p3 p4 p5 p6 p7 p8
                obtain ⟨ad, e, p0, p1, p2, p3, p4, p5, p6, p7, p8⟩ := at_T28 (Kd.C_below HR0.out HX.out.below) x H0.out H1.out; cases e
                go_wp2_with (go_at_call 14; refine (Apply_calls _ _ gB fB nB _ _ (rd_T28 l0 x) 40 _ HX.out.b HT.out.b (chk_is (rd_T28 l0 x) (rd_small HF0.out.2 x)).1 (fun e => ((chk_is (rd_T28 l0 x) (rd_small HF0.out.2 x)).2 e).1) (HL.out.below HX.out.below)).mono ?_; rintro e w' ⟨TB', vB', rfl, ht, hg, h1, h2, h3, h4, h5⟩; replace HX := Aside0.mk ((HX.out.rot.step ht h4 h5).rot); have HEB := Aside0.mk (And.intro hg (And.intro h1 (And.intro h2 h3))); clear ht hg h1 h2 h3 h4 h5)
                go_roundg k1
                case measure => exact Nat.lt_succ_self _
                case rel => exact ⟨x + 1, m + 1, vA', vB', TA', TB', ⟨rt_k HK.out H1.out⟩, (by first | rfl | rw [hw1]), ⟨by have := HM.out; omega⟩, HX, ⟨HT.out.step G1.out HEA.out.1 HEA.out.2.1 HEA.out.2.2.1 HEA.out.2.2.2 HEB.out.1 HEB.out.2.1 HEB.out.2.2.1 HEB.out.2.2.2⟩⟩
              · have d3 : decide ((rd_T28 l0 x).f3.f0 ≤ 1000) = false := decide_eq_false g3
                go_wp2
                go_roundg k1
                case measure => exact Nat.lt_succ_self _
                case rel => exact ⟨x + 1, m + 1, vA, vB, TA, TB, ⟨rt_k HK.out H1.out⟩, (by first | rfl | rw [hw1]), ⟨by have := HM.out; omega⟩, HX, ⟨HT.out.more⟩⟩
            · have d2 : decide ((rd_T28 l0 x).f2.f0 ≤ 1000) = false := decide_eq_false g2
              go_wp2
              go_roundg k1
              case measure => exact Nat.lt_succ_self _
              case rel => exact ⟨x + 1, m + 1, vA, vB, TA, TB, ⟨rt_k HK.out H1.out⟩, (by first | rfl | rw [hw1]), ⟨by have := HM.out; omega⟩, HX, ⟨HT.out.more⟩⟩
          · have d1 : decide ((rd_T28 l0 x).f1.f0 ≤ 1000) = false := decide_eq_false g1
            go_wp2
            go_roundg k1
            case measure => exact Nat.lt_succ_self _
            case rel => exact ⟨x + 1, m + 1, vA, vB, TA, TB, ⟨rt_k HK.out H1.out⟩, (by first | rfl | rw [hw1]), ⟨by have := HM.out; omega⟩, HX, ⟨HT.out.more⟩⟩
        · have b1 : decide (x < (l0.length : Int)) = false := decide_eq_false hx
          obtain ⟨ua, uc, um, ee1, ee2, ee3, um1, um2⟩ := co_stamp upto
          have HUM := Aside0.mk (show 1 ≤ um ∧ um ≤ 1000 from ⟨um1, um2⟩)
          have HFIN := Aside0.mk (show tree_fine.f um 6 = some true by rw [fine_is]; unfold fineB; rw [decide_eq_true (by omega)])
          have hm30 : m ≤ 30 := by have := HK.out; have := HM.out; have := HF0.out.1; omega
          have HM30 := Aside0.mk hm30
          clear hx h0 um1 um2 hm30
          go_upto_region 11 with (first
            | (go_at_call 13; refine (samphirelaw11_at.calls _ _ _ _ _ rfl).mono ?_; rintro e w1 ⟨rfl, hb⟩; replace HX := Aside0.mk (HX.out.under hb); clear hb)
            | (go_at_call 15; refine (Compact_calls _ _ gB fB nB vB TB ⟨_, _⟩ true HX.out.b HT.out.b HFIN.out).mono ?_; rintro e w1 ⟨vB1, rfl, ht, hst, hown⟩; replace HX := Aside0.mk ((HX.out.rot.step ht hst (fun k hk => .inl (hown k hk))).rot); clear ht hst hown))
          obtain ⟨p, hpp⟩ := HT.out.part (s := ⟨um, 6⟩) HUM.out.1
          have HP := Aside0.mk (hpp.mono HM30.out)
          clear hpp HT ee1 ee2 ee3
          generalize (comped TB ⟨um, 6⟩ true).1 = TB1 at HX HP
          go_wp2_with fail
          try go_frame
          go_loopg [10] (l1.length + 1) (fun kq p_ wr => ∃ (x : Int) (m : Nat) (vA vB : Value) (TA TB : Tr), Aside0 ((kq : Int) + x = (l1.length : Int) + 1 ∧ 0 ≤ x ∧ x ≤ (l1.length : Int)) ∧ p_ = .int .i64 x ∧ Aside0 ((m : Int) = 30 + x) ∧ Aside0 (Two w wr gA fA nA vA TA gB fB nB vB TB) ∧ Aside0 (Part m ⟨um, 6⟩ p TA TB))
          case atStart => exact ⟨0, 30, _, _, _, _, ⟨by omega⟩, rfl, ⟨rfl⟩, HX, HP⟩
          case round =>
            clear HX HP
            clear b1
            obtain ⟨x, m, vA, vB, TA, TB, HK, rfl, HM, HX, HP⟩ := hrel
            obtain ⟨k1, rfl⟩ : ∃ k1, gk = k1 + 1 := ⟨((l1.length : Int) - x).toNat, by have := HK.out; omega⟩
            have h0 : 0 ≤ x := HK.out.2.1
            by_cases hx : x < (l1.length : Int)
            · have b1 : decide (x < (l1.length : Int)) = true := decide_eq_true hx
              have H0 := Aside0.mk h0
              have H1 := Aside0.mk hx
              have HN5 := Aside0.mk (show m ≤ 500 by have := HM.out; have := HF1.out.1; omega)
              have hw1 : wrap64 (x + 1) = x + 1 := by have := HF1.out.1; unfold wrap64; omega
              have p1_ := eq_true h0
              have q1_ := eq_true hx
              clear hx h0
              obtain ⟨ad, e, p0, p1, p2, p3, p4, p5, p6, p7, p8⟩ := at_T28 (Kd.C_below HR1.out HX.out.below) x H0.out H1.out; cases e
              obtain ⟨ox, hox⟩ : ∃ o, rd_T28 l1 x = o := ⟨_, rfl⟩
              have HSZ := Aside0.mk (show ox.f4.size < 9223372036854775807 by rw [← hox]; exact rd_small HF1.out.2 x)
              rw [hox] at p0 p1 p2 p3 p4 p5 p6 p7 p8
              clear hox
              obtain ⟨ok, ⟨t1, w1⟩, ⟨t2, w2⟩, ⟨t3, w3⟩, nm, vl⟩ := ox
              dsimp only at p0 p1 p2 p3 p4 p5 p6 p7 p8
              replace HSZ := Aside0.mk (show nm.size < 9223372036854775807 from HSZ.out)
              go_upto_region 15 with fail
              have HBX := Aside0.mk (heap_alloc_new wr (.cells #[.int .i64 ok, .int .i64 t1, .int .i64 w1, .int .i64 t2, .int .i64 w2, .int .i64 t3, .int .i64 w3, .string nm, .string vl] 28))
              have HNF := Aside0.mk HX.out.not_foot
              have hbx : w.heap.size ≤ wr.heap.size := HX.out.below.size
              replace HX := Aside0.mk (HX.out.under (below_alloc (Below.refl wr.heap.size wr) (.cells #[.int .i64 ok, .int .i64 t1, .int .i64 w1, .int .i64 t2, .int .i64 w2, .int .i64 t3, .int .i64 w3, .string nm, .string vl] 28)))
              clear p0 p1 p2 p3 p4 p5 p6 p7 p8
              generalize wr.heap.size = b at HBX HNF hbx ⊢
              generalize wr.alloc (.cells #[.int .i64 ok, .int .i64 t1, .int .i64 w1, .int .i64 t2, .int .i64 w2, .int .i64 t3, .int .i64 w3, .string nm, .string vl] 28) = v0 at HBX HX ⊢
              obtain ⟨z0, z1, z2, z3, z4, z5, z6, z7, z8, z9, z10, z11, z12, z13, z14, z15, z16, z17⟩ := Z9 HBX.out
              by_cases g1 : 1048576 < t1
              · have d1 : decide (1048576 < t1) = true := decide_eq_true g1
                go_wp2
                go_roundg k1
                case measure => exact Nat.lt_succ_self _
                case rel => exact ⟨x + 1, m + 1, vA, vB, TA, TB, ⟨rt_k HK.out H1.out⟩, (by first | rfl | rw [hw1]), ⟨by have := HM.out; omega⟩, HX, ⟨HP.out.more⟩⟩
              · have d1 : decide (1048576 < t1) = false := decide_eq_false g1
                by_cases g2 : t1 < 1
                · have d2 : decide (t1 < 1) = true := decide_eq_true g2
                  go_wp2
                  go_roundg k1
                  case measure => exact Nat.lt_succ_self _
                  case rel => exact ⟨x + 1, m + 1, vA, vB, TA, TB, ⟨rt_k HK.out H1.out⟩, (by first | rfl | rw [hw1]), ⟨by have := HM.out; omega⟩, HX, ⟨HP.out.more⟩⟩
                · have d2 : decide (t1 < 1) = false := decide_eq_false g2
                  have hwt : wrap64 (t1 + 1000) = t1 + 1000 := by unfold wrap64; omega
                  have HTT := Aside0.mk (show 1001 ≤ t1 + 1000 by omega)
                  clear g1 g2
                  go_upto_region 17 with fail
                  clear z0 z1 z2 z3 z4 z5 z6 z7 z8 z9 z10 z11 z12 z13 z14 z15 z16 z17
                  clear d1 d2
                  replace HX := Aside0.mk (HX.out.store hbx HNF.out 1 (.int .i64 (t1 + 1000)))
                  replace HBX := Aside0.mk (blk_put HBX.out 1 (.int .i64 (t1 + 1000)) (show (#[.int .i64 ok, .int .i64 t1, .int .i64 w1, .int .i64 t2, .int .i64 w2, .int .i64 t3, .int .i64 w3, .string nm, .string vl] : Array Value).setIfInBounds 1 (.int .i64 (t1 + 1000)) = #[.int .i64 ok, .int .i64 (t1 + 1000), .int .i64 w1, .int .i64 t2, .int .i64 w2, .int .i64 t3, .int .i64 w3, .string nm, .string vl] from rfl))
                  generalize v0.setCell ⟨b, 1, none⟩ (.int .i64 (t1 + 1000)) = v1 at HBX HX ⊢
                  generalize t1 + 1000 = t1 at HTT HX HBX ⊢
                  clear hwt
                  obtain ⟨z0, z1, z2, z3, z4, z5, z6, z7, z8, z9, z10, z11, z12, z13, z14, z15, z16, z17⟩ := Z9 HBX.out
                  by_cases g3 : ok = 1
                  · subst g3
                    go_upto_region 19 with fail
                    clear z0 z1 z2 z3 z4 z5 z6 z7 z8 z9 z10 z11 z12 z13 z14 z15 z16 z17
                    replace HX := Aside0.mk (HX.out.store hbx HNF.out 3 (.int .i64 t1))
                    replace HBX := Aside0.mk (blk_put HBX.out 3 (.int .i64 t1) (show (#[.int .i64 1, .int .i64 t1, .int .i64 w1, .int .i64 t2, .int .i64 w2, .int .i64 t3, .int .i64 w3, .string nm, .string vl] : Array Value).setIfInBounds 3 (.int .i64 t1) = #[.int .i64 1, .int .i64 t1, .int .i64 w1, .int .i64 t1, .int .i64 w2, .int .i64 t3, .int .i64 w3, .string nm, .string vl] from rfl))
                    generalize v1.setCell ⟨b, 3, none⟩ (.int .i64 t1) = v2 at HBX HX ⊢
                    replace HX := Aside0.mk (HX.out.store hbx HNF.out 4 (.int .i64 w1))
                    replace HBX := Aside0.mk (blk_put HBX.out 4 (.int .i64 w1) (show (#[.int .i64 1, .int .i64 t1, .int .i64 w1, .int .i64 t1, .int .i64 w2, .int .i64 t3, .int .i64 w3, .string nm, .string vl] : Array Value).setIfInBounds 4 (.int .i64 w1) = #[.int .i64 1, .int .i64 t1, .int .i64 w1, .int .i64 t1, .int .i64 w1, .int .i64 t3, .int .i64 w3, .string nm, .string vl] from rfl))
                    generalize v2.setCell ⟨b, 4, none⟩ (.int .i64 w1) = v3 at HBX HX ⊢
                    obtain ⟨hck, hok⟩ := chk_is ⟨1, ⟨t1, w1⟩, ⟨t1, w1⟩, ⟨t3, w3⟩, nm, vl⟩ HSZ.out
                    have HCK := Aside0.mk hck
                    have HOK := Aside0.mk hok
                    have HPE := Aside0.mk (HP.out.put HN5.out HUM.out.2 (o := ⟨1, ⟨t1, w1⟩, ⟨t1, w1⟩, ⟨t3, w3⟩, nm, vl⟩) HTT.out (chk ⟨1, ⟨t1, w1⟩, ⟨t1, w1⟩, ⟨t3, w3⟩, nm, vl⟩)).1
                    clear hck hok
                    replace HX := Aside0.mk (HX.out.under (Below.refl _ _).drew)
                    replace HBX := Aside0.mk (show v3.drew.heap[b]? = _ from HBX.out)
                    refine start_ (n := 7) (S := fun w' => w'.cell? ⟨b, 0, none⟩ = some (.int .i64 1) ∧ w'.cell? ⟨b, 1, none⟩ = some (.int .i64 t1) ∧ w'.cell? ⟨b, 2, none⟩ = some (.int .i64 w1) ∧ w'.cell? ⟨b, 3, none⟩ = some (.int .i64 t1) ∧ w'.cell? ⟨b, 4, none⟩ = some (.int .i64 w1) ∧ w'.cell? ⟨b, 5, none⟩ = some (.int .i64 t3) ∧ w'.cell? ⟨b, 6, none⟩ = some (.int .i64 w3) ∧ w'.cell? ⟨b, 7, none⟩ = some (.string nm) ∧ w'.cell? ⟨b, 8, none⟩ = some (.string vl)) (ds := [5]) #[false, false, false, false, false, false, false] (by kernel_rfl) rfl rfl ⟨(blk_cell HBX.out 0), (blk_cell HBX.out 1), (blk_cell HBX.out 2), (blk_cell HBX.out 3), (blk_cell HBX.out 4), (blk_cell HBX.out 5), (blk_cell HBX.out 6), (blk_cell HBX.out 7), (blk_cell HBX.out 8)⟩ (fun hHeld => ?_)
                    refine with_tabW compacts_.tab19 compacts_.bits19 (fun HT_ HW_ => ?_)
                    refine pure_ (i := 0) (N := some 121) (v := ?_) (a' := ?_) #[true, false, false, false, false, false, false] rfl rfl (any_of HT_.out (by kernel_rfl)) (fun _ _ _ h => h) (Or.inl ⟨by rfl, ?_⟩) ?_ ?_
                    rotate_left
                    · intro w'
                      go_simp
                      with_reducible rfl
                    rotate_left
                    · simp only [Act.put, List.setIfInBounds_toArray, List.set_cons_zero, List.set_cons_succ, i64_w, i32_w]
                      rfl
                    refine pure_ (i := 3) (N := some 124) (v := ?_) (a' := ?_) #[true, false, false, true, false, false, false] rfl rfl (any_of HT_.out (by kernel_rfl)) (fun _ _ _ h => h) (Or.inl ⟨by rfl, ?_⟩) ?_ ?_
                    rotate_left
                    · intro w'
                      go_simp
                      with_reducible rfl
                    rotate_left
                    · simp only [Act.put, List.setIfInBounds_toArray, List.set_cons_zero, List.set_cons_succ, i64_w, i32_w]
                      rfl
                    refine take_ (i := 1) (N := some 122) (v := ?_) (a' := ?_) #[true, true, false, true, false, false, false] rfl rfl (take_ofW HT_.out HW_.out (by kernel_rfl)) (fun _ _ _ h => h) (Or.inl ⟨by rfl, ?_⟩) hHeld ?_ ?_
                    rotate_left
                    · rintro w' ⟨s0, s1, s2, s3, s4, s5, s6, s7, s8⟩
                      go_simp
                      with_reducible rfl
                    rotate_left
                    · simp only [Act.put, List.setIfInBounds_toArray, List.set_cons_zero, List.set_cons_succ, i64_w, i32_w]
                      rfl
                    refine take_ (i := 4) (N := some 125) (v := ?_) (a' := ?_) #[true, true, false, true, true, false, false] rfl rfl (take_ofW HT_.out HW_.out (by kernel_rfl)) (fun _ _ _ h => h) (Or.inl ⟨by rfl, ?_⟩) hHeld ?_ ?_
                    rotate_left
                    · rintro w' ⟨s0, s1, s2, s3, s4, s5, s6, s7, s8⟩
                      go_simp
                      with_reducible rfl
                    rotate_left
                    · simp only [Act.put, List.setIfInBounds_toArray, List.set_cons_zero, List.set_cons_succ, i64_w, i32_w]
                      rfl
                    refine one_ (i := 2) (N := some 123) #[true, true, true, true, true, false, false] rfl rfl (one_of HT_.out (by kernel_rfl)) (by decide) (fun K hK => ?_)
                    refine goes_ Tryd.func14 (by kernel_rfl) rfl #[.pointer (some ⟨gA, 0, none⟩), .agg #[.int .i64 1, .int .i64 t1, .int .i64 w1, .int .i64 t1, .int .i64 w1, .int .i64 t3, .int .i64 w3, .string nm, .string vl]] (by rfl) rfl rfl (by simp only [List.map_toArray, List.map_cons, List.map_nil]; rfl) ?_
                    with_reducible refine (Apply_calls _ _ gA fA nA vA TA ⟨1, ⟨t1, w1⟩, ⟨t1, w1⟩, ⟨t3, w3⟩, nm, vl⟩ 40 _ HX.out.a HP.out.a HCK.out (fun e => (HOK.out e).ok) (HL.out.below HX.out.below)).mono ?_
                    rintro e w5 ⟨TA', vA', rfl, ht, hg, h1, h2, h3, h4, h5⟩
                    refine ⟨_, rfl, ?_⟩
                    replace HBX := Aside0.mk (h4.blk HBX.out HNF.out.1)
                    replace HX := Aside0.mk (HX.out.step ht h4 h5)
                    have HEA := Aside0.mk (And.intro hg (And.intro h1 (And.intro h2 h3)))
                    clear ht hg h1 h2 h3 h4 h5
                    refine hK.out _ _ ⟨(blk_cell HBX.out 0), (blk_cell HBX.out 1), (blk_cell HBX.out 2), (blk_cell HBX.out 3), (blk_cell HBX.out 4), (blk_cell HBX.out 5), (blk_cell HBX.out 6), (blk_cell HBX.out 7), (blk_cell HBX.out 8)⟩ (fun hHeld => ?_)
                    clear hK K
                    refine norm_ (a' := ?_) ?_ ?_
                    rotate_left
                    · show Act.put _ (some 123) _ = _
                      simp only [Act.put, List.setIfInBounds_toArray, List.set_cons_zero, List.set_cons_succ, i64_w, i32_w]
                      rfl
                    refine last_ (i := 5) (N := some 126) #[true, true, true, true, true, true, false] rfl rfl (one_of HT_.out (by kernel_rfl)) (by decide) (fun K hK => ?_)
                    refine goes_ Tryd.func14 (by kernel_rfl) rfl #[.pointer (some ⟨gB, 0, none⟩), .agg #[.int .i64 1, .int .i64 t1, .int .i64 w1, .int .i64 t1, .int .i64 w1, .int .i64 t3, .int .i64 w3, .string nm, .string vl]] (by rfl) rfl rfl (by simp only [List.map_toArray, List.map_cons, List.map_nil]; rfl) ?_
                    with_reducible refine (Apply_calls _ _ gB fB nB vB TB ⟨1, ⟨t1, w1⟩, ⟨t1, w1⟩, ⟨t3, w3⟩, nm, vl⟩ 40 _ HX.out.b HP.out.b HCK.out (fun e => (HOK.out e).ok) (HL.out.below HX.out.below)).mono ?_
                    rintro e w6 ⟨TB', vB', rfl, ht, hg, h1, h2, h3, h4, h5⟩
                    rw [HPE.out]
                    refine ⟨_, rfl, ?_⟩
                    replace HX := Aside0.mk ((HX.out.rot.step ht h4 h5).rot)
                    have HEB := Aside0.mk (And.intro hg (And.intro h1 (And.intro h2 h3)))
                    clear ht hg h1 h2 h3 h4 h5
                    refine hK.out _ _ ?_
                    clear hK K
                    refine norm_ (a' := ?_) ?_ ?_
                    rotate_left
                    · show Act.put _ (some 126) _ = _
                      simp only [Act.put, List.setIfInBounds_toArray, List.set_cons_zero, List.set_cons_succ, i64_w, i32_w]
                      rfl
                    refine pure_ (i := 6) (N := some 127) (v := ?_) (a' := ?_) #[true, true, true, true, true, true, true] rfl rfl (any_of HT_.out (by kernel_rfl)) (fun _ _ _ h => h) (Or.inl ⟨by rfl, ?_⟩) ?_ ?_
                    rotate_left
                    · intro w'
                      go_simp
                      with_reducible rfl
                    rotate_left
                    · simp only [Act.put, List.setIfInBounds_toArray, List.set_cons_zero, List.set_cons_succ, i64_w, i32_w]
                      rfl
                    refine done_ (done_of HT_.out (by kernel_rfl)) ?_
                    go_wp2
                    go_roundg k1
                    case measure => exact Nat.lt_succ_self _
                    case rel => exact ⟨x + 1, m + 1, vA', vB', TA', TB', ⟨rt_k HK.out H1.out⟩, (by first | rfl | rw [hw1]), ⟨by have := HM.out; omega⟩, HX, ⟨HP.out.step HN5.out HUM.out.2 (o := ⟨1, ⟨t1, w1⟩, ⟨t1, w1⟩, ⟨t3, w3⟩, nm, vl⟩) HTT.out HEA.out.1 HEA.out.2.1 HEA.out.2.2.1 HEA.out.2.2.2 HEB.out.1 HEB.out.2.1 HEB.out.2.2.1 HEB.out.2.2.2⟩⟩
                  · have d3 : decide (ok = 1) = false := decide_eq_false g3
                    have d4 : (ok == 1) = false := beq_eq_false_iff_ne.2 g3
                    have d5 : (ok = 1) = False := eq_false g3
                    go_upto_region 19 with fail
                    clear z0 z1 z2 z3 z4 z5 z6 z7 z8 z9 z10 z11 z12 z13 z14 z15 z16 z17
                    generalize v1 = v3 at HBX HX ⊢
                    obtain ⟨hck, hok⟩ := chk_is ⟨ok, ⟨t1, w1⟩, ⟨t2, w2⟩, ⟨t3, w3⟩, nm, vl⟩ HSZ.out
                    have HCK := Aside0.mk hck
                    have HOK := Aside0.mk hok
                    have HPE := Aside0.mk (HP.out.put HN5.out HUM.out.2 (o := ⟨ok, ⟨t1, w1⟩, ⟨t2, w2⟩, ⟨t3, w3⟩, nm, vl⟩) HTT.out (chk ⟨ok, ⟨t1, w1⟩, ⟨t2, w2⟩, ⟨t3, w3⟩, nm, vl⟩)).1
                    clear hck hok
                    replace HX := Aside0.mk (HX.out.under (Below.refl _ _).drew)
                    replace HBX := Aside0.mk (show v3.drew.heap[b]? = _ from HBX.out)
                    refine start_ (n := 7) (S := fun w' => w'.cell? ⟨b, 0, none⟩ = some (.int .i64 ok) ∧ w'.cell? ⟨b, 1, none⟩ = some (.int .i64 t1) ∧ w'.cell? ⟨b, 2, none⟩ = some (.int .i64 w1) ∧ w'.cell? ⟨b, 3, none⟩ = some (.int .i64 t2) ∧ w'.cell? ⟨b, 4, none⟩ = some (.int .i64 w2) ∧ w'.cell? ⟨b, 5, none⟩ = some (.int .i64 t3) ∧ w'.cell? ⟨b, 6, none⟩ = some (.int .i64 w3) ∧ w'.cell? ⟨b, 7, none⟩ = some (.string nm) ∧ w'.cell? ⟨b, 8, none⟩ = some (.string vl)) (ds := [5]) #[false, false, false, false, false, false, false] (by kernel_rfl) rfl rfl ⟨(blk_cell HBX.out 0), (blk_cell HBX.out 1), (blk_cell HBX.out 2), (blk_cell HBX.out 3), (blk_cell HBX.out 4), (blk_cell HBX.out 5), (blk_cell HBX.out 6), (blk_cell HBX.out 7), (blk_cell HBX.out 8)⟩ (fun hHeld => ?_)
                    refine with_tabW compacts_.tab19 compacts_.bits19 (fun HT_ HW_ => ?_)
                    refine pure_ (i := 0) (N := some 121) (v := ?_) (a' := ?_) #[true, false, false, false, false, false, false] rfl rfl (any_of HT_.out (by kernel_rfl)) (fun _ _ _ h => h) (Or.inl ⟨by rfl, ?_⟩) ?_ ?_
                    rotate_left
                    · intro w'
                      go_simp
                      with_reducible rfl
                    rotate_left
                    · simp only [Act.put, List.setIfInBounds_toArray, List.set_cons_zero, List.set_cons_succ, i64_w, i32_w]
                      rfl
                    refine pure_ (i := 3) (N := some 124) (v := ?_) (a' := ?_) #[true, false, false, true, false, false, false] rfl rfl (any_of HT_.out (by kernel_rfl)) (fun _ _ _ h => h) (Or.inl ⟨by rfl, ?_⟩) ?_ ?_
                    rotate_left
                    · intro w'
                      go_simp
                      with_reducible rfl
                    rotate_left
                    · simp only [Act.put, List.setIfInBounds_toArray, List.set_cons_zero, List.set_cons_succ, i64_w, i32_w]
                      rfl
                    refine take_ (i := 1) (N := some 122) (v := ?_) (a' := ?_) #[true, true, false, true, false, false, false] rfl rfl (take_ofW HT_.out HW_.out (by kernel_rfl)) (fun _ _ _ h => h) (Or.inl ⟨by rfl, ?_⟩) hHeld ?_ ?_
                    rotate_left
                    · rintro w' ⟨s0, s1, s2, s3, s4, s5, s6, s7, s8⟩
                      go_simp
                      with_reducible rfl
                    rotate_left
                    · simp only [Act.put, List.setIfInBounds_toArray, List.set_cons_zero, List.set_cons_succ, i64_w, i32_w]
                      rfl
                    refine take_ (i := 4) (N := some 125) (v := ?_) (a' := ?_) #[true, true, false, true, true, false, false] rfl rfl (take_ofW HT_.out HW_.out (by kernel_rfl)) (fun _ _ _ h => h) (Or.inl ⟨by rfl, ?_⟩) hHeld ?_ ?_
                    rotate_left
                    · rintro w' ⟨s0, s1, s2, s3, s4, s5, s6, s7, s8⟩
                      go_simp
                      with_reducible rfl
                    rotate_left
                    · simp only [Act.put, List.setIfInBounds_toArray, List.set_cons_zero, List.set_cons_succ, i64_w, i32_w]
                      rfl
                    refine one_ (i := 2) (N := some 123) #[true, true, true, true, true, false, false] rfl rfl (one_of HT_.out (by kernel_rfl)) (by decide) (fun K hK => ?_)
                    refine goes_ Tryd.func14 (by kernel_rfl) rfl #[.pointer (some ⟨gA, 0, none⟩), .agg #[.int .i64 ok, .int .i64 t1, .int .i64 w1, .int .i64 t2, .int .i64 w2, .int .i64 t3, .int .i64 w3, .string nm, .string vl]] (by rfl) rfl rfl (by simp only [List.map_toArray, List.map_cons, List.map_nil]; rfl) ?_
                    with_reducible refine (Apply_calls _ _ gA fA nA vA TA ⟨ok, ⟨t1, w1⟩, ⟨t2, w2⟩, ⟨t3, w3⟩, nm, vl⟩ 40 _ HX.out.a HP.out.a HCK.out (fun e => (HOK.out e).ok) (HL.out.below HX.out.below)).mono ?_
                    rintro e w5 ⟨TA', vA', rfl, ht, hg, h1, h2, h3, h4, h5⟩
                    refine ⟨_, rfl, ?_⟩
                    replace HBX := Aside0.mk (h4.blk HBX.out HNF.out.1)
                    replace HX := Aside0.mk (HX.out.step ht h4 h5)
                    have HEA := Aside0.mk (And.intro hg (And.intro h1 (And.intro h2 h3)))
                    clear ht hg h1 h2 h3 h4 h5
                    refine hK.out _ _ ⟨(blk_cell HBX.out 0), (blk_cell HBX.out 1), (blk_cell HBX.out 2), (blk_cell HBX.out 3), (blk_cell HBX.out 4), (blk_cell HBX.out 5), (blk_cell HBX.out 6), (blk_cell HBX.out 7), (blk_cell HBX.out 8)⟩ (fun hHeld => ?_)
                    clear hK K
                    refine norm_ (a' := ?_) ?_ ?_
                    rotate_left
                    · show Act.put _ (some 123) _ = _
                      simp only [Act.put, List.setIfInBounds_toArray, List.set_cons_zero, List.set_cons_succ, i64_w, i32_w]
                      rfl
                    refine last_ (i := 5) (N := some 126) #[true, true, true, true, true, true, false] rfl rfl (one_of HT_.out (by kernel_rfl)) (by decide) (fun K hK => ?_)
                    refine goes_ Tryd.func14 (by kernel_rfl) rfl #[.pointer (some ⟨gB, 0, none⟩), .agg #[.int .i64 ok, .int .i64 t1, .int .i64 w1, .int .i64 t2, .int .i64 w2, .int .i64 t3, .int .i64 w3, .string nm, .string vl]] (by rfl) rfl rfl (by simp only [List.map_toArray, List.map_cons, List.map_nil]; rfl) ?_
                    with_reducible refine (Apply_calls _ _ gB fB nB vB TB ⟨ok, ⟨t1, w1⟩, ⟨t2, w2⟩, ⟨t3, w3⟩, nm, vl⟩ 40 _ HX.out.b HP.out.b HCK.out (fun e => (HOK.out e).ok) (HL.out.below HX.out.below)).mono ?_
                    rintro e w6 ⟨TB', vB', rfl, ht, hg, h1, h2, h3, h4, h5⟩
                    rw [HPE.out]
                    refine ⟨_, rfl, ?_⟩
                    replace HX := Aside0.mk ((HX.out.rot.step ht h4 h5).rot)
                    have HEB := Aside0.mk (And.intro hg (And.intro h1 (And.intro h2 h3)))
                    clear ht hg h1 h2 h3 h4 h5
                    refine hK.out _ _ ?_
                    clear hK K
                    refine norm_ (a' := ?_) ?_ ?_
                    rotate_left
                    · show Act.put _ (some 126) _ = _
                      simp only [Act.put, List.setIfInBounds_toArray, List.set_cons_zero, List.set_cons_succ, i64_w, i32_w]
                      rfl
                    refine pure_ (i := 6) (N := some 127) (v := ?_) (a' := ?_) #[true, true, true, true, true, true, true] rfl rfl (any_of HT_.out (by kernel_rfl)) (fun _ _ _ h => h) (Or.inl ⟨by rfl, ?_⟩) ?_ ?_
                    rotate_left
                    · intro w'
                      go_simp
                      with_reducible rfl
                    rotate_left
                    · simp only [Act.put, List.setIfInBounds_toArray, List.set_cons_zero, List.set_cons_succ, i64_w, i32_w]
                      rfl
                    refine done_ (done_of HT_.out (by kernel_rfl)) ?_
                    go_wp2
                    go_roundg k1
                    case measure => exact Nat.lt_succ_self _
                    case rel => exact ⟨x + 1, m + 1, vA', vB', TA', TB', ⟨rt_k HK.out H1.out⟩, (by first | rfl | rw [hw1]), ⟨by have := HM.out; omega⟩, HX, ⟨HP.out.step HN5.out HUM.out.2 (o := ⟨ok, ⟨t1, w1⟩, ⟨t2, w2⟩, ⟨t3, w3⟩, nm, vl⟩) HTT.out HEA.out.1 HEA.out.2.1 HEA.out.2.2.1 HEA.out.2.2.2 HEB.out.1 HEB.out.2.1 HEB.out.2.2.1 HEB.out.2.2.2⟩⟩
            · have b1 : decide (x < (l1.length : Int)) = false := decide_eq_false hx
              have HNOW := Aside0.mk HP.out.now
              have HLE := Aside0.mk (show TA.ops.length ≤ 512 ∧ TB.ops.length ≤ 512 from ⟨HP.out.a.len, HP.out.b.len⟩)
              have hge : decide ((TB.ops.length : Int) ≤ (TA.ops.length : Int)) = true := decide_eq_true (by have := HP.out.count; omega)
              have hge2 : (TB.ops.length ≤ TA.ops.length) = True := eq_true HP.out.count
              have K0 := Aside0.mk (show (0 : Nat) = 0 from rfl)
              clear hx h0
              go_wp2_with (first
                | (go_at_call 16; refine (awake_calls _ (HL.out.below HX.out.below)).mono ?_; rintro e w1 ⟨rfl, hb⟩; replace HX := Aside0.mk (HX.out.under hb); clear hb)
                | (go_at_call 28; clear K0; refine (Nodes_calls _ _ gA fA nA vA TA HX.out.a (Nat.le_trans (now_len HP.out.a) (by decide))).mono ?_; rintro e w' ⟨v_, m1, rfl, hp, ho, hn, hb⟩; replace HX := Aside0.mk (HX.out.under hb); have HP1 := Aside0.mk hp; have HO1 := Aside0.mk ho; obtain ⟨B1, hn1⟩ : ∃ B1, NodesAt _ B1 _ _ := ⟨_, hn⟩; obtain ⟨Q1, e1, rfl, hc1, hC1⟩ := hn1.reads; have HN1 := Aside0.mk hn1; clear hp ho hn hn1 hb hC1 hc1; have K1 := Aside0.mk (show (0 : Nat) = 0 from rfl))
                | (go_at_call 28; clear K1; refine (Nodes_calls _ _ gB fB nB vB TB HX.out.b (Nat.le_trans (now_len HP.out.b) (by decide))).mono ?_; rintro e w' ⟨v_, m2, rfl, hp, ho, hn, hb⟩; replace HX := Aside0.mk (HX.out.under hb); have HP2 := Aside0.mk hp; have HO2 := Aside0.mk ho; obtain ⟨B2, hn1⟩ : ∃ B1, NodesAt _ B1 _ _ := ⟨_, hn⟩; obtain ⟨Q2, e2, rfl, hc1, hC1⟩ := hn1.reads; have HN2 := Aside0.mk hn1; replace HN1 := Aside0.mk (HN1.out.below hb); clear hp ho hn hn1 hb hC1 hc1; have K2 := Aside0.mk (show (0 : Nat) = 0 from rfl))
                | (go_at_call 27; clear K2; have he_ : m1 = m2 := ord_ext HP1.out (HP2.out.trans HNOW.out) HO1.out HO2.out (now_nodup HP.out.a); obtain ⟨ks, hks⟩ := sameNodes_self m1 (by rw [HP1.out.length_eq]; exact Nat.le_trans (now_len HP.out.a) (by decide)); have hks2 : samphireref11_SameNodes.f ks m1 m2 = some true := (by rw [← he_]; exact hks); refine (samphireref11_SameNodes.calls ks Q1 e1 m1 Q2 e2 m2 true _ HN1.out.readsA.2 HN1.out.readsA.1 HN2.out.readsA.2 HN2.out.readsA.1 hks2).mono ?_; rintro e w' ⟨rfl, hd⟩; replace HX := Aside0.mk (HX.out.under hd.below); clear he_ hks hks2 hd; have K3 := Aside0.mk (show (0 : Nat) = 0 from rfl))
                | (go_at_call 17; clear K3; refine (Ops_calls _ _ gA fA nA vA TA HX.out.a (Nat.le_trans HLE.out.1 (by decide))).mono ?_; rintro e w' ⟨v_, rfl, ho, hb⟩; replace HX := Aside0.mk (HX.out.under hb); obtain ⟨S1, d1, rfl, hc1, hC1⟩ := Kd.R_reads ho; clear ho hb hC1 hc1; have K4 := Aside0.mk (show (0 : Nat) = 0 from rfl))
                | (go_at_call 17; clear K4; refine (Ops_calls _ _ gB fB nB vB TB HX.out.b (Nat.le_trans HLE.out.2 (by decide))).mono ?_; rintro e w' ⟨v_, rfl, ho, hb⟩; replace HX := Aside0.mk (HX.out.under hb); obtain ⟨S2, d2, rfl, hc1, hC1⟩ := Kd.R_reads ho; clear ho hb hC1 hc1; have K5 := Aside0.mk (show (0 : Nat) = 0 from rfl)))
              go_ret
              exact ⟨rfl, HX.out.below⟩
end Go.Proofs.YtiffeljmeahmkaaDoor.S
