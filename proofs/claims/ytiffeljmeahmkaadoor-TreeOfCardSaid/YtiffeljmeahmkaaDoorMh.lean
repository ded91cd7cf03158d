/- order, and slices.BinarySearchFunc over a tree's operations, as the machine walks them. -/
import Derived.Test.YtiffeljmeahmkaaDoorMg
import Derived.Deep.QuietTactic
import Derived.BigQuiet
namespace Go.Proofs.YtiffeljmeahmkaaDoor.S
open Go.RowKit Go.Proofs.YtiffeljmeahmkaaDoorW.PrintWords Go.Proofs.YtiffeljmeahmkaaDoorW.PrintLast Go.Proofs.YtiffeljmeahmkaaDoorW.PrintMore
set_option linter.unusedVariables false
set_option linter.unusedSimpArgs false
attribute [local go_sem high] mEq field_par
abbrev marksMh_0 : Array Bool := #[false, false, false, false, false, false, false, false, false, false, false, false, false, false, false, false]
abbrev marksMh_1 : Array Bool := #[true, false, false, false, false, false, false, false, false, false, false, false, false, false, false, false]
abbrev marksMh_2 : Array Bool := #[true, true, false, false, false, false, false, false, false, false, false, false, false, false, false, false]
abbrev marksMh_3 : Array Bool := #[true, true, true, false, false, false, false, false, false, false, false, false, false, false, false, false]
abbrev marksMh_4 : Array Bool := #[true, true, true, true, false, false, false, false, false, false, false, false, false, false, false, false]
abbrev marksMh_5 : Array Bool := #[true, true, true, true, true, false, false, false, false, false, false, false, false, false, false, false]
abbrev marksMh_6 : Array Bool := #[true, true, true, true, true, true, false, false, false, false, false, false, false, false, false, false]
abbrev marksMh_7 : Array Bool := #[true, true, true, true, true, true, true, false, false, false, false, false, false, false, false, false]
abbrev marksMh_8 : Array Bool := #[true, true, true, true, true, true, true, true, false, false, false, false, false, false, false, false]
abbrev marksMh_9 : Array Bool := #[true, true, true, true, true, true, true, true, true, false, false, false, false, false, false, false]
abbrev marksMh_10 : Array Bool := #[true, true, true, true, true, true, true, true, true, true, false, false, false, false, false, false]
abbrev marksMh_11 : Array Bool := #[true, true, true, true, true, true, true, true, true, true, true, false, false, false, false, false]
abbrev marksMh_12 : Array Bool := #[true, true, true, true, true, true, true, true, true, true, true, true, false, false, false, false]
abbrev marksMh_13 : Array Bool := #[true, true, true, true, true, true, true, true, true, true, true, true, true, false, false, false]
abbrev marksMh_14 : Array Bool := #[true, true, true, true, true, true, true, true, true, true, true, true, true, true, false, false]
abbrev marksMh_15 : Array Bool := #[true, true, true, true, true, true, true, true, true, true, true, true, true, true, true, false]
abbrev marksMh_16 : Array Bool := #[true, true, true, true, true, true, true, true, true, true, true, true, true, true, true, true]
def lessB (a b : Stp) : Bool := if a.f0 = b.f0 then decide (a.f1 < b.f1) else decide (a.f0 < b.f0)
theorem less_f (a b : Stp) : clock_Less.f a.f0 a.f1 b.f0 b.f1 = some (lessB a b) := by
  unfold clock_Less.f lessB
  by_cases h : a.f0 = b.f0 <;> simp [h]
def ordI (a b : Stp) : Int := if lessB a b = true then -1 else if eqS a b = true then 0 else 1
set_option maxHeartbeats 8000000 in
set_option maxRecDepth 100000 in
theorem order_calls (a b : Stp) (w : World) : Calls Tryd.prog 38 #[.agg #[.int .i64 a.f0, .int .i64 a.f1], .agg #[.int .i64 b.f0, .int .i64 b.f1]] w fun e w' => e = .returned (.int .i64 (ordI a b)) ∧ Below w.heap.size w w' := by
  cases h1 : lessB a b with
  | true =>
    go_enter Tryd.func38, Tryd.ntmps38
    go_wp2_with (go_at_call 35; refine (clock_Less.calls _ _ _ _ _ _ (less_f a b)).mono ?_; rintro e w1 ⟨rfl, hd⟩; rw [h1]; have HB := Aside0.mk (below_step (two_below w _ _) hd); obtain ⟨y0, y1⟩ := Y2 (blk_below (two_new w (.cells #[.int .i64 a.f0, .int .i64 a.f1] 25) (.cells #[.int .i64 b.f0, .int .i64 b.f1] 25)).1 hd); obtain ⟨z0, z1⟩ := Y2 (blk_below (two_new w (.cells #[.int .i64 a.f0, .int .i64 a.f1] 25) (.cells #[.int .i64 b.f0, .int .i64 b.f1] 25)).2 hd); clear hd)
    go_ret
    exact ⟨by unfold ordI; rw [if_pos h1]; rfl, HB.out⟩
  | false =>
    cases h2 : (a.f0 == b.f0 && a.f1 == b.f1) with
    | true =>
      go_enter Tryd.func38, Tryd.ntmps38
      go_wp2_with (go_at_call 35; refine (clock_Less.calls _ _ _ _ _ _ (less_f a b)).mono ?_; rintro e w1 ⟨rfl, hd⟩; rw [h1]; have HB := Aside0.mk (below_step (two_below w _ _) hd); obtain ⟨y0, y1⟩ := Y2 (blk_below (two_new w (.cells #[.int .i64 a.f0, .int .i64 a.f1] 25) (.cells #[.int .i64 b.f0, .int .i64 b.f1] 25)).1 hd); obtain ⟨z0, z1⟩ := Y2 (blk_below (two_new w (.cells #[.int .i64 a.f0, .int .i64 a.f1] 25) (.cells #[.int .i64 b.f0, .int .i64 b.f1] 25)).2 hd); clear hd)
      go_ret
      exact ⟨by unfold ordI; rw [if_neg (by rw [h1]; simp), if_pos (show eqS a b = true from h2)]; rfl, HB.out⟩
    | false =>
      go_enter Tryd.func38, Tryd.ntmps38
      go_wp2_with (go_at_call 35; refine (clock_Less.calls _ _ _ _ _ _ (less_f a b)).mono ?_; rintro e w1 ⟨rfl, hd⟩; rw [h1]; have HB := Aside0.mk (below_step (two_below w _ _) hd); obtain ⟨y0, y1⟩ := Y2 (blk_below (two_new w (.cells #[.int .i64 a.f0, .int .i64 a.f1] 25) (.cells #[.int .i64 b.f0, .int .i64 b.f1] 25)).1 hd); obtain ⟨z0, z1⟩ := Y2 (blk_below (two_new w (.cells #[.int .i64 a.f0, .int .i64 a.f1] 25) (.cells #[.int .i64 b.f0, .int .i64 b.f1] 25)).2 hd); clear hd)
      go_ret
      exact ⟨by unfold ordI; rw [if_neg (by rw [h1]; simp), if_neg (by show ¬ (a.f0 == b.f0 && a.f1 == b.f1) = true; rw [h2]; simp)]; rfl, HB.out⟩
set_option maxHeartbeats 8000000 in
set_option maxRecDepth 100000 in
theorem cmp_calls (o : Opn) (s : Stp) (w : World) : Calls Tryd.prog 37 #[.agg #[.int .i64 o.f0, .int .i64 o.f1.f0, .int .i64 o.f1.f1, .int .i64 o.f2.f0, .int .i64 o.f2.f1, .int .i64 o.f3.f0, .int .i64 o.f3.f1, .string o.f4, .string o.f5], .agg #[.int .i64 s.f0, .int .i64 s.f1]] w fun e w' => e = .returned (.int .i64 (ordI o.f1 s)) ∧ Below w.heap.size w w' := by
  have hu := Tryd.underlying28
  go_enter Tryd.func37, Tryd.ntmps37
  go_wp2_with (go_at_call 38; refine (order_calls o.f1 s _).mono ?_; rintro e w1 ⟨rfl, hd⟩)
  go_ret
  exact ⟨rfl, below_step (two_below w _ _) hd⟩
theorem goesD {P : Program} {Q : Exit → Act → World → Prop} {ops : Array Oper} {oi : Oper} {N : Option Tmp} {a : Act} {w : World} {K : Act → World → Prop} {f : FuncId} {fn : Func} {x : Operand} {bs : Array Operand} {ts : Array TypeId} (hf : P.funcs[f]? = some fn) (hname : (fn.name == "runtime.NumGoroutine") = false) (hb : fn.body.isSome = true) (args : Array Value)
    (hw : Region.wanted oi (yielded ops a.tmps) = true) (hN : oi.dst = N) (hop : oi.op = .call { callee := .value x, args := bs, argTypes := ts }) (hx : a.eval x = .func (.func f) #[] #[]) (hargs : bs.map a.eval = args)
    (h : Calls P f args w fun e w' => ∃ v, e = .returned v ∧ K (a.put N v) w') : if Region.wanted oi (yielded ops a.tmps) = true then Oper.wp P oi a w K Q else K (a.put N undef) w := by
  refine call_ f args hw hN ?_ h
  have he := enters_ hf hname hb args w
  unfold execOp
  simp [hop, resolve, Deferred.ofValue, invoke, hx, hargs, he]
-- TABLE BEGIN
def search_.T8 : Bool × List (List Nat × List Nat) := (true, [([], []), ([], []), ([], []), ([1, 2], [1, 2]), ([3], [3]), ([4], [4]), ([4], [4]), ([4], [4]), ([6, 7, 4], [4, 6, 7]), ([8, 4], [4, 8]), ([4], [4]), ([5, 9, 10, 4, 4], [4, 5, 9, 10]), ([11, 4], [4, 11]), ([4, 12], [4, 12]), ([0, 11, 0], [0]), ([13, 14, 0, 1, 2, 3, 4, 5, 6, 7, 8, 9, 10, 11, 12, 13, 14], [13])])
def search_.B8 : List Nat := [0, 0, 0, 6, 14, 30, 30, 30, 222, 478, 30, 2046, 4094, 8190, 4095, 32767]
theorem search_.tab8 : rtab .any (opsOf Tryd.f36 8) = search_.T8 := by kernel_rfl
theorem search_.bits8 : waitsOk search_.T8.2 search_.B8 = true := by kernel_rfl
-- TABLE END
/-- Where a stamp stands among operations: so many are ahead of it. -/
def Ranks (l : List Opn) (s : Stp) (r : Nat) : Prop := r ≤ l.length ∧ ∀ x : Int, 0 ≤ x → x < l.length → lessB (rd_T28 l x).f1 s = decide (x < r)
def found (l : List Opn) (s : Stp) (r : Nat) : Bool := decide (r < l.length) && eqS (rd_T28 l r).f1 s
set_option maxHeartbeats 8000000 in
set_option maxRecDepth 100000 in
theorem search_calls (A : Option Addr) (c : Nat) (l : List Opn) (s : Stp) (r : Nat) (w : World) (hC : Kd.C k28 w A l.length l) (hr : Ranks l s r) (hl : l.length ≤ 1000000) (F : Value) (hF : F = .func (.func 37) #[] #[]) :
    Calls Tryd.prog 36 #[.slice A l.length c, .agg #[.int .i64 s.f0, .int .i64 s.f1], F] w fun e w' => e = .returned (.tuple #[.int .i64 r, .bool (found l s r)]) ∧ Below w.heap.size w w' := by
  subst hF
  have HC := Aside0.mk hC
  have HR := Aside0.mk hr
  have HL := Aside0.mk hl
  have hu := Tryd.underlying28
  clear hC hr hl
  go_enter Tryd.func36, Tryd.ntmps36
  go_wp2
  have BK := Aside0.mk (heap_alloc_new w (.cells #[.int .i64 s.f0, .int .i64 s.f1] 25))
  have HB := Aside0.mk (below_alloc (Below.refl w.heap.size w) (.cells #[.int .i64 s.f0, .int .i64 s.f1] 25))
  go_loopw [9, 10] (fun u9 u10 wr => ∃ i j : Int, Aside0 (0 ≤ i) ∧ Aside0 (i ≤ r) ∧ Aside0 (r ≤ j) ∧ Aside0 (j ≤ l.length) ∧ u9 = .int .i64 i ∧ u10 = .int .i64 j ∧ Aside0 (wr.heap[w.heap.size]? = some (.cells #[.int .i64 s.f0, .int .i64 s.f1] 25)) ∧ Aside0 (Below w.heap.size w wr)) (fun u9 u10 _ => (intOf u10 - intOf u9).toNat)
  case atStart => exact ⟨0, l.length, ⟨Int.le_refl _⟩, ⟨by omega⟩, ⟨by have := HR.out.1; omega⟩, ⟨Int.le_refl _⟩, rfl, rfl, BK, HB⟩
  case round =>
    clear BK HB
    obtain ⟨i, j, H0, H1, H2, H3, rfl, rfl, BK, HB⟩ := hrel
    by_cases hx : i < j
    · have b1 : decide (i < j) = true := decide_eq_true hx
      have h0 := H0.out
      have h3 : j ≤ 1000000 := by have := HL.out; have := H3.out; omega
      go_upto_region 5 with fail
      obtain ⟨m, hm⟩ : ∃ m, m = (i + j) / 2 := ⟨_, rfl⟩
      rw [← hm]
      have HM := Aside0.mk (show i ≤ m ∧ m < j by omega)
      have m0 : 0 ≤ m := by omega
      have m1 : m < (l.length : Int) := by have := H3.out; omega
      have m2 : m ≤ 1000000 := by omega
      have HX := Aside0.mk hx
      clear hm hx b1
      obtain ⟨ad, e, hx0, hx1, hx2, hx3, hx4, hx5, hx6, hx7, hx8⟩ := at_T28 (Kd.C_below HC.out HB.out) m m0 m1
      cases e
      have p1 := eq_true m0
      have q1 := eq_true m1
      obtain ⟨y0, y1⟩ := Y2 BK.out
      have HQ := Aside0.mk (HR.out.2 m m0 m1)
      go_still_tail 6, (by kernel_rfl)
      have HBd := Aside0.mk HB.out.drew
      have BKd := Aside0.mk (show wr.drew.heap[w.heap.size]? = _ from BK.out)
      by_cases hlt : m < (r : Int)
      · have ho : ordI (rd_T28 l m).f1 s = -1 := by unfold ordI; rw [HQ.out, if_pos (decide_eq_true hlt)]
        have HLT := Aside0.mk hlt
        clear hlt
        go_wp2_with (go_at_call 37; refine (cmp_calls (rd_T28 l m) s _).mono ?_; rintro e w2 ⟨rfl, hd⟩; have HB2 := Aside0.mk (below_step HBd.out hd); have BK2 := Aside0.mk (blk_below BKd.out hd); clear hd)
        go_roundw
        case rel => exact ⟨m + 1, j, ⟨by omega⟩, ⟨by have := HLT.out; omega⟩, H2, H3, rfl, rfl, BK2, HB2⟩
        case measure => have := HM.out; simp [intOf]; omega
      · have ho : ordI (rd_T28 l m).f1 s = 0 ∨ ordI (rd_T28 l m).f1 s = 1 := by unfold ordI; rw [HQ.out, if_neg (by simpa using hlt)]; split <;> simp
        have HLT := Aside0.mk hlt
        clear hlt
        obtain ⟨q, hq, hq0⟩ : ∃ q, ordI (rd_T28 l m).f1 s = q ∧ decide (q < 0) = false := by rcases ho with ho | ho <;> exact ⟨_, ho, by decide⟩
        clear ho
        go_wp2_with (go_at_call 37; refine (cmp_calls (rd_T28 l m) s _).mono ?_; rintro e w2 ⟨rfl, hd⟩; have HB2 := Aside0.mk (below_step HBd.out hd); have BK2 := Aside0.mk (blk_below BKd.out hd); clear hd)
        go_roundw
        case rel => exact ⟨i, m, H0, H1, ⟨by have := HLT.out; omega⟩, ⟨by have := HM.out; have := H3.out; omega⟩, rfl, rfl, BK2, HB2⟩
        case measure => have := HM.out; simp [intOf]; omega
    · obtain rfl : i = r := by have := H1.out; have := H2.out; omega
      have b1 : decide ((r : Int) < j) = false := decide_eq_false hx
      clear hx
      by_cases hr : r < l.length
      · obtain ⟨x, hxr⟩ : ∃ x : Int, x = (r : Int) := ⟨_, rfl⟩
        rw [← hxr] at b1 ⊢
        have m0 : 0 ≤ x := by omega
        have m1 : x < (l.length : Int) := by omega
        have d1 : decide (x < (l.length : Int)) = true := decide_eq_true m1
        have HRL := Aside0.mk hr
        have HXR := Aside0.mk hxr
        clear hr hxr
        obtain ⟨ad, e, hx0, hx1, hx2, hx3, hx4, hx5, hx6, hx7, hx8⟩ := at_T28 (Kd.C_below HC.out HB.out) x m0 m1
        cases e
        have p1 := eq_true m0
        have q1 := eq_true m1
        obtain ⟨y0, y1⟩ := Y2 BK.out
        have HBd := Aside0.mk HB.out.drew
        go_upto_region 8 with fail
        cases he : eqS (rd_T28 l x).f1 s with
        | true =>
          have ho : ordI (rd_T28 l x).f1 s = 0 := by unfold ordI; rw [if_pos he, if_neg]; rw [eqS_iff.1 he]; unfold lessB; simp
          have HE := Aside0.mk he
          clear he
-- REGION 10 BEGIN
          refine start_ (n := 16) (S := fun w' => w'.cell? (ad.add (x.toNat * 9)) = some (.int .i64 (rd_T28 l x).f0) ∧ w'.cell? ⟨(ad.add (x.toNat * 9)).block, (ad.add (x.toNat * 9)).off + 1, none⟩ = some (.int .i64 (rd_T28 l x).f1.f0) ∧ w'.cell? ⟨(ad.add (x.toNat * 9)).block, (ad.add (x.toNat * 9)).off + 2, none⟩ = some (.int .i64 (rd_T28 l x).f1.f1) ∧ w'.cell? ⟨(ad.add (x.toNat * 9)).block, (ad.add (x.toNat * 9)).off + 3, none⟩ = some (.int .i64 (rd_T28 l x).f2.f0) ∧ w'.cell? ⟨(ad.add (x.toNat * 9)).block, (ad.add (x.toNat * 9)).off + 4, none⟩ = some (.int .i64 (rd_T28 l x).f2.f1) ∧ w'.cell? ⟨(ad.add (x.toNat * 9)).block, (ad.add (x.toNat * 9)).off + 5, none⟩ = some (.int .i64 (rd_T28 l x).f3.f0) ∧ w'.cell? ⟨(ad.add (x.toNat * 9)).block, (ad.add (x.toNat * 9)).off + 6, none⟩ = some (.int .i64 (rd_T28 l x).f3.f1) ∧ w'.cell? ⟨(ad.add (x.toNat * 9)).block, (ad.add (x.toNat * 9)).off + 7, none⟩ = some (.string (rd_T28 l x).f4) ∧ w'.cell? ⟨(ad.add (x.toNat * 9)).block, (ad.add (x.toNat * 9)).off + 8, none⟩ = some (.string (rd_T28 l x).f5) ∧ w'.cell? ⟨w.heap.size, 0, none⟩ = some (.int .i64 s.f0) ∧ w'.cell? ⟨w.heap.size, 1, none⟩ = some (.int .i64 s.f1)) (ds := [11]) marksMh_0 (by kernel_rfl) rfl rfl ⟨hx0, hx1, hx2, hx3, hx4, hx5, hx6, hx7, hx8, y0, y1⟩ (fun hHeld => ?_)
          refine with_tabW search_.tab8 search_.bits8 (fun HT_ HW_ => ?_)
          refine pureQ (i := 0) (N := some 35) marksMh_1 (any_of HT_.out (by kernel_rfl)) ?_
          refine pureQ (i := 1) (N := some 36) marksMh_2 (any_of HT_.out (by kernel_rfl)) ?_
          refine pureQ (i := 2) (N := some 37) marksMh_3 (any_of HT_.out (by kernel_rfl)) ?_
          refine pureQ (i := 3) (N := some 38) marksMh_4 (any_of HT_.out (by kernel_rfl)) ?_
          refine pureQ (i := 4) (N := some 39) marksMh_5 (any_of HT_.out (by kernel_rfl)) ?_
          refine pureQ (i := 5) (N := some 40) marksMh_6 (any_of HT_.out (by kernel_rfl)) ?_
          refine pureQ (i := 6) (N := some 41) marksMh_7 (any_of HT_.out (by kernel_rfl)) ?_
          refine pureQ (i := 7) (N := some 42) marksMh_8 (any_of HT_.out (by kernel_rfl)) ?_
          refine pureQ (i := 8) (N := some 43) marksMh_9 (any_of HT_.out (by kernel_rfl)) ?_
          refine take_ (i := 9) (N := some 44) (v := ?_) (a' := ?_) marksMh_10 rfl rfl (take_ofW HT_.out HW_.out (by kernel_rfl)) (fun _ _ _ h => h) (Or.inl ⟨by rfl, ?_⟩) hHeld ?_ ?_
          rotate_left
          · rintro w' ⟨s0, s1, s2, s3, s4, s5, s6, s7, s8, s9, s10⟩
            go_simp
            with_reducible rfl
          rotate_left
          · simp only [Act.put, List.setIfInBounds_toArray, List.set_cons_zero, List.set_cons_succ, i64_w, i32_w]
            rfl
          refine take_ (i := 10) (N := some 45) (v := ?_) (a' := ?_) marksMh_11 rfl rfl (take_ofW HT_.out HW_.out (by kernel_rfl)) (fun _ _ _ h => h) (Or.inl ⟨by rfl, ?_⟩) hHeld ?_ ?_
          rotate_left
          · rintro w' ⟨s0, s1, s2, s3, s4, s5, s6, s7, s8, s9, s10⟩
            go_simp
            with_reducible rfl
          rotate_left
          · simp only [Act.put, List.setIfInBounds_toArray, List.set_cons_zero, List.set_cons_succ, i64_w, i32_w]
            rfl
          refine last_ (i := 11) (N := some 46) marksMh_12 rfl rfl (one_of HT_.out (by kernel_rfl)) (by decide) (fun K hK => ?_)
          refine goesD (f := 37) Tryd.func37 (by kernel_rfl) rfl #[.agg #[.int .i64 (rd_T28 l x).f0, .int .i64 (rd_T28 l x).f1.f0, .int .i64 (rd_T28 l x).f1.f1, .int .i64 (rd_T28 l x).f2.f0, .int .i64 (rd_T28 l x).f2.f1, .int .i64 (rd_T28 l x).f3.f0, .int .i64 (rd_T28 l x).f3.f1, .string (rd_T28 l x).f4, .string (rd_T28 l x).f5], .agg #[.int .i64 s.f0, .int .i64 s.f1]] (by rfl) rfl rfl rfl (by simp only [List.map_toArray, List.map_cons, List.map_nil]; rfl) ?_
          with_reducible refine (cmp_calls (rd_T28 l x) s _).mono ?_
          rintro e w2 ⟨rfl, hd⟩
          refine ⟨_, rfl, ?_⟩
          have HB2 := Aside0.mk (below_step HBd.out hd)
          clear hd
          refine hK.out _ _ ?_
          clear hK K
          refine norm_ (a' := ?_) ?_ ?_
          rotate_left
          · show Act.put _ (some 46) _ = _
            simp only [Act.put, List.setIfInBounds_toArray, List.set_cons_zero, List.set_cons_succ, i64_w, i32_w]
            rfl
          refine pureQ (i := 12) (N := some 47) marksMh_13 (any_of HT_.out (by kernel_rfl)) ?_
          refine pureQ (i := 13) (N := some 48) marksMh_14 (any_of HT_.out (by kernel_rfl)) ?_
          refine pureQ (i := 14) (N := some 6) marksMh_15 (any_of HT_.out (by kernel_rfl)) ?_
          refine pureQ (i := 15) (N := some 7) marksMh_16 (any_of HT_.out (by kernel_rfl)) ?_
          refine done_ (done_of HT_.out (by kernel_rfl)) ?_

-- REGION END
          go_wp2
          go_ret2
          exact ⟨by rw [← HXR.out]; unfold found; rw [decide_eq_true HRL.out, ← HXR.out, HE.out]; rfl, HB2.out⟩
        | false =>
          have HE := Aside0.mk he
          obtain ⟨q, hq, hq0⟩ : ∃ q, ordI (rd_T28 l x).f1 s = q ∧ (q == 0) = false := by
            unfold ordI
            split
            · exact ⟨_, rfl, by decide⟩
            · rw [he]; exact ⟨_, rfl, by decide⟩
          clear he
-- REGION 10 BEGIN
          refine start_ (n := 16) (S := fun w' => w'.cell? (ad.add (x.toNat * 9)) = some (.int .i64 (rd_T28 l x).f0) ∧ w'.cell? ⟨(ad.add (x.toNat * 9)).block, (ad.add (x.toNat * 9)).off + 1, none⟩ = some (.int .i64 (rd_T28 l x).f1.f0) ∧ w'.cell? ⟨(ad.add (x.toNat * 9)).block, (ad.add (x.toNat * 9)).off + 2, none⟩ = some (.int .i64 (rd_T28 l x).f1.f1) ∧ w'.cell? ⟨(ad.add (x.toNat * 9)).block, (ad.add (x.toNat * 9)).off + 3, none⟩ = some (.int .i64 (rd_T28 l x).f2.f0) ∧ w'.cell? ⟨(ad.add (x.toNat * 9)).block, (ad.add (x.toNat * 9)).off + 4, none⟩ = some (.int .i64 (rd_T28 l x).f2.f1) ∧ w'.cell? ⟨(ad.add (x.toNat * 9)).block, (ad.add (x.toNat * 9)).off + 5, none⟩ = some (.int .i64 (rd_T28 l x).f3.f0) ∧ w'.cell? ⟨(ad.add (x.toNat * 9)).block, (ad.add (x.toNat * 9)).off + 6, none⟩ = some (.int .i64 (rd_T28 l x).f3.f1) ∧ w'.cell? ⟨(ad.add (x.toNat * 9)).block, (ad.add (x.toNat * 9)).off + 7, none⟩ = some (.string (rd_T28 l x).f4) ∧ w'.cell? ⟨(ad.add (x.toNat * 9)).block, (ad.add (x.toNat * 9)).off + 8, none⟩ = some (.string (rd_T28 l x).f5) ∧ w'.cell? ⟨w.heap.size, 0, none⟩ = some (.int .i64 s.f0) ∧ w'.cell? ⟨w.heap.size, 1, none⟩ = some (.int .i64 s.f1)) (ds := [11]) marksMh_0 (by kernel_rfl) rfl rfl ⟨hx0, hx1, hx2, hx3, hx4, hx5, hx6, hx7, hx8, y0, y1⟩ (fun hHeld => ?_)
          refine with_tabW search_.tab8 search_.bits8 (fun HT_ HW_ => ?_)
          refine pureQ (i := 0) (N := some 35) marksMh_1 (any_of HT_.out (by kernel_rfl)) ?_
          refine pureQ (i := 1) (N := some 36) marksMh_2 (any_of HT_.out (by kernel_rfl)) ?_
          refine pureQ (i := 2) (N := some 37) marksMh_3 (any_of HT_.out (by kernel_rfl)) ?_
          refine pureQ (i := 3) (N := some 38) marksMh_4 (any_of HT_.out (by kernel_rfl)) ?_
          refine pureQ (i := 4) (N := some 39) marksMh_5 (any_of HT_.out (by kernel_rfl)) ?_
          refine pureQ (i := 5) (N := some 40) marksMh_6 (any_of HT_.out (by kernel_rfl)) ?_
          refine pureQ (i := 6) (N := some 41) marksMh_7 (any_of HT_.out (by kernel_rfl)) ?_
          refine pureQ (i := 7) (N := some 42) marksMh_8 (any_of HT_.out (by kernel_rfl)) ?_
          refine pureQ (i := 8) (N := some 43) marksMh_9 (any_of HT_.out (by kernel_rfl)) ?_
          refine take_ (i := 9) (N := some 44) (v := ?_) (a' := ?_) marksMh_10 rfl rfl (take_ofW HT_.out HW_.out (by kernel_rfl)) (fun _ _ _ h => h) (Or.inl ⟨by rfl, ?_⟩) hHeld ?_ ?_
          rotate_left
          · rintro w' ⟨s0, s1, s2, s3, s4, s5, s6, s7, s8, s9, s10⟩
            go_simp
            with_reducible rfl
          rotate_left
          · simp only [Act.put, List.setIfInBounds_toArray, List.set_cons_zero, List.set_cons_succ, i64_w, i32_w]
            rfl
          refine take_ (i := 10) (N := some 45) (v := ?_) (a' := ?_) marksMh_11 rfl rfl (take_ofW HT_.out HW_.out (by kernel_rfl)) (fun _ _ _ h => h) (Or.inl ⟨by rfl, ?_⟩) hHeld ?_ ?_
          rotate_left
          · rintro w' ⟨s0, s1, s2, s3, s4, s5, s6, s7, s8, s9, s10⟩
            go_simp
            with_reducible rfl
          rotate_left
          · simp only [Act.put, List.setIfInBounds_toArray, List.set_cons_zero, List.set_cons_succ, i64_w, i32_w]
            rfl
          refine last_ (i := 11) (N := some 46) marksMh_12 rfl rfl (one_of HT_.out (by kernel_rfl)) (by decide) (fun K hK => ?_)
          refine goesD (f := 37) Tryd.func37 (by kernel_rfl) rfl #[.agg #[.int .i64 (rd_T28 l x).f0, .int .i64 (rd_T28 l x).f1.f0, .int .i64 (rd_T28 l x).f1.f1, .int .i64 (rd_T28 l x).f2.f0, .int .i64 (rd_T28 l x).f2.f1, .int .i64 (rd_T28 l x).f3.f0, .int .i64 (rd_T28 l x).f3.f1, .string (rd_T28 l x).f4, .string (rd_T28 l x).f5], .agg #[.int .i64 s.f0, .int .i64 s.f1]] (by rfl) rfl rfl rfl (by simp only [List.map_toArray, List.map_cons, List.map_nil]; rfl) ?_
          with_reducible refine (cmp_calls (rd_T28 l x) s _).mono ?_
          rintro e w2 ⟨rfl, hd⟩
          refine ⟨_, rfl, ?_⟩
          have HB2 := Aside0.mk (below_step HBd.out hd)
          clear hd
          refine hK.out _ _ ?_
          clear hK K
          refine norm_ (a' := ?_) ?_ ?_
          rotate_left
          · show Act.put _ (some 46) _ = _
            simp only [Act.put, List.setIfInBounds_toArray, List.set_cons_zero, List.set_cons_succ, i64_w, i32_w]
            rfl
          refine pureQ (i := 12) (N := some 47) marksMh_13 (any_of HT_.out (by kernel_rfl)) ?_
          refine pureQ (i := 13) (N := some 48) marksMh_14 (any_of HT_.out (by kernel_rfl)) ?_
          refine pureQ (i := 14) (N := some 6) marksMh_15 (any_of HT_.out (by kernel_rfl)) ?_
          refine pureQ (i := 15) (N := some 7) marksMh_16 (any_of HT_.out (by kernel_rfl)) ?_
          refine done_ (done_of HT_.out (by kernel_rfl)) ?_

-- REGION END
          go_wp2
          go_ret2
          exact ⟨by rw [← HXR.out]; unfold found; rw [← HXR.out, HE.out, Bool.and_false]; rfl, HB2.out⟩
      · have d1 : decide (r < l.length) = false := decide_eq_false hr
        have HRL := Aside0.mk hr
        clear hr
        go_upto_region 8 with fail
        go_quiet (fail)
        go_wp2
        go_ret2
        exact ⟨by unfold found; rw [decide_eq_false HRL.out]; rfl, by first | exact pw_below_drewN HB.out _ | exact HB.out.drew⟩
end Go.Proofs.YtiffeljmeahmkaaDoor.S
