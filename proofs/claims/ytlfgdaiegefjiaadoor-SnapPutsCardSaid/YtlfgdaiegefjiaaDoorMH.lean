/- order, and slices.BinarySearchFunc over a tree's operations, as the machine walks them. -/
import Derived.Test.YtlfgdaiegefjiaaDoorQc
import Derived.Test.YtlfgdaiegefjiaaDoorSA
import Derived.Test.YtlfgdaiegefjiaaDoorSx5
import Derived.Test.YtlfgdaiegefjiaaDoorMD
import Derived.Deep.QuietTactic
import Derived.BigQuiet
import Derived.Maps.AppendAt
import Derived.Laws.CopyOwn
import Derived.Lib.Overlaps
namespace Go.Proofs.YtlfgdaiegefjiaaDoor.S
open Go.RowKit Go.Proofs.YtlfgdaiegefjiaaDoorW.PrintWords Go.Proofs.YtlfgdaiegefjiaaDoorW.PrintLast Go.Proofs.YtlfgdaiegefjiaaDoorW.PrintMore
set_option linter.unusedVariables false
set_option linter.unusedSimpArgs false
attribute [local go_sem high] mEq field_par
def lessB (a b : Stp) : Bool := if a.f0 = b.f0 then decide (a.f1 < b.f1) else decide (a.f0 < b.f0)
theorem less_f (a b : Stp) : clock_Less.f a.f0 a.f1 b.f0 b.f1 = some (lessB a b) := by
 unfold clock_Less.f lessB
 by_cases h : a.f0 = b.f0 <;> simp [h]
def ordI (a b : Stp) : Int := if lessB a b = true then -1 else if eqS a b = true then 0 else 1
set_option maxHeartbeats 8000000 in
set_option maxRecDepth 100000 in
theorem order_calls (a b : Stp) (w : World) : Calls Tryd.prog 105 #[.agg #[.int .i64 a.f0, .int .i64 a.f1], .agg #[.int .i64 b.f0, .int .i64 b.f1]] w fun e w' => e = .returned (.int .i64 (ordI a b)) ∧ Below w.heap.size w w' := by
 cases h1 : lessB a b with
 | true =>
  go_enter Tryd.func105, Tryd.ntmps105
  go_wp2_with (go_at_call 68; refine (clock_Less.calls _ _ _ _ _ _ (less_f a b)).mono ?_; rintro e w1 ⟨rfl, hd⟩; rw [h1]; have HB := Aside0.mk (below_step (two_below w _ _) hd); obtain ⟨y0, y1⟩ := Y2 (blk_below (two_new w (.cells #[.int .i64 a.f0, .int .i64 a.f1] 23) (.cells #[.int .i64 b.f0, .int .i64 b.f1] 23)).1 hd); obtain ⟨z0, z1⟩ := Y2 (blk_below (two_new w (.cells #[.int .i64 a.f0, .int .i64 a.f1] 23) (.cells #[.int .i64 b.f0, .int .i64 b.f1] 23)).2 hd); clear hd)
  go_ret
  exact ⟨by unfold ordI; rw [if_pos h1]; rfl, HB.out⟩
 | false =>
  cases h2 : (a.f0 == b.f0 && a.f1 == b.f1) with
  | true =>
   go_enter Tryd.func105, Tryd.ntmps105
   go_wp2_with (go_at_call 68; refine (clock_Less.calls _ _ _ _ _ _ (less_f a b)).mono ?_; rintro e w1 ⟨rfl, hd⟩; rw [h1]; have HB := Aside0.mk (below_step (two_below w _ _) hd); obtain ⟨y0, y1⟩ := Y2 (blk_below (two_new w (.cells #[.int .i64 a.f0, .int .i64 a.f1] 23) (.cells #[.int .i64 b.f0, .int .i64 b.f1] 23)).1 hd); obtain ⟨z0, z1⟩ := Y2 (blk_below (two_new w (.cells #[.int .i64 a.f0, .int .i64 a.f1] 23) (.cells #[.int .i64 b.f0, .int .i64 b.f1] 23)).2 hd); clear hd)
   go_ret
   exact ⟨by unfold ordI; rw [if_neg (by rw [h1]; simp), if_pos (show eqS a b = true from h2)]; rfl, HB.out⟩
  | false =>
   go_enter Tryd.func105, Tryd.ntmps105
   go_wp2_with (go_at_call 68; refine (clock_Less.calls _ _ _ _ _ _ (less_f a b)).mono ?_; rintro e w1 ⟨rfl, hd⟩; rw [h1]; have HB := Aside0.mk (below_step (two_below w _ _) hd); obtain ⟨y0, y1⟩ := Y2 (blk_below (two_new w (.cells #[.int .i64 a.f0, .int .i64 a.f1] 23) (.cells #[.int .i64 b.f0, .int .i64 b.f1] 23)).1 hd); obtain ⟨z0, z1⟩ := Y2 (blk_below (two_new w (.cells #[.int .i64 a.f0, .int .i64 a.f1] 23) (.cells #[.int .i64 b.f0, .int .i64 b.f1] 23)).2 hd); clear hd)
   go_ret
   exact ⟨by unfold ordI; rw [if_neg (by rw [h1]; simp), if_neg (by show ¬ (a.f0 == b.f0 && a.f1 == b.f1) = true; rw [h2]; simp)]; rfl, HB.out⟩
set_option maxHeartbeats 8000000 in
set_option maxRecDepth 100000 in
theorem cmp_calls (o : Opn) (s : Stp) (w : World) : Calls Tryd.prog 104 #[.agg #[.int .i64 o.f0, .int .i64 o.f1.f0, .int .i64 o.f1.f1, .int .i64 o.f2.f0, .int .i64 o.f2.f1, .int .i64 o.f3.f0, .int .i64 o.f3.f1, .string o.f4, .string o.f5], .agg #[.int .i64 s.f0, .int .i64 s.f1]] w fun e w' => e = .returned (.int .i64 (ordI o.f1 s)) ∧ Below w.heap.size w w' := by
 have hu := Tryd.underlying25
 go_enter Tryd.func104, Tryd.ntmps104
 go_wp2_with (go_at_call 105; refine (order_calls o.f1 s _).mono ?_; rintro e w1 ⟨rfl, hd⟩)
 go_ret
 exact ⟨rfl, below_step (two_below w _ _) hd⟩
theorem goesD {P : Program} {Q : Exit → Act → World → Prop} {ops : Array Oper} {oi : Oper} {N : Option Tmp} {a : Act} {w : World} {K : Act → World → Prop} {f : FuncId} {fn : Func} {x : Operand} {bs : Array Operand} {ts : Array TypeId} (hf : P.funcs[f]? = some fn) (hname : (fn.name == "runtime.NumGoroutine") = false) (hb : fn.body.isSome = true) (args : Array Value)
 (hw : Region.wanted oi (yielded ops a.tmps) = true) (hN : oi.dst = N) (hop : oi.op = .call { callee := .value x, args := bs, argTypes := ts }) (hx : a.eval x = .func (.func f) #[] #[]) (hargs : bs.map a.eval = args)
 (h : Calls P f args w fun e w' => ∃ v, e = .returned v ∧ K (a.put N v) w') : if Region.wanted oi (yielded ops a.tmps) = true then Oper.wp P oi a w K Q else K (a.put N undef) w := by
 refine call_ f args hw hN ?_ h
 have he := enters_ hf hname hb args w
 unfold execOp
 simp [hop, resolve, Deferred.ofValue, invoke, hx, hargs, he]
def search_.T8 : Bool × List (List Nat × List Nat) := (true, [([], []), ([], []), ([], []), ([1, 2], [1, 2]), ([3], [3]), ([4], [4]), ([4], [4]), ([4], [4]), ([6, 7, 4], [4, 6, 7]), ([8, 4], [4, 8]), ([4], [4]), ([5, 9, 10, 4, 4], [4, 5, 9, 10]), ([11, 4], [4, 11]), ([4, 12], [4, 12]), ([0, 11, 0], [0]), ([13, 14, 0, 1, 2, 3, 4, 5, 6, 7, 8, 9, 10, 11, 12, 13, 14], [13])])
def search_.B8 : List Nat := [0, 0, 0, 6, 14, 30, 30, 30, 222, 478, 30, 2046, 4094, 8190, 4095, 32767]
theorem search_.tab8 : rtab .any (opsOf Tryd.f103 8) = search_.T8 := by kernel_rfl
theorem search_.bits8 : waitsOk search_.T8.2 search_.B8 = true := by kernel_rfl
/-- Where a stamp stands among operations: so many are ahead of it. -/
def Ranks (l : List Opn) (s : Stp) (r : Nat) : Prop := r ≤ l.length ∧ ∀ x : Int, 0 ≤ x → x < l.length → lessB (rd_T25 l x).f1 s = decide (x < r)
def found (l : List Opn) (s : Stp) (r : Nat) : Bool := decide (r < l.length) && eqS (rd_T25 l r).f1 s
set_option maxHeartbeats 8000000 in
set_option maxRecDepth 100000 in
theorem search_calls (A : Option Addr) (c : Nat) (l : List Opn) (s : Stp) (r : Nat) (w : World) (hC : Kd.C k25 w A l.length l) (hr : Ranks l s r) (hl : l.length ≤ 1000000) (F : Value) (hF : F = .func (.func 104) #[] #[]) :
 Calls Tryd.prog 103 #[.slice A l.length c, .agg #[.int .i64 s.f0, .int .i64 s.f1], F] w fun e w' => e = .returned (.tuple #[.int .i64 r, .bool (found l s r)]) ∧ Below w.heap.size w w' := by
 subst hF
 have HC := Aside0.mk hC
 have HR := Aside0.mk hr
 have HL := Aside0.mk hl
 have hu := Tryd.underlying25
 clear hC hr hl
 go_enter Tryd.func103, Tryd.ntmps103
 go_wp2
 have BK := Aside0.mk (heap_alloc_new w (.cells #[.int .i64 s.f0, .int .i64 s.f1] 23))
 have HB := Aside0.mk (below_alloc (Below.refl w.heap.size w) (.cells #[.int .i64 s.f0, .int .i64 s.f1] 23))
 go_loopw [9, 10] (fun u9 u10 wr => ∃ i j : Int, Aside0 (0 ≤ i) ∧ Aside0 (i ≤ r) ∧ Aside0 (r ≤ j) ∧ Aside0 (j ≤ l.length) ∧ u9 = .int .i64 i ∧ u10 = .int .i64 j ∧ Aside0 (wr.heap[w.heap.size]? = some (.cells #[.int .i64 s.f0, .int .i64 s.f1] 23)) ∧ Aside0 (Below w.heap.size w wr)) (fun u9 u10 _ => (intOf u10 - intOf u9).toNat)
 case atStart => exact ⟨0, l.length, ⟨Int.le_refl _⟩, ⟨by omega⟩, ⟨by have := HR.out.1; omega⟩, ⟨Int.le_refl _⟩, rfl, rfl, BK, HB⟩
 case round =>
  clear BK HB
  obtain ⟨i, j, H0, H1, H2, H3, rfl, rfl, BK, HB⟩ := hrel
  by_cases hx : i < j
  · have b1 : decide (i < j) = true := decide_eq_true hx
    have h0 := H0.out
    have h3 : j ≤ 1000000 := by have := HL.out; have := H3.out; omega
    go_upto_region 5 with fail
    obtain ⟨m, hm⟩ : ∃ m, m = (i + j) / 2 := ⟨_, rfl⟩
    rw [← hm]
    have HM := Aside0.mk (show i ≤ m ∧ m < j by omega)
    have m0 : 0 ≤ m := by omega
    have m1 : m < (l.length : Int) := by have := H3.out; omega
    have m2 : m ≤ 1000000 := by omega
    have HX := Aside0.mk hx
    clear hm hx b1
    obtain ⟨ad, e, hx0, hx1, hx2, hx3, hx4, hx5, hx6, hx7, hx8⟩ := at_T25 (Kd.C_below HC.out HB.out) m m0 m1
    cases e
    have p1 := eq_true m0
    have q1 := eq_true m1
    obtain ⟨y0, y1⟩ := Y2 BK.out
    have HQ := Aside0.mk (HR.out.2 m m0 m1)
    go_still_tail 6, (by kernel_rfl)
    have HBd := Aside0.mk HB.out.drew
    have BKd := Aside0.mk (show wr.drew.heap[w.heap.size]? = _ from BK.out)
    by_cases hlt : m < (r : Int)
    · have ho : ordI (rd_T25 l m).f1 s = -1 := by unfold ordI; rw [HQ.out, if_pos (decide_eq_true hlt)]
      have HLT := Aside0.mk hlt
      clear hlt
      go_wp2_with (go_at_call 104; refine (cmp_calls (rd_T25 l m) s _).mono ?_; rintro e w2 ⟨rfl, hd⟩; have HB2 := Aside0.mk (below_step HBd.out hd); have BK2 := Aside0.mk (blk_below BKd.out hd); clear hd)
      go_roundw
      case rel => exact ⟨m + 1, j, ⟨by omega⟩, ⟨by have := HLT.out; omega⟩, H2, H3, rfl, rfl, BK2, HB2⟩
      case measure => have := HM.out; simp [intOf]; omega
    · have ho : ordI (rd_T25 l m).f1 s = 0 ∨ ordI (rd_T25 l m).f1 s = 1 := by unfold ordI; rw [HQ.out, if_neg (by simpa using hlt)]; split <;> simp
      have HLT := Aside0.mk hlt
      clear hlt
      obtain ⟨q, hq, hq0⟩ : ∃ q, ordI (rd_T25 l m).f1 s = q ∧ decide (q < 0) = false := by rcases ho with ho | ho <;> exact ⟨_, ho, by decide⟩
      clear ho
      go_wp2_with (go_at_call 104; refine (cmp_calls (rd_T25 l m) s _).mono ?_; rintro e w2 ⟨rfl, hd⟩; have HB2 := Aside0.mk (below_step HBd.out hd); have BK2 := Aside0.mk (blk_below BKd.out hd); clear hd)
      go_roundw
      case rel => exact ⟨i, m, H0, H1, ⟨by have := HLT.out; omega⟩, ⟨by have := HM.out; have := H3.out; omega⟩, rfl, rfl, BK2, HB2⟩
      case measure => have := HM.out; simp [intOf]; omega
  · obtain rfl : i = r := by have := H1.out; have := H2.out; omega
    have b1 : decide ((r : Int) < j) = false := decide_eq_false hx
    clear hx
    by_cases hr : r < l.length
    · obtain ⟨x, hxr⟩ : ∃ x : Int, x = (r : Int) := ⟨_, rfl⟩
      rw [← hxr] at b1 ⊢
      have m0 : 0 ≤ x := by omega
      have m1 : x < (l.length : Int) := by omega
      have d1 : decide (x < (l.length : Int)) = true := decide_eq_true m1
      have HRL := Aside0.mk hr
      have HXR := Aside0.mk hxr
      clear hr hxr
      obtain ⟨ad, e, hx0, hx1, hx2, hx3, hx4, hx5, hx6, hx7, hx8⟩ := at_T25 (Kd.C_below HC.out HB.out) x m0 m1
      cases e
      have p1 := eq_true m0
      have q1 := eq_true m1
      obtain ⟨y0, y1⟩ := Y2 BK.out
      have HBd := Aside0.mk HB.out.drew
      go_upto_region 8 with fail
      cases he : eqS (rd_T25 l x).f1 s with
      | true =>
       have ho : ordI (rd_T25 l x).f1 s = 0 := by unfold ordI; rw [if_pos he, if_neg]; rw [eqS_iff.1 he]; unfold lessB; simp
       have HE := Aside0.mk he
       clear he
       refine start_ (n := 16) (S := fun w' => w'.cell? (ad.add (x.toNat * 9)) = some (.int .i64 (rd_T25 l x).f0) ∧ w'.cell? ⟨(ad.add (x.toNat * 9)).block, (ad.add (x.toNat * 9)).off + 1, none⟩ = some (.int .i64 (rd_T25 l x).f1.f0) ∧ w'.cell? ⟨(ad.add (x.toNat * 9)).block, (ad.add (x.toNat * 9)).off + 2, none⟩ = some (.int .i64 (rd_T25 l x).f1.f1) ∧ w'.cell? ⟨(ad.add (x.toNat * 9)).block, (ad.add (x.toNat * 9)).off + 3, none⟩ = some (.int .i64 (rd_T25 l x).f2.f0) ∧ w'.cell? ⟨(ad.add (x.toNat * 9)).block, (ad.add (x.toNat * 9)).off + 4, none⟩ = some (.int .i64 (rd_T25 l x).f2.f1) ∧ w'.cell? ⟨(ad.add (x.toNat * 9)).block, (ad.add (x.toNat * 9)).off + 5, none⟩ = some (.int .i64 (rd_T25 l x).f3.f0) ∧ w'.cell? ⟨(ad.add (x.toNat * 9)).block, (ad.add (x.toNat * 9)).off + 6, none⟩ = some (.int .i64 (rd_T25 l x).f3.f1) ∧ w'.cell? ⟨(ad.add (x.toNat * 9)).block, (ad.add (x.toNat * 9)).off + 7, none⟩ = some (.string (rd_T25 l x).f4) ∧ w'.cell? ⟨(ad.add (x.toNat * 9)).block, (ad.add (x.toNat * 9)).off + 8, none⟩ = some (.string (rd_T25 l x).f5) ∧ w'.cell? ⟨w.heap.size, 0, none⟩ = some (.int .i64 s.f0) ∧ w'.cell? ⟨w.heap.size, 1, none⟩ = some (.int .i64 s.f1)) (ds := [11]) (mb 16 0) (by kernel_rfl) rfl (by kernel_rfl) ⟨hx0, hx1, hx2, hx3, hx4, hx5, hx6, hx7, hx8, y0, y1⟩ (fun hHeld => ?_)
       refine with_tabW search_.tab8 search_.bits8 (fun HT_ HW_ => ?_)
       refine pu 0 35 (mb 16 1) HT_ ?_
       refine pu 1 36 (mb 16 3) HT_ ?_
       refine pu 2 37 (mb 16 7) HT_ ?_
       refine pu 3 38 (mb 16 15) HT_ ?_
       refine pu 4 39 (mb 16 31) HT_ ?_
       refine pu 5 40 (mb 16 63) HT_ ?_
       refine pu 6 41 (mb 16 127) HT_ ?_
       refine pu 7 42 (mb 16 255) HT_ ?_
       refine pu 8 43 (mb 16 511) HT_ ?_
       refine tk 9 44 (mb 16 1023) HT_ HW_ hHeld ?_
       refine tk 10 45 (mb 16 2047) HT_ HW_ hHeld ?_
       refine last_ (i := 11) (N := some 46) (mb 16 4095) rfl rfl (one_of HT_.out (by kernel_rfl)) (by decide) (fun K hK => ?_)
       refine goesD (f := 104) Tryd.func104 (by kernel_rfl) rfl #[.agg #[.int .i64 (rd_T25 l x).f0, .int .i64 (rd_T25 l x).f1.f0, .int .i64 (rd_T25 l x).f1.f1, .int .i64 (rd_T25 l x).f2.f0, .int .i64 (rd_T25 l x).f2.f1, .int .i64 (rd_T25 l x).f3.f0, .int .i64 (rd_T25 l x).f3.f1, .string (rd_T25 l x).f4, .string (rd_T25 l x).f5], .agg #[.int .i64 s.f0, .int .i64 s.f1]] (by rfl) rfl rfl rfl (by simp only [List.map_toArray, List.map_cons, List.map_nil]; rfl) ?_
       with_reducible refine (cmp_calls (rd_T25 l x) s _).mono ?_
       rintro e w2 ⟨rfl, hd⟩
       refine ⟨_, rfl, ?_⟩
       have HB2 := Aside0.mk (below_step HBd.out hd)
       clear hd
       refine hK.out _ _ ?_
       clear hK K
       refine nm _ ?_
       refine pu 12 47 (mb 16 8191) HT_ ?_
       refine pu 13 48 (mb 16 16383) HT_ ?_
       refine pu 14 6 (mb 16 32767) HT_ ?_
       refine pu 15 7 (mb 16 65535) HT_ ?_
       refine dn HT_ ?_
       go_wp2
       go_ret2
       exact ⟨by rw [← HXR.out]; unfold found; rw [decide_eq_true HRL.out, ← HXR.out, HE.out]; rfl, HB2.out⟩
      | false =>
       have HE := Aside0.mk he
       obtain ⟨q, hq, hq0⟩ : ∃ q, ordI (rd_T25 l x).f1 s = q ∧ (q == 0) = false := by
        unfold ordI
        split
        · exact ⟨_, rfl, by decide⟩
        · rw [he]; exact ⟨_, rfl, by decide⟩
       clear he
       refine start_ (n := 16) (S := fun w' => w'.cell? (ad.add (x.toNat * 9)) = some (.int .i64 (rd_T25 l x).f0) ∧ w'.cell? ⟨(ad.add (x.toNat * 9)).block, (ad.add (x.toNat * 9)).off + 1, none⟩ = some (.int .i64 (rd_T25 l x).f1.f0) ∧ w'.cell? ⟨(ad.add (x.toNat * 9)).block, (ad.add (x.toNat * 9)).off + 2, none⟩ = some (.int .i64 (rd_T25 l x).f1.f1) ∧ w'.cell? ⟨(ad.add (x.toNat * 9)).block, (ad.add (x.toNat * 9)).off + 3, none⟩ = some (.int .i64 (rd_T25 l x).f2.f0) ∧ w'.cell? ⟨(ad.add (x.toNat * 9)).block, (ad.add (x.toNat * 9)).off + 4, none⟩ = some (.int .i64 (rd_T25 l x).f2.f1) ∧ w'.cell? ⟨(ad.add (x.toNat * 9)).block, (ad.add (x.toNat * 9)).off + 5, none⟩ = some (.int .i64 (rd_T25 l x).f3.f0) ∧ w'.cell? ⟨(ad.add (x.toNat * 9)).block, (ad.add (x.toNat * 9)).off + 6, none⟩ = some (.int .i64 (rd_T25 l x).f3.f1) ∧ w'.cell? ⟨(ad.add (x.toNat * 9)).block, (ad.add (x.toNat * 9)).off + 7, none⟩ = some (.string (rd_T25 l x).f4) ∧ w'.cell? ⟨(ad.add (x.toNat * 9)).block, (ad.add (x.toNat * 9)).off + 8, none⟩ = some (.string (rd_T25 l x).f5) ∧ w'.cell? ⟨w.heap.size, 0, none⟩ = some (.int .i64 s.f0) ∧ w'.cell? ⟨w.heap.size, 1, none⟩ = some (.int .i64 s.f1)) (ds := [11]) (mb 16 0) (by kernel_rfl) rfl (by kernel_rfl) ⟨hx0, hx1, hx2, hx3, hx4, hx5, hx6, hx7, hx8, y0, y1⟩ (fun hHeld => ?_)
       refine with_tabW search_.tab8 search_.bits8 (fun HT_ HW_ => ?_)
       refine pu 0 35 (mb 16 1) HT_ ?_
       refine pu 1 36 (mb 16 3) HT_ ?_
       refine pu 2 37 (mb 16 7) HT_ ?_
       refine pu 3 38 (mb 16 15) HT_ ?_
       refine pu 4 39 (mb 16 31) HT_ ?_
       refine pu 5 40 (mb 16 63) HT_ ?_
       refine pu 6 41 (mb 16 127) HT_ ?_
       refine pu 7 42 (mb 16 255) HT_ ?_
       refine pu 8 43 (mb 16 511) HT_ ?_
       refine tk 9 44 (mb 16 1023) HT_ HW_ hHeld ?_
       refine tk 10 45 (mb 16 2047) HT_ HW_ hHeld ?_
       refine last_ (i := 11) (N := some 46) (mb 16 4095) rfl rfl (one_of HT_.out (by kernel_rfl)) (by decide) (fun K hK => ?_)
       refine goesD (f := 104) Tryd.func104 (by kernel_rfl) rfl #[.agg #[.int .i64 (rd_T25 l x).f0, .int .i64 (rd_T25 l x).f1.f0, .int .i64 (rd_T25 l x).f1.f1, .int .i64 (rd_T25 l x).f2.f0, .int .i64 (rd_T25 l x).f2.f1, .int .i64 (rd_T25 l x).f3.f0, .int .i64 (rd_T25 l x).f3.f1, .string (rd_T25 l x).f4, .string (rd_T25 l x).f5], .agg #[.int .i64 s.f0, .int .i64 s.f1]] (by rfl) rfl rfl rfl (by simp only [List.map_toArray, List.map_cons, List.map_nil]; rfl) ?_
       with_reducible refine (cmp_calls (rd_T25 l x) s _).mono ?_
       rintro e w2 ⟨rfl, hd⟩
       refine ⟨_, rfl, ?_⟩
       have HB2 := Aside0.mk (below_step HBd.out hd)
       clear hd
       refine hK.out _ _ ?_
       clear hK K
       refine nm _ ?_
       refine pu 12 47 (mb 16 8191) HT_ ?_
       refine pu 13 48 (mb 16 16383) HT_ ?_
       refine pu 14 6 (mb 16 32767) HT_ ?_
       refine pu 15 7 (mb 16 65535) HT_ ?_
       refine dn HT_ ?_
       go_wp2
       go_ret2
       exact ⟨by rw [← HXR.out]; unfold found; rw [← HXR.out, HE.out, Bool.and_false]; rfl, HB2.out⟩
    · have d1 : decide (r < l.length) = false := decide_eq_false hr
      have HRL := Aside0.mk hr
      clear hr
      go_upto_region 8 with fail
      go_quiet (fail)
      go_wp2
      go_ret2
      exact ⟨by unfold found; rw [decide_eq_false HRL.out]; rfl, by first | exact pw_below_drewN HB.out _ | exact HB.out.drew⟩
end Go.Proofs.YtlfgdaiegefjiaaDoor.S
/- Rows of operations, cell by cell: cuts, copies, appending; what lies in them. -/
namespace Go.Proofs.YtlfgdaiegefjiaaDoor.S
open Go.RowKit Go.Proofs.YtlfgdaiegefjiaaDoorW.PrintWords Go.Proofs.YtlfgdaiegefjiaaDoorW.PrintLast Go.Proofs.YtlfgdaiegefjiaaDoorW.PrintMore
set_option linter.unusedVariables false
set_option linter.unusedSimpArgs false
/-- An operation's cells. -/
def opC (o : Opn) : List Value := [.int .i64 o.f0, .int .i64 o.f1.f0, .int .i64 o.f1.f1, .int .i64 o.f2.f0, .int .i64 o.f2.f1, .int .i64 o.f3.f0, .int .i64 o.f3.f1, .string o.f4, .string o.f5]
def flat (l : List Opn) : List Value := l.flatMap opC
theorem flat_length (l : List Opn) : (flat l).length = l.length * 9 := by
 induction l with
 | nil => rfl
 | cons x l ih => unfold flat at ih ⊢; rw [List.flatMap_cons, List.length_append, ih, List.length_cons]; simp [opC]; omega
theorem flat_append (a b : List Opn) : flat (a ++ b) = flat a ++ flat b := by unfold flat; rw [List.flatMap_append]
theorem flat_take (l : List Opn) : ∀ (i : Nat), (flat l).take (i * 9) = flat (l.take i) := by
 induction l with
 | nil => intro i; simp [flat]
 | cons x l ih =>
  intro i
  cases i with
  | zero => simp [flat]
  | succ i =>
   have e : flat (x :: l) = opC x ++ flat l := by unfold flat; rw [List.flatMap_cons]
   have e2 : flat (x :: l.take i) = opC x ++ flat (l.take i) := by unfold flat; rw [List.flatMap_cons]
   rw [e, List.take_succ_cons, e2, List.take_append, show (opC x).length = 9 from rfl, show (i + 1) * 9 - 9 = i * 9 by omega, ih i, List.take_of_length_le (by show 9 ≤ _; omega)]
theorem flat_drop (l : List Opn) (i : Nat) : (flat l).drop (i * 9) = flat (l.drop i) := by
 have h := flat_take l i
 have h1 : flat l = flat (l.take i) ++ flat (l.drop i) := by rw [← flat_append, List.take_append_drop]
 have h2 : flat l = (flat l).take (i * 9) ++ (flat l).drop (i * 9) := (List.take_append_drop _ _).symm
 rw [h] at h2
 exact (List.append_cancel_left (h1.symm.trans h2)).symm
theorem flat_one (l : List Opn) : ∀ v ∈ flat l, v.oneCell' = true := by
 intro v hv
 unfold flat at hv
 obtain ⟨o, _, ho⟩ := List.mem_flatMap.1 hv
 simp only [opC, List.mem_cons, List.not_mem_nil, or_false] at ho
 rcases ho with rfl | rfl | rfl | rfl | rfl | rfl | rfl | rfl | rfl <;> rfl
theorem reps_flat {w : World} {B : Nat} {ok : Nat → Prop} : ∀ {l : List Opn} {cs : List Value}, Reps (k25.M w B ok) 9 l cs → cs = flat l
 | [], cs, h => List.eq_nil_of_length_eq_zero (by simpa using h.1)
 | o :: l, cs, h => by
  have h0 := h.2 0 o rfl
  rw [Nat.zero_mul, List.drop_zero] at h0
  have e0 := k25_openM h0
  have ht : Reps (k25.M w B ok) 9 l (cs.drop 9) := ⟨by rw [List.length_drop, h.1, List.length_cons]; omega, fun j p hj => by
   have := h.2 (j + 1) p (by simpa using hj)
   rw [List.drop_drop, show 9 + j * 9 = (j + 1) * 9 by omega]
   exact this⟩
  rw [← List.take_append_drop 9 cs, e0, reps_flat ht]
  rfl
theorem flat_reps (w : World) (B : Nat) (ok : Nat → Prop) (l : List Opn) : Reps (k25.M w B ok) 9 l (flat l) :=
 ⟨flat_length l, fun j p hj => by
  rw [flat_drop, show (9 : Nat) = 1 * 9 from rfl, flat_take]
  have : (l.drop j).take 1 = [p] := by
   have h1 := (List.getElem?_eq_some_iff.1 hj)
   obtain ⟨hlt, rfl⟩ := h1
   rw [List.drop_eq_getElem_cons hlt]
   rfl
  rw [this]
  have := k25_mkM w B ok p
  simpa [flat, opC] using this⟩
theorem OpsAt.row {w : World} {B : Nat} {v : Value} {l : List Opn} (h : OpsAt w B v l) : w.ownsRow B 25 9 v l.length (flat l) := by
 obtain ⟨_, inner, ho, hr⟩ := h
 have := reps_flat hr
 subst this
 exact ho
theorem OpsAt.of_row {w : World} {B : Nat} {v : Value} {l : List Opn} (h : w.ownsRow B 25 9 v l.length (flat l)) : OpsAt w B v l := ⟨fun _ _ => trivial, flat l, h, flat_reps w B _ l⟩
theorem Stay.of_grown {w w1 : World} {row : Option Nat} (h : w.grownBy w1 row) : Stay w w1 (fun k => row = some k) := ⟨h.os, h.tape, h.output, h.size, fun k hk hn => h.block k hk (fun e => hn e.symm)⟩
theorem add_zero' (b j : Nat) : (⟨b, 0, none⟩ : Addr).add j = ⟨b, j, none⟩ := by
 simp [Addr.add]
 try (intro h; exact h.symm)
theorem infoOp : (Tryd.prog.info? 25).map (fun i => (i.zero, i.size, i.bytes)) = some (some (.agg #[.int .i64 0, .int .i64 0, .int .i64 0, .int .i64 0, .int .i64 0, .int .i64 0, .int .i64 0, .string ⟨#[]⟩, .string ⟨#[]⟩]), 9, 88) := by kernel_rfl
theorem append_run {w : World} {B : Nat} {v : Value} {l : List Opn} (h : OpsAt w B v l) (hB : B ≤ w.heap.size) (vb c : Nat) (o : Opn) (hv : w.heap[vb]? = some (.cells (opC o).toArray 25 (0, 0))) (hl : l.length ≤ 1000000) (ty : TypeId) :
 ∃ v' w', (Builtin.append_ #[35, 35] ty #[v, .slice (some ⟨vb, 0, none⟩) 1 c]).run Tryd.prog w = .ok v' w' ∧ OpsAt w' B v' (l ++ [o]) ∧ Stay w w' (fun k => v.ownBlock = some k) ∧ (∀ k, v'.ownBlock = some k → v.ownBlock = some k ∨ w.heap.size ≤ k) := by
 obtain ⟨i0, hi, hz⟩ := Option.map_eq_some_iff.1 infoOp
 simp only [Prod.mk.injEq] at hz
 obtain ⟨hz0, hz1, hz2⟩ := hz
 obtain ⟨v', w', hrun, ho, hg, _, hat⟩ := run_append_own_at (P := Tryd.prog) w B 35 ty 25 i0 _ 9 88 Tryd.underlying35 hi hz0 hz1 hz2 rfl (by decide) v l.length (flat l) h.row ⟨vb, 0, none⟩ 1 c (opC o) rfl
  (fun j u hj => by
   have := cell_of_row w vb j _ _ _ hv
   rw [add_zero' vb j, this]
   simpa using hj)
  (fun u hu => flat_one [o] u (by simpa [flat] using hu)) (by simp only [maxLen]; omega) (by omega) hB
 refine ⟨v', w', hrun, OpsAt.of_row ?_, Stay.of_grown hg, fun k hk => ?_⟩
 · rw [List.length_append, flat_append]
   simpa [flat] using ho
 · rcases hat with e | e
   · exact .inl (e ▸ hk)
   · rw [e] at hk; exact .inr (Nat.le_of_eq (Option.some.inj hk))
theorem sizeOp (w : World) : (sizeOf 25).run Tryd.prog w = .ok 9 w := Tryd.sizeOf25 w
theorem at_i (w : World) (i : Nat) : (asIntOf (.int .i64 (i : Int))).run Tryd.prog w = .ok (.i64, (i : Int)) w := by simp [asIntOf]
theorem bound_run (w : World) (i y : Nat) (h : i ≤ y) (code : BoundsCode) : (Instr.sliceBound (.int .i64 (i : Int)) y code).run Tryd.prog w = .ok i w := by
 have h2 : (0 : Int) ≤ (i : Int) ∧ (i : Int) ≤ (y : Int) := ⟨by omega, by omega⟩
 unfold Instr.sliceBound
 simp only [Sem.run_bind, at_i, Result.andThen]
 rw [if_pos h2]
 simp
theorem slice_low (w : World) (A : Option Addr) (n c i : Nat) (h : i ≤ n) : (Instr.slice 35 (.slice A n c) (some (.int .i64 (i : Int))) none none).run Tryd.prog w = .ok (.slice (if c = i then A else A.map (·.add (i * 9))) (n - i) (c - i)) w := by
 unfold Instr.slice Instr.sliceBounds
 simp only [Sem.run_bind, run_underlying Tryd.underlying35, Result.andThen, Sem.run_pure, bound_run w i n h, sizeOp]
theorem slice_high (w : World) (g n c i : Nat) (h : i ≤ c) : (Instr.slice 35 (.slice (some ⟨g, 0, none⟩) n c) none (some (.int .i64 (i : Int))) none).run Tryd.prog w = .ok (.slice (some ⟨g, 0, none⟩) i c) w := by
 unfold Instr.slice Instr.sliceBounds
 simp only [Sem.run_bind, run_underlying Tryd.underlying35, Result.andThen, Sem.run_pure, bound_run w i c h, sizeOp]
 by_cases hc : c = 0
 · simp [hc]
 · simp [hc, Addr.add]
theorem copy_run (w : World) (g off dLen dCap : Nat) (ad : Addr) (sLen sCap : Nat) (cur : Array Value) (cs : List Value) (hg : w.heap[g]? = some (.cells cur 25 (0, 0))) (hn : cs.length = Nat.min sLen dLen * 9)
 (hsrc : ∀ j v, cs[j]? = some v → w.cell? (ad.add j) = some v) (hfit : off + cs.length ≤ cur.size) (h1 : ∀ v ∈ cs, v.oneCell' = true) (ty : TypeId) :
 ∃ w' cur', (Builtin.copy_ #[35, 35] ty #[.slice (some ⟨g, off, none⟩) dLen dCap, .slice (some ad) sLen sCap]).run Tryd.prog w = .ok (goInt (Nat.min sLen dLen)) w' ∧ w'.heap[g]? = some (.cells cur' 25 (0, 0)) ∧ cur'.size = cur.size ∧
  cur'.toList = cur.toList.take off ++ cs ++ cur.toList.drop (off + cs.length) ∧ Stay w w' (· = g) ∧ w'.heap.size = w.heap.size := by
 obtain ⟨cur', h3, h4, h5⟩ := setCells_row cs off w cur hg hfit
 obtain ⟨s1, s2, s3, s4⟩ := setCells_same g cs off w
 have hl := run_loadCells_list (P := Tryd.prog) w ad cs hsrc
 have hst := run_storeCells_cells (P := Tryd.prog) g off cs 0 w (fun j hj => by rw [cell_of_row w g _ cur _ (0, 0) hg]; simp; omega) (fun j _ => blk_frozen hg _) h1
 refine ⟨w.setCells g off cs, cur', ?_, h3, h4, h5, ⟨s1, s2, s3, by rw [s4]; exact Nat.le_refl _, fun k _ hk => setCells_far cs _ k hk⟩, s4⟩
 simp [Builtin.copy_, run_underlying Tryd.underlying35, Builtin.lenOf, Builtin.firstCells, sizeOp, ← hn, hl, hst, Result.andThen]
/-- append(s[:i], make(.., m)..) where there is no room for it: a new row. -/
theorem grow_run {w : World} {B : Nat} (g i c : Nat) (xs : List Value) (h : w.ownsRow B 25 9 (.slice (some ⟨g, 0, none⟩) i c) i xs) (m : Nat) (hc : c < i + m) (hm : 0 < m) (hl : i + m ≤ 1000001) (hB : B ≤ w.heap.size) (ty : TypeId) :
 ∃ (w' : World) (c' : Nat) (cur : Array Value), (Builtin.append_ #[35, 3] ty #[.slice (some ⟨g, 0, none⟩) i c, .int .i64 (m : Int)]).run Tryd.prog w = .ok (.slice (some ⟨w.heap.size, 0, none⟩) (i + m) c') w' ∧ w'.heap[w.heap.size]? = some (.cells cur 25 (0, 0)) ∧
  i + m ≤ c' ∧ c' ≤ maxLen ∧ cur.size = c' * 9 ∧ cur.toList.take (i * 9) = xs ∧ Below w.heap.size w w' ∧ w'.heap.size = w.heap.size + 1 := by
 obtain ⟨i0, hi, hz⟩ := Option.map_eq_some_iff.1 infoOp
 simp only [Prod.mk.injEq] at hz
 obtain ⟨hz0, hz1, hz2⟩ := hz
 have hw : IntKind.i64.wrap (m : Int) = m := by rw [IntKind.wrap_i64]; omega
 have hneg : ¬ ((m : Int) < 0) := by omega
 have hbig : ¬ (281474976710656 < (m : Int) * (88 : Int)) := by omega
 have hn : ¬ (i + m ≤ c) := by omega
 have h63' : ¬ (9223372036854775807 < ((i : Int) + (m : Int))) := by omega
 have hfit := growslice_fits (bytes := 88) hc (by omega)
 have h48' : ¬ (281474976710656 < Builtin.nextslicecap (i + m) c * 88) := by omega
 have hfo : (Builtin.firstCells 9 i (.slice (some ⟨g, 0, none⟩) i c)).run Tryd.prog w.drew = .ok xs.toArray w.drew := run_firstCells_some (P := Tryd.prog) w.drew 9 i _ i c xs h.1 (by simpa using h.cells (g := g) rfl)
 have hge := grownCap_ge w (i + m) c 25
 have hcm : grownCap w (i + m) c 25 ≤ maxLen := grownCap_le_maxLen w (i + m) c 25 (by simp only [maxLen]; omega)
 have hmz : ¬ (m * 9 = 0) := by omega
 obtain ⟨Z, hZ⟩ : ∃ Z, Z = (Value.agg #[.int .i64 0, .int .i64 0, .int .i64 0, .int .i64 0, .int .i64 0, .int .i64 0, .int .i64 0, .string ⟨#[]⟩, .string ⟨#[]⟩]) := ⟨_, rfl⟩
 have hZs : Z.cells.size = 9 := by rw [hZ]; rfl
 rw [← hZ] at hz0
 refine ⟨w.drew.alloc (.cells (xs.toArray ++ Builtin.zeroCells Z.cells m ++ Builtin.zeroCells Z.cells (grownCap w (i + m) c 25 - (i + m))) 25), grownCap w (i + m) c 25, xs.toArray ++ Builtin.zeroCells Z.cells m ++ Builtin.zeroCells Z.cells (grownCap w (i + m) c 25 - (i + m)), ?_, heap_alloc_new w.drew _, hge, hcm, ?_, ?_, below_alloc (Below.refl w.heap.size w).drew _, by simp⟩
 · simp [Builtin.append_, run_underlying Tryd.underlying35, run_underlying Tryd.underlying3, sizeOf, typeInfo, zeroValue, hi, hz0, hz1, hz2, asInt, asIntOf, hw, hneg, hbig, hn, h63', h48', Question.forced, hfo, newRow, grownCap, hmz]
 · simp only [Array.size_append, List.size_toArray, size_zeroCells, hZs, h.1]
   omega
 · simp only [Array.toList_append, List.append_assoc]
   rw [← h.1]
   exact List.take_left
section
variable {ops : Array Oper} {rest : List Oper} {oo : Oper} {a : Act} {Q : Exit → Act → World → Prop} {w : World}
theorem wl_append {B : Nat} {v : Value} {l : List Opn} (vb c : Nat) (p : Opn) (s x : Operand) (hop : oo.op = .call { callee := .builtin .append, args := #[s, x], argTypes := #[35, 35] }) (hs : a.eval s = v) (hx : a.eval x = .slice (some ⟨vb, 0, none⟩) 1 c)
 (h0 : OpsAt w B v l) (hB : B ≤ w.heap.size) (hv : w.heap[vb]? = some (.cells (opC p).toArray 25 (0, 0))) (hl : l.length ≤ 1000000)
 (h : ∀ v' w', OpsAt w' B v' (l ++ [p]) → Stay w w' (fun k => v.ownBlock = some k) → (∀ k, v'.ownBlock = some k → v.ownBlock = some k ∨ w.heap.size ≤ k) → wpList Tryd.prog ops Q rest (a.put oo.dst v') w') (hg : oo.guard = none := by rfl) : wpList Tryd.prog ops Q (oo :: rest) a w := by
 refine wpList_plain hg fun K' hK' => ?_
 obtain ⟨v', w', hrun, h1, h2, h3⟩ := append_run h0 hB vb c p hv hl oo.type
 unfold Oper.wp execOp
 simp only [hop, resolve, invoke, builtin, Sem.run_bind, Sem.run_pure, Result.andThen_ok, List.map_toArray, List.map_cons, List.map_nil, hs, hx, hrun]
 exact hK' _ _ (h v' w' h1 h2 h3)
theorem wl_grow {B : Nat} (g i c m : Nat) (xs : List Value) (s x : Operand) (hop : oo.op = .call { callee := .builtin .append, args := #[s, x], argTypes := #[35, 3] }) (hs : a.eval s = .slice (some ⟨g, 0, none⟩) i c) (hx : a.eval x = .int .i64 (m : Int))
 (h0 : w.ownsRow B 25 9 (.slice (some ⟨g, 0, none⟩) i c) i xs) (hc : c < i + m) (hm : 0 < m) (hl : i + m ≤ 1000001) (hB : B ≤ w.heap.size)
 (h : ∀ w' c' cur, w'.heap[w.heap.size]? = some (.cells cur 25 (0, 0)) → i + m ≤ c' → c' ≤ maxLen → cur.size = c' * 9 → cur.toList.take (i * 9) = xs → Below w.heap.size w w' → w'.heap.size = w.heap.size + 1 →
  wpList Tryd.prog ops Q rest (a.put oo.dst (.slice (some ⟨w.heap.size, 0, none⟩) (i + m) c')) w') (hg : oo.guard = none := by rfl) : wpList Tryd.prog ops Q (oo :: rest) a w := by
 refine wpList_plain hg fun K' hK' => ?_
 obtain ⟨w', c', cur, hrun, g1, g2, g3, g4, g5, g6, g7⟩ := grow_run g i c xs h0 m hc hm hl hB oo.type
 unfold Oper.wp execOp
 simp only [hop, resolve, invoke, builtin, Sem.run_bind, Sem.run_pure, Result.andThen_ok, List.map_toArray, List.map_cons, List.map_nil, hs, hx, hrun]
 exact hK' _ _ (h w' c' cur g1 g2 g3 g4 g5 g6 g7)
end
end Go.Proofs.YtlfgdaiegefjiaaDoor.S
/- slices.Insert of one operation, as the machine walks it. -/
namespace Go.Proofs.YtlfgdaiegefjiaaDoor.S
open Go.RowKit Go.Proofs.YtlfgdaiegefjiaaDoorW.PrintWords Go.Proofs.YtlfgdaiegefjiaaDoorW.PrintLast Go.Proofs.YtlfgdaiegefjiaaDoorW.PrintMore
set_option linter.unusedVariables false
set_option linter.unusedSimpArgs false
def Inserts (B : Nat) (s : Value) (l : List Opn) (i : Nat) (o : Opn) (vb : Nat) (w : World) : Prop :=
 Calls Tryd.prog 107 #[s, .int .i64 (i : Int), .slice (some ⟨vb, 0, none⟩) 1 1] w fun e w' => ∃ s', e = .returned s' ∧ OpsAt w' B s' (l.take i ++ o :: l.drop i) ∧ Stay w w' (fun k => s.ownBlock = some k) ∧ (∀ k, s'.ownBlock = some k → s.ownBlock = some k ∨ w.heap.size ≤ k)
set_option maxHeartbeats 8000000 in
set_option maxRecDepth 100000 in
theorem insert_end (w : World) (B : Nat) (s : Value) (l : List Opn) (o : Opn) (vb : Nat) (hs : OpsAt w B s l) (hB : B ≤ w.heap.size) (hv : w.heap[vb]? = some (.cells (opC o).toArray 25 (0, 0))) (hl : l.length ≤ 1000000) : Inserts B s l l.length o vb w := by
 obtain ⟨A, c, rfl, hc, hC⟩ := Kd.R_reads hs
 have hsl := slice_low w A l.length c l.length (Nat.le_refl _)
 obtain ⟨q, hq⟩ : ∃ q, q = (if c = l.length then A else A.map (·.add (l.length * 9))) := ⟨_, rfl⟩
 rw [← hq] at hsl
 obtain ⟨n, hn⟩ : ∃ n, n = l.length := ⟨_, rfl⟩
 have HS := Aside0.mk hs
 have HV := Aside0.mk hv
 rw [← hn] at hsl HS
 have HN := Aside0.mk hn
 have HB := Aside0.mk hB
 have HL := Aside0.mk hl
 have hb : n ≤ 1000000 := by omega
 unfold Inserts
 rw [← hn]
 clear hs hB hv hc hC hq hn hl
 go_enter Tryd.func107, Tryd.ntmps107
 go_wp2_with (at_builtin; refine wl_append vb 1 o _ _ rfl rfl rfl HS.out HB.out HV.out HL.out ?_; intro s' w' h1 h2 h3; have H1 := Aside0.mk h1; have H2 := Aside0.mk h2; have H3 := Aside0.mk h3; clear h1 h2 h3)
 go_ret
 exact ⟨s', rfl, by rw [HN.out, List.take_length, List.drop_length]; exact H1.out, H2.out, H3.out⟩
theorem OpsAt.form {w : World} {B : Nat} {s : Value} {l : List Opn} (h : OpsAt w B s l) (hn : 0 < l.length) : ∃ g c cur, s = .slice (some ⟨g, 0, none⟩) l.length c ∧ B ≤ g ∧ w.heap[g]? = some (.cells cur 25 (0, 0)) ∧ l.length ≤ c ∧ c ≤ maxLen ∧ cur.size = c * 9 ∧ cur.toList.take (l.length * 9) = flat l := by
 rcases h.row.2 with ⟨_, h0⟩ | h0
 · omega
 · exact h0
theorem cells_at {w : World} {g : Nat} {cur : Array Value} {t : TypeId} (h : w.heap[g]? = some (.cells cur t (0, 0))) (off n : Nat) (cs : List Value) (hc : (cur.toList.drop off).take n = cs) : ∀ j v, cs[j]? = some v → w.cell? ((⟨g, 0, none⟩ : Addr).add off |>.add j) = some v := by
 intro j v hj
 subst hc
 have e : ((⟨g, 0, none⟩ : Addr).add off).add j = ⟨g, off + j, none⟩ := by
  rw [add_zero']
  unfold Addr.add
  split
  · rename_i h; rw [h]; rfl
  · rfl
 rw [e, cell_of_row w g _ cur t _ h]
 rw [List.getElem?_take] at hj
 split at hj
 · rw [List.getElem?_drop] at hj
   simpa using hj
 · cases hj
theorem addr_at (g k : Nat) : (some (⟨g, 0, none⟩ : Addr)).map (fun x => x.add k) = some ⟨g, k, none⟩ := by rw [Option.map_some, add_zero']
theorem low_at (w : World) (g n c i : Nat) (h : i ≤ n) (hc : i < c) : (Instr.slice 35 (.slice (some ⟨g, 0, none⟩) n c) (some (.int .i64 (i : Int))) none none).run Tryd.prog w = .ok (.slice (some ⟨g, i * 9, none⟩) (n - i) (c - i)) w := by
 rw [slice_low w _ n c i h, if_neg (by omega), addr_at]
theorem low_at1 (w : World) (g n c i : Nat) (h : i + 1 ≤ n) (hc : i + 1 < c) : (Instr.slice 35 (.slice (some ⟨g, 0, none⟩) n c) (some (.int .i64 ((i : Int) + 1))) none none).run Tryd.prog w = .ok (.slice (some ⟨g, (i + 1) * 9, none⟩) (n - (i + 1)) (c - (i + 1))) w :=
 low_at w g n c (i + 1) h hc
/-- A row behind the second copy. -/
theorem row_is {cur1 cur2 cur3 : Array Value} {l : List Opn} {o : Opn} {i c : Nat} (hi : i ≤ l.length) (hc : l.length + 1 ≤ c) (s1 : cur1.size = c * 9) (t1 : cur1.toList.take (i * 9) = flat (l.take i)) (h2 : cur2.toList = cur1.toList.take (i * 9) ++ opC o ++ cur1.toList.drop (i * 9 + 9))
 (h3 : cur3.toList = cur2.toList.take ((i + 1) * 9) ++ flat (l.drop i) ++ cur2.toList.drop ((i + 1) * 9 + (flat (l.drop i)).length)) : cur3.toList.take ((l.take i ++ o :: l.drop i).length * 9) = flat (l.take i ++ o :: l.drop i) := by
 have e1 : cur2.toList.take ((i + 1) * 9) = flat (l.take i ++ [o]) := by
  rw [h2, t1, flat_append, List.append_assoc, ← List.append_assoc, List.take_append_of_le_length, List.take_of_length_le]
  · simp [flat]
  · rw [List.length_append, flat_length, List.length_take, Nat.min_eq_left hi]; simp [opC]; omega
  · rw [List.length_append, flat_length, List.length_take, Nat.min_eq_left hi]; simp [opC]; omega
 have e2 : flat (l.take i ++ o :: l.drop i) = flat (l.take i ++ [o]) ++ flat (l.drop i) := by rw [← flat_append]; simp
 rw [h3, e1, e2, List.take_append_of_le_length, List.take_of_length_le]
 · rw [← e2, flat_length]; omega
 · rw [← e2, flat_length]; omega
theorem blk_here {w : World} {g : Nat} {x : Obj} (hv : w.heap[g]? = some x) : g < w.heap.size := by
 rcases Nat.lt_or_ge g w.heap.size with h | h
 · exact h
 · rw [Array.getElem?_eq_none h] at hv; cases hv
theorem cells_of {w : World} {vb : Nat} {o : Opn} (hv : w.heap[vb]? = some (.cells (opC o).toArray 25 (0, 0))) : ∀ j v, (opC o)[j]? = some v → w.cell? ((⟨vb, 0, none⟩ : Addr).add j) = some v := by
 intro j v hj
 rw [add_zero' vb j, cell_of_row w vb j _ _ _ hv]
 simpa using hj
theorem flat_cells' (o : Opn) : ∀ v ∈ opC o, v.oneCell' = true := fun v hv => flat_one [o] v (by simpa [flat] using hv)
theorem put_cells {w w1 : World} {vb : Nat} {o : Opn} (hv : w.heap[vb]? = some (.cells (opC o).toArray 25 (0, 0))) (h : Below w.heap.size w w1) : ∀ j v, (opC o)[j]? = some v → w1.cell? ((⟨vb, 0, none⟩ : Addr).add j) = some v := by
 intro j v hj
 have hlt : vb < w.heap.size := by
  rcases Nat.lt_or_ge vb w.heap.size with h | h
  · exact h
  · rw [Array.getElem?_eq_none h] at hv; cases hv
 rw [add_zero' vb j, cell_of_row w1 vb j _ _ _ ((h.block vb hlt).trans hv)]
 simpa using hj
theorem rest_cells {w : World} {g : Nat} {cur : Array Value} {t : TypeId} {l : List Opn} (i : Nat) (hi : i ≤ l.length) (h : w.heap[g]? = some (.cells cur t (0, 0))) (ht : cur.toList.take (l.length * 9) = flat l) : ∀ j v, (flat (l.drop i))[j]? = some v → w.cell? ((⟨g, i * 9, none⟩ : Addr).add j) = some v := by
 have := cells_at h (i * 9) ((l.length - i) * 9) (flat (l.drop i)) (by rw [← flat_drop l i, ← ht, List.drop_take]; congr 1; omega)
 rw [add_zero'] at this
 exact this
theorem flat_cells (l : List Opn) : ∀ v ∈ flat l, v.oneCell' = true := fun v hv => flat_one l v hv
set_option maxHeartbeats 8000000 in
set_option maxRecDepth 100000 in
theorem insert_grow (w : World) (B g c : Nat) (l : List Opn) (i : Nat) (hi : i < l.length) (o : Opn) (vb : Nat) (hs : OpsAt w B (.slice (some ⟨g, 0, none⟩) l.length c) l) (hB : B ≤ w.heap.size) (hv : w.heap[vb]? = some (.cells (opC o).toArray 25 (0, 0))) (hl : l.length ≤ 1000000) (hc : c < l.length + 1) : Inserts B (.slice (some ⟨g, 0, none⟩) l.length c) l i o vb w := by
 obtain ⟨g', c', cur, he, hBg, hcur, hlc, hcm, hcs, htk⟩ := hs.form (by omega)
 cases he
 obtain ⟨m, hm⟩ : ∃ m, l.length + 1 = i + m := ⟨l.length + 1 - i, by omega⟩
 obtain ⟨n, hn⟩ : ∃ n, n = l.length := ⟨_, rfl⟩
 have HI := Aside0.mk (show i < n by omega)
 have hrow : w.ownsRow B 25 9 (.slice (some ⟨g, 0, none⟩) i c) i (flat (l.take i)) := ⟨by rw [flat_length, List.length_take, Nat.min_eq_left (by omega)], .inr ⟨g, c, cur, rfl, hBg, hcur, by omega, hcm, hcs, by rw [← flat_take, ← htk, List.take_take, Nat.min_eq_left (by omega)]⟩⟩
 have hs1 := fun w => low_at w g n c i (by omega) (by omega)
 have hs2 := fun w => slice_high w g n c i (by omega)
 have HR := Aside0.mk hrow
 have HV := Aside0.mk hv
 have HN := Aside0.mk hn
 have HM := Aside0.mk hm
 have HB := Aside0.mk hB
 have HL := Aside0.mk hl
 have HC := Aside0.mk hc
 have HG := Aside0.mk hcur
 have HT := Aside0.mk htk
 have hb : n ≤ 1000000 := by omega
 have hib : i < n := by omega
 have d1 : decide (i = n) = false := decide_eq_false (by omega)
 have d2 : ((i : Int) == (n : Int)) = false := beq_eq_false_iff_ne.mpr (by omega)
 have d3 : decide ((c : Int) < (n : Int) + 1) = true := decide_eq_true (by omega)
 unfold Inserts
 rw [← hn]
 clear hs hB hv hc hn hl hrow hm hcur hlc hcm hcs htk hBg hi
 go_enter Tryd.func107, Tryd.ntmps107
 go_wp2_with (at_builtin; refine wl_grow g i c m _ _ _ rfl rfl (show Value.int .i64 ((n : Int) + 1 - i) = .int .i64 ((m : Nat) : Int) from (by have := HM.out; have := HN.out; congr 1; omega)) HR.out (by have := HC.out; have := HM.out; omega) (by have := HM.out; have := HI.out; have := HN.out; omega) (by have := HM.out; have := HL.out; omega) HB.out ?_
              intro w1 c1 cur1 g1 g2 g3 g4 g5 g6 g7
              have hm1 : 1 < m := by have := HM.out; have := HI.out; have := HN.out; omega
              have hm0 : 0 < m := by omega
              go_loud (obtain ⟨w2, cur2, k1, k2, k3, k4, k5, k6⟩ := copy_run w1 w.heap.size (i * 9) m (c1 - i) ⟨vb, 0, none⟩ 1 1 cur1 (opC o) g1 (by rw [show Nat.min 1 m = 1 from Nat.min_eq_left hm0]; rfl) (put_cells HV.out g6) (by rw [g4]; simp [opC]; omega) (fun v hv => flat_one [o] v (by simpa [flat] using hv)) 3)
              have hcl : i < c1 := by have := HM.out; have := HI.out; have := HN.out; omega
              have hbm : m ≤ 1000001 := by have := HM.out; have := HL.out; omega
              go_loud (have hs3 := fun w9 => low_at1 w9 w.heap.size (i + m) c1 i (by omega) (by omega))
              have G1 := Aside0.mk g1
              have G2 := Aside0.mk g2
              have G3 := Aside0.mk g3
              have G4 := Aside0.mk g4
              have G5 := Aside0.mk g5
              have G6 := Aside0.mk g6
              have G7 := Aside0.mk g7
              have K2 := Aside0.mk k2
              have K3 := Aside0.mk k3
              have K4 := Aside0.mk k4
              have K5 := Aside0.mk k5
              have K6 := Aside0.mk k6
              clear g1 g2 g3 g4 g5 g6 g7 k2 k3 k4 k5 k6)
 have hgw : g < w.heap.size := blk_here HG.out
 have hg2 : w2.drew.heap[g]? = some (.cells cur 25 (0, 0)) := ((K5.out.block g (by have := G7.out; omega) (by omega)).trans (G6.out.block g hgw)).trans HG.out
 have hmn : m - 1 = n - i := by have := HM.out; have := HN.out; omega
 obtain ⟨w3, cur3, q1, q2, q3, q4, q5, q6⟩ := copy_run w2.drew w.heap.size ((i + 1) * 9) (i + m - (i + 1)) (c1 - (i + 1)) ⟨g, i * 9, none⟩ (n - i) (c - i) cur2 (flat (l.drop i)) K2.out (by rw [flat_length, List.length_drop, ← HN.out, show i + m - (i + 1) = n - i by omega, show Nat.min (n - i) (n - i) = n - i from Nat.min_self _]) (rest_cells i (by have := HN.out; omega) hg2 HT.out) (by have := G2.out; rw [K3.out, G4.out, flat_length, List.length_drop, ← HN.out]; omega) (flat_cells _) 3
 have Q2 := Aside0.mk q2
 have Q3 := Aside0.mk q3
 have Q4 := Aside0.mk q4
 have Q5 := Aside0.mk q5
 have Q6 := Aside0.mk q6
 clear q2 q3 q4 q5 q6 hg2 hmn k1
 have z1 : IntKind.i64.wrap ((i : Int) + 1) = (i : Int) + 1 := by rw [IntKind.wrap_i64]; omega
 have z2 : 0 ≤ (i : Int) + 1 := by omega
 have z3 : (i : Int) + 1 ≤ (i : Int) + (m : Int) := by omega
 have z4 : ((i : Int) + 1).toNat = i + 1 := by omega
 have z5 : ¬ (c1 = i + 1) := by have := G2.out; omega
 go_still_tail 8, (by kernel_rfl)
 go_wp2
 go_ret
 have eN := HN.out
 have eM := HM.out
 have hil : i ≤ l.length := by omega
 have hlen : (l.take i ++ o :: l.drop i).length = i + m := by rw [List.length_append, List.length_cons, List.length_take, List.length_drop]; omega
 refine ⟨_, rfl, OpsAt.of_row ⟨flat_length _, .inr ⟨w.heap.size, c1, cur3, by rw [hlen]; rfl, HB.out, Q2.out, by rw [hlen]; exact G2.out, G3.out, by rw [Q3.out, K3.out, G4.out], ?_⟩⟩, ?_, ?_⟩
 · refine row_is (cur1 := cur1) (cur2 := cur2) hil (by have := G2.out; omega) G4.out ?_ ?_ Q4.out
   · rw [G5.out]
   · have := K4.out
     simpa [opC] using this
 · refine ⟨by rw [Q5.out.os]; exact K5.out.os.trans G6.out.os, by rw [Q5.out.tape]; exact K5.out.tape.trans G6.out.tape, by rw [Q5.out.output]; exact K5.out.output.trans G6.out.output, by have h1 := Q5.out.size; have h2 := K5.out.size; have h3 := G6.out.size; exact Nat.le_trans (Nat.le_trans h3 h2) h1, fun k hk hn => ?_⟩
   have h1 := K5.out.block k (by have := G7.out; omega) (by omega)
   have h2 := Q5.out.block k (by rw [show w2.drew.heap.size = w2.heap.size from rfl, K6.out, G7.out]; omega) (by omega)
   exact (h2.trans h1).trans (G6.out.block k hk)
 · intro k hk
   exact .inr (Nat.le_of_eq (Option.some.inj hk))
theorem slice_high1 (w : World) (g n c i : Nat) (h : i + 1 ≤ c) : (Instr.slice 35 (.slice (some ⟨g, 0, none⟩) n c) none (some (.int .i64 ((i : Int) + 1))) none).run Tryd.prog w = .ok (.slice (some ⟨g, 0, none⟩) (i + 1) c) w :=
 slice_high w g n c (i + 1) h
/-- A row behind both copies, where there was room. -/
theorem row_room {cur cur2 cur3 : Array Value} {l : List Opn} {o : Opn} {i c : Nat} (hi : i ≤ l.length) (hc : l.length + 1 ≤ c) (s1 : cur.size = c * 9) (t1 : cur.toList.take (l.length * 9) = flat l) (h2 : cur2.toList = cur.toList.take ((i + 1) * 9) ++ flat (l.drop i) ++ cur.toList.drop ((i + 1) * 9 + (flat (l.drop i)).length))
 (h3 : cur3.toList = cur2.toList.take (i * 9) ++ opC o ++ cur2.toList.drop (i * 9 + (opC o).length)) : cur3.toList.take ((l.take i ++ o :: l.drop i).length * 9) = flat (l.take i ++ o :: l.drop i) := by
 have hsz : cur.toList.length = c * 9 := by rw [Array.length_toList, s1]
 have hl1 : (cur.toList.take ((i + 1) * 9)).length = (i + 1) * 9 := by rw [List.length_take, hsz]; omega
 have ho : (opC o).length = 9 := rfl
 have e1 : cur2.toList.take (i * 9) = flat (l.take i) := by
  rw [h2, List.append_assoc, List.take_append_of_le_length (by omega), List.take_take, Nat.min_eq_left (by omega), ← flat_take, ← t1, List.take_take, Nat.min_eq_left (by omega)]
 have e2 : cur2.toList.drop (i * 9 + (opC o).length) = flat (l.drop i) ++ cur.toList.drop ((i + 1) * 9 + (flat (l.drop i)).length) := by
  rw [h2, List.append_assoc, List.drop_left' (by rw [hl1, ho]; omega)]
 have e3 : flat (l.take i ++ o :: l.drop i) = flat (l.take i) ++ opC o ++ flat (l.drop i) := by simp [flat]
 rw [h3, e1, e2, e3, ← List.append_assoc, List.take_append_of_le_length, List.take_of_length_le]
 · rw [← e3, flat_length]; omega
 · rw [← e3, flat_length]; omega
set_option maxHeartbeats 8000000 in
set_option maxRecDepth 100000 in
theorem insert_room (w : World) (B g c : Nat) (l : List Opn) (i : Nat) (hi : i < l.length) (o : Opn) (vb : Nat) (hs : OpsAt w B (.slice (some ⟨g, 0, none⟩) l.length c) l) (hB : B ≤ w.heap.size) (hv : w.heap[vb]? = some (.cells (opC o).toArray 25 (0, 0))) (hvg : vb ≠ g) (hl : l.length ≤ 1000000) (hc : l.length + 1 ≤ c) : Inserts B (.slice (some ⟨g, 0, none⟩) l.length c) l i o vb w := by
 obtain ⟨g', c', cur, he, hBg, hcur, hlc, hcm, hcs, htk⟩ := hs.form (by omega)
 cases he
 have hlt : g < w.heap.size := blk_here hcur
 have hov : ∀ x lb cb, (callFunc 110 #[.slice (some ⟨vb, 0, none⟩) 1 1, .slice (some ⟨g, x, none⟩) lb cb]).run Tryd.prog w = .ok (.value (.bool false)) w := fun x lb cb => by
  rw [run_callFunc_extern Tryd.func110 (by kernel_rfl) (by kernel_rfl) (by kernel_rfl) (e := Extern.SlicesOverlaps.overlaps #[35, 35] #[4]) (by kernel_rfl),
   Lib.run_overlaps_apart w 35 4 25 Tryd.underlying35 9 (fun w => sizeOp w) ⟨vb, 0, none⟩ ⟨g, x, none⟩ 1 1 lb cb hvg 25 25 9 (c * 9) (by unfold World.shape?; rw [hv]; rfl) (by unfold World.shape?; rw [hcur, ← hcs]) (by omega) (blk_frozen hv _) (blk_frozen hv _)]
  rfl
 obtain ⟨n, hn⟩ : ∃ n, n = l.length := ⟨_, rfl⟩
 have hs1 := fun w => low_at w g n c i (by omega) (by omega)
 have hs2 := fun w => slice_high1 w g n c n (by omega)
 have hb : n ≤ 1000000 := by omega
 have hib : i < n := by omega
 have hnc : n < c := by omega
 obtain ⟨w2, cur2, k1, k2, k3, k4, k5, k6⟩ := copy_run w.drew g ((i + 1) * 9) (n - i) (c - (i + 1)) ⟨g, i * 9, none⟩ (n + 1 - i) (c - i) cur (flat (l.drop i)) hcur (by rw [flat_length, List.length_drop, ← hn, show Nat.min (n + 1 - i) (n - i) = n - i from Nat.min_eq_right (by omega)]) (rest_cells (w := w.drew) i (by omega) hcur htk) (by rw [hcs, flat_length, List.length_drop, ← hn]; omega) (flat_cells _) 3
 obtain ⟨w3, cur3, q1, q2, q3, q4, q5, q6⟩ := copy_run w2 g (i * 9) (n + 1 - i) (c - i) ⟨vb, 0, none⟩ 1 1 cur2 (opC o) k2 (by rw [show Nat.min 1 (n + 1 - i) = 1 from Nat.min_eq_left (by omega)]; rfl) (cells_of ((k5.block vb (blk_here hv) hvg).trans hv)) (by rw [k3, hcs]; simp [opC]; omega) (flat_cells' o) 3
 have d1 : decide (i = n) = false := decide_eq_false (by omega)
 have d2 : ((i : Int) == (n : Int)) = false := beq_eq_false_iff_ne.mpr (by omega)
 have d3 : decide ((c : Int) < (n : Int) + 1) = false := decide_eq_false (by omega)
 have z1 : IntKind.i64.wrap ((i : Int) + 1) = (i : Int) + 1 := by rw [IntKind.wrap_i64]; omega
 have z2 : 0 ≤ (i : Int) + 1 := by omega
 have z3 : (i : Int) + 1 ≤ (n : Int) + 1 := by omega
 have z4 : ((i : Int) + 1).toNat = i + 1 := by omega
 have z5 : ¬ (c = i + 1) := by omega
 have z6 : ¬ (c = i) := by omega
 have z7 : IntKind.i64.wrap ((n : Int) + 1) = (n : Int) + 1 := by rw [IntKind.wrap_i64]; omega
 have z8 : ((n : Int) + 1).toNat = n + 1 := by omega
 have z9 : (i : Int) ≤ (n : Int) + 1 := by omega
 have HN := Aside0.mk hn
 have HB := Aside0.mk hB
 have HBG := Aside0.mk hBg
 have HL := Aside0.mk hl
 have HC := Aside0.mk hc
 have HG := Aside0.mk hcur
 have HT := Aside0.mk htk
 have HS := Aside0.mk hcs
 have HM := Aside0.mk hcm
 have K3 := Aside0.mk k3
 have K4 := Aside0.mk k4
 have K5 := Aside0.mk k5
 have K6 := Aside0.mk k6
 have Q2 := Aside0.mk q2
 have Q3 := Aside0.mk q3
 have Q4 := Aside0.mk q4
 have Q5 := Aside0.mk q5
 have Q6 := Aside0.mk q6
 unfold Inserts
 rw [← hn]
 clear hs hB hv hc hn hl hcur hlc hcm hcs htk hBg hi k2 k3 k4 k5 k6 q2 q3 q4 q5 q6
 go_enter Tryd.func107, Tryd.ntmps107
 go_wp2_with (simp only [hov])
 go_still_tail 8, (by kernel_rfl)
 go_wp2
 go_ret
 have eN := HN.out
 have hlen : (l.take i ++ o :: l.drop i).length = n + 1 := by rw [List.length_append, List.length_cons, List.length_take, List.length_drop]; omega
 refine ⟨_, rfl, OpsAt.of_row ⟨flat_length _, .inr ⟨g, c, cur3, by rw [hlen]; rfl, HBG.out, Q2.out, by rw [hlen]; omega, HM.out, by rw [Q3.out, K3.out, HS.out], ?_⟩⟩, ?_, ?_⟩
 · exact row_room (cur := cur) (cur2 := cur2) (c := c) (by omega) HC.out HS.out HT.out K4.out Q4.out
 · refine ⟨by rw [Q5.out.os]; exact K5.out.os, by rw [Q5.out.tape]; exact K5.out.tape, by rw [Q5.out.output]; exact K5.out.output, Nat.le_trans K5.out.size Q5.out.size, fun k hk hn => ?_⟩
   have hkg : k ≠ g := fun e => hn (by rw [e]; rfl)
   exact (Q5.out.block k (Nat.lt_of_lt_of_le hk K5.out.size) hkg).trans (K5.out.block k hk hkg)
 · intro k hk
   exact .inl hk
theorem insert_calls (w : World) (B : Nat) (s : Value) (l : List Opn) (i : Nat) (hi : i ≤ l.length) (o : Opn) (vb : Nat) (hs : OpsAt w B s l) (hB : B ≤ w.heap.size) (hv : w.heap[vb]? = some (.cells (opC o).toArray 25 (0, 0))) (hvg : s.ownBlock ≠ some vb) (hl : l.length ≤ 1000000) : Inserts B s l i o vb w := by
 rcases Nat.lt_or_ge i l.length with h | h
 · obtain ⟨g, c, cur, rfl, hBg, hcur, hlc, hcm, hcs, htk⟩ := hs.form (by omega)
   rcases Nat.lt_or_ge c (l.length + 1) with hc | hc
   · exact insert_grow w B g c l i h o vb hs hB hv hl hc
   · exact insert_room w B g c l i h o vb hs hB hv (fun e => hvg (by rw [e]; rfl)) hl hc
 · obtain rfl : i = l.length := by omega
   exact insert_end w B s l o vb hs hB hv hl
end Go.Proofs.YtlfgdaiegefjiaaDoor.S
