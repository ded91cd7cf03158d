/- again, as the machine walks it: all operations anew, upon what is for good. -/
import Derived.Test.YtiffeljmeahmkaaDoorMe
import Derived.Test.YtiffeljmeahmkaaDoorMf
import Derived.StillTailTactics
namespace Go.Proofs.YtiffeljmeahmkaaDoor.S
open Go.RowKit Go.Proofs.YtiffeljmeahmkaaDoorW.PrintWords Go.Proofs.YtiffeljmeahmkaaDoorW.PrintLast Go.Proofs.YtiffeljmeahmkaaDoorW.PrintMore
set_option linter.unusedVariables false
set_option linter.unusedSimpArgs false
attribute [local go_sem high] mEq field_par
theorem rd_is (l : List Opn) (x : Int) (h0 : 0 ≤ x) (h1 : x < l.length) : ∃ (k : Nat) (hk : k < l.length), x = k ∧ rd_T28 l x = l[k] := by
  obtain ⟨k, rfl⟩ : ∃ k : Nat, x = k := ⟨x.toNat, by omega⟩
  have hk : k < l.length := by omega
  refine ⟨k, hk, rfl, ?_⟩
  unfold rd_T28
  rw [show ((k : Int)).toNat = k by omega]
  simp [List.getD, hk]
theorem rd_mem (l : List Opn) (x : Int) (h0 : 0 ≤ x) (h1 : x < l.length) : rd_T28 l x ∈ l := by
  obtain ⟨k, hk, _, e⟩ := rd_is l x h0 h1
  rw [e]
  exact List.getElem_mem hk
theorem fold_succ (l : List Opn) (x : Int) (h0 : 0 ≤ x) (h1 : x < l.length) {l0 : List Nod} : (l.take (x + 1).toNat).foldl doN l0 = doN ((l.take x.toNat).foldl doN l0) (rd_T28 l x) := by
  obtain ⟨k, hk, rfl, e⟩ := rd_is l x h0 h1
  rw [e, show ((k : Int) + 1).toNat = k + 1 by omega, show ((k : Int)).toNat = k by omega, List.take_succ_eq_append_getElem hk, List.foldl_append]
  rfl
set_option maxHeartbeats 8000000 in
set_option maxRecDepth 100000 in
theorem again_calls (w : World) (B g f n : Nat) (v : Value) (T : Tr) (h : TreeAt w B g f n v T) (hr : Rooted T.fixed) (hok : ∀ o ∈ T.ops, OpOk o) (hol : T.ops.length ≤ 1000000) :
    Calls Tryd.prog 42 #[.pointer (some ⟨g, 0, none⟩)] w fun e w' => e = .returned (.tuple #[]) ∧ (∃ l0, l0.Perm T.fixed ∧ TreeAt w' B g f n v { T with now := T.ops.foldl doN l0 }) ∧ Stay w w' (· = n) := by
  obtain ⟨A, c, hv, hc, hC⟩ := Kd.R_reads h.ops
  subst hv
  have H := Aside0.mk h
  have HR := Aside0.mk hr
  have HOK := Aside0.mk hok
  have HO := Aside0.mk hol
  have hu := Tryd.underlying28
  obtain ⟨z0, z1, z2, z3, z4⟩ := Y5 h.blk
  obtain ⟨w1, hcl, hl1, hs1⟩ := clear_run h.now 0
  have HS1 := Aside0.mk hs1
  have HT1 := Aside0.mk (h.turn hs1 hl1)
  have HF := Aside0.mk h.fix.nodup
  clear h hr hok hol hc hC hl1 hs1
  go_enter Tryd.func42, Tryd.ntmps42
  go_upto_region 1 with fail
  clear z0 z1 z2 z3 z4 hcl
  obtain ⟨z0, z1, z2, z3, z4⟩ := Y5 HT1.out.blk
  go_still_tail 8, (by kernel_rfl)
  go_wp2_with (go_at_call 60; refine (Copy_calls n f T.fixed _ (HT1.out.now.below (Below.refl _ _).drew) (HT1.out.fix.below (Below.refl _ _).drew) H.out.ne.symm).mono ?_; rintro e w2 ⟨rfl, ⟨l0, hp, hl⟩, hs⟩; have HP := Aside0.mk hp; have HS2 := Aside0.mk ((HS1.out.below (Below.refl _ _).drew).trans hs (fun _ h => .inl h)); have HT2 := Aside0.mk ((HT1.out.below (Below.refl _ _).drew).turn hs hl); clear hp hl hs z0 z1 z2 z3 z4; obtain ⟨z0, z1, z2, z3, z4⟩ := Y5 HT2.out.blk)
  clear z0 z1 z2 z3 z4
  go_loopw [22] (fun u22 wr => ∃ x : Int, Aside0 (0 ≤ x) ∧ Aside0 (x ≤ T.ops.length) ∧ u22 = .int .i64 x ∧ Aside0 (TreeAt wr B g f n (.slice A T.ops.length c) { T with now := (T.ops.take x.toNat).foldl doN l0 }) ∧ Aside0 (Stay w wr (· = n))) (fun u22 _ => (T.ops.length - intOf u22).toNat)
  case atStart => exact ⟨0, ⟨Int.le_refl _⟩, ⟨by omega⟩, rfl, HT2, HS2⟩
  case round =>
    clear HT2 HS2
    obtain ⟨x, H0, H1, rfl, HT, HS⟩ := hrel
    by_cases hx : x < (T.ops.length : Int)
    · have c4b0 : decide (x < (T.ops.length : Int)) = true := decide_eq_true hx
      have c5b0 : decide (0 ≤ x) = true := decide_eq_true H0.out
      obtain ⟨A2, c2, e2, hc2, hC2⟩ := Kd.R_reads HT.out.ops
      cases e2
      obtain ⟨ad, e, hx0, hx1, hx2, hx3, hx4, hx5, hx6, hx7, hx8⟩ := at_T28 hC2 x H0.out hx
      cases e
      have p1 := eq_true H0.out
      have q1 := eq_true hx
      have h0 := H0.out
      have hbx : x ≤ 1000000 := by have := HO.out; omega
      clear hc2 hC2
      have HX := Aside0.mk hx
      clear hx
      go_upto_region 5 with fail
      have hbx := below_alloc (Below.refl wr.heap.size wr) (.cells #[.int .i64 (rd_T28 T.ops x).f0, .int .i64 (rd_T28 T.ops x).f1.f0, .int .i64 (rd_T28 T.ops x).f1.f1, .int .i64 (rd_T28 T.ops x).f2.f0, .int .i64 (rd_T28 T.ops x).f2.f1, .int .i64 (rd_T28 T.ops x).f3.f0, .int .i64 (rd_T28 T.ops x).f3.f1, .string (rd_T28 T.ops x).f4, .string (rd_T28 T.ops x).f5] 28)
      have HT3 := Aside0.mk (HT.out.below hbx)
      have HB3 := Aside0.mk hbx
      obtain ⟨y0, y1, y2, y3, y4, y5, y6, y7, y8⟩ := Y9 (heap_alloc_new wr (.cells #[.int .i64 (rd_T28 T.ops x).f0, .int .i64 (rd_T28 T.ops x).f1.f0, .int .i64 (rd_T28 T.ops x).f1.f1, .int .i64 (rd_T28 T.ops x).f2.f0, .int .i64 (rd_T28 T.ops x).f2.f1, .int .i64 (rd_T28 T.ops x).f3.f0, .int .i64 (rd_T28 T.ops x).f3.f1, .string (rd_T28 T.ops x).f4, .string (rd_T28 T.ops x).f5] 28))
      obtain ⟨w3, hw3⟩ : ∃ w3, w3 = wr.alloc (.cells #[.int .i64 (rd_T28 T.ops x).f0, .int .i64 (rd_T28 T.ops x).f1.f0, .int .i64 (rd_T28 T.ops x).f1.f1, .int .i64 (rd_T28 T.ops x).f2.f0, .int .i64 (rd_T28 T.ops x).f2.f1, .int .i64 (rd_T28 T.ops x).f3.f0, .int .i64 (rd_T28 T.ops x).f3.f1, .string (rd_T28 T.ops x).f4, .string (rd_T28 T.ops x).f5] 28) := ⟨_, rfl⟩
      rw [← hw3] at HT3 HB3 y0 y1 y2 y3 y4 y5 y6 y7 y8 ⊢
      clear hw3 hbx hx0 hx1 hx2 hx3 hx4 hx5 hx6 hx7 hx8
      obtain ⟨z0, z1, z2, z3, z4⟩ := Y5 HT3.out.blk
      go_still_tail 5, (by kernel_rfl)
      go_wp2_with (go_at_call 41; refine (do_calls (fold_rooted (T.ops.take x.toNat) (HR.out.perm HP.out HF.out) (fun o ho => HOK.out o (List.mem_of_mem_take ho))) (HOK.out _ (rd_mem T.ops x h0 HX.out)) n _ (HT3.out.now.below (Below.refl _ _).drew)).mono ?_; rintro e w4 ⟨rfl, hl, hs⟩; have HS4 := Aside0.mk ((HS.out.below (HB3.out.drew)).trans hs (fun _ h => .inl h)); have HT4 := Aside0.mk ((HT3.out.below (Below.refl _ _).drew).turn hs hl); clear hl hs z0 z1 z2 z3 z4 y0 y1 y2 y3 y4 y5 y6 y7 y8)
      go_roundw
      case rel => exact ⟨x + 1, ⟨by omega⟩, ⟨by have := HX.out; omega⟩, rfl, ⟨by have := HT4.out; rw [fold_succ T.ops x h0 HX.out]; exact this⟩, HS4⟩
      case measure => have := HX.out; simp [intOf]; omega
    · obtain rfl : x = T.ops.length := by have := H1.out; omega
      have c4b0 : decide ((T.ops.length : Int) < (T.ops.length : Int)) = false := by simp
      have HE := HT.out
      rw [show ((T.ops.length : Int)).toNat = T.ops.length by omega, List.take_length] at HE
      have HE' := Aside0.mk HE
      clear HE hx
      go_wp2
      go_end0
      exact ⟨rfl, ⟨l0, HP.out, HE'.out⟩, HS.out⟩
end Go.Proofs.YtiffeljmeahmkaaDoor.S
