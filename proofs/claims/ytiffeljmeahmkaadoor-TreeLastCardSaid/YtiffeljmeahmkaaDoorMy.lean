/- The law TreeFull. -/
import Derived.Test.YtiffeljmeahmkaaDoorMw
namespace Go.Proofs.YtiffeljmeahmkaaDoor.S
open Go.RowKit Go.Proofs.YtiffeljmeahmkaaDoorW.PrintWords Go.Proofs.YtiffeljmeahmkaaDoorW.PrintLast Go.Proofs.YtiffeljmeahmkaaDoorW.PrintMore
set_option linter.unusedVariables false
set_option linter.unusedSimpArgs false
theorem rank_all {l : List Opn} {s : Stp} (h : ∀ o ∈ l, lessB o.f1 s = true) : rank l s = l.length := by
  unfold rank
  congr 1
  induction l with
  | nil => rfl
  | cons x l ih => rw [List.takeWhile_cons, if_pos (h x (List.mem_cons_self ..)), ih (fun o ho => h o (List.mem_cons_of_mem _ ho))]
theorem isIn_all {l : List Opn} {s : Stp} (h : ∀ o ∈ l, lessB o.f1 s = true) : isIn l s = false := by
  unfold isIn found
  rw [rank_all h]
  simp
theorem insO_all {l : List Opn} {o : Opn} (h : ∀ x ∈ l, lessB x.f1 o.f1 = true) : insO l o = l ++ [o] := end_is (rank_all h)
/-- The law's operation of number i. -/
def fO (nodes : Bool) (i : Int) : Opn := if nodes = true then ⟨1, ⟨i, 1⟩, ⟨i, 1⟩, ⟨0, 0⟩, ⟨#[110]⟩, ⟨#[]⟩⟩ else ⟨4, ⟨i, 1⟩, ⟨1, 1⟩, ⟨0, 0⟩, ⟨#[]⟩, ⟨#[118]⟩⟩
def fL (nodes : Bool) (n : Nat) : List Opn := (List.range n).map fun (j : Nat) => fO nodes ((j : Int) + 1)
theorem fO_at (nodes : Bool) (i : Int) : (fO nodes i).f1 = ⟨i, 1⟩ := by cases nodes <;> rfl
theorem fL_length (nodes : Bool) (n : Nat) : (fL nodes n).length = n := by simp [fL]
theorem fL_succ (nodes : Bool) (n : Nat) : fL nodes (n + 1) = fL nodes n ++ [fO nodes ((n : Int) + 1)] := by simp [fL, List.range_succ]
theorem fL_less (nodes : Bool) (n : Nat) (s : Stp) (h : (n : Int) < s.f0) : ∀ o ∈ fL nodes n, lessB o.f1 s = true := by
  intro o ho
  obtain ⟨j, hj, rfl⟩ := List.mem_map.1 ho
  rw [fO_at, lessB_iff]
  have := List.mem_range.1 hj
  left
  show (j : Int) + 1 < s.f0
  omega
theorem creates_fL (nodes : Bool) (n : Nat) : creates (fL nodes n) ≤ n := by
  have := creates_le (fL nodes n)
  rwa [fL_length] at this
theorem full_step (T : Tr) (nodes : Bool) (n : Nat) (hn : n < 512) (h1 : T.fixed = []) (h2 : T.base = St0) (h3 : T.ops = fL nodes n) : putO T (fO nodes ((n : Int) + 1)) 0 = (fL nodes (n + 1), 0) := by
  have hl := fL_less nodes n ⟨(n : Int) + 1, 1⟩ (by show (n : Int) < (n : Int) + 1; omega)
  have hf : fullB T (fO nodes ((n : Int) + 1)) = false := by
    have := creates_fL nodes n
    unfold fullB
    rw [h1, h3, fL_length, decide_eq_false (show ¬ 512 ≤ n by omega), decide_eq_false (show ¬ 512 ≤ ([] : List Nod).length + creates (fL nodes n) by simp; omega)]
    simp
  have hb : lessB T.base (fO nodes ((n : Int) + 1)).f1 = true := by
    rw [h2, fO_at, lessB_iff]
    left
    show (0 : Int) < (n : Int) + 1
    omega
  unfold putO
  rw [hb, h3, fO_at, isIn_all hl, hf, if_neg (by decide), if_neg (by decide), if_neg (by decide), fL_succ, insO_all (by rw [fO_at]; exact hl)]
theorem full_over (T : Tr) (o : Opn) (m : Nat) (hm : 512 ≤ m) (nodes : Bool) (ho : (m : Int) < o.f1.f0) (h2 : T.base = St0) (h3 : T.ops = fL nodes m) : putO T o 0 = (T.ops, 2) := by
  have hl := fL_less nodes m o.f1 ho
  have hf : fullB T o = true := by
    unfold fullB
    rw [h3, fL_length, decide_eq_true hm, Bool.true_or]
  have hb : lessB T.base o.f1 = true := by
    rw [h2, lessB_iff]
    left
    show (0 : Int) < o.f1.f0
    omega
  unfold putO
  rw [hb, h3, isIn_all hl, hf, if_neg (by decide), if_neg (by decide), if_pos rfl]
theorem full_check : ((List.range 513).all fun n => [true, false].all fun b => tree_Check.f 40 (fO b ((n : Int) + 1)).f0 (fO b ((n : Int) + 1)).f1.f0 (fO b ((n : Int) + 1)).f1.f1 (fO b ((n : Int) + 1)).f2.f0 (fO b ((n : Int) + 1)).f2.f1 (fO b ((n : Int) + 1)).f3.f0 (fO b ((n : Int) + 1)).f3.f1 (fO b ((n : Int) + 1)).f4 (fO b ((n : Int) + 1)).f5 == some 0) = true := by kernel_rfl
theorem fO_ok (nodes : Bool) (i : Int) (hi : 1 ≤ i) : OpOk (fO nodes i) := by
  cases nodes
  · exact ⟨by simp [fO], by simp [fO, outerB]⟩
  · exact ⟨by simp [fO], by simp [fO, outerB]; omega⟩
theorem full_ok (nodes : Bool) (n : Nat) (hn : n < 513) : tree_Check.f 40 (fO nodes ((n : Int) + 1)).f0 (fO nodes ((n : Int) + 1)).f1.f0 (fO nodes ((n : Int) + 1)).f1.f1 (fO nodes ((n : Int) + 1)).f2.f0 (fO nodes ((n : Int) + 1)).f2.f1 (fO nodes ((n : Int) + 1)).f3.f0 (fO nodes ((n : Int) + 1)).f3.f1 (fO nodes ((n : Int) + 1)).f4 (fO nodes ((n : Int) + 1)).f5 = some 0 := by
  have h := List.all_eq_true.1 full_check n (List.mem_range.2 hn)
  have h2 := List.all_eq_true.1 h nodes (by cases nodes <;> simp)
  exact eq_of_beq h2
/-- The tree of the law, with its first m operations. -/
structure FullAt (w wr : World) (g f n : Nat) (nodes : Bool) (m : Nat) (v : Value) (T : Tr) : Prop where
  tree : TreeAt wr w.heap.size g f n v T
  good : Good T
  fixed : T.fixed = []
  base : T.base = St0
  ops : T.ops = fL nodes m
  below : Below w.heap.size w wr
theorem FullAt.step {w wr w' : World} {g f n m m' : Nat} {nodes : Bool} {v v' : Value} {T T' : Tr} (h : FullAt w wr g f n nodes m v T) (ht : TreeAt w' w.heap.size g f n v' T') (hg : Good T') (h1 : T'.fixed = T.fixed) (h2 : T'.base = T.base) (h3 : T'.ops = fL nodes m') (h4 : Stay wr w' (foot g f n v)) : FullAt w w' g f n nodes m' v' T' :=
  ⟨ht, hg, h1.trans h.fixed, h2.trans h.base, h3, h.tree.back h4 h.below⟩
theorem FullAt.under {w wr w' : World} {g f n m : Nat} {nodes : Bool} {v : Value} {T : Tr} (h : FullAt w wr g f n nodes m v T) (hb : Below wr.heap.size wr w') : FullAt w w' g f n nodes m v T :=
  ⟨h.tree.below hb, h.good, h.fixed, h.base, h.ops, below_then h.below h.below.size hb⟩
theorem TreeAt.not_foot {w : World} {B g f n : Nat} {v : Value} {T : Tr} (h : TreeAt w B g f n v T) : ¬ foot g f n v w.heap.size := by
  rintro (h1 | h1 | h1 | h1)
  · exact absurd (blk_lt h.blk) (by omega)
  · exact absurd h.fix.lt (by omega)
  · exact absurd h.now.lt (by omega)
  · exact absurd (h.ops.own_lt _ h1) (by omega)
theorem foot_next {w : World} {g f n x : Nat} {v v' : Value} {o : Obj} (h : ¬ foot g f n v x) (hx : w.heap[x]? = some o) (h5 : ∀ k, v'.ownBlock = some k → v.ownBlock = some k ∨ w.heap.size ≤ k) : ¬ foot g f n v' x := by
  rintro (h1 | h1 | h1 | h1)
  · exact h (.inl h1)
  · exact h (.inr (.inl h1))
  · exact h (.inr (.inr (.inl h1)))
  · rcases h5 _ h1 with h2 | h2
    · exact h (.inr (.inr (.inr h2)))
    · have := blk_lt hx
      omega
theorem full_up (nodes : Bool) : ((upN (fL nodes 512) ⟨10, 6⟩ : Nat) : Int) = 10 := by cases nodes <;> kernel_rfl
theorem full_after (T : Tr) (o : Opn) (nodes : Bool) (h1 : T.fixed = []) (h2 : T.base = St0) (h3 : T.ops = fL nodes 512) (ho : 512 < o.f1.f0) (h4 : o.f0 ≠ 1) : putO (comped T ⟨10, 6⟩ true).1 o 0 = (insO (comped T ⟨10, 6⟩ true).1.ops o, 0) := by
  have hu : upN T.ops ⟨10, 6⟩ = 10 := by
    have := full_up nodes
    rw [h3]
    omega
  have e1 : (comped T ⟨10, 6⟩ true).1.ops = T.ops.drop 10 := by
    show T.ops.drop (upN T.ops ⟨10, 6⟩) = _
    rw [hu]
  have e2 : (comped T ⟨10, 6⟩ true).1.base = ⟨10, 6⟩ := by
    show (if lessB T.base ⟨10, 6⟩ = true then (⟨10, 6⟩ : Stp) else T.base) = _
    rw [h2]
    rfl
  have hl : ∀ x ∈ T.ops.drop 10, lessB x.f1 o.f1 = true := fun x hx => fL_less nodes 512 o.f1 ho x (by rw [← h3]; exact List.mem_of_mem_drop hx)
  have hf : fullB (comped T ⟨10, 6⟩ true).1 o = false := by
    unfold fullB
    rw [e1, h3, List.length_drop, fL_length, decide_eq_false (show ¬ 512 ≤ 512 - 10 by omega), beq_eq_false_iff_ne.2 h4]
    rfl
  have hb : lessB (comped T ⟨10, 6⟩ true).1.base o.f1 = true := by
    rw [e2, lessB_iff]
    left
    show (10 : Int) < o.f1.f0
    omega
  unfold putO
  rw [hb, hf, e1, isIn_all hl, if_neg (by decide), if_neg (by decide), if_neg (by decide)]
theorem bits_and1 (x : Int) : bits .and .i64 x 1 = x % 2 := by
  have h : bits .and .i64 x 1 = IntKind.i64.wrap ((BitVec.ofInt 64 x &&& BitVec.ofInt 64 1).toNat : Int) := rfl
  rw [h, IntKind.wrap_i64]
  have e : (BitVec.ofInt 64 x &&& BitVec.ofInt 64 1).toNat = (x % 2).toNat := by
    rw [BitVec.toNat_and, BitVec.toNat_ofInt, show (BitVec.ofInt 64 1).toNat = 2 ^ 1 - 1 from by decide, Nat.and_two_pow_sub_one_eq_mod]
    omega
  rw [e]
  omega
set_option maxRecDepth 100000 in
set_option maxHeartbeats 4000000 in
theorem full_law_false (w : World) (more : Int) (hL : Laid w) : Calls Tryd.prog 3 #[.bool false, .int .i64 more] w fun e w' => e = .returned (.bool true) ∧ Below w.heap.size w w' := by
  have hu := Tryd.underlying28
  have HL := Aside0.mk hL
  obtain ⟨b, hb01, eb⟩ : ∃ b : Nat, (b = 0 ∨ b = 1) ∧ bits .and .i64 more 1 = (b : Int) := ⟨(more % 2).toNat, by omega, by rw [bits_and1]; omega⟩
  have hw : wrap64 (512 + (b : Int)) = 512 + (b : Int) := by unfold wrap64; omega
  have B01 := Aside0.mk hb01
  clear hL hb01
  go_enter Tryd.func3, Tryd.ntmps3
  go_wp2_with (go_at_call 12; refine (New_calls _).mono ?_; rintro e w1 ⟨g, f, n, rfl, ht, hb⟩; have HT := Aside0.mk ht; have HB := Aside0.mk hb; clear ht hb)
  have HA := Aside0.mk (show FullAt w w1 g f n false 0 (.slice none 0 0) ⟨[], [], [], St0⟩ from ⟨HT.out, good_new, rfl, rfl, rfl, HB.out⟩)
  clear HT HB
  try go_frame
  go_loopg [7] 514 (fun kq p wr => ∃ (j m : Nat) (v : Value) (T : Tr), Aside0 (kq + j = 514 ∧ j ≤ 512 + b ∧ m = min j 512) ∧ p = .int .i64 ((j : Int) + 1) ∧ Aside0 (FullAt w wr g f n false m v T))
  case atStart => exact ⟨0, 0, _, _, ⟨by omega, by omega, by omega⟩, rfl, HA⟩
  case round =>
    clear HA
    obtain ⟨j, m, v, T, HK, rfl, HA⟩ := hrel
    obtain ⟨k1, rfl⟩ : ∃ k1, gk = k1 + 1 := ⟨513 - j, by have := HK.out; have := B01.out; omega⟩
    by_cases h1 : j < 512 + b
    · have d1 : decide ((j : Int) + 1 ≤ 512 + (b : Int)) = true := decide_eq_true (by omega)
      have H1 := Aside0.mk h1
      have hwj : wrap64 ((j : Int) + 1 + 1) = (j : Int) + 1 + 1 := by have := B01.out; unfold wrap64; omega
      clear h1
      go_upto_region 9 with (go_at_call 13; refine (samphirelaw11_at.calls _ _ _ _ _ rfl).mono ?_; rintro e w1 ⟨rfl, hb⟩; replace HA := Aside0.mk (HA.out.under hb); clear hb)
      obtain ⟨wa, x, HA, HXE, HX, HQ⟩ : ∃ wa x, Aside0 (FullAt w wa g f n false m v T) ∧ Aside0 (x = wa.heap.size) ∧ Aside0 ((w1.alloc (.cells #[.int .i64 4, .int .i64 ((j : Int) + 1), .int .i64 1, .int .i64 1, .int .i64 1, .int .i64 0, .int .i64 0, .string ⟨#[]⟩, .string ⟨#[118]⟩] 28)).heap[x]? = some (.cells #[.int .i64 4, .int .i64 ((j : Int) + 1), .int .i64 1, .int .i64 1, .int .i64 1, .int .i64 0, .int .i64 0, .string ⟨#[]⟩, .string ⟨#[118]⟩] 28 (0, 0))) ∧ Aside0 (x = w1.heap.size ∧ Below wa.heap.size wa (w1.alloc (.cells #[.int .i64 4, .int .i64 ((j : Int) + 1), .int .i64 1, .int .i64 1, .int .i64 1, .int .i64 0, .int .i64 0, .string ⟨#[]⟩, .string ⟨#[118]⟩] 28))) := ⟨w1, _, HA, ⟨rfl⟩, ⟨heap_alloc_new _ _⟩, ⟨rfl, below_alloc (Below.refl _ _) _⟩⟩
      rw [← HQ.out.1]
      replace HQ := Aside0.mk HQ.out.2
      generalize w1.alloc (.cells #[.int .i64 4, .int .i64 ((j : Int) + 1), .int .i64 1, .int .i64 1, .int .i64 1, .int .i64 0, .int .i64 0, .string ⟨#[]⟩, .string ⟨#[118]⟩] 28) = w2 at HX HQ ⊢
      replace HA := Aside0.mk (HA.out.under HQ.out)
      obtain ⟨z0, z1, z2, z3, z4, z5, z6, z7, z8⟩ := Y9 HX.out
      by_cases h2 : j < 512
      · have d2 : decide ((j : Int) + 1 ≤ 512) = true := decide_eq_true (by omega)
        have H2 := Aside0.mk h2
        have HM := Aside0.mk (show m = j by have := HK.out; omega)
        clear h2
        have HPUT := Aside0.mk (full_step T false j H2.out HA.out.fixed HA.out.base (by rw [HA.out.ops, HM.out]))
        go_wp2_with (go_at_call 14; refine (Apply_calls w2 _ g f n _ T (fO false ((j : Int) + 1)) 40 0 HA.out.tree HA.out.good (full_ok false j (by have := H1.out; have := B01.out; omega)) (fun _ => fO_ok false _ (by omega)) (HL.out.below HA.out.below)).mono ?_; rintro e w' ⟨T', v', rfl, ht, hg, h1, h2, h3, h4, h5⟩; rw [HPUT.out] at h3 ⊢; have HA' := Aside0.mk (HA.out.step (m' := j + 1) ht hg h1 h2 h3 h4); clear ht hg h1 h2 h3 h4 h5)
        go_roundg k1
        case measure => omega
        case rel => exact ⟨j + 1, _, _, _, ⟨by have := HK.out; omega, by have := H1.out; omega, by have := H2.out; omega⟩, (by rw [hwj]; rfl), HA'⟩
      · have d2 : decide ((j : Int) + 1 ≤ 512) = false := decide_eq_false (by omega)
        have H2 := Aside0.mk h2
        clear h2
        have HPUT := Aside0.mk (full_over T (fO false ((j : Int) + 1)) m (by have := HK.out; have := H2.out; omega) false (by rw [fO_at]; have := HK.out; have := H1.out; have := H2.out; have := B01.out; show (m : Int) < (j : Int) + 1; omega) HA.out.base HA.out.ops)
        go_wp2_with (go_at_call 14; refine (Apply_calls w2 _ g f n _ T (fO false ((j : Int) + 1)) 40 0 HA.out.tree HA.out.good (full_ok false j (by have := H1.out; have := B01.out; omega)) (fun _ => fO_ok false _ (by omega)) (HL.out.below HA.out.below)).mono ?_; rintro e w' ⟨T', v', rfl, ht, hg, h1, h2, h3, h4, h5⟩; rw [HPUT.out] at h3 ⊢; have HA' := Aside0.mk (HA.out.step (m' := m) ht hg h1 h2 (h3.trans HA.out.ops) h4); clear ht hg h1 h2 h3 h4 h5)
        go_roundg k1
        case measure => omega
        case rel => exact ⟨j + 1, _, _, _, ⟨by have := HK.out; omega, by have := H1.out; omega, by have := HK.out; have := H2.out; omega⟩, (by rw [hwj]; rfl), HA'⟩
    · have d1 : decide ((j : Int) + 1 ≤ 512 + (b : Int)) = false := decide_eq_false (by omega)
      have H1 := Aside0.mk h1
      clear h1
      have HM := Aside0.mk (show m = 512 by have := HK.out; have := H1.out; omega)
      go_upto_region 15 with (go_at_call 13; refine (samphirelaw11_at.calls _ _ _ _ _ rfl).mono ?_; rintro e w1 ⟨rfl, hb⟩; replace HA := Aside0.mk (HA.out.under hb); clear hb)
      have HX := Aside0.mk (heap_alloc_new w1 (.cells #[.int .i64 4, .int .i64 2000, .int .i64 1, .int .i64 1, .int .i64 1, .int .i64 0, .int .i64 0, .string ⟨#[]⟩, .string ⟨#[119]⟩] 28))
      have HNF := Aside0.mk HA.out.tree.not_foot
      replace HA := Aside0.mk (HA.out.under (below_alloc (Below.refl w1.heap.size w1) (.cells #[.int .i64 4, .int .i64 2000, .int .i64 1, .int .i64 1, .int .i64 1, .int .i64 0, .int .i64 0, .string ⟨#[]⟩, .string ⟨#[119]⟩] 28)))
      generalize w1.heap.size = x at HX HNF ⊢
      generalize w1.alloc (.cells #[.int .i64 4, .int .i64 2000, .int .i64 1, .int .i64 1, .int .i64 1, .int .i64 0, .int .i64 0, .string ⟨#[]⟩, .string ⟨#[119]⟩] 28) = w2 at HX HA ⊢
      obtain ⟨z0, z1, z2, z3, z4, z5, z6, z7, z8⟩ := Y9 HX.out
      have HPUT := Aside0.mk (full_over T ⟨4, ⟨2000, 1⟩, ⟨1, 1⟩, ⟨0, 0⟩, ⟨#[]⟩, ⟨#[119]⟩⟩ m (by rw [HM.out]; exact Nat.le_refl _) false (by rw [HM.out]; decide) HA.out.base HA.out.ops)
      go_upto_region 17 with (go_at_call 14; refine (Apply_calls w2 _ g f n _ T ⟨4, ⟨2000, 1⟩, ⟨1, 1⟩, ⟨0, 0⟩, ⟨#[]⟩, ⟨#[119]⟩⟩ 40 0 HA.out.tree HA.out.good (by kernel_rfl) (fun _ => ⟨by decide, by decide⟩) (HL.out.below HA.out.below)).mono ?_; rintro e w' ⟨T', v', rfl, ht, hg, h1, h2, h3, h4, h5⟩; rw [HPUT.out] at h3 ⊢; have HXT := Aside0.mk (h4.blk HX.out HNF.out); have HA' := Aside0.mk (HA.out.step (m' := m) ht hg h1 h2 (h3.trans HA.out.ops) h4); have HNF' := Aside0.mk (foot_next HNF.out HX.out h5); clear ht hg h1 h2 h3 h4 h5)
      clear HPUT z0 z1 z2 z3 z4 z5 z6 z7 z8
      generalize w' = w2 at HXT HA' ⊢
      generalize T' = T at HA' ⊢
      generalize v' = v at HA' HNF' ⊢
      have HX := HXT
      have HA := HA'
      have HNF := HNF'
      clear HXT HA' HNF'
      obtain ⟨z0, z1, z2, z3, z4, z5, z6, z7, z8⟩ := Y9 HX.out
      have hfin : tree_fine.f 10 6 = some true := by kernel_rfl
      have HFIN := Aside0.mk hfin
      clear hfin
      have hup : (comped T ⟨10, 6⟩ true).2 = 10 := by
        show ((upN T.ops ⟨10, 6⟩ : Nat) : Int) = 10
        rw [HA.out.ops, HM.out]
        exact full_up false
      have HPUT := Aside0.mk (full_after T ⟨4, ⟨2000, 1⟩, ⟨1, 1⟩, ⟨0, 0⟩, ⟨#[]⟩, ⟨#[119]⟩⟩ false HA.out.fixed HA.out.base (HA.out.ops.trans (by rw [HM.out])) (by decide) (by decide))
      go_wp2_with (first
        | (go_at_call 13; refine (samphirelaw11_at.calls _ _ _ _ _ rfl).mono ?_; rintro e w1 ⟨rfl, hb⟩; replace HA := Aside0.mk (HA.out.under hb); replace HX := Aside0.mk (blk_below HX.out hb); clear hb; obtain ⟨z0, z1, z2, z3, z4, z5, z6, z7, z8⟩ := Y9 HX.out)
        | (go_at_call 15; refine (Compact_calls _ _ g f n v T ⟨_, _⟩ true HA.out.tree HA.out.good HFIN.out).mono ?_; rintro e w1 ⟨v', rfl, ht, hst, hown⟩; have HQ := Aside0.mk (HA.out.tree.back hst HA.out.below); have HT := Aside0.mk ht; replace HX := Aside0.mk (hst.blk HX.out HNF.out); clear ht hst hown; obtain ⟨z0, z1, z2, z3, z4, z5, z6, z7, z8⟩ := Y9 HX.out)
        | (go_at_call 14; refine (Apply_calls _ _ g f n _ (comped T ⟨10, 6⟩ true).1 ⟨4, ⟨2000, 1⟩, ⟨1, 1⟩, ⟨0, 0⟩, ⟨#[]⟩, ⟨#[119]⟩⟩ 40 0 HT.out (Good.comp HA.out.good ⟨10, 6⟩) (by kernel_rfl) (fun _ => ⟨by decide, by decide⟩) (HL.out.below HQ.out)).mono ?_; rintro e w1 ⟨T', v', rfl, ht, hg, h1, h2, h3, h4, h5⟩; rw [HPUT.out] at h3 ⊢; replace HQ := Aside0.mk (HT.out.back h4 HQ.out); clear ht hg h1 h2 h3 h4 h5)
        | (go_at_call 16; refine (awake_calls _ (HL.out.below HQ.out)).mono ?_; rintro e w1 ⟨rfl, hb⟩; replace HQ := Aside0.mk (below_then HQ.out HQ.out.size hb); clear hb))
      go_ret
      exact ⟨rfl, HQ.out⟩
set_option maxRecDepth 100000 in
set_option maxHeartbeats 4000000 in
theorem full_law_true (w : World) (more : Int) (hL : Laid w) : Calls Tryd.prog 3 #[.bool true, .int .i64 more] w fun e w' => e = .returned (.bool true) ∧ Below w.heap.size w w' := by
  have hu := Tryd.underlying28
  have HL := Aside0.mk hL
  obtain ⟨b, hb01, eb⟩ : ∃ b : Nat, (b = 0 ∨ b = 1) ∧ bits .and .i64 more 1 = (b : Int) := ⟨(more % 2).toNat, by omega, by rw [bits_and1]; omega⟩
  have hw : wrap64 (512 + (b : Int)) = 512 + (b : Int) := by unfold wrap64; omega
  have B01 := Aside0.mk hb01
  clear hL hb01
  go_enter Tryd.func3, Tryd.ntmps3
  go_wp2_with (go_at_call 12; refine (New_calls _).mono ?_; rintro e w1 ⟨g, f, n, rfl, ht, hb⟩; have HT := Aside0.mk ht; have HB := Aside0.mk hb; clear ht hb)
  have HA := Aside0.mk (show FullAt w w1 g f n true 0 (.slice none 0 0) ⟨[], [], [], St0⟩ from ⟨HT.out, good_new, rfl, rfl, rfl, HB.out⟩)
  clear HT HB
  try go_frame
  go_loopg [7] 514 (fun kq p wr => ∃ (j m : Nat) (v : Value) (T : Tr), Aside0 (kq + j = 514 ∧ j ≤ 512 + b ∧ m = min j 512) ∧ p = .int .i64 ((j : Int) + 1) ∧ Aside0 (FullAt w wr g f n true m v T))
  case atStart => exact ⟨0, 0, _, _, ⟨by omega, by omega, by omega⟩, rfl, HA⟩
  case round =>
    clear HA
    obtain ⟨j, m, v, T, HK, rfl, HA⟩ := hrel
    obtain ⟨k1, rfl⟩ : ∃ k1, gk = k1 + 1 := ⟨513 - j, by have := HK.out; have := B01.out; omega⟩
    by_cases h1 : j < 512 + b
    · have d1 : decide ((j : Int) + 1 ≤ 512 + (b : Int)) = true := decide_eq_true (by omega)
      have H1 := Aside0.mk h1
      have hwj : wrap64 ((j : Int) + 1 + 1) = (j : Int) + 1 + 1 := by have := B01.out; unfold wrap64; omega
      clear h1
      go_upto_region 9 with (go_at_call 13; refine (samphirelaw11_at.calls _ _ _ _ _ rfl).mono ?_; rintro e w1 ⟨rfl, hb⟩; replace HA := Aside0.mk (HA.out.under hb); clear hb)
      obtain ⟨wa, x, HA, HXE, HX, HQ⟩ : ∃ wa x, Aside0 (FullAt w wa g f n true m v T) ∧ Aside0 (x = wa.heap.size) ∧ Aside0 ((w1.alloc (.cells #[.int .i64 4, .int .i64 ((j : Int) + 1), .int .i64 1, .int .i64 1, .int .i64 1, .int .i64 0, .int .i64 0, .string ⟨#[]⟩, .string ⟨#[118]⟩] 28)).heap[x]? = some (.cells #[.int .i64 4, .int .i64 ((j : Int) + 1), .int .i64 1, .int .i64 1, .int .i64 1, .int .i64 0, .int .i64 0, .string ⟨#[]⟩, .string ⟨#[118]⟩] 28 (0, 0))) ∧ Aside0 (x = w1.heap.size ∧ Below wa.heap.size wa (w1.alloc (.cells #[.int .i64 4, .int .i64 ((j : Int) + 1), .int .i64 1, .int .i64 1, .int .i64 1, .int .i64 0, .int .i64 0, .string ⟨#[]⟩, .string ⟨#[118]⟩] 28))) := ⟨w1, _, HA, ⟨rfl⟩, ⟨heap_alloc_new _ _⟩, ⟨rfl, below_alloc (Below.refl _ _) _⟩⟩
      rw [← HQ.out.1]
      replace HQ := Aside0.mk HQ.out.2
      generalize w1.alloc (.cells #[.int .i64 4, .int .i64 ((j : Int) + 1), .int .i64 1, .int .i64 1, .int .i64 1, .int .i64 0, .int .i64 0, .string ⟨#[]⟩, .string ⟨#[118]⟩] 28) = w2 at HX HQ ⊢
      go_upto_region 10 with fail
      obtain ⟨z0, z1, z2, z3, z4, z5, z6, z7, z8, z9, z10, z11, z12, z13, z14, z15, z16, z17⟩ := Z9 HX.out
      go_upto_region 11 with (first | (go_at_call 13; refine (samphirelaw11_at.calls _ _ _ _ _ rfl).mono ?_; rintro e w1 ⟨rfl, hb⟩; replace HQ := Aside0.mk (below_then HQ.out HQ.out.size hb); replace HX := Aside0.mk (blk_below HX.out hb); clear hb; obtain ⟨z0, z1, z2, z3, z4, z5, z6, z7, z8, z9, z10, z11, z12, z13, z14, z15, z16, z17⟩ := Z9 HX.out) | fail)
      generalize w1 = w3 at HQ HX ⊢
      have hxx : wa.heap.size ≤ x := Nat.le_of_eq HXE.out.symm
      clear z0 z1 z2 z3 z4 z5 z6 z7 z8 z9 z10 z11 z12 z13 z14 z15 z16 z17
      replace HQ := Aside0.mk (below_set (j := 0) (v := .int .i64 1) HQ.out hxx)
      replace HX := Aside0.mk (blk_put HX.out 0 (.int .i64 1) (show (#[.int .i64 4, .int .i64 ((j : Int) + 1), .int .i64 1, .int .i64 1, .int .i64 1, .int .i64 0, .int .i64 0, .string ⟨#[]⟩, .string ⟨#[118]⟩] : Array Value).setIfInBounds 0 (.int .i64 1) = #[.int .i64 1, .int .i64 ((j : Int) + 1), .int .i64 1, .int .i64 1, .int .i64 1, .int .i64 0, .int .i64 0, .string ⟨#[]⟩, .string ⟨#[118]⟩] from rfl))
      generalize w3.setCell ⟨x, 0, none⟩ (.int .i64 1) = y1 at HQ HX ⊢
      replace HQ := Aside0.mk (below_set (j := 1) (v := .int .i64 ((j : Int) + 1)) HQ.out hxx)
      replace HX := Aside0.mk (blk_put HX.out 1 (.int .i64 ((j : Int) + 1)) (show (#[.int .i64 1, .int .i64 ((j : Int) + 1), .int .i64 1, .int .i64 1, .int .i64 1, .int .i64 0, .int .i64 0, .string ⟨#[]⟩, .string ⟨#[118]⟩] : Array Value).setIfInBounds 1 (.int .i64 ((j : Int) + 1)) = #[.int .i64 1, .int .i64 ((j : Int) + 1), .int .i64 1, .int .i64 1, .int .i64 1, .int .i64 0, .int .i64 0, .string ⟨#[]⟩, .string ⟨#[118]⟩] from rfl))
      generalize y1.setCell ⟨x, 1, none⟩ (.int .i64 ((j : Int) + 1)) = y2 at HQ HX ⊢
      replace HQ := Aside0.mk (below_set (j := 2) (v := .int .i64 1) HQ.out hxx)
      replace HX := Aside0.mk (blk_put HX.out 2 (.int .i64 1) (show (#[.int .i64 1, .int .i64 ((j : Int) + 1), .int .i64 1, .int .i64 1, .int .i64 1, .int .i64 0, .int .i64 0, .string ⟨#[]⟩, .string ⟨#[118]⟩] : Array Value).setIfInBounds 2 (.int .i64 1) = #[.int .i64 1, .int .i64 ((j : Int) + 1), .int .i64 1, .int .i64 1, .int .i64 1, .int .i64 0, .int .i64 0, .string ⟨#[]⟩, .string ⟨#[118]⟩] from rfl))
      generalize y2.setCell ⟨x, 2, none⟩ (.int .i64 1) = y3 at HQ HX ⊢
      replace HQ := Aside0.mk (below_set (j := 3) (v := .int .i64 ((j : Int) + 1)) HQ.out hxx)
      replace HX := Aside0.mk (blk_put HX.out 3 (.int .i64 ((j : Int) + 1)) (show (#[.int .i64 1, .int .i64 ((j : Int) + 1), .int .i64 1, .int .i64 1, .int .i64 1, .int .i64 0, .int .i64 0, .string ⟨#[]⟩, .string ⟨#[118]⟩] : Array Value).setIfInBounds 3 (.int .i64 ((j : Int) + 1)) = #[.int .i64 1, .int .i64 ((j : Int) + 1), .int .i64 1, .int .i64 ((j : Int) + 1), .int .i64 1, .int .i64 0, .int .i64 0, .string ⟨#[]⟩, .string ⟨#[118]⟩] from rfl))
      generalize y3.setCell ⟨x, 3, none⟩ (.int .i64 ((j : Int) + 1)) = y4 at HQ HX ⊢
      replace HQ := Aside0.mk (below_set (j := 4) (v := .int .i64 1) HQ.out hxx)
      replace HX := Aside0.mk (blk_put HX.out 4 (.int .i64 1) (show (#[.int .i64 1, .int .i64 ((j : Int) + 1), .int .i64 1, .int .i64 ((j : Int) + 1), .int .i64 1, .int .i64 0, .int .i64 0, .string ⟨#[]⟩, .string ⟨#[118]⟩] : Array Value).setIfInBounds 4 (.int .i64 1) = #[.int .i64 1, .int .i64 ((j : Int) + 1), .int .i64 1, .int .i64 ((j : Int) + 1), .int .i64 1, .int .i64 0, .int .i64 0, .string ⟨#[]⟩, .string ⟨#[118]⟩] from rfl))
      generalize y4.setCell ⟨x, 4, none⟩ (.int .i64 1) = y5 at HQ HX ⊢
      replace HQ := Aside0.mk (below_set (j := 5) (v := .int .i64 0) HQ.out hxx)
      replace HX := Aside0.mk (blk_put HX.out 5 (.int .i64 0) (show (#[.int .i64 1, .int .i64 ((j : Int) + 1), .int .i64 1, .int .i64 ((j : Int) + 1), .int .i64 1, .int .i64 0, .int .i64 0, .string ⟨#[]⟩, .string ⟨#[118]⟩] : Array Value).setIfInBounds 5 (.int .i64 0) = #[.int .i64 1, .int .i64 ((j : Int) + 1), .int .i64 1, .int .i64 ((j : Int) + 1), .int .i64 1, .int .i64 0, .int .i64 0, .string ⟨#[]⟩, .string ⟨#[118]⟩] from rfl))
      generalize y5.setCell ⟨x, 5, none⟩ (.int .i64 0) = y6 at HQ HX ⊢
      replace HQ := Aside0.mk (below_set (j := 6) (v := .int .i64 0) HQ.out hxx)
      replace HX := Aside0.mk (blk_put HX.out 6 (.int .i64 0) (show (#[.int .i64 1, .int .i64 ((j : Int) + 1), .int .i64 1, .int .i64 ((j : Int) + 1), .int .i64 1, .int .i64 0, .int .i64 0, .string ⟨#[]⟩, .string ⟨#[118]⟩] : Array Value).setIfInBounds 6 (.int .i64 0) = #[.int .i64 1, .int .i64 ((j : Int) + 1), .int .i64 1, .int .i64 ((j : Int) + 1), .int .i64 1, .int .i64 0, .int .i64 0, .string ⟨#[]⟩, .string ⟨#[118]⟩] from rfl))
      generalize y6.setCell ⟨x, 6, none⟩ (.int .i64 0) = y7 at HQ HX ⊢
      replace HQ := Aside0.mk (below_set (j := 7) (v := .string ⟨#[110]⟩) HQ.out hxx)
      replace HX := Aside0.mk (blk_put HX.out 7 (.string ⟨#[110]⟩) (show (#[.int .i64 1, .int .i64 ((j : Int) + 1), .int .i64 1, .int .i64 ((j : Int) + 1), .int .i64 1, .int .i64 0, .int .i64 0, .string ⟨#[]⟩, .string ⟨#[118]⟩] : Array Value).setIfInBounds 7 (.string ⟨#[110]⟩) = #[.int .i64 1, .int .i64 ((j : Int) + 1), .int .i64 1, .int .i64 ((j : Int) + 1), .int .i64 1, .int .i64 0, .int .i64 0, .string ⟨#[110]⟩, .string ⟨#[118]⟩] from rfl))
      generalize y7.setCell ⟨x, 7, none⟩ (.string ⟨#[110]⟩) = y8 at HQ HX ⊢
      replace HQ := Aside0.mk (below_set (j := 8) (v := .string ⟨#[]⟩) HQ.out hxx)
      replace HX := Aside0.mk (blk_put HX.out 8 (.string ⟨#[]⟩) (show (#[.int .i64 1, .int .i64 ((j : Int) + 1), .int .i64 1, .int .i64 ((j : Int) + 1), .int .i64 1, .int .i64 0, .int .i64 0, .string ⟨#[110]⟩, .string ⟨#[118]⟩] : Array Value).setIfInBounds 8 (.string ⟨#[]⟩) = #[.int .i64 1, .int .i64 ((j : Int) + 1), .int .i64 1, .int .i64 ((j : Int) + 1), .int .i64 1, .int .i64 0, .int .i64 0, .string ⟨#[110]⟩, .string ⟨#[]⟩] from rfl))
      generalize y8.setCell ⟨x, 8, none⟩ (.string ⟨#[]⟩) = w2 at HQ HX ⊢
      replace HA := Aside0.mk (HA.out.under HQ.out)
      obtain ⟨z0, z1, z2, z3, z4, z5, z6, z7, z8⟩ := Y9 HX.out
      by_cases h2 : j < 512
      · have d2 : decide ((j : Int) + 1 ≤ 512) = true := decide_eq_true (by omega)
        have H2 := Aside0.mk h2
        have HM := Aside0.mk (show m = j by have := HK.out; omega)
        clear h2
        have HPUT := Aside0.mk (full_step T true j H2.out HA.out.fixed HA.out.base (by rw [HA.out.ops, HM.out]))
        go_wp2_with (go_at_call 14; refine (Apply_calls w2 _ g f n _ T (fO true ((j : Int) + 1)) 40 0 HA.out.tree HA.out.good (full_ok true j (by have := H1.out; have := B01.out; omega)) (fun _ => fO_ok true _ (by omega)) (HL.out.below HA.out.below)).mono ?_; rintro e w' ⟨T', v', rfl, ht, hg, h1, h2, h3, h4, h5⟩; rw [HPUT.out] at h3 ⊢; have HA' := Aside0.mk (HA.out.step (m' := j + 1) ht hg h1 h2 h3 h4); clear ht hg h1 h2 h3 h4 h5)
        go_roundg k1
        case measure => omega
        case rel => exact ⟨j + 1, _, _, _, ⟨by have := HK.out; omega, by have := H1.out; omega, by have := H2.out; omega⟩, (by rw [hwj]; rfl), HA'⟩
      · have d2 : decide ((j : Int) + 1 ≤ 512) = false := decide_eq_false (by omega)
        have H2 := Aside0.mk h2
        clear h2
        have HPUT := Aside0.mk (full_over T (fO true ((j : Int) + 1)) m (by have := HK.out; have := H2.out; omega) true (by rw [fO_at]; have := HK.out; have := H1.out; have := H2.out; have := B01.out; show (m : Int) < (j : Int) + 1; omega) HA.out.base HA.out.ops)
        go_wp2_with (go_at_call 14; refine (Apply_calls w2 _ g f n _ T (fO true ((j : Int) + 1)) 40 0 HA.out.tree HA.out.good (full_ok true j (by have := H1.out; have := B01.out; omega)) (fun _ => fO_ok true _ (by omega)) (HL.out.below HA.out.below)).mono ?_; rintro e w' ⟨T', v', rfl, ht, hg, h1, h2, h3, h4, h5⟩; rw [HPUT.out] at h3 ⊢; have HA' := Aside0.mk (HA.out.step (m' := m) ht hg h1 h2 (h3.trans HA.out.ops) h4); clear ht hg h1 h2 h3 h4 h5)
        go_roundg k1
        case measure => omega
        case rel => exact ⟨j + 1, _, _, _, ⟨by have := HK.out; omega, by have := H1.out; omega, by have := HK.out; have := H2.out; omega⟩, (by rw [hwj]; rfl), HA'⟩
    · have d1 : decide ((j : Int) + 1 ≤ 512 + (b : Int)) = false := decide_eq_false (by omega)
      have H1 := Aside0.mk h1
      clear h1
      have HM := Aside0.mk (show m = 512 by have := HK.out; have := H1.out; omega)
      go_upto_region 15 with (go_at_call 13; refine (samphirelaw11_at.calls _ _ _ _ _ rfl).mono ?_; rintro e w1 ⟨rfl, hb⟩; replace HA := Aside0.mk (HA.out.under hb); clear hb)
      have HX := Aside0.mk (heap_alloc_new w1 (.cells #[.int .i64 4, .int .i64 2000, .int .i64 1, .int .i64 1, .int .i64 1, .int .i64 0, .int .i64 0, .string ⟨#[]⟩, .string ⟨#[119]⟩] 28))
      have HNF := Aside0.mk HA.out.tree.not_foot
      replace HA := Aside0.mk (HA.out.under (below_alloc (Below.refl w1.heap.size w1) (.cells #[.int .i64 4, .int .i64 2000, .int .i64 1, .int .i64 1, .int .i64 1, .int .i64 0, .int .i64 0, .string ⟨#[]⟩, .string ⟨#[119]⟩] 28)))
      generalize w1.heap.size = x at HX HNF ⊢
      generalize w1.alloc (.cells #[.int .i64 4, .int .i64 2000, .int .i64 1, .int .i64 1, .int .i64 1, .int .i64 0, .int .i64 0, .string ⟨#[]⟩, .string ⟨#[119]⟩] 28) = w2 at HX HA ⊢
      obtain ⟨z0, z1, z2, z3, z4, z5, z6, z7, z8⟩ := Y9 HX.out
      have hfin : tree_fine.f 10 6 = some true := by kernel_rfl
      have HFIN := Aside0.mk hfin
      clear hfin
      have hup : (comped T ⟨10, 6⟩ true).2 = 10 := by
        show ((upN T.ops ⟨10, 6⟩ : Nat) : Int) = 10
        rw [HA.out.ops, HM.out]
        exact full_up true
      have HPUT := Aside0.mk (full_after T ⟨4, ⟨2000, 1⟩, ⟨1, 1⟩, ⟨0, 0⟩, ⟨#[]⟩, ⟨#[119]⟩⟩ true HA.out.fixed HA.out.base (HA.out.ops.trans (by rw [HM.out])) (by decide) (by decide))
      go_wp2_with (first
        | (go_at_call 13; refine (samphirelaw11_at.calls _ _ _ _ _ rfl).mono ?_; rintro e w1 ⟨rfl, hb⟩; replace HA := Aside0.mk (HA.out.under hb); replace HX := Aside0.mk (blk_below HX.out hb); clear hb; obtain ⟨z0, z1, z2, z3, z4, z5, z6, z7, z8⟩ := Y9 HX.out)
        | (go_at_call 15; refine (Compact_calls _ _ g f n v T ⟨_, _⟩ true HA.out.tree HA.out.good HFIN.out).mono ?_; rintro e w1 ⟨v', rfl, ht, hst, hown⟩; have HQ := Aside0.mk (HA.out.tree.back hst HA.out.below); have HT := Aside0.mk ht; replace HX := Aside0.mk (hst.blk HX.out HNF.out); clear ht hst hown; obtain ⟨z0, z1, z2, z3, z4, z5, z6, z7, z8⟩ := Y9 HX.out)
        | (go_at_call 14; refine (Apply_calls _ _ g f n _ (comped T ⟨10, 6⟩ true).1 ⟨4, ⟨2000, 1⟩, ⟨1, 1⟩, ⟨0, 0⟩, ⟨#[]⟩, ⟨#[119]⟩⟩ 40 0 HT.out (Good.comp HA.out.good ⟨10, 6⟩) (by kernel_rfl) (fun _ => ⟨by decide, by decide⟩) (HL.out.below HQ.out)).mono ?_; rintro e w1 ⟨T', v', rfl, ht, hg, h1, h2, h3, h4, h5⟩; rw [HPUT.out] at h3 ⊢; replace HQ := Aside0.mk (HT.out.back h4 HQ.out); clear ht hg h1 h2 h3 h4 h5)
        | (go_at_call 16; refine (awake_calls _ (HL.out.below HQ.out)).mono ?_; rintro e w1 ⟨rfl, hb⟩; replace HQ := Aside0.mk (below_then HQ.out HQ.out.size hb); clear hb))
      go_ret
      exact ⟨rfl, HQ.out⟩
theorem full_law_calls (w : World) (nodes : Bool) (more : Int) (hL : Laid w) : Calls Tryd.prog 3 #[.bool nodes, .int .i64 more] w fun e w' => e = .returned (.bool true) ∧ Below w.heap.size w w' := by
  cases nodes
  · exact full_law_false w more hL
  · exact full_law_true w more hL
end Go.Proofs.YtiffeljmeahmkaaDoor.S
