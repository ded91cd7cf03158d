/- A tree as it lies; New, given, full, again, as the machine walks them. -/
import Derived.Test.YtiffeljmeahmkaaDoorMd
import Derived.WalkSpells
namespace Go.Proofs.YtiffeljmeahmkaaDoor.S
open Go.RowKit Go.Proofs.YtiffeljmeahmkaaDoorW.PrintWords Go.Proofs.YtiffeljmeahmkaaDoorW.PrintLast Go.Proofs.YtiffeljmeahmkaaDoorW.PrintMore
set_option linter.unusedVariables false
set_option linter.unusedSimpArgs false
attribute [local go_sem high] mEq field_par
/-- A tree: nodes that are for good, nodes as they are now, operations, in order, the base. -/
structure Tr where
  fixed : List Nod
  now : List Nod
  ops : List Opn
  base : Stp
abbrev OpsAt (w : World) (B : Nat) (v : Value) (l : List Opn) : Prop := Kd.R k28 28 w B (fun _ => True) v l
/-- The tree T lies at block g of w, its maps at f and n, its operations at v; all from block B on. -/
structure TreeAt (w : World) (B g f n : Nat) (v : Value) (T : Tr) : Prop where
  blk : w.heap[g]? = some (.cells #[.map (some f), .map (some n), v, .int .i64 T.base.f0, .int .i64 T.base.f1] 66 (0, 0))
  fix : Lies w f T.fixed
  now : Lies w n T.now
  ops : OpsAt w B v T.ops
  ne : f ≠ n
  bg : B ≤ g
  bf : B ≤ f
  bn : B ≤ n
/-- The blocks of a tree. -/
def foot (g f n : Nat) (v : Value) (k : Nat) : Prop := k = g ∨ k = f ∨ k = n ∨ v.ownBlock = some k
theorem OpsAt.stay {w w1 : World} {S : Nat → Prop} {B : Nat} {v : Value} {l : List Opn} (h : OpsAt w B v l) (hs : Stay w w1 S) (hn : ∀ k, v.ownBlock = some k → ¬ S k) : OpsAt w1 B v l := by
  have h2 : Kd.R k28 28 w B (fun k => v.ownBlock = some k) v l := ⟨fun k hk => hk, by
    obtain ⟨_, inner, ho, hr⟩ := h
    exact ⟨inner, ho, hr.imp_ (fun _ _ hp => hp)⟩⟩
  exact Kd.R_mono (Kd.R_step h2 (fun k hk hlt => hs.block k hlt (hn k hk))) (fun _ _ => trivial)
theorem OpsAt.own_ne {w : World} {B g : Nat} {v : Value} {l : List Opn} {cs : Array Value} (h : OpsAt w B v l) (hb : w.heap[g]? = some (.cells cs 66 (0, 0))) : v.ownBlock ≠ some g := fun e => Kd.R_ne h hb (by decide) e.symm
theorem OpsAt.own_map {w : World} {B f : Nat} {v : Value} {l : List Opn} {ln : List Nod} (h : OpsAt w B v l) (hb : Lies w f ln) : v.ownBlock ≠ some f := fun e => by
  obtain ⟨_, inner, ho, hr⟩ := h
  obtain ⟨cells, hc⟩ := own_typed ho f e
  obtain ⟨p, c, _, hm, _⟩ := hb
  rw [hc] at hm
  cases hm
theorem TreeAt.gf {w : World} {B g f n : Nat} {v : Value} {T : Tr} (h : TreeAt w B g f n v T) : g ≠ f := by
  rintro rfl
  obtain ⟨p, c, _, hm, _⟩ := h.fix
  rw [h.blk] at hm
  cases hm
theorem TreeAt.gn {w : World} {B g f n : Nat} {v : Value} {T : Tr} (h : TreeAt w B g f n v T) : g ≠ n := by
  rintro rfl
  obtain ⟨p, c, _, hm, _⟩ := h.now
  rw [h.blk] at hm
  cases hm
theorem TreeAt.stay {w w1 : World} {S : Nat → Prop} {B g f n : Nat} {v : Value} {T : Tr} (h : TreeAt w B g f n v T) (hs : Stay w w1 S) (hn : ∀ k, foot g f n v k → ¬ S k) : TreeAt w1 B g f n v T :=
  ⟨hs.blk h.blk (hn _ (.inl rfl)), h.fix.stay hs (hn _ (.inr (.inl rfl))), h.now.stay hs (hn _ (.inr (.inr (.inl rfl)))), h.ops.stay hs (fun k hk => hn k (.inr (.inr (.inr hk)))), h.ne, h.bg, h.bf, h.bn⟩
theorem TreeAt.below {w w1 : World} {B g f n : Nat} {v : Value} {T : Tr} (h : TreeAt w B g f n v T) (hb : Below w.heap.size w w1) : TreeAt w1 B g f n v T := h.stay (Stay.of hb (fun _ => False)) (fun _ _ hk => hk)
/-- Only now turns. -/
theorem TreeAt.turn {w w1 : World} {B g f n : Nat} {v : Value} {T : Tr} (h : TreeAt w B g f n v T) (hs : Stay w w1 (· = n)) {l : List Nod} (hl : Lies w1 n l) : TreeAt w1 B g f n v { T with now := l } :=
  ⟨hs.blk h.blk h.gn, h.fix.stay hs h.ne, hl, h.ops.stay hs (fun k hk e => by subst e; exact h.ops.own_map h.now hk), h.ne, h.bg, h.bf, h.bn⟩
set_option maxHeartbeats 8000000 in
set_option maxRecDepth 100000 in
theorem New_calls (w : World) : Calls Tryd.prog 12 #[] w fun e w' => ∃ g f n, e = .returned (.pointer (some ⟨g, 0, none⟩)) ∧ TreeAt w' w.heap.size g f n (.slice none 0 0) ⟨[], [], [], St0⟩ ∧ Below w.heap.size w w' := by
  go_enter Tryd.func12, Tryd.ntmps12
  have h1 : ∀ w : World, (Instr.makeMap 64 none).run Tryd.prog w = .ok (.map (some w.heap.size)) (w.alloc (.map #[] 0)) := fun w => run_makeMap_plain w 64
  go_wp2
  go_ret
  have s1 : (w.alloc (.map #[] 0)).heap.size = w.heap.size + 1 := by simp
  have s2 : ((w.alloc (.map #[] 0)).alloc (.map #[] 0)).heap.size = w.heap.size + 1 + 1 := by simp
  have a3 := heap_alloc_new ((w.alloc (.map #[] 0)).alloc (.map #[] 0)) (.cells #[.map (some w.heap.size), .map (some (w.heap.size + 1)), .slice none 0 0, .int .i64 0, .int .i64 0] 66)
  rw [s2] at a3
  have l1 := Lies.new w
  have l2 := Lies.new (w.alloc (.map #[] 0))
  rw [s1] at l2
  have b1 := below_alloc (Below.refl (w.alloc (.map #[] 0)).heap.size (w.alloc (.map #[] 0))) (.map #[] 0)
  have b2 := below_alloc (Below.refl ((w.alloc (.map #[] 0)).alloc (.map #[] 0)).heap.size ((w.alloc (.map #[] 0)).alloc (.map #[] 0))) (.cells #[.map (some w.heap.size), .map (some (w.heap.size + 1)), .slice none 0 0, .int .i64 0, .int .i64 0] 66)
  refine ⟨w.heap.size + 1 + 1, w.heap.size, w.heap.size + 1, rfl, ⟨a3, (l1.below b1).below b2, l2.below b2, Kd.R_nil _ _ _ _ _, by omega, by omega, by omega, by omega⟩, below_alloc (below_alloc (below_alloc (Below.refl _ _) _) _) _⟩
set_option maxHeartbeats 8000000 in
set_option maxRecDepth 100000 in
theorem given_calls (w : World) (B g f n : Nat) (v : Value) (T : Tr) (h : TreeAt w B g f n v T) : Calls Tryd.prog 34 #[.pointer (some ⟨g, 0, none⟩)] w fun e w' => e = .returned (.bool true) ∧ w = w' := by
  obtain ⟨z0, z1, z2, z3, z4⟩ := Y5 h.blk
  clear h
  have hq := run_neq_map_nil (P := Tryd.prog) w 64 25 36 (some f) uMap
  go_enter Tryd.func34, Tryd.ntmps34
  go_wp2
  go_ret
  exact ⟨rfl, rfl⟩
def creates (l : List Opn) : Nat := (l.filter fun o => o.f0 == 1).length
def fullB (T : Tr) (o : Opn) : Bool := decide (512 ≤ T.ops.length) || ((o.f0 == 1) && decide (512 ≤ T.fixed.length + creates T.ops))
theorem ret_bool {a b : Bool} (h : a = b) : Ending.returned (.bool a) = Ending.returned (.bool b) := by rw [h]
theorem full_one {T : Tr} {o : Opn} (h : 512 ≤ (T.ops.length : Int)) : true = fullB T o := by
  unfold fullB
  rw [decide_eq_true (by omega)]
  rfl
theorem full_two {T : Tr} {o : Opn} {m : Nat} (hm : m = T.fixed.length + creates T.ops) (h : ¬ 512 ≤ (T.ops.length : Int)) (h2 : o.f0 = 1) : decide (512 ≤ (m : Int)) = fullB T o := by
  unfold fullB
  rw [decide_eq_false (show ¬ 512 ≤ T.ops.length by omega), h2, ← hm]
  simp only [beq_self_eq_true, Bool.true_and, Bool.false_or, decide_eq_decide]
  omega
theorem full_three {T : Tr} {o : Opn} (h : ¬ 512 ≤ (T.ops.length : Int)) (h2 : o.f0 ≠ 1) : false = fullB T o := by
  unfold fullB
  rw [decide_eq_false (show ¬ 512 ≤ T.ops.length by omega), beq_eq_false_iff_ne.mpr h2]
  rfl
theorem creates_succ (l : List Opn) (x : Int) (h0 : 0 ≤ x) (h1 : x < l.length) : creates (l.take (x + 1).toNat) = creates (l.take x.toNat) + (if (rd_T28 l x).f0 = 1 then 1 else 0) := by
  obtain ⟨k, rfl⟩ : ∃ k : Nat, x = k := ⟨x.toNat, by omega⟩
  have hk : k < l.length := by omega
  rw [show ((k : Int) + 1).toNat = k + 1 by omega, show ((k : Int)).toNat = k by omega, List.take_succ_eq_append_getElem hk]
  unfold creates
  rw [List.filter_append, List.length_append]
  have : rd_T28 l (k : Int) = l[k] := by
    unfold rd_T28
    rw [show ((k : Int)).toNat = k by omega]
    simp [List.getD, hk]
  rw [this]
  by_cases h : l[k].f0 = 1 <;> simp [h]
theorem creates_le (l : List Opn) : creates l ≤ l.length := List.length_filter_le _ _
set_option maxHeartbeats 8000000 in
set_option maxRecDepth 100000 in
theorem full_calls (w : World) (B g f n : Nat) (v : Value) (T : Tr) (o : Opn) (h : TreeAt w B g f n v T) (hfl : T.fixed.length ≤ 1000000) (hol : T.ops.length ≤ 1000000) :
    Calls Tryd.prog 39 #[.pointer (some ⟨g, 0, none⟩), .agg #[.int .i64 o.f0, .int .i64 o.f1.f0, .int .i64 o.f1.f1, .int .i64 o.f2.f0, .int .i64 o.f2.f1, .int .i64 o.f3.f0, .int .i64 o.f3.f1, .string o.f4, .string o.f5]] w fun e w' => e = .returned (.bool (fullB T o)) ∧ Below w.heap.size w w' := by
  obtain ⟨A, c, hv, hc, hC⟩ := Kd.R_reads h.ops
  subst hv
  have H := Aside0.mk h
  have HF := Aside0.mk hfl
  have HO := Aside0.mk hol
  have HCL := Aside0.mk hc
  have HC := Aside0.mk hC
  have hu := Tryd.underlying28
  have hlen := len_run (h.fix.below (below_alloc (Below.refl _ _) (.cells #[.int .i64 o.f0, .int .i64 o.f1.f0, .int .i64 o.f1.f1, .int .i64 o.f2.f0, .int .i64 o.f2.f1, .int .i64 o.f3.f0, .int .i64 o.f3.f1, .string o.f4, .string o.f5] 28)))
  obtain ⟨z0, z1, z2, z3, z4⟩ := Y5 h.blk
  have hlt := blk_lt h.blk
  clear h hfl hol hc hC
  go_enter Tryd.func39, Tryd.ntmps39
  go_wp2
  have BK := Aside0.mk (heap_alloc_new w (.cells #[.int .i64 o.f0, .int .i64 o.f1.f0, .int .i64 o.f1.f1, .int .i64 o.f2.f0, .int .i64 o.f2.f1, .int .i64 o.f3.f0, .int .i64 o.f3.f1, .string o.f4, .string o.f5] 28))
  have HB := Aside0.mk (below_alloc (Below.refl w.heap.size w) (.cells #[.int .i64 o.f0, .int .i64 o.f1.f0, .int .i64 o.f1.f1, .int .i64 o.f2.f0, .int .i64 o.f2.f1, .int .i64 o.f3.f0, .int .i64 o.f3.f1, .string o.f4, .string o.f5] 28))
  clear hlen z0 z1 z2 z3 z4
  go_loopw [5, 18] (fun u5 u18 wr => ∃ x : Int, Aside0 (0 ≤ x) ∧ Aside0 (x ≤ T.ops.length) ∧ u18 = .int .i64 x ∧ u5 = .int .i64 ((T.fixed.length + creates (T.ops.take x.toNat) : Nat) : Int) ∧ Aside0 (wr.heap[w.heap.size]? = some (.cells #[.int .i64 o.f0, .int .i64 o.f1.f0, .int .i64 o.f1.f1, .int .i64 o.f2.f0, .int .i64 o.f2.f1, .int .i64 o.f3.f0, .int .i64 o.f3.f1, .string o.f4, .string o.f5] 28)) ∧ Aside0 (Below w.heap.size w wr)) (fun _ u18 _ => (T.ops.length - intOf u18).toNat)
  case atStart => exact ⟨0, ⟨Int.le_refl _⟩, ⟨by omega⟩, rfl, by simp [creates], BK, HB⟩
  case round =>
    clear BK HB
    obtain ⟨x, H0, H1, rfl, rfl, BK, HB⟩ := hrel
    by_cases hx : x < (T.ops.length : Int)
    · have c4b0 : decide (x < (T.ops.length : Int)) = true := decide_eq_true hx
      have c5b0 : decide (0 ≤ x) = true := decide_eq_true H0.out
      have hsucc := creates_succ T.ops x H0.out hx
      have hle := creates_le (T.ops.take x.toNat)
      obtain ⟨ad, e, hx0, hx1, hx2, hx3, hx4, hx5, hx6, hx7, hx8⟩ := at_T28 (Kd.C_below HC.out HB.out) x H0.out hx
      cases e
      have p1 := eq_true H0.out
      have q1 := eq_true hx
      have hbx : x ≤ 1000000 := by have := HO.out; omega
      obtain ⟨m, hm⟩ : ∃ m : Nat, m = T.fixed.length + creates (T.ops.take x.toNat) := ⟨_, rfl⟩
      have hmb : (m : Int) ≤ 3000000 := by have := HO.out; have := HF.out; have := List.length_take_le x.toNat T.ops; have hl2 : (T.ops.take x.toNat).length ≤ T.ops.length := by rw [List.length_take]; omega
                                           omega
      rw [← hm]
      have HM := Aside0.mk hm
      have HSU := Aside0.mk hsucc
      have h0 := H0.out
      have hx' := hx
      clear hm hsucc hle
      by_cases h1 : (rd_T28 T.ops x).f0 = 1
      · have c6b0 : ((rd_T28 T.ops x).f0 == 1) = true := beq_iff_eq.mpr h1
        have HH := Aside0.mk h1
        clear h1
        go_wp2
        go_roundw
        case rel => exact ⟨x + 1, ⟨by omega⟩, ⟨by omega⟩, rfl, by rw [HSU.out, if_pos HH.out]; have := HM.out; go_num, ⟨Qk⟩, ⟨Qh⟩⟩
        case measure => simp [intOf]; omega
      · have c6b0 : ((rd_T28 T.ops x).f0 == 1) = false := beq_eq_false_iff_ne.mpr h1
        have HH := Aside0.mk h1
        clear h1
        go_wp2
        go_roundw
        case rel => exact ⟨x + 1, ⟨by omega⟩, ⟨by omega⟩, rfl, by rw [HSU.out, if_neg HH.out]; have := HM.out; go_num, ⟨Qk⟩, ⟨Qh⟩⟩
        case measure => simp [intOf]; omega
    · obtain rfl : x = T.ops.length := by have := H1.out; omega
      have c4b0 : decide ((T.ops.length : Int) < (T.ops.length : Int)) = false := by simp
      obtain ⟨z0, z1, z2, z3, z4⟩ := Y5 (blk_below H.out.blk HB.out)
      obtain ⟨y0, y1, y2, y3, y4, y5, y6, y7, y8⟩ := Y9 BK.out
      rw [show ((T.ops.length : Int)).toNat = T.ops.length by omega, List.take_length]
      obtain ⟨m, hm⟩ : ∃ m : Nat, m = T.fixed.length + creates T.ops := ⟨_, rfl⟩
      rw [← hm]
      have HM := Aside0.mk hm
      clear hm c4b0 hx
      by_cases h1 : 512 ≤ (T.ops.length : Int)
      · have d1 : decide (512 ≤ (T.ops.length : Int)) = true := decide_eq_true h1
        have HA := Aside0.mk h1
        clear h1
        go_wp2
        all_goals (go_ret; exact ⟨ret_bool (full_one HA.out), HB.out⟩)
      · have d1 : decide (512 ≤ (T.ops.length : Int)) = false := decide_eq_false h1
        have HA := Aside0.mk h1
        clear h1
        by_cases h2 : o.f0 = 1
        · have d2 : (o.f0 == 1) = true := beq_iff_eq.mpr h2
          have HA2 := Aside0.mk h2
          clear h2
          go_wp2
          all_goals (go_ret; exact ⟨ret_bool (full_two HM.out (by have := HA.out; omega) HA2.out), HB.out⟩)
        · have d2 : (o.f0 == 1) = false := beq_eq_false_iff_ne.mpr h2
          have HA2 := Aside0.mk h2
          clear h2
          go_wp2
          all_goals (go_ret; exact ⟨ret_bool (full_three (by have := HA.out; omega) HA2.out), HB.out⟩)
end Go.Proofs.YtiffeljmeahmkaaDoor.S
