/- Where an operation belongs among others, in plain words. -/
import Derived.Test.YtlfgdaiegefjiaaDoorSA
import Derived.Test.YtlfgdaiegefjiaaDoorMH
import Derived.Test.YtlfgdaiegefjiaaDoorQc
import Derived.Test.YtlfgdaiegefjiaaDoorSx14
import Derived.Test.YtlfgdaiegefjiaaDoorSx5
namespace Go.Proofs.YtlfgdaiegefjiaaDoor.S
open Go.RowKit Go.Proofs.YtlfgdaiegefjiaaDoorW.PrintWords Go.Proofs.YtlfgdaiegefjiaaDoorW.PrintLast Go.Proofs.YtlfgdaiegefjiaaDoorW.PrintMore
set_option linter.unusedVariables false
set_option linter.unusedSimpArgs false
theorem lessB_iff (a b : Stp) : lessB a b = true ↔ (a.f0 < b.f0 ∨ a.f0 = b.f0 ∧ a.f1 < b.f1) := by
 unfold lessB
 split <;> simp only [decide_eq_true_eq] <;> omega
theorem lessB_not (a b : Stp) : lessB a b = false ↔ ¬ (a.f0 < b.f0 ∨ a.f0 = b.f0 ∧ a.f1 < b.f1) := by
 rw [← lessB_iff]; simp
theorem eqS_two (a b : Stp) : eqS a b = true ↔ (a.f0 = b.f0 ∧ a.f1 = b.f1) := by unfold eqS; simp
theorem less_trans {a b c : Stp} (h1 : lessB a b = true) (h2 : lessB b c = true) : lessB a c = true := by
 rw [lessB_iff] at *; omega
theorem less_irr (a : Stp) : lessB a a = false := by rw [lessB_not]; omega
/-- Operations in the order of their stamps, each stamp once. -/
def Sorted (l : List Opn) : Prop := l.Pairwise fun a b => lessB a.f1 b.f1 = true
def rank (l : List Opn) (s : Stp) : Nat := (l.takeWhile fun o => lessB o.f1 s).length
theorem take_all {α : Type} (p : α → Bool) : ∀ (l : List α) (x : α), x ∈ l.takeWhile p → p x = true
 | [], _, h => by cases h
 | y :: l, x, h => by
  rw [List.takeWhile_cons] at h
  split at h
  · rcases List.mem_cons.1 h with rfl | h
    · assumption
    · exact take_all p l x h
  · cases h
theorem take_rank (l : List Opn) (s : Stp) : l.take (rank l s) = l.takeWhile fun o => lessB o.f1 s := by
 induction l with
 | nil => rfl
 | cons x l ih =>
  unfold rank at ih ⊢
  rw [List.takeWhile_cons]
  split
  · rw [List.length_cons, List.take_succ_cons, ih]
  · rfl
theorem rank_le (l : List Opn) (s : Stp) : rank l s ≤ l.length := by
 induction l with
 | nil => exact Nat.le_refl _
 | cons x l ih =>
  unfold rank at ih ⊢
  rw [List.takeWhile_cons]
  split <;> simp only [List.length_cons, List.length_nil] <;> omega
theorem ranked : ∀ (l : List Opn) (s : Stp), Sorted l → ∀ k (h : k < l.length), lessB l[k].f1 s = decide (k < rank l s)
 | [], _, _, _, h => by simp at h
 | x :: l, s, hs, k, h => by
  have hx := fun y hy => (List.pairwise_cons.1 hs).1 y hy
  have ht : Sorted l := (List.pairwise_cons.1 hs).2
  unfold rank
  rw [List.takeWhile_cons]
  cases hb : lessB x.f1 s with
  | true =>
   cases k with
   | zero => simp [hb]
   | succ k =>
    have := ranked l s ht k (by simpa using h)
    unfold rank at this
    simp [this]
  | false =>
   cases k with
   | zero => simp [hb]
   | succ k =>
    have hkl : k < l.length := by simpa using h
    have hm := hx l[k] (List.getElem_mem hkl)
    have : lessB (x :: l)[k + 1].f1 s = false := by
     rw [List.getElem_cons_succ]
     cases hq : lessB l[k].f1 s with
     | false => rfl
     | true => rw [less_trans hm hq] at hb; cases hb
    rw [this]; simp
theorem ranks (l : List Opn) (s : Stp) (hs : Sorted l) : Ranks l s (rank l s) := by
 refine ⟨rank_le l s, fun x h0 h1 => ?_⟩
 obtain ⟨k, hk, rfl, e⟩ := rd_is l x h0 h1
 rw [e, ranked l s hs k hk]
 simp
/-- An operation among the others. -/
def insO (l : List Opn) (o : Opn) : List Opn := l.take (rank l o.f1) ++ o :: l.drop (rank l o.f1)
def isIn (l : List Opn) (s : Stp) : Bool := found l s (rank l s)
theorem insO_length (l : List Opn) (o : Opn) : (insO l o).length = l.length + 1 := by
 have := rank_le l o.f1
 unfold insO
 rw [List.length_append, List.length_cons, List.length_take, List.length_drop]; omega
theorem insO_mem (l : List Opn) (o x : Opn) : x ∈ insO l o ↔ x = o ∨ x ∈ l := by
 unfold insO
 have : x ∈ l ↔ x ∈ l.take (rank l o.f1) ∨ x ∈ l.drop (rank l o.f1) := by rw [← List.mem_append, List.take_append_drop]
 rw [this]; simp only [List.mem_append, List.mem_cons]
 constructor
 · rintro (h | h | h)
   · exact .inr (.inl h)
   · exact .inl h
   · exact .inr (.inr h)
 · rintro (h | h | h)
   · exact .inr (.inl h)
   · exact .inl h
   · exact .inr (.inr h)
theorem insO_perm (l : List Opn) (o : Opn) : (insO l o).Perm (o :: l) := by
 unfold insO
 refine List.perm_middle.trans ?_
 rw [List.take_append_drop]
theorem less_or (a b : Stp) (h : lessB a b = false) : eqS a b = true ∨ lessB b a = true := by
 rw [lessB_not] at h
 rw [eqS_two, lessB_iff]
 omega
theorem insO_sorted {l : List Opn} {o : Opn} (h : Sorted l) (hn : isIn l o.f1 = false) : Sorted (insO l o) := by
 have hr := rank_le l o.f1
 have h1 : Sorted (l.take (rank l o.f1)) := h.sublist (List.take_sublist _ _)
 have h2 : Sorted (l.drop (rank l o.f1)) := h.sublist (List.drop_sublist _ _)
 have ha : ∀ x ∈ l.take (rank l o.f1), lessB x.f1 o.f1 = true := by
  intro x hx
  rw [take_rank] at hx
  exact take_all (fun q : Opn => lessB q.f1 o.f1) l x hx
 have hb : ∀ x ∈ l.drop (rank l o.f1), lessB o.f1 x.f1 = true := by
  intro x hx
  obtain ⟨j, hj, rfl⟩ := List.getElem_of_mem hx
  rw [List.length_drop] at hj
  have hjl : rank l o.f1 + j < l.length := by omega
  rw [List.getElem_drop]
  have hnl := ranked l o.f1 h _ hjl
  rw [decide_eq_false (by omega)] at hnl
  rcases less_or _ _ hnl with he | he
  · exfalso
    unfold isIn found at hn
    have hlt : rank l o.f1 < l.length := by omega
    obtain ⟨k, hk, hkk, e⟩ := rd_is l (rank l o.f1 : Int) (by omega) (by omega)
    have hk' : k = rank l o.f1 := by omega
    subst hk'
    rw [e, decide_eq_true hlt, Bool.true_and] at hn
    cases j with
    | zero => simp only [Nat.add_zero] at he; rw [he] at hn; cases hn
    | succ j =>
     have hp := List.pairwise_iff_getElem.1 h (rank l o.f1) (rank l o.f1 + (j + 1)) hlt hjl (by omega)
     have hq := ranked l o.f1 h _ hlt
     rw [decide_eq_false (by omega)] at hq
     rw [eqS_two] at he
     rw [lessB_iff] at hp
     rw [lessB_not] at hq
     have : ¬ (eqS l[rank l o.f1].f1 o.f1 = true) := by rw [hn]; simp
     rw [eqS_two] at this
     omega
  · exact he
 unfold insO
 refine List.pairwise_append.2 ⟨h1, List.pairwise_cons.2 ⟨hb, h2⟩, fun x hx y hy => ?_⟩
 rcases List.mem_cons.1 hy with rfl | hy
 · exact ha x hx
 · exact less_trans (ha x hx) (hb y hy)
/-- A tree as it should be. -/
structure Good (T : Tr) : Prop where
 rt : Rooted T.fixed
 nd : (T.fixed.map fun n => n.f0).Nodup
 ok : ∀ o ∈ T.ops, OpOk o
 srt : Sorted T.ops
 aft : ∀ o ∈ T.ops, lessB T.base o.f1 = true
 len : T.ops.length ≤ 512
 fl : T.fixed.length + creates T.ops ≤ 512
 now : ∃ l0 : List Nod, l0.Perm T.fixed ∧ T.now = T.ops.foldl doN l0
/-- What putting an operation among the others makes of them, and what it answers (r: what Check says). -/
def putO (T : Tr) (o : Opn) (r : Int) : List Opn × Int :=
 if (r == 0 && lessB T.base o.f1) = false then (T.ops, 1)
 else if isIn T.ops o.f1 = true then (T.ops, 0)
 else if fullB T o = true then (T.ops, 2)
 else (insO T.ops o, 0)
theorem end_is {l : List Opn} {o : Opn} (h : rank l o.f1 = l.length) : insO l o = l ++ [o] := by
 unfold insO
 rw [h, List.take_length, List.drop_length]
theorem creates_ins (l : List Opn) (o : Opn) : creates (insO l o) = creates l + (if o.f0 = 1 then 1 else 0) := by
 unfold creates
 rw [((insO_perm l o).filter _).length_eq, List.filter_cons]
 by_cases h : o.f0 = 1
 · rw [if_pos (by simp [h]), if_pos h, List.length_cons]
 · rw [if_neg (by simp [h]), if_neg h]; rfl
theorem Good.put {T : Tr} (h : Good T) {o : Opn} (ho : OpOk o) (hb : lessB T.base o.f1 = true) (hn : isIn T.ops o.f1 = false) (hf : fullB T o = false) {now : List Nod} (hw : ∃ l0 : List Nod, l0.Perm T.fixed ∧ now = (insO T.ops o).foldl doN l0) : Good { T with ops := insO T.ops o, now := now } := by
 have hl : T.ops.length < 512 := by
  unfold fullB at hf
  rw [Bool.or_eq_false_iff] at hf
  have := of_decide_eq_false hf.1
  omega
 have hc : T.fixed.length + creates (insO T.ops o) ≤ 512 := by
  have h1 := h.fl
  rw [creates_ins]
  unfold fullB at hf
  rw [Bool.or_eq_false_iff] at hf
  by_cases hk : o.f0 = 1
  · rw [if_pos hk]
    have h2 := hf.2
    rw [hk] at h2
    simp only [beq_self_eq_true, Bool.true_and, decide_eq_false_iff_not] at h2
    omega
  · rw [if_neg hk]; exact h1
 refine ⟨h.rt, h.nd, fun x hx => ?_, insO_sorted h.srt hn, fun x hx => ?_, ?_, hc, hw⟩
 · rcases (insO_mem _ _ _).1 hx with rfl | hx
   · exact ho
   · exact h.ok x hx
 · rcases (insO_mem _ _ _).1 hx with rfl | hx
   · exact hb
   · exact h.aft x hx
 · rw [insO_length]; exact hl
theorem Good.end {T : Tr} (h : Good T) {o : Opn} (he : rank T.ops o.f1 = T.ops.length) : ∃ l0 : List Nod, l0.Perm T.fixed ∧ doN T.now o = (insO T.ops o).foldl doN l0 := by
 obtain ⟨l0, hp, hn⟩ := h.now
 refine ⟨l0, hp, ?_⟩
 rw [end_is he, List.foldl_append, ← hn]
 rfl
theorem Good.rooted {T : Tr} (h : Good T) : Rooted T.now := by
 obtain ⟨l0, hp, hn⟩ := h.now
 rw [hn]
 exact fold_rooted _ (h.rt.perm hp h.nd) h.ok
end Go.Proofs.YtlfgdaiegefjiaaDoor.S
/- Apply, as the machine walks it. -/
namespace Go.Proofs.YtlfgdaiegefjiaaDoor.S
open Go.RowKit Go.Proofs.YtlfgdaiegefjiaaDoorW.PrintWords Go.Proofs.YtlfgdaiegefjiaaDoorW.PrintLast Go.Proofs.YtlfgdaiegefjiaaDoorW.PrintMore
set_option linter.unusedVariables false
set_option linter.unusedSimpArgs false
attribute [local go_sem high] mEq field_par
def apply_.T1 : Bool × List (List Nat × List Nat) := (true, [([], []), ([0], [0]), ([1], [1]), ([2, 1], [2]), ([3], [3]), ([4, 3, 3], [3, 4]), ([5, 3], [3, 5]), ([3, 6], [3, 6]), ([7, 5], [7]), ([8], [8]), ([9, 8], [8, 9]), ([10, 8], [8, 10]), ([11, 8], [8, 11]), ([8], [8]), ([13, 8], [8, 13]), ([12, 14, 8, 8], [8, 12, 14]), ([15, 8], [8, 15]), ([8, 16], [8, 16])])
def apply_.B1 : List Nat := [0, 1, 3, 7, 15, 31, 63, 127, 255, 511, 1023, 2047, 4095, 511, 8703, 32767, 65535, 131071]
theorem apply_.tab1 : rtab .any (opsOf Tryd.f94 1) = apply_.T1 := by kernel_rfl
theorem apply_.bits1 : waitsOk apply_.T1.2 apply_.B1 = true := by kernel_rfl
def apply_.T3 : Bool × List (List Nat × List Nat) := (true, [([], []), ([0], [0]), ([1], [1]), ([2], [2]), ([], []), ([4], [4]), ([3, 5], [3, 5]), ([6], [6]), ([7], [7]), ([7], [7]), ([8, 6, 0, 1, 2, 3, 4, 5, 6, 7, 8], [8]), ([9, 10, 0, 1, 2, 3, 4, 5, 6, 7, 8, 9, 10], [9])])
def apply_.B3 : List Nat := [0, 1, 3, 7, 0, 16, 63, 127, 255, 255, 511, 2047]
theorem apply_.tab3 : rtab .any (opsOf Tryd.f94 3) = apply_.T3 := by kernel_rfl
theorem apply_.bits3 : waitsOk apply_.T3.2 apply_.B3 = true := by kernel_rfl
def apply_.T8 : Bool × List (List Nat × List Nat) := (true, [([], []), ([], []), ([1], [1]), ([2], [2]), ([3], [3]), ([], []), ([], []), ([6], [6]), ([4, 5, 7], [4, 5, 7]), ([0, 0, 1, 2, 3, 4, 5, 6, 7, 8], [0]), ([9, 0, 1, 2, 3, 4, 5, 6, 7, 8], [9]), ([10, 8, 8, 0, 1, 2, 3, 4, 5, 6, 7, 8], [8, 10])])
def apply_.B8 : List Nat := [0, 0, 2, 6, 14, 0, 0, 64, 254, 511, 1023, 2047]
theorem apply_.tab8 : rtab .any (opsOf Tryd.f94 8) = apply_.T8 := by kernel_rfl
theorem apply_.bits8 : waitsOk apply_.T8.2 apply_.B8 = true := by kernel_rfl
theorem searchB (A : Option Addr) (c : Nat) (l : List Opn) (s : Stp) (q : Nat) (fd : Bool) (w : World) (hC : Kd.C k25 w A l.length l) (hq : rank l s = q) (hf : isIn l s = fd) (hs : Sorted l) (hl : l.length ≤ 1000000) :
 Calls Tryd.prog 103 #[.slice A l.length c, .agg #[.int .i64 s.f0, .int .i64 s.f1], .func (.func 104) #[] #[]] w fun e w' => e = .returned (.tuple #[.int .i64 (q : Int), .bool fd]) ∧ Below w.heap.size w w' := by
 subst hq hf
 exact search_calls A c l s (rank l s) w hC (ranks l s hs) hl _ rfl
theorem below_new (w : World) (x : Obj) : Below w.drew.heap.size w.drew (w.alloc x).drew :=
 have h := below_alloc (Below.refl w.heap.size w) x
 ⟨h.os, h.tape, h.output, h.size, h.block⟩
theorem insertB (w : World) (B : Nat) (s : Value) (l : List Opn) (q : Nat) (o : Opn) (vb : Nat) (hs : OpsAt w B s l) (hq : rank l o.f1 = q) (hv : w.heap[vb]? = some (.cells #[.int .i64 o.f0, .int .i64 o.f1.f0, .int .i64 o.f1.f1, .int .i64 o.f2.f0, .int .i64 o.f2.f1, .int .i64 o.f3.f0, .int .i64 o.f3.f1, .string o.f4, .string o.f5] 25 (0, 0))) (hl : l.length ≤ 512) (hvg : s.ownBlock ≠ some vb) (hB : B ≤ w.heap.size) :
 Calls Tryd.prog 107 #[s, .int .i64 (q : Int), .slice (some ⟨vb, 0, none⟩) 1 1] w fun e w' => ∃ s', e = .returned s' ∧ OpsAt w' B s' (insO l o) ∧ Stay w w' (fun k => s.ownBlock = some k) ∧ (∀ k, s'.ownBlock = some k → s.ownBlock = some k ∨ w.heap.size ≤ k) := by
 subst hq
 exact insert_calls w B s l _ (rank_le l o.f1) o vb hs hB hv hvg (by omega)
theorem OpsAt.own_lt {w : World} {B : Nat} {v : Value} {l : List Opn} (h : OpsAt w B v l) (k : Nat) (hk : v.ownBlock = some k) : k < w.heap.size := by
 obtain ⟨_, inner, ho, hr⟩ := h
 obtain ⟨cells, hc⟩ := own_typed ho k hk
 exact blk_here hc
/-- A tree whose operations were put anew. -/
theorem TreeAt.puts {w w1 : World} {B g f n : Nat} {v s : Value} {T : Tr} {l : List Opn} (h : TreeAt w B g f n v T) (hs : Stay w w1 (fun k => v.ownBlock = some k)) (ho : OpsAt w1 B s l) : TreeAt (w1.setCell ⟨g, 2, none⟩ s) B g f n s { T with ops := l } := by
 have hb := hs.blk h.blk (h.ops.own_ne h.blk)
 have hf := h.fix.stay hs (h.ops.own_map h.fix)
 have hn := h.now.stay hs (h.ops.own_map h.now)
 have hc := Stay.cell w1 ⟨g, 2, none⟩ s
 exact ⟨blk_set hb 2 s, hf.stay hc (fun e => h.gf e.symm), hn.stay hc (fun e => h.gn e.symm), ho.stay hc (fun k hk e => by subst e; exact ho.own_ne hb hk), h.ne, h.bg, h.bf, h.bn⟩
def Applies (w : World) (B g f n : Nat) (v : Value) (T : Tr) (o : Opn) (r : Int) (e : Ending) (w' : World) : Prop :=
 ∃ T' v', e = .returned (.int .i64 (putO T o r).2) ∧ TreeAt w' B g f n v' T' ∧ Good T' ∧ T'.fixed = T.fixed ∧ T'.base = T.base ∧ T'.ops = (putO T o r).1 ∧ Stay w w' (foot g f n v) ∧ (∀ k, v'.ownBlock = some k → v.ownBlock = some k ∨ w.heap.size ≤ k)
theorem Applies.same {w : World} {B g f n : Nat} {v : Value} {T : Tr} {o : Opn} {r : Int} {w' : World} (h : TreeAt w' B g f n v T) (hg : Good T) (hb : Below w.heap.size w w') {x : Int} (hp : putO T o r = (T.ops, x)) : Applies w B g f n v T o r (.returned (.int .i64 x)) w' :=
 ⟨T, v, by rw [hp], h, hg, rfl, rfl, by rw [hp], Stay.of hb _, fun _ hk => .inl hk⟩
set_option maxHeartbeats 8000000 in
set_option maxRecDepth 100000 in
theorem Apply_calls (w : World) (B g f n : Nat) (v : Value) (T : Tr) (o : Opn) (k : Nat) (r : Int) (h : TreeAt w B g f n v T) (hg : Good T) (hc : tree_Check.f k o.f0 o.f1.f0 o.f1.f1 o.f2.f0 o.f2.f1 o.f3.f0 o.f3.f1 o.f4 o.f5 = some r) (hok : r = 0 → OpOk o) (hL : Laid w) :
 Calls Tryd.prog 94 #[.pointer (some ⟨g, 0, none⟩), .agg #[.int .i64 o.f0, .int .i64 o.f1.f0, .int .i64 o.f1.f1, .int .i64 o.f2.f0, .int .i64 o.f2.f1, .int .i64 o.f3.f0, .int .i64 o.f3.f1, .string o.f4, .string o.f5]] w (Applies w B g f n v T o r) := by
 have hu := Tryd.underlying25
 obtain ⟨A, c, hv, hc1, hCC⟩ := Kd.R_reads h.ops
 subst hv
 have HCC := Aside0.mk hCC
 have HGD := Aside0.mk hg
 have HOK := Aside0.mk hok
 obtain ⟨b, hb⟩ : ∃ b, lessB T.base o.f1 = b := ⟨_, rfl⟩
 obtain ⟨fd, hfd⟩ : ∃ fd, isIn T.ops o.f1 = fd := ⟨_, rfl⟩
 obtain ⟨q, hq⟩ : ∃ q, rank T.ops o.f1 = q := ⟨_, rfl⟩
 have HLS := Aside0.mk (show clock_Less.f T.base.f0 T.base.f1 o.f1.f0 o.f1.f1 = some b from hb ▸ less_f _ _)
 have HBB := Aside0.mk hb
 have HFD := Aside0.mk hfd
 have HRK := Aside0.mk hq
 have HSR := Aside0.mk hg.srt
 have BKd := Aside0.mk (show (w.alloc (.cells #[.int .i64 o.f0, .int .i64 o.f1.f0, .int .i64 o.f1.f1, .int .i64 o.f2.f0, .int .i64 o.f2.f1, .int .i64 o.f3.f0, .int .i64 o.f3.f1, .string o.f4, .string o.f5] 25)).drew.heap[w.heap.size]? = _ from heap_alloc_new w _)
 have HBd := Aside0.mk (below_alloc (Below.refl w.heap.size w) (.cells #[.int .i64 o.f0, .int .i64 o.f1.f0, .int .i64 o.f1.f1, .int .i64 o.f2.f0, .int .i64 o.f2.f1, .int .i64 o.f3.f0, .int .i64 o.f3.f1, .string o.f4, .string o.f5] 25)).drew
 have HTd := Aside0.mk (h.below HBd.out)
 have HLd := Aside0.mk (hL.below HBd.out)
 have HC := Aside0.mk hc
 have HGW := Aside0.mk (blk_here h.blk)
 have HOL := Aside0.mk (show ∀ k, (Value.slice A T.ops.length c).ownBlock = some k → k < w.heap.size from h.ops.own_lt)
 clear h hg hc hok hL hb hfd hq hCC hc1
 by_cases hr : r = 0
 · subst hr
   have HOZ := Aside0.mk (HOK.out rfl)
   clear HOK
   go_enter Tryd.func94, Tryd.ntmps94
   go_upto_region 1 with fail
   refine start_ (n := 18) (S := fun w' => w'.cell? ⟨w.heap.size, 0, none⟩ = some (.int .i64 o.f0) ∧ w'.cell? ⟨w.heap.size, 1, none⟩ = some (.int .i64 o.f1.f0) ∧ w'.cell? ⟨w.heap.size, 2, none⟩ = some (.int .i64 o.f1.f1) ∧ w'.cell? ⟨w.heap.size, 3, none⟩ = some (.int .i64 o.f2.f0) ∧ w'.cell? ⟨w.heap.size, 4, none⟩ = some (.int .i64 o.f2.f1) ∧ w'.cell? ⟨w.heap.size, 5, none⟩ = some (.int .i64 o.f3.f0) ∧ w'.cell? ⟨w.heap.size, 6, none⟩ = some (.int .i64 o.f3.f1) ∧ w'.cell? ⟨w.heap.size, 7, none⟩ = some (.string o.f4) ∧ w'.cell? ⟨w.heap.size, 8, none⟩ = some (.string o.f5) ∧ w'.cell? ⟨g, 3, none⟩ = some (.int .i64 T.base.f0) ∧ w'.cell? ⟨g, 4, none⟩ = some (.int .i64 T.base.f1)) (ds := [15]) (mb 18 0) (by kernel_rfl) rfl (by kernel_rfl) ⟨(blk_cell BKd.out 0), (blk_cell BKd.out 1), (blk_cell BKd.out 2), (blk_cell BKd.out 3), (blk_cell BKd.out 4), (blk_cell BKd.out 5), (blk_cell BKd.out 6), (blk_cell BKd.out 7), (blk_cell BKd.out 8), (blk_cell HTd.out.blk 3), (blk_cell HTd.out.blk 4)⟩ (fun hHeld => ?_)
   refine with_tabW apply_.tab1 apply_.bits1 (fun HT_ HW_ => ?_)
   refine pu 0 7 (mb 18 1) HT_ ?_
   refine on 1 (some 8) (mb 18 3) HT_ (fun K hK => ?_)
   refine gs Tryd.func102 #[.pointer (some ⟨g, 0, none⟩)] ?_
   with_reducible refine (given_calls _ B g f n _ T HTd.out).mono ?_
   rintro e w3 ⟨rfl, rfl⟩
   refine ⟨_, rfl, ?_⟩
   refine hK.out _ _ ⟨(blk_cell BKd.out 0), (blk_cell BKd.out 1), (blk_cell BKd.out 2), (blk_cell BKd.out 3), (blk_cell BKd.out 4), (blk_cell BKd.out 5), (blk_cell BKd.out 6), (blk_cell BKd.out 7), (blk_cell BKd.out 8), (blk_cell HTd.out.blk 3), (blk_cell HTd.out.blk 4)⟩ (fun hHeld => ?_)
   clear hK K
   refine nm _ ?_
   refine pu 2 9 (mb 18 7) HT_ ?_
   refine pu 3 10 (mb 18 15) HT_ ?_
   refine tk 4 11 (mb 18 31) HT_ HW_ hHeld ?_
   refine on 5 (some 12) (mb 18 63) HT_ (fun K hK => ?_)
   refine gs Tryd.func22 #[.agg #[.int .i64 o.f0, .int .i64 o.f1.f0, .int .i64 o.f1.f1, .int .i64 o.f2.f0, .int .i64 o.f2.f1, .int .i64 o.f3.f0, .int .i64 o.f3.f1, .string o.f4, .string o.f5]] ?_
   with_reducible refine (tree_Check.calls k _ _ _ _ _ _ _ _ _ 0 _ HC.out HLd.out).mono ?_
   rintro e w3 ⟨rfl, hd⟩
   refine ⟨_, rfl, ?_⟩
   have HB3 := Aside0.mk (below_step HBd.out hd)
   have HT3 := Aside0.mk (HTd.out.below hd)
   have BK3 := Aside0.mk (blk_below BKd.out hd)
   clear hd
   refine hK.out _ _ ⟨(blk_cell BK3.out 0), (blk_cell BK3.out 1), (blk_cell BK3.out 2), (blk_cell BK3.out 3), (blk_cell BK3.out 4), (blk_cell BK3.out 5), (blk_cell BK3.out 6), (blk_cell BK3.out 7), (blk_cell BK3.out 8), (blk_cell HT3.out.blk 3), (blk_cell HT3.out.blk 4)⟩ (fun hHeld => ?_)
   clear hK K
   refine nm _ ?_
   refine pu 6 13 (mb 18 127) HT_ ?_
   refine pu 7 14 (mb 18 255) HT_ ?_
   refine pu 8 15 (mb 18 511) HT_ ?_
   refine pu 9 16 (mb 18 1023) HT_ ?_
   refine pu 10 17 (mb 18 2047) HT_ ?_
   refine pu 11 18 (mb 18 4095) HT_ ?_
   refine pu 13 20 (mb 18 12287) HT_ ?_
   refine tk 12 19 (mb 18 16383) HT_ HW_ hHeld ?_
   refine tk 14 21 (mb 18 32767) HT_ HW_ hHeld ?_
   refine last_ (i := 15) (N := some 22) (mb 18 65535) rfl rfl (one_of HT_.out (by kernel_rfl)) (by decide) (fun K hK => ?_)
   refine gs Tryd.func68 #[.agg #[.int .i64 T.base.f0, .int .i64 T.base.f1], .agg #[.int .i64 o.f1.f0, .int .i64 o.f1.f1]] ?_
   with_reducible refine (clock_Less.calls _ _ _ _ b _ HLS.out).mono ?_
   rintro e w4 ⟨rfl, hd⟩
   refine ⟨_, rfl, ?_⟩
   have HB4 := Aside0.mk (below_step HB3.out hd)
   have HT4 := Aside0.mk (HT3.out.below hd)
   have BK4 := Aside0.mk (blk_below BK3.out hd)
   clear hd
   refine hK.out _ _ ?_
   clear hK K
   refine nm _ ?_
   refine pu 16 23 (mb 18 131071) HT_ ?_
   refine pu 17 24 (mb 18 262143) HT_ ?_
   refine dn HT_ ?_
   cases b with
   | false =>
    go_wp2
    go_ret
    exact Applies.same HT4.out HGD.out HB4.out (by unfold putO; rw [if_pos (by rw [HBB.out]; rfl)])
   | true =>
    go_upto_region 3 with fail
    have BKe := Aside0.mk (show w4.drew.heap[w.heap.size]? = _ from BK4.out)
    have HBe := Aside0.mk HB4.out.drew
    have HTe := Aside0.mk (HT4.out.below (Below.refl _ _).drew)
    clear HT4 HB4 BK4 HT3 HB3 BK3 HTd HBd BKd
    refine start_ (n := 12) (S := fun w' => w'.cell? ⟨w.heap.size, 1, none⟩ = some (.int .i64 o.f1.f0) ∧ w'.cell? ⟨w.heap.size, 2, none⟩ = some (.int .i64 o.f1.f1) ∧ w'.cell? ⟨g, 2, none⟩ = some (.slice A T.ops.length c)) (ds := [6]) (mb 12 0) (by kernel_rfl) rfl (by kernel_rfl) ⟨(blk_cell BKe.out 1), (blk_cell BKe.out 2), (blk_cell HTe.out.blk 2)⟩ (fun hHeld => ?_)
    refine with_tabW apply_.tab3 apply_.bits3 (fun HT_ HW_ => ?_)
    refine pu 0 26 (mb 12 1) HT_ ?_
    refine pu 1 27 (mb 12 3) HT_ ?_
    refine pu 2 28 (mb 12 7) HT_ ?_
    refine pu 4 30 (mb 12 23) HT_ ?_
    refine tk 3 29 (mb 12 31) HT_ HW_ hHeld ?_
    refine tk 5 31 (mb 12 63) HT_ HW_ hHeld ?_
    refine last_ (i := 6) (N := some 32) (mb 12 127) rfl rfl (one_of HT_.out (by kernel_rfl)) (by decide) (fun K hK => ?_)
    refine gs Tryd.func103 #[.slice A T.ops.length c, .agg #[.int .i64 o.f1.f0, .int .i64 o.f1.f1], .func (.func 104) #[] #[]] ?_
    with_reducible refine (searchB A c T.ops o.f1 q fd _ (Kd.C_below HCC.out HBe.out) HRK.out HFD.out HSR.out (by have := HGD.out.len; omega)).mono ?_
    rintro e w5 ⟨rfl, hd⟩
    refine ⟨_, rfl, ?_⟩
    have HB5 := Aside0.mk (below_step HBe.out hd)
    have HT5 := Aside0.mk (HTe.out.below hd)
    have BK5 := Aside0.mk (blk_below BKe.out hd)
    clear hd
    refine hK.out _ _ ?_
    clear hK K
    refine nm _ ?_
    refine pu 7 25 (mb 12 255) HT_ ?_
    refine pu 8 33 (mb 12 511) HT_ ?_
    refine pu 9 34 (mb 12 1023) HT_ ?_
    refine pu 10 5 (mb 12 2047) HT_ ?_
    refine pu 11 6 (mb 12 4095) HT_ ?_
    refine dn HT_ ?_
    cases fd with
    | true =>
     go_wp2
     go_ret
     exact Applies.same HT5.out HGD.out HB5.out (by unfold putO; rw [if_neg (by rw [HBB.out]; decide), if_pos HFD.out])
    | false =>
     obtain ⟨z0, z1, z2, z3, z4, z5, z6, z7, z8⟩ := Y9 BK5.out
     obtain ⟨fl, hfl⟩ : ∃ fl, fullB T o = fl := ⟨_, rfl⟩
     have HFL := Aside0.mk hfl
     clear hfl
     cases fl with
     | true =>
      go_wp2_with (go_at_call 106; refine (full_calls _ B g f n _ T o HT5.out (by have := HGD.out.fl; omega) (by have := HGD.out.len; omega)).mono ?_; rw [HFL.out]; rintro e w6 ⟨rfl, hd⟩; have HB6 := Aside0.mk (below_step HB5.out hd); have HT6 := Aside0.mk (HT5.out.below hd); clear hd)
      go_ret
      exact Applies.same HT6.out HGD.out HB6.out (by unfold putO; rw [if_neg (by rw [HBB.out]; decide), if_neg (by rw [HFD.out]; decide), if_pos HFL.out])
     | false =>
      go_wp2_with (go_at_call 106; refine (full_calls _ B g f n _ T o HT5.out (by have := HGD.out.fl; omega) (by have := HGD.out.len; omega)).mono ?_; rw [HFL.out]; rintro e w6 ⟨rfl, hd⟩; have HB6 := Aside0.mk (below_step HB5.out hd); have HT6 := Aside0.mk (HT5.out.below hd); have BK6 := Aside0.mk (blk_below BK5.out hd); clear hd)
      clear z0 z1 z2 z3 z4 z5 z6 z7 z8
      obtain ⟨z0, z1, z2, z3, z4, z5, z6, z7, z8⟩ := Y9 BK6.out
      obtain ⟨y0, y1, y2, y3, y4⟩ := Y5 HT6.out.blk
      go_upto_region 8 with fail
      clear z0 z1 z2 z3 z4 z5 z6 z7 z8 y0 y1 y2 y3 y4
      have BKf := Aside0.mk (show w6.drew.heap[w.heap.size]? = _ from BK6.out)
      have HBf := Aside0.mk HB6.out.drew
      have HTf := Aside0.mk (HT6.out.below (Below.refl _ _).drew)
      have HNV := Aside0.mk (show (Value.slice A T.ops.length c).ownBlock ≠ some w6.heap.size from fun e => absurd (HTf.out.ops.own_lt _ e) (by show ¬ w6.heap.size < w6.heap.size; omega))
      have HSW := Aside0.mk (show B ≤ (w6.alloc (.cells #[.int .i64 o.f0, .int .i64 o.f1.f0, .int .i64 o.f1.f1, .int .i64 o.f2.f0, .int .i64 o.f2.f1, .int .i64 o.f3.f0, .int .i64 o.f3.f1, .string o.f4, .string o.f5] 25)).drew.heap.size by have h1 := HTf.out.bg; have h2 := blk_here HTf.out.blk; have h3 : w6.drew.heap.size = w6.heap.size := rfl; simp; omega)
      refine start_ (n := 12) (S := fun w' => w'.cell? ⟨w.heap.size, 0, none⟩ = some (.int .i64 o.f0) ∧ w'.cell? ⟨w.heap.size, 1, none⟩ = some (.int .i64 o.f1.f0) ∧ w'.cell? ⟨w.heap.size, 2, none⟩ = some (.int .i64 o.f1.f1) ∧ w'.cell? ⟨w.heap.size, 3, none⟩ = some (.int .i64 o.f2.f0) ∧ w'.cell? ⟨w.heap.size, 4, none⟩ = some (.int .i64 o.f2.f1) ∧ w'.cell? ⟨w.heap.size, 5, none⟩ = some (.int .i64 o.f3.f0) ∧ w'.cell? ⟨w.heap.size, 6, none⟩ = some (.int .i64 o.f3.f1) ∧ w'.cell? ⟨w.heap.size, 7, none⟩ = some (.string o.f4) ∧ w'.cell? ⟨w.heap.size, 8, none⟩ = some (.string o.f5) ∧ w'.cell? ⟨g, 2, none⟩ = some (.slice A T.ops.length c)) (ds := [8, 11]) (mb 12 0) (by kernel_rfl) rfl (by kernel_rfl) ⟨(blk_cell BKf.out 0), (blk_cell BKf.out 1), (blk_cell BKf.out 2), (blk_cell BKf.out 3), (blk_cell BKf.out 4), (blk_cell BKf.out 5), (blk_cell BKf.out 6), (blk_cell BKf.out 7), (blk_cell BKf.out 8), (blk_cell HTf.out.blk 2)⟩ (fun hHeld => ?_)
      refine with_tabW apply_.tab8 apply_.bits8 (fun HT_ HW_ => ?_)
      refine pu 0 41 (mb 12 1) HT_ ?_
      refine pu 1 42 (mb 12 3) HT_ ?_
      refine pu 2 43 (mb 12 7) HT_ ?_
      refine pu 3 44 (mb 12 15) HT_ ?_
      refine pu 5 46 (mb 12 47) HT_ ?_
      refine tk 4 45 (mb 12 63) HT_ HW_ hHeld ?_
      refine tk 6 47 (mb 12 127) HT_ HW_ hHeld ?_
      refine on 7 (some 48) (mb 12 255) HT_ (fun K hK => ?_)
      refine value_ (w1 := ?_) (v := ?_) (by rfl) rfl ?_ ?_
      rotate_left 2
      · go_simp
        constructor
        · rfl
        · rfl
      have BKv := Aside0.mk (show (w6.alloc (.cells #[.int .i64 o.f0, .int .i64 o.f1.f0, .int .i64 o.f1.f1, .int .i64 o.f2.f0, .int .i64 o.f2.f1, .int .i64 o.f3.f0, .int .i64 o.f3.f1, .string o.f4, .string o.f5] 25)).drew.heap[w6.heap.size]? = some (.cells #[.int .i64 o.f0, .int .i64 o.f1.f0, .int .i64 o.f1.f1, .int .i64 o.f2.f0, .int .i64 o.f2.f1, .int .i64 o.f3.f0, .int .i64 o.f3.f1, .string o.f4, .string o.f5] 25 (0, 0)) from heap_alloc_new w6 _)
      have BLv := Aside0.mk (show Below w6.drew.heap.size w6.drew (w6.alloc (.cells #[.int .i64 o.f0, .int .i64 o.f1.f0, .int .i64 o.f1.f1, .int .i64 o.f2.f0, .int .i64 o.f2.f1, .int .i64 o.f3.f0, .int .i64 o.f3.f1, .string o.f4, .string o.f5] 25)).drew from below_new w6 _)
      have BKw := Aside0.mk (blk_below BKf.out BLv.out)
      have HTw := Aside0.mk (HTf.out.below BLv.out)
      have HBw := Aside0.mk (below_step HBf.out BLv.out)
      refine hK.out _ _ ⟨(blk_cell BKw.out 0), (blk_cell BKw.out 1), (blk_cell BKw.out 2), (blk_cell BKw.out 3), (blk_cell BKw.out 4), (blk_cell BKw.out 5), (blk_cell BKw.out 6), (blk_cell BKw.out 7), (blk_cell BKw.out 8), (blk_cell HTw.out.blk 2)⟩ (fun hHeld => ?_)
      clear hK K
      refine nm _ ?_
      refine last_ (i := 8) (N := some 49) (mb 12 511) rfl rfl (one_of HT_.out (by kernel_rfl)) (by decide) (fun K hK => ?_)
      refine gs Tryd.func107 #[.slice A T.ops.length c, .int .i64 (q : Int), .slice (some ⟨w6.heap.size, 0, none⟩) 1 1] ?_
      with_reducible refine (insertB _ B _ T.ops q o w6.heap.size HTw.out.ops HRK.out BKv.out HGD.out.len HNV.out HSW.out).mono ?_
      rintro e w7 ⟨s7, rfl, h1, h2, h3⟩
      obtain ⟨A7, c7, hv7, _, _⟩ := Kd.R_reads h1
      subst hv7
      refine ⟨_, rfl, ?_⟩
      have HI := Aside0.mk h1
      have HS7 := Aside0.mk h2
      have HW7 := Aside0.mk h3
      have TB7 := Aside0.mk (h2.blk HTw.out.blk (HTw.out.ops.own_ne HTw.out.blk))
      obtain ⟨u0, u1, u2, u3, u4, u5, u6, u7, u8, u9⟩ := Z5 TB7.out
      clear h1 h2 h3
      refine hK.out _ _ ?_
      clear hK K
      refine nm _ ?_
      refine pu 9 50 (mb 12 1023) HT_ ?_
      refine pu 10 51 (mb 12 2047) HT_ ?_
      refine last_ (i := 11) (N := none) (mb 12 4095) rfl rfl (one_of HT_.out (by kernel_rfl)) (by decide) (fun K hK => ?_)
      refine skip_ (w1 := ?_) (by rfl) rfl ?_ ?_
      rotate_left
      · go_simp
        rfl
      refine hK.out _ _ ?_
      clear hK K
      refine dn HT_ ?_
      have HT8 := Aside0.mk (HTw.out.puts HS7.out HI.out)
      have BK8 := Aside0.mk (((Stay.cell w7 ⟨g, 2, none⟩ (.slice A7 (insO T.ops o).length c7)).blk (HS7.out.blk BKw.out (fun e => absurd (HOL.out _ e) (Nat.lt_irrefl _))) (fun e => absurd (e ▸ HGW.out) (Nat.lt_irrefl _))))
      have HS8 := Aside0.mk (((Stay.of HBw.out (foot g f n (.slice A T.ops.length c))).trans HS7.out (fun k hk => .inl (.inr (.inr (.inr hk))))).trans (Stay.cell w7 ⟨g, 2, none⟩ (.slice A7 (insO T.ops o).length c7)) (fun k hk => .inl (.inl hk)))
      generalize w7.setCell ⟨g, 2, none⟩ (.slice A7 (insO T.ops o).length c7) = w8 at HT8 BK8 HS8 ⊢
      have HW8 := Aside0.mk (show ∀ k, (Value.slice A7 (insO T.ops o).length c7).ownBlock = some k → (Value.slice A T.ops.length c).ownBlock = some k ∨ w.heap.size ≤ k from fun k hk => (HW7.out k hk).imp id (fun h => Nat.le_trans HBw.out.size h))
      have hfl : T.ops.length < 512 := by
       have h1 := HFL.out
       unfold fullB at h1
       rw [Bool.or_eq_false_iff] at h1
       have := of_decide_eq_false h1.1
       omega
      have HN8 := Aside0.mk (show (insO T.ops o).length = T.ops.length + 1 from insO_length _ _)
      have hN : (insO T.ops o).length ≤ 1000 := by have := HN8.out; omega
      have hN1 : 0 < (insO T.ops o).length := by have := HN8.out; omega
      have HOA := Aside0.mk (show ∀ x ∈ insO T.ops o, OpOk x from fun x hx => ((insO_mem _ _ _).1 hx).elim (fun e => e.symm ▸ HOZ.out) (fun h => HGD.out.ok x h))
      clear u0 u1 u2 u3 u4 u5 u6 u7 u8 u9 hfl
      obtain ⟨z0, z1, z2, z3, z4, z5, z6, z7, z8⟩ := Y9 BK8.out
      obtain ⟨y0, y1, y2, y3, y4⟩ := Y5 HT8.out.blk
      by_cases hq : q = T.ops.length
      · have dq : ((q : Int) == (((insO T.ops o).length : Nat) : Int) - 1) = true := beq_iff_eq.mpr (by have := HN8.out; omega)
        have HQ := Aside0.mk hq
        clear hq
        go_upto_region 10 with fail
        go_still_tail 5, (by kernel_rfl)
        go_wp2_with (go_at_call 101; refine (do_calls HGD.out.rooted (HOZ.out) n _ (HT8.out.now.below (Below.refl _ _).drew)).mono ?_; rintro e w9 ⟨rfl, hl, hs⟩; have HT9 := Aside0.mk ((HT8.out.below (Below.refl _ _).drew).turn hs hl); have HS9 := Aside0.mk ((HS8.out.below (Below.refl _ _).drew).trans hs (fun k hk => .inl (.inr (.inr (.inl hk))))); clear hl hs)
        go_ret
        exact ⟨_, _, by unfold putO; rw [if_neg (by rw [HBB.out]; decide), if_neg (by rw [HFD.out]; decide), if_neg (by rw [HFL.out]; decide)]; rfl, HT9.out, HGD.out.put (HOZ.out) HBB.out HFD.out HFL.out (HGD.out.end (HRK.out.trans HQ.out)), rfl, rfl, by unfold putO; rw [if_neg (by rw [HBB.out]; decide), if_neg (by rw [HFD.out]; decide), if_neg (by rw [HFL.out]; decide)], HS9.out, HW8.out⟩
      · have dq : ((q : Int) == (((insO T.ops o).length : Nat) : Int) - 1) = false := beq_eq_false_iff_ne.mpr (by have := HN8.out; omega)
        clear hq
        go_wp2_with (go_at_call 93; refine (again_calls _ B g f n _ _ HT8.out HGD.out.rt HOA.out (by have := HN8.out; show (insO T.ops o).length ≤ 1000000; omega)).mono ?_; rintro e w9 ⟨rfl, ⟨l0, hp, hl⟩, hs⟩; have HP9 := Aside0.mk hp; have HT9 := Aside0.mk hl; have HS9 := Aside0.mk (HS8.out.trans hs (fun k hk => .inl (.inr (.inr (.inl hk))))); clear hp hl hs)
        go_ret
        exact ⟨_, _, by unfold putO; rw [if_neg (by rw [HBB.out]; decide), if_neg (by rw [HFD.out]; decide), if_neg (by rw [HFL.out]; decide)]; rfl, HT9.out, HGD.out.put (HOZ.out) HBB.out HFD.out HFL.out ⟨l0, HP9.out, rfl⟩, rfl, rfl, by unfold putO; rw [if_neg (by rw [HBB.out]; decide), if_neg (by rw [HFD.out]; decide), if_neg (by rw [HFL.out]; decide)], HS9.out, HW8.out⟩
 · have d0 : (r == 0) = false := beq_eq_false_iff_ne.mpr hr
   have d1 : (r != 0) = true := by simp [bne, d0]
   go_enter Tryd.func94, Tryd.ntmps94
   go_upto_region 1 with fail
   refine start_ (n := 18) (S := fun w' => w'.cell? ⟨w.heap.size, 0, none⟩ = some (.int .i64 o.f0) ∧ w'.cell? ⟨w.heap.size, 1, none⟩ = some (.int .i64 o.f1.f0) ∧ w'.cell? ⟨w.heap.size, 2, none⟩ = some (.int .i64 o.f1.f1) ∧ w'.cell? ⟨w.heap.size, 3, none⟩ = some (.int .i64 o.f2.f0) ∧ w'.cell? ⟨w.heap.size, 4, none⟩ = some (.int .i64 o.f2.f1) ∧ w'.cell? ⟨w.heap.size, 5, none⟩ = some (.int .i64 o.f3.f0) ∧ w'.cell? ⟨w.heap.size, 6, none⟩ = some (.int .i64 o.f3.f1) ∧ w'.cell? ⟨w.heap.size, 7, none⟩ = some (.string o.f4) ∧ w'.cell? ⟨w.heap.size, 8, none⟩ = some (.string o.f5) ∧ w'.cell? ⟨g, 3, none⟩ = some (.int .i64 T.base.f0) ∧ w'.cell? ⟨g, 4, none⟩ = some (.int .i64 T.base.f1)) (ds := [5]) (mb 18 0) (by kernel_rfl) rfl (by kernel_rfl) ⟨(blk_cell BKd.out 0), (blk_cell BKd.out 1), (blk_cell BKd.out 2), (blk_cell BKd.out 3), (blk_cell BKd.out 4), (blk_cell BKd.out 5), (blk_cell BKd.out 6), (blk_cell BKd.out 7), (blk_cell BKd.out 8), (blk_cell HTd.out.blk 3), (blk_cell HTd.out.blk 4)⟩ (fun hHeld => ?_)
   refine with_tabW apply_.tab1 apply_.bits1 (fun HT_ HW_ => ?_)
   refine pu 0 7 (mb 18 1) HT_ ?_
   refine on 1 (some 8) (mb 18 3) HT_ (fun K hK => ?_)
   refine gs Tryd.func102 #[.pointer (some ⟨g, 0, none⟩)] ?_
   with_reducible refine (given_calls _ B g f n _ T HTd.out).mono ?_
   rintro e w3 ⟨rfl, rfl⟩
   refine ⟨_, rfl, ?_⟩
   refine hK.out _ _ ⟨(blk_cell BKd.out 0), (blk_cell BKd.out 1), (blk_cell BKd.out 2), (blk_cell BKd.out 3), (blk_cell BKd.out 4), (blk_cell BKd.out 5), (blk_cell BKd.out 6), (blk_cell BKd.out 7), (blk_cell BKd.out 8), (blk_cell HTd.out.blk 3), (blk_cell HTd.out.blk 4)⟩ (fun hHeld => ?_)
   clear hK K
   refine nm _ ?_
   refine pu 2 9 (mb 18 7) HT_ ?_
   refine pu 3 10 (mb 18 15) HT_ ?_
   refine tk 4 11 (mb 18 31) HT_ HW_ hHeld ?_
   refine last_ (i := 5) (N := some 12) (mb 18 63) rfl rfl (one_of HT_.out (by kernel_rfl)) (by decide) (fun K hK => ?_)
   refine gs Tryd.func22 #[.agg #[.int .i64 o.f0, .int .i64 o.f1.f0, .int .i64 o.f1.f1, .int .i64 o.f2.f0, .int .i64 o.f2.f1, .int .i64 o.f3.f0, .int .i64 o.f3.f1, .string o.f4, .string o.f5]] ?_
   with_reducible refine (tree_Check.calls k _ _ _ _ _ _ _ _ _ r _ HC.out HLd.out).mono ?_
   rintro e w3 ⟨rfl, hd⟩
   refine ⟨_, rfl, ?_⟩
   have HB3 := Aside0.mk (below_step HBd.out hd)
   have HT3 := Aside0.mk (HTd.out.below hd)
   have BK3 := Aside0.mk (blk_below BKd.out hd)
   clear hd
   refine hK.out _ _ ?_
   clear hK K
   refine nm _ ?_
   refine pu 6 13 (mb 18 127) HT_ ?_
   refine pu 7 14 (mb 18 255) HT_ ?_
   refine pu 8 15 (mb 18 511) HT_ ?_
   refine sk 9 16 8 (mb 18 131071) HT_ ?_
   refine pu 17 24 (mb 18 262143) HT_ ?_
   refine dn HT_ ?_
   go_wp2
   go_ret
   exact Applies.same HT3.out HGD.out HB3.out (by unfold putO; rw [if_pos (by rw [d0]; rfl)])
end Go.Proofs.YtlfgdaiegefjiaaDoor.S
/- A row of nodes, and its sort. -/
namespace Go.Proofs.YtlfgdaiegefjiaaDoor.S
open Go.RowKit Go.Proofs.YtlfgdaiegefjiaaDoorW.PrintWords Go.Proofs.YtlfgdaiegefjiaaDoorW.PrintLast Go.Proofs.YtlfgdaiegefjiaaDoorW.PrintMore
set_option linter.unusedVariables false
set_option linter.unusedSimpArgs false
instance : Inhabited Nod := ⟨zNod⟩
def nodC (x : Nod) : List Value := [.int .i64 x.f0.f0, .int .i64 x.f0.f1, .int .i64 x.f1.f0, .int .i64 x.f1.f1, .string x.f2, .string x.f3]
def flatN (l : List Nod) : List Value := l.flatMap nodC
theorem nodC_length (x : Nod) : (nodC x).length = 6 := rfl
theorem nodC_one (x : Nod) : ∀ v ∈ nodC x, v.oneCell' = true := by
 intro v hv
 simp only [nodC, List.mem_cons, List.not_mem_nil, or_false] at hv
 rcases hv with rfl | rfl | rfl | rfl | rfl | rfl <;> rfl
theorem flatN_length (l : List Nod) : (flatN l).length = l.length * 6 := by
 induction l with
 | nil => rfl
 | cons x l ih => unfold flatN at ih ⊢; rw [List.flatMap_cons, List.length_append, ih, List.length_cons, nodC_length]; omega
theorem flatN_append (a b : List Nod) : flatN (a ++ b) = flatN a ++ flatN b := by unfold flatN; rw [List.flatMap_append]
theorem flatN_get : ∀ (l : List Nod) (t : Nat), t < l.length * 6 → (flatN l)[t]? = some ((nodC (l[t / 6]!))[t % 6]!)
 | [], t, h => by simp at h
 | x :: l, t, h => by
  have e : flatN (x :: l) = nodC x ++ flatN l := by unfold flatN; rw [List.flatMap_cons]
  rw [e]
  rcases Nat.lt_or_ge t 6 with h6 | h6
  · rw [List.getElem?_append_left (by rw [nodC_length]; exact h6), Nat.div_eq_of_lt h6, Nat.mod_eq_of_lt h6]
    simp only [List.getElem!_cons_zero]
    rw [List.getElem?_eq_getElem (by rw [nodC_length]; exact h6), getElem!_pos _ t (by rw [nodC_length]; exact h6)]
  · rw [List.getElem?_append_right (by rw [nodC_length]; exact h6), nodC_length, flatN_get l (t - 6) (by simp at h; omega)]
    obtain ⟨q, rfl⟩ : ∃ q, t = q + 6 := ⟨t - 6, by omega⟩
    rw [Nat.add_sub_cancel, Nat.add_div_right q (by decide), Nat.add_mod_right]
    simp
abbrev NodesAt (w : World) (B : Nat) (v : Value) (l : List Nod) : Prop := w.ownsRow B 72 6 v l.length (flatN l)
theorem ownsRow_le {W : World} {base base' : Nat} {e : TypeId} {size : Nat} {v : Value} {k : Nat} {xs : List Value} (h : W.ownsRow base e size v k xs) (hb : base' ≤ base) : W.ownsRow base' e size v k xs := by
 refine ⟨h.1, ?_⟩
 rcases h.2 with hn | ⟨g, cap, cur, hv, hbg, rest⟩
 · exact .inl hn
 · exact .inr ⟨g, cap, cur, hv, Nat.le_trans hb hbg, rest⟩
def OrdN (l : List Nod) : Prop := ∀ i j, i < j → j < l.length → lessB (l[j]!).f0 (l[i]!).f0 = false
theorem NodesAt.below {w w1 : World} {B : Nat} {v : Value} {l : List Nod} (h : NodesAt w B v l) (hb : Below w.heap.size w w1) : NodesAt w1 B v l :=
 World.ownsRow.kept h (grown_of_below hb none) (by cases v.ownBlock <;> simp)
theorem OpsAt.own_ge {w : World} {B : Nat} {v : Value} {l : List Opn} (h : OpsAt w B v l) (k : Nat) (hk : v.ownBlock = some k) : B ≤ k := by
 rcases h.row.2 with ⟨rfl, _⟩ | ⟨g, c, cur, rfl, hB, _⟩
 · cases hk
 · simp [Value.ownBlock] at hk
   omega
theorem TreeAt.back {w0 w w1 : World} {B g f n : Nat} {v : Value} {T : Tr} (h : TreeAt w B g f n v T) (hs : Stay w w1 (foot g f n v)) (hb : Below B w0 w) : Below B w0 w1 :=
 hs.back hb (Nat.le_of_lt (Nat.lt_of_le_of_lt h.bg (blk_lt h.blk))) (fun k hk => by
  rcases hk with rfl | rfl | rfl | hk
  · exact h.bg
  · exact h.bf
  · exact h.bn
  · exact OpsAt.own_ge h.ops k hk)
theorem OpsAt.reads {w : World} {B : Nat} {A : Option Addr} {c : Nat} {l : List Opn} (h : OpsAt w B (.slice A l.length c) l) : Kd.C k25 w A l.length l := by
 obtain ⟨A', c', e, _, hC⟩ := Kd.R_reads h
 cases e
 exact hC
end Go.Proofs.YtlfgdaiegefjiaaDoor.S
