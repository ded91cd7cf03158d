/- Where an operation belongs among others, in plain words. -/
import Derived.Test.YtiffeljmeahmkaaDoorMj
namespace Go.Proofs.YtiffeljmeahmkaaDoor.S
open Go.RowKit Go.Proofs.YtiffeljmeahmkaaDoorW.PrintWords Go.Proofs.YtiffeljmeahmkaaDoorW.PrintLast Go.Proofs.YtiffeljmeahmkaaDoorW.PrintMore
set_option linter.unusedVariables false
set_option linter.unusedSimpArgs false
theorem lessB_iff (a b : Stp) : lessB a b = true ↔ (a.f0 < b.f0 ∨ a.f0 = b.f0 ∧ a.f1 < b.f1) := by
  unfold lessB
  split <;> simp only [decide_eq_true_eq] <;> omega
theorem lessB_not (a b : Stp) : lessB a b = false ↔ ¬ (a.f0 < b.f0 ∨ a.f0 = b.f0 ∧ a.f1 < b.f1) := by
  rw [← lessB_iff]; simp
theorem eqS_two (a b : Stp) : eqS a b = true ↔ (a.f0 = b.f0 ∧ a.f1 = b.f1) := by unfold eqS; simp
theorem less_trans {a b c : Stp} (h1 : lessB a b = true) (h2 : lessB b c = true) : lessB a c = true := by
  rw [lessB_iff] at *; omega
theorem less_irr (a : Stp) : lessB a a = false := by rw [lessB_not]; omega
/-- Operations in the order of their stamps, each stamp once. -/
def Sorted (l : List Opn) : Prop := l.Pairwise fun a b => lessB a.f1 b.f1 = true
def rank (l : List Opn) (s : Stp) : Nat := (l.takeWhile fun o => lessB o.f1 s).length
theorem take_all {α : Type} (p : α → Bool) : ∀ (l : List α) (x : α), x ∈ l.takeWhile p → p x = true
  | [], _, h => by cases h
  | y :: l, x, h => by
    rw [List.takeWhile_cons] at h
    split at h
    · rcases List.mem_cons.1 h with rfl | h
      · assumption
      · exact take_all p l x h
    · cases h
theorem take_rank (l : List Opn) (s : Stp) : l.take (rank l s) = l.takeWhile fun o => lessB o.f1 s := by
  induction l with
  | nil => rfl
  | cons x l ih =>
    unfold rank at ih ⊢
    rw [List.takeWhile_cons]
    split
    · rw [List.length_cons, List.take_succ_cons, ih]
    · rfl
theorem rank_le (l : List Opn) (s : Stp) : rank l s ≤ l.length := by
  induction l with
  | nil => exact Nat.le_refl _
  | cons x l ih =>
    unfold rank at ih ⊢
    rw [List.takeWhile_cons]
    split <;> simp only [List.length_cons, List.length_nil] <;> omega
theorem ranked : ∀ (l : List Opn) (s : Stp), Sorted l → ∀ k (h : k < l.length), lessB l[k].f1 s = decide (k < rank l s)
  | [], _, _, _, h => by simp at h
  | x :: l, s, hs, k, h => by
    have hx := fun y hy => (List.pairwise_cons.1 hs).1 y hy
    have ht : Sorted l := (List.pairwise_cons.1 hs).2
    unfold rank
    rw [List.takeWhile_cons]
    cases hb : lessB x.f1 s with
    | true =>
      cases k with
      | zero => simp [hb]
      | succ k =>
        have := ranked l s ht k (by simpa using h)
        unfold rank at this
        simp [this]
    | false =>
      cases k with
      | zero => simp [hb]
      | succ k =>
        have hkl : k < l.length := by simpa using h
        have hm := hx l[k] (List.getElem_mem hkl)
        have : lessB (x :: l)[k + 1].f1 s = false := by
          rw [List.getElem_cons_succ]
          cases hq : lessB l[k].f1 s with
          | false => rfl
          | true => rw [less_trans hm hq] at hb; cases hb
        rw [this]; simp
theorem ranks (l : List Opn) (s : Stp) (hs : Sorted l) : Ranks l s (rank l s) := by
  refine ⟨rank_le l s, fun x h0 h1 => ?_⟩
  obtain ⟨k, hk, rfl, e⟩ := rd_is l x h0 h1
  rw [e, ranked l s hs k hk]
  simp
/-- An operation among the others. -/
def insO (l : List Opn) (o : Opn) : List Opn := l.take (rank l o.f1) ++ o :: l.drop (rank l o.f1)
def isIn (l : List Opn) (s : Stp) : Bool := found l s (rank l s)
theorem insO_length (l : List Opn) (o : Opn) : (insO l o).length = l.length + 1 := by
  have := rank_le l o.f1
  unfold insO
  rw [List.length_append, List.length_cons, List.length_take, List.length_drop]; omega
theorem insO_mem (l : List Opn) (o x : Opn) : x ∈ insO l o ↔ x = o ∨ x ∈ l := by
  unfold insO
  have : x ∈ l ↔ x ∈ l.take (rank l o.f1) ∨ x ∈ l.drop (rank l o.f1) := by rw [← List.mem_append, List.take_append_drop]
  rw [this]; simp only [List.mem_append, List.mem_cons]
  constructor
  · rintro (h | h | h)
    · exact .inr (.inl h)
    · exact .inl h
    · exact .inr (.inr h)
  · rintro (h | h | h)
    · exact .inr (.inl h)
    · exact .inl h
    · exact .inr (.inr h)
theorem insO_perm (l : List Opn) (o : Opn) : (insO l o).Perm (o :: l) := by
  unfold insO
  refine List.perm_middle.trans ?_
  rw [List.take_append_drop]
theorem less_or (a b : Stp) (h : lessB a b = false) : eqS a b = true ∨ lessB b a = true := by
  rw [lessB_not] at h
  rw [eqS_two, lessB_iff]
  omega
theorem insO_sorted {l : List Opn} {o : Opn} (h : Sorted l) (hn : isIn l o.f1 = false) : Sorted (insO l o) := by
  have hr := rank_le l o.f1
  have h1 : Sorted (l.take (rank l o.f1)) := h.sublist (List.take_sublist _ _)
  have h2 : Sorted (l.drop (rank l o.f1)) := h.sublist (List.drop_sublist _ _)
  have ha : ∀ x ∈ l.take (rank l o.f1), lessB x.f1 o.f1 = true := by
    intro x hx
    rw [take_rank] at hx
    exact take_all (fun q : Opn => lessB q.f1 o.f1) l x hx
  have hb : ∀ x ∈ l.drop (rank l o.f1), lessB o.f1 x.f1 = true := by
    intro x hx
    obtain ⟨j, hj, rfl⟩ := List.getElem_of_mem hx
    rw [List.length_drop] at hj
    have hjl : rank l o.f1 + j < l.length := by omega
    rw [List.getElem_drop]
    have hnl := ranked l o.f1 h _ hjl
    rw [decide_eq_false (by omega)] at hnl
    rcases less_or _ _ hnl with he | he
    · exfalso
      unfold isIn found at hn
      have hlt : rank l o.f1 < l.length := by omega
      obtain ⟨k, hk, hkk, e⟩ := rd_is l (rank l o.f1 : Int) (by omega) (by omega)
      have hk' : k = rank l o.f1 := by omega
      subst hk'
      rw [e, decide_eq_true hlt, Bool.true_and] at hn
      cases j with
      | zero => simp only [Nat.add_zero] at he; rw [he] at hn; cases hn
      | succ j =>
        have hp := List.pairwise_iff_getElem.1 h (rank l o.f1) (rank l o.f1 + (j + 1)) hlt hjl (by omega)
        have hq := ranked l o.f1 h _ hlt
        rw [decide_eq_false (by omega)] at hq
        rw [eqS_two] at he
        rw [lessB_iff] at hp
        rw [lessB_not] at hq
        have : ¬ (eqS l[rank l o.f1].f1 o.f1 = true) := by rw [hn]; simp
        rw [eqS_two] at this
        omega
    · exact he
  unfold insO
  refine List.pairwise_append.2 ⟨h1, List.pairwise_cons.2 ⟨hb, h2⟩, fun x hx y hy => ?_⟩
  rcases List.mem_cons.1 hy with rfl | hy
  · exact ha x hx
  · exact less_trans (ha x hx) (hb y hy)
/-- A tree as it should be. -/
structure Good (T : Tr) : Prop where
  rt : Rooted T.fixed
  nd : (T.fixed.map fun n => n.f0).Nodup
  ok : ∀ o ∈ T.ops, OpOk o
  srt : Sorted T.ops
  aft : ∀ o ∈ T.ops, lessB T.base o.f1 = true
  len : T.ops.length ≤ 512
  fl : T.fixed.length + creates T.ops ≤ 512
  now : ∃ l0 : List Nod, l0.Perm T.fixed ∧ T.now = T.ops.foldl doN l0
/-- What putting an operation among the others makes of them, and what it answers (r: what Check says). -/
def putO (T : Tr) (o : Opn) (r : Int) : List Opn × Int :=
  if (r == 0 && lessB T.base o.f1) = false then (T.ops, 1)
  else if isIn T.ops o.f1 = true then (T.ops, 0)
  else if fullB T o = true then (T.ops, 2)
  else (insO T.ops o, 0)
theorem end_is {l : List Opn} {o : Opn} (h : rank l o.f1 = l.length) : insO l o = l ++ [o] := by
  unfold insO
  rw [h, List.take_length, List.drop_length]
theorem creates_ins (l : List Opn) (o : Opn) : creates (insO l o) = creates l + (if o.f0 = 1 then 1 else 0) := by
  unfold creates
  rw [((insO_perm l o).filter _).length_eq, List.filter_cons]
  by_cases h : o.f0 = 1
  · rw [if_pos (by simp [h]), if_pos h, List.length_cons]
  · rw [if_neg (by simp [h]), if_neg h]; rfl
theorem Good.put {T : Tr} (h : Good T) {o : Opn} (ho : OpOk o) (hb : lessB T.base o.f1 = true) (hn : isIn T.ops o.f1 = false) (hf : fullB T o = false) {now : List Nod} (hw : ∃ l0 : List Nod, l0.Perm T.fixed ∧ now = (insO T.ops o).foldl doN l0) : Good { T with ops := insO T.ops o, now := now } := by
  have hl : T.ops.length < 512 := by
    unfold fullB at hf
    rw [Bool.or_eq_false_iff] at hf
    have := of_decide_eq_false hf.1
    omega
  have hc : T.fixed.length + creates (insO T.ops o) ≤ 512 := by
    have h1 := h.fl
    rw [creates_ins]
    unfold fullB at hf
    rw [Bool.or_eq_false_iff] at hf
    by_cases hk : o.f0 = 1
    · rw [if_pos hk]
      have h2 := hf.2
      rw [hk] at h2
      simp only [beq_self_eq_true, Bool.true_and, decide_eq_false_iff_not] at h2
      omega
    · rw [if_neg hk]; exact h1
  refine ⟨h.rt, h.nd, fun x hx => ?_, insO_sorted h.srt hn, fun x hx => ?_, ?_, hc, hw⟩
  · rcases (insO_mem _ _ _).1 hx with rfl | hx
    · exact ho
    · exact h.ok x hx
  · rcases (insO_mem _ _ _).1 hx with rfl | hx
    · exact hb
    · exact h.aft x hx
  · rw [insO_length]; exact hl
theorem Good.end {T : Tr} (h : Good T) {o : Opn} (he : rank T.ops o.f1 = T.ops.length) : ∃ l0 : List Nod, l0.Perm T.fixed ∧ doN T.now o = (insO T.ops o).foldl doN l0 := by
  obtain ⟨l0, hp, hn⟩ := h.now
  refine ⟨l0, hp, ?_⟩
  rw [end_is he, List.foldl_append, ← hn]
  rfl
theorem Good.rooted {T : Tr} (h : Good T) : Rooted T.now := by
  obtain ⟨l0, hp, hn⟩ := h.now
  rw [hn]
  exact fold_rooted _ (h.rt.perm hp h.nd) h.ok
theorem put_filter : ∀ (l : List Nod) (n : Nod), (l.map fun m => m.f0).Nodup → (put l n).Perm (n :: l.filter (fun m => !eqS n.f0 m.f0))
  | [], n, _ => List.Perm.refl _
  | x :: l, n, hd => by
    rw [List.map_cons, List.nodup_cons] at hd
    unfold put
    by_cases he : eqS n.f0 x.f0 = true
    · rw [if_pos he, List.filter_cons, if_neg (by rw [he]; decide), List.filter_eq_self.2]
      intro m hm
      cases hq : eqS n.f0 m.f0 with
      | false => rfl
      | true =>
        exfalso
        rw [eqS_iff] at he hq
        exact hd.1 (List.mem_map.2 ⟨m, hm, (hq.symm.trans he)⟩)
    · rw [if_neg he, List.filter_cons, if_pos (by cases h : eqS n.f0 x.f0 with | true => exact absurd h he | false => rfl)]
      exact (List.Perm.cons x (put_filter l n hd.2)).trans (List.Perm.swap n x _)
theorem put_perm {l l' : List Nod} (hp : l'.Perm l) (hd : (l.map fun m => m.f0).Nodup) (n : Nod) : (put l' n).Perm (put l n) :=
  (put_filter l' n ((hp.map _).nodup_iff.2 hd)).trans (((hp.filter _).cons n).trans (put_filter l n hd).symm)
theorem bel_eq {l l' : List Nod} (he : ∀ s, look l' s = look l s) (id : Stp) : ∀ (k : Nat) (s : Stp), bel l' id k s = bel l id k s
  | 0, _ => by unfold bel; rfl
  | k + 1, s => by unfold bel; rw [he, bel_eq he id k]
theorem under_eq {l l' : List Nod} (he : ∀ s, look l' s = look l s) (id s : Stp) : under l' id s = under l id s := by
  have h1 : under l' id s = true ↔ under l id s = true := by
    unfold under
    exact (@decide_eq_true_iff _ (Classical.propDecidable _)).trans ((exists_congr fun k => by rw [bel_eq he]).trans (@decide_eq_true_iff _ (Classical.propDecidable _)).symm)
  cases ha : under l' id s with
  | true => exact (h1.1 ha).symm
  | false => cases hb : under l id s with
    | false => rfl
    | true => rw [h1.2 hb] at ha; cases ha
theorem doN_perm {l l' : List Nod} (hp : l'.Perm l) (hd : (l.map fun m => m.f0).Nodup) (o : Opn) : (doN l' o).Perm (doN l o) := by
  have h1 := has_perm hp
  have h2 := look_perm hp hd
  have h3 := under_eq h2
  unfold doN moveN
  simp only [h1, h2, h3]
  repeat' split
  all_goals first | exact hp | exact put_perm hp hd _
theorem doN_nodup {l : List Nod} (o : Opn) (hd : (l.map fun m => m.f0).Nodup) : ((doN l o).map fun m => m.f0).Nodup := by
  unfold doN moveN
  repeat' split
  all_goals first | exact hd | exact put_nodup _ hd
theorem put_length (l : List Nod) (n : Nod) : (put l n).length = if has l n.f0 = true then l.length else l.length + 1 := by
  have h := congrArg List.length (put_ids l n)
  rw [List.length_map] at h
  rw [h]
  split <;> simp
theorem doN_length (l : List Nod) (o : Opn) : (doN l o).length ≤ l.length + (if o.f0 = 1 then 1 else 0) := by
  have hl : ∀ (n : Nod), (put l n).length ≤ l.length + 1 := fun n => by rw [put_length]; split <;> omega
  have hs : ∀ (s : Stp) (b : Stp) (c d : ByteArray), has l s = true → (put l ⟨(look l s).f0, b, c, d⟩).length = l.length := fun s b c d h => by
    rw [put_length, show (⟨(look l s).f0, b, c, d⟩ : Nod).f0 = s from look_id h, if_pos h]
  unfold doN
  by_cases h1 : o.f0 = 1
  · rw [if_pos h1, if_pos h1]
    repeat' split
    all_goals first | omega | exact hl _
  · rw [if_neg h1, if_neg h1]
    unfold moveN
    repeat' split
    all_goals first | omega | (rw [hs _ _ _ _ (by assumption)]; omega) | (rename_i h _ _; rw [hs _ _ _ _ (by cases hq : has l o.f2 with | true => rfl | false => exact absurd hq (by assumption))]; omega) | skip
theorem fold_perm : ∀ (os : List Opn) {l l' : List Nod}, l'.Perm l → (l.map fun m => m.f0).Nodup → (os.foldl doN l').Perm (os.foldl doN l)
  | [], _, _, hp, _ => hp
  | o :: os, _, _, hp, hd => fold_perm os (doN_perm hp hd o) (doN_nodup o hd)
theorem fold_nodup : ∀ (os : List Opn) {l : List Nod}, (l.map fun m => m.f0).Nodup → ((os.foldl doN l).map fun m => m.f0).Nodup
  | [], _, hd => hd
  | o :: os, _, hd => fold_nodup os (doN_nodup o hd)
theorem fold_length : ∀ (os : List Opn) (l : List Nod), (os.foldl doN l).length ≤ l.length + creates os
  | [], l => by simp [creates]
  | o :: os, l => by
    have h1 := fold_length os (doN l o)
    have h2 := doN_length l o
    have h3 : creates (o :: os) = (if o.f0 = 1 then 1 else 0) + creates os := by
      unfold creates
      rw [List.filter_cons]
      by_cases h : o.f0 = 1
      · rw [if_pos (by simp [h]), if_pos h, List.length_cons]; omega
      · rw [if_neg (by simp [h]), if_neg h]; omega
    rw [List.foldl_cons, h3]
    omega
/-- How many operations stand up to a stamp. -/
def upN (l : List Opn) (s : Stp) : Nat := (l.takeWhile fun o => !lessB s o.f1).length
noncomputable def compT (T : Tr) (s : Stp) : Tr :=
  ⟨(T.ops.take (upN T.ops s)).foldl doN T.fixed, T.now, T.ops.drop (upN T.ops s), if lessB T.base s = true then s else T.base⟩
theorem upN_le (l : List Opn) (s : Stp) : upN l s ≤ l.length := by
  unfold upN
  induction l with
  | nil => exact Nat.le_refl _
  | cons x l ih =>
    rw [List.takeWhile_cons]
    split <;> simp only [List.length_cons, List.length_nil] <;> omega
theorem upN_at : ∀ (l : List Opn) (s : Stp) (k : Nat) (h : k < l.length), k ≤ upN l s → (lessB s l[k].f1 = false ↔ k < upN l s)
  | [], _, _, h, _ => by simp at h
  | x :: l, s, k, h, hk => by
    unfold upN at hk ⊢
    rw [List.takeWhile_cons] at hk ⊢
    cases hb : lessB s x.f1 with
    | true =>
      rw [hb] at hk
      simp only [Bool.not_true, Bool.false_eq_true, if_false, List.length_nil] at hk ⊢
      obtain rfl : k = 0 := by omega
      simp [hb]
    | false =>
      rw [hb] at hk
      simp only [Bool.not_false, if_true, List.length_cons] at hk ⊢
      cases k with
      | zero => simp [hb]
      | succ k =>
        have := upN_at l s k (by simpa using h) (by unfold upN; omega)
        rw [List.getElem_cons_succ]
        unfold upN at this
        rw [this]; omega
theorem creates_split (l : List Opn) (k : Nat) : creates l = creates (l.take k) + creates (l.drop k) := by
  unfold creates
  rw [← List.length_append, ← List.filter_append, List.take_append_drop]
end Go.Proofs.YtiffeljmeahmkaaDoor.S
