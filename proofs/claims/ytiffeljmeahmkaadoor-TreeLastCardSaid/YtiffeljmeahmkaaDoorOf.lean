/- What is for good may be made so whenever: plain laws. -/
import Derived.Test.YtiffeljmeahmkaaDoorOd
namespace Go.Proofs.YtiffeljmeahmkaaDoor.S
open Go.RowKit Go.Proofs.YtiffeljmeahmkaaDoorW.PrintWords Go.Proofs.YtiffeljmeahmkaaDoorW.PrintLast Go.Proofs.YtiffeljmeahmkaaDoorW.PrintMore
set_option linter.unusedVariables false
set_option linter.unusedSimpArgs false
theorem isIn_of {l : List Opn} (hs : Sorted l) {s : Stp} {y : Opn} (hy : y ∈ l) (he : y.f1 = s) : isIn l s = true := by
  obtain ⟨k, hk, rfl⟩ := List.getElem_of_mem hy
  have hr := ranked l s hs
  have hk1 : ¬ k < rank l s := by
    intro h
    have := hr k hk
    rw [he, less_irr, decide_eq_true h] at this
    cases this
  have hkr : k = rank l s := by
    by_cases h : rank l s < k
    · exfalso
      have h1 : lessB (l[rank l s]'(by omega)).f1 l[k].f1 = true := List.pairwise_iff_getElem.1 hs _ _ (by omega) hk h
      rw [he] at h1
      have := hr (rank l s) (by omega)
      rw [h1, decide_eq_false (by omega)] at this
      cases this
    · omega
  unfold isIn found
  rw [← hkr, decide_eq_true hk, rd_at l k hk, he]
  exact (eqS_iff.2 rfl : eqS s s = true)
theorem isIn_iff {l : List Opn} (hs : Sorted l) (s : Stp) : isIn l s = true ↔ ∃ y ∈ l, y.f1 = s :=
  ⟨isIn_mem, fun ⟨y, hy, he⟩ => isIn_of hs hy he⟩
theorem rank_app {p l : List Opn} {s : Stp} (h : ∀ x ∈ p, lessB x.f1 s = true) : rank (p ++ l) s = p.length + rank l s := by
  induction p with
  | nil => simp
  | cons x p ih =>
    have := ih (fun y hy => h y (List.mem_cons_of_mem _ hy))
    unfold rank at this ⊢
    rw [List.cons_append, List.takeWhile_cons, if_pos (h x (List.mem_cons_self ..)), List.length_cons, this, List.length_cons]
    omega
theorem insO_app {p l : List Opn} {o : Opn} (h : ∀ x ∈ p, lessB x.f1 o.f1 = true) : insO (p ++ l) o = p ++ insO l o := by
  unfold insO
  rw [rank_app h, List.take_append, List.drop_append, List.take_of_length_le (by omega), List.drop_eq_nil_of_le (by omega)]
  simp
theorem isIn_app {p l : List Opn} {s : Stp} (hs : Sorted (p ++ l)) (h : ∀ x ∈ p, lessB x.f1 s = true) : isIn (p ++ l) s = isIn l s := by
  have hl : Sorted l := (List.pairwise_append.1 hs).2.1
  have e : isIn (p ++ l) s = true ↔ isIn l s = true := by
    rw [isIn_iff hs, isIn_iff hl]
    constructor
    · rintro ⟨y, hy, he⟩
      rcases List.mem_append.1 hy with hy | hy
      · have := h y hy
        rw [he, less_irr] at this
        cases this
      · exact ⟨y, hy, he⟩
    · rintro ⟨y, hy, he⟩
      exact ⟨y, List.mem_append.2 (.inr hy), he⟩
  cases h1 : isIn l s with
  | true => exact e.2 h1
  | false =>
    cases h2 : isIn (p ++ l) s with
    | false => rfl
    | true => rw [e.1 h2] at h1; cases h1
theorem putO_len (T : Tr) (o : Opn) (r : Int) : (putO T o r).1.length ≤ T.ops.length + 1 := by
  unfold putO
  repeat' split
  all_goals (try (show T.ops.length ≤ _); omega)
  show (insO T.ops o).length ≤ _
  rw [insO_length]
  exact Nat.le_refl _
/-- Two trees of a law, to which the same has come: operations of times up to 1000. -/
structure Twin (n : Nat) (T U : Tr) : Prop where
  a : Good T
  b : Good U
  fa : T.fixed = []
  fb : U.fixed = []
  ba : T.base = St0
  bb : U.base = St0
  ops : T.ops = U.ops
  len : T.ops.length ≤ n
  low : ∀ x ∈ T.ops, x.f1.f0 ≤ 1000
theorem twin_new : Twin 0 ⟨[], [], [], St0⟩ ⟨[], [], [], St0⟩ := ⟨good_new, good_new, rfl, rfl, rfl, rfl, rfl, Nat.le_refl _, fun x hx => by simp at hx⟩
theorem Twin.put {n : Nat} {T U : Tr} (h : Twin n T U) (o : Opn) (r : Int) : putO U o r = putO T o r := by
  unfold putO fullB
  rw [h.fa, h.fb, h.ba, h.bb, h.ops]
theorem Twin.step {n : Nat} {T U T' U' : Tr} (h : Twin n T U) {o : Opn} {r : Int} (hlow : o.f1.f0 ≤ 1000) (hg : Good T') (e1 : T'.fixed = T.fixed) (e2 : T'.base = T.base) (e3 : T'.ops = (putO T o r).1) (hg' : Good U') (d1 : U'.fixed = U.fixed) (d2 : U'.base = U.base) (d3 : U'.ops = (putO U o r).1) : Twin (n + 1) T' U' :=
  ⟨hg, hg', e1.trans h.fa, d1.trans h.fb, e2.trans h.ba, d2.trans h.bb, by rw [e3, d3, h.put], by rw [e3]; have := putO_len T o r; have := h.len; omega, fun x hx => by
    rw [e3] at hx
    rcases putO_mem hx with hx | ⟨rfl, _⟩
    · exact h.low x hx
    · exact hlow⟩
/-- Two trees of a law: of the one the first operations, p, have been made for good. -/
structure Part (n : Nat) (s : Stp) (p : List Opn) (T U : Tr) : Prop where
  a : Good T
  b : Good U
  fa : T.fixed = []
  fb : U.fixed = p.foldl doN []
  ba : T.base = St0
  bb : U.base = s
  ops : T.ops = p ++ U.ops
  len : T.ops.length ≤ n
  low : ∀ x ∈ p, x.f1.f0 ≤ 1000
theorem Twin.part {n : Nat} {T U : Tr} (h : Twin n T U) {s : Stp} (hs : 1 ≤ s.f0) : ∃ p, Part n s p T (comped U s true).1 := by
  refine ⟨U.ops.take (upN U.ops s), h.a, Good.comp h.b s, h.fa, ?_, h.ba, ?_, ?_, h.len, fun x hx => h.low x (by rw [h.ops]; exact List.mem_of_mem_take hx)⟩
  · show (U.ops.take (upN U.ops s)).foldl doN U.fixed = _
    rw [h.fb]
  · show (if lessB U.base s = true then s else U.base) = s
    rw [h.bb, if_pos]
    rw [lessB_iff]
    left
    show (0 : Int) < s.f0
    omega
  · show T.ops = U.ops.take (upN U.ops s) ++ U.ops.drop (upN U.ops s)
    rw [List.take_append_drop, h.ops]
section
variable {n : Nat} {s : Stp} {p : List Opn} {T U : Tr}
theorem Part.fullA (h : Part n s p T U) (hn : n ≤ 500) (o : Opn) : fullB T o = false := by
  have := creates_le T.ops
  have := h.len
  unfold fullB
  rw [h.fa, decide_eq_false (show ¬ 512 ≤ T.ops.length by omega), decide_eq_false (show ¬ 512 ≤ ([] : List Nod).length + creates T.ops by simp; omega)]
  simp
theorem Part.fullB (h : Part n s p T U) (hn : n ≤ 500) (o : Opn) : S.fullB U o = false := by
  have h1 := creates_le T.ops
  have h2 := h.len
  have h3 := fold_length p []
  have h4 : creates T.ops = creates p + creates U.ops := by
    rw [h.ops]
    unfold creates
    rw [List.filter_append, List.length_append]
  have h5 : U.ops.length ≤ T.ops.length := by rw [h.ops, List.length_append]; omega
  unfold S.fullB
  rw [h.fb, decide_eq_false (show ¬ 512 ≤ U.ops.length by omega), decide_eq_false (show ¬ 512 ≤ (p.foldl doN []).length + creates U.ops by simp at h3; omega)]
  simp
theorem Part.ahead (h : Part n s p T U) {o : Opn} (ho : 1001 ≤ o.f1.f0) : ∀ x ∈ p, lessB x.f1 o.f1 = true := fun x hx => by
  rw [lessB_iff]
  left
  have := h.low x hx
  omega
/-- Both answer the same. -/
theorem Part.put (h : Part n s p T U) (hn : n ≤ 500) (hs : s.f0 ≤ 1000) {o : Opn} (ho : 1001 ≤ o.f1.f0) (r : Int) : (putO U o r).2 = (putO T o r).2 ∧ (putO T o r).1 = p ++ (putO U o r).1 := by
  have hl := h.ahead ho
  have hb1 : lessB T.base o.f1 = true := by rw [h.ba, lessB_iff]; left; show (0 : Int) < o.f1.f0; omega
  have hb2 : lessB U.base o.f1 = true := by rw [h.bb, lessB_iff]; left; omega
  have hi : isIn T.ops o.f1 = isIn U.ops o.f1 := by
    rw [h.ops]
    exact isIn_app (by rw [← h.ops]; exact h.a.srt) hl
  unfold putO
  rw [hb1, hb2, h.fullA hn, h.fullB hn, hi]
  cases (r == 0) with
  | false => exact ⟨rfl, h.ops⟩
  | true =>
    cases isIn U.ops o.f1 with
    | true => exact ⟨rfl, h.ops⟩
    | false =>
      refine ⟨rfl, ?_⟩
      show insO T.ops o = p ++ insO U.ops o
      rw [h.ops, insO_app hl]
theorem Part.step {T' U' : Tr} (h : Part n s p T U) (hn : n ≤ 500) (hs : s.f0 ≤ 1000) {o : Opn} (ho : 1001 ≤ o.f1.f0) {r : Int} (hg : Good T') (e1 : T'.fixed = T.fixed) (e2 : T'.base = T.base) (e3 : T'.ops = (putO T o r).1) (hg' : Good U') (d1 : U'.fixed = U.fixed) (d2 : U'.base = U.base) (d3 : U'.ops = (putO U o r).1) : Part (n + 1) s p T' U' :=
  ⟨hg, hg', e1.trans h.fa, d1.trans h.fb, e2.trans h.ba, d2.trans h.bb, by rw [e3, d3, (h.put hn hs ho r).2], by rw [e3]; have := putO_len T o r; have := h.len; omega, h.low⟩
theorem Part.more (h : Part n s p T U) : Part (n + 1) s p T U := ⟨h.a, h.b, h.fa, h.fb, h.ba, h.bb, h.ops, Nat.le_succ_of_le h.len, h.low⟩
theorem Twin.more (h : Twin n T U) : Twin (n + 1) T U := ⟨h.a, h.b, h.fa, h.fb, h.ba, h.bb, h.ops, Nat.le_succ_of_le h.len, h.low⟩
/-- Both have the same nodes. -/
theorem Part.now (h : Part n s p T U) : U.now.Perm T.now := by
  obtain ⟨l0, hp, he⟩ := h.a.now
  rw [h.fa] at hp
  obtain rfl := List.Perm.eq_nil hp
  obtain ⟨l1, hp1, he1⟩ := h.b.now
  rw [he, he1, h.ops, List.foldl_append]
  rw [h.fb] at hp1
  exact fold_perm _ hp1 (fold_nodup _ (by simp))
theorem Part.count (h : Part n s p T U) : U.ops.length ≤ T.ops.length := by rw [h.ops, List.length_append]; omega
end
end Go.Proofs.YtiffeljmeahmkaaDoor.S
