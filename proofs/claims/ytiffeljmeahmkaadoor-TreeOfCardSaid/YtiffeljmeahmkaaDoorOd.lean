/- The order in which operations come does not matter: plain laws. -/
import Derived.Test.YtiffeljmeahmkaaDoorOb
import Derived.Test.YtiffeljmeahmkaaDoorSx5
namespace Go.Proofs.YtiffeljmeahmkaaDoor.S
open Go.RowKit Go.Proofs.YtiffeljmeahmkaaDoorW.PrintWords Go.Proofs.YtiffeljmeahmkaaDoorW.PrintLast Go.Proofs.YtiffeljmeahmkaaDoorW.PrintMore
set_option linter.unusedVariables false
set_option linter.unusedSimpArgs false
/-- Two lists in strict order that hold the same are the same. -/
theorem pw_ext {α : Type} {R : α → α → Prop} (has : ∀ a b, R a b → R b a → False) : ∀ (a b : List α), a.Pairwise R → b.Pairwise R → (∀ x, x ∈ a ↔ x ∈ b) → a = b
  | [], [], _, _, _ => rfl
  | [], y :: b, _, _, h => absurd ((h y).2 (List.mem_cons_self ..)) (by simp)
  | x :: a, [], _, _, h => absurd ((h x).1 (List.mem_cons_self ..)) (by simp)
  | x :: a, y :: b, ha, hb, h => by
    have ha := List.pairwise_cons.1 ha
    have hb := List.pairwise_cons.1 hb
    have e : x = y := by
      rcases List.mem_cons.1 ((h x).1 (List.mem_cons_self ..)) with e | hx
      · exact e
      · rcases List.mem_cons.1 ((h y).2 (List.mem_cons_self ..)) with e | hy
        · exact e.symm
        · exact (has _ _ (ha.1 y hy) (hb.1 x hx)).elim
    subst e
    rw [pw_ext has a b ha.2 hb.2 (fun z => ⟨fun hz => ?_, fun hz => ?_⟩)]
    · rcases List.mem_cons.1 ((h z).1 (List.mem_cons_of_mem _ hz)) with rfl | hz'
      · exact (has _ _ (ha.1 z hz) (ha.1 z hz)).elim
      · exact hz'
    · rcases List.mem_cons.1 ((h z).2 (List.mem_cons_of_mem _ hz)) with rfl | hz'
      · exact (has _ _ (hb.1 z hz) (hb.1 z hz)).elim
      · exact hz'
theorem less_asym (a b : Stp) (h : lessB a b = true) (h' : lessB b a = true) : False := by
  have := less_trans h h'
  rw [less_irr] at this
  cases this
theorem sorted_ext {a b : List Opn} (ha : Sorted a) (hb : Sorted b) (h : ∀ x, x ∈ a ↔ x ∈ b) : a = b := pw_ext (fun x y => less_asym x.f1 y.f1) a b ha hb h
theorem sorted_nodup {a : List Opn} (h : Sorted a) : a.Nodup := by
  refine List.Pairwise.imp ?_ h
  intro x y hxy e
  subst e
  rw [less_irr] at hxy
  cases hxy
/-- What the check answers. -/
def chk (o : Opn) : Int := (tree_Check.f 40 o.f0 o.f1.f0 o.f1.f1 o.f2.f0 o.f2.f1 o.f3.f0 o.f3.f1 o.f4 o.f5).getD 1
/-- An operation that a tree of nothing takes. -/
def acc (o : Opn) : Prop := chk o = 0 ∧ lessB St0 o.f1 = true
/-- Operations of one stamp are the same. -/
def OneEach (l : List Opn) : Prop := ∀ x ∈ l, ∀ y ∈ l, x.f1 = y.f1 → x = y
theorem isIn_mem {l : List Opn} {s : Stp} (h : isIn l s = true) : ∃ y ∈ l, y.f1 = s := by
  unfold isIn found at h
  simp only [Bool.and_eq_true] at h
  obtain ⟨h1, h2⟩ := h
  have h1 := of_decide_eq_true h1
  rw [rd_at l _ h1] at h2
  exact ⟨_, List.getElem_mem h1, eqS_iff.1 h2⟩
/-- A tree that began with nothing, when the operations of P (all of them out of l) have come. -/
structure Came (l : List Opn) (P : Opn → Prop) (T : Tr) : Prop where
  fresh : Fresh T
  mem : ∀ x, x ∈ T.ops ↔ P x ∧ acc x
theorem Came.few {l : List Opn} {P : Opn → Prop} {T : Tr} (h : Came l P T) (hl : ∀ x, P x → x ∈ l) : T.ops.length ≤ l.length :=
  sub_len T.ops l (sorted_nodup h.fresh.good.srt) (fun x hx => hl x ((h.mem x).1 hx).1)
theorem Came.step {l : List Opn} {P : Opn → Prop} {T T' : Tr} (h : Came l P T) (hl : ∀ x, P x → x ∈ l) (h1 : OneEach l) (hn : l.length ≤ 500) {o : Opn} (ho : o ∈ l) (hf : chk o = 0 → Fine o) (hg : Good T') (e1 : T'.fixed = T.fixed) (e2 : T'.base = T.base) (e3 : T'.ops = (putO T o (chk o)).1) : Came l (fun x => x = o ∨ P x) T' := by
  refine ⟨h.fresh.step hf hg e1 e2 e3, fun x => ?_⟩
  rw [e3]
  have hlen := h.few hl
  have hfull : fullB T o = false := by
    have := creates_le T.ops
    unfold fullB
    rw [h.fresh.fixed, decide_eq_false (show ¬ 512 ≤ T.ops.length by omega), decide_eq_false (show ¬ 512 ≤ ([] : List Nod).length + creates T.ops by simp; omega)]
    simp
  unfold putO
  rw [hfull, h.fresh.base]
  by_cases ha : (chk o == 0 && lessB St0 o.f1) = false
  · rw [if_pos ha]
    show x ∈ T.ops ↔ _
    rw [h.mem]
    constructor
    · rintro ⟨a, b⟩; exact ⟨.inr a, b⟩
    · rintro ⟨rfl | a, b⟩
      · exfalso
        obtain ⟨b1, b2⟩ := b
        rw [b1, b2] at ha
        simp at ha
      · exact ⟨a, b⟩
  · rw [if_neg ha]
    have hacc : acc o := by
      simp at ha
      exact ha
    by_cases hi : isIn T.ops o.f1 = true
    · rw [if_pos hi]
      show x ∈ T.ops ↔ _
      obtain ⟨y, hy, e⟩ := isIn_mem hi
      have hyo : y = o := h1 y (hl y ((h.mem y).1 hy).1) o ho e
      subst hyo
      rw [h.mem]
      constructor
      · rintro ⟨a, b⟩; exact ⟨.inr a, b⟩
      · rintro ⟨rfl | a, b⟩
        · exact (h.mem _).1 hy
        · exact ⟨a, b⟩
    · rw [if_neg hi, if_neg (by simp)]
      show x ∈ insO T.ops o ↔ _
      rw [insO_mem, h.mem]
      constructor
      · rintro (rfl | ⟨a, b⟩)
        · exact ⟨.inl rfl, hacc⟩
        · exact ⟨.inr a, b⟩
      · rintro ⟨rfl | a, b⟩
        · exact .inl rfl
        · exact .inr ⟨a, b⟩
/-- The same operations: the same tree. -/
theorem Came.same {l : List Opn} {P Q : Opn → Prop} {T U : Tr} (h : Came l P T) (h' : Came l Q U) (hpq : ∀ x, P x ↔ Q x) : T.ops = U.ops ∧ T.now = U.now := by
  have e : T.ops = U.ops := sorted_ext h.fresh.good.srt h'.fresh.good.srt (fun x => by rw [h.mem, h'.mem, hpq])
  exact ⟨e, by rw [h.fresh.now, h'.fresh.now, e]⟩
theorem ord_ext {a b now : List Nod} (ha : a.Perm now) (hb : b.Perm now) (oa : OrdN a) (ob : OrdN b) (hn : (now.map fun n => n.f0).Nodup) : a = b := by
  have pw : ∀ {c : List Nod}, c.Perm now → OrdN c → c.Pairwise fun x y => lessB x.f0 y.f0 = true := by
    intro c hc oc
    refine List.pairwise_iff_getElem.2 (fun i j hi hj hij => ?_)
    have := oc.strict ((hc.map _).nodup_iff.2 hn) hij hj
    rwa [getElem!_pos c i hi, getElem!_pos c j hj] at this
  exact pw_ext (fun x y => less_asym x.f0 y.f0) a b (pw ha oa) (pw hb ob) (fun x => by rw [ha.mem_iff, hb.mem_iff])
theorem sameNodes_self (l : List Nod) (hl : l.length ≤ 1000000) : ∃ k, samphireref11_SameNodes.f k l l = some true := by
  have h : ∀ (n i : Nat), n + i = l.length → samphireref11_SameNodes.l0 (n + 1) l l i = some true := by
    intro n
    induction n with
    | zero =>
      intro i hi
      unfold samphireref11_SameNodes.l0
      rw [if_neg (by omega)]
    | succ n ih =>
      intro i hi
      unfold samphireref11_SameNodes.l0
      rw [if_pos (by omega), if_pos (by omega), if_pos (by omega), show wrap64 ((i : Int) + 1) = ((i + 1 : Nat) : Int) by unfold wrap64; omega, ih (i + 1) (by omega)]
      simp
  refine ⟨l.length + 1, ?_⟩
  unfold samphireref11_SameNodes.f
  rw [if_pos rfl]
  exact h l.length 0 (by omega)
theorem sameOps_self (l : List Opn) (hl : l.length ≤ 1000000) : ∃ k, samphireref11_SameOps.f k l l = some true := by
  have h : ∀ (n i : Nat), n + i = l.length → samphireref11_SameOps.l0 (n + 1) l l i = some true := by
    intro n
    induction n with
    | zero =>
      intro i hi
      unfold samphireref11_SameOps.l0
      rw [if_neg (by omega)]
    | succ n ih =>
      intro i hi
      unfold samphireref11_SameOps.l0
      rw [if_pos (by omega), if_pos (by omega), if_pos (by omega), show wrap64 ((i : Int) + 1) = ((i + 1 : Nat) : Int) by unfold wrap64; omega, ih (i + 1) (by omega)]
      simp
  refine ⟨l.length + 1, ?_⟩
  unfold samphireref11_SameOps.f
  rw [if_pos rfl]
  exact h l.length 0 (by omega)
end Go.Proofs.YtiffeljmeahmkaaDoor.S
