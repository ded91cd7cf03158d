/- Nodes whose parents lead to the root: how far; what a tree of checked operations is. Plain laws. -/
import Derived.Test.YtiffeljmeahmkaaDoorOa
namespace Go.Proofs.YtiffeljmeahmkaaDoor.S
open Go.RowKit Go.Proofs.YtiffeljmeahmkaaDoorW.PrintWords Go.Proofs.YtiffeljmeahmkaaDoorW.PrintLast Go.Proofs.YtiffeljmeahmkaaDoorW.PrintMore
set_option linter.unusedVariables false
set_option linter.unusedSimpArgs false
/-- Parents lead outside in just k steps. -/
def exact_ (l : List Nod) (k : Nat) (s : Stp) : Prop := root l k s = true ∧ ∀ j, j < k → root l j s = false
theorem exact_one {l : List Nod} {s : Stp} {a b : Nat} (h : exact_ l a s) (h' : exact_ l b s) : a = b := by
  rcases Nat.lt_trichotomy a b with hl | hl | hl
  · have := h'.2 a hl
    rw [h.1] at this
    cases this
  · exact hl
  · have := h.2 b hl
    rw [h'.1] at this
    cases this
theorem exact_of {l : List Nod} {s : Stp} : ∀ k, root l k s = true → ∃ j, j ≤ k ∧ exact_ l j s := by
  intro k
  induction k with
  | zero => intro h; exact ⟨0, Nat.le_refl _, h, fun j hj => absurd hj (by omega)⟩
  | succ k ih =>
    intro h
    by_cases hx : ∃ j, j ≤ k ∧ root l j s = true
    · obtain ⟨j, hj, hr⟩ := hx
      have : root l k s = true := by
        obtain ⟨d, rfl⟩ : ∃ d, k = j + d := ⟨k - j, by omega⟩
        exact root_more d hr
      obtain ⟨i, hi, he⟩ := ih this
      exact ⟨i, by omega, he⟩
    · refine ⟨k + 1, Nat.le_refl _, h, fun j hj => ?_⟩
      cases hr : root l j s with
      | false => rfl
      | true => exact absurd ⟨j, by omega, hr⟩ hx
theorem exact_zero {l : List Nod} {s : Stp} (h : exact_ l 0 s) : outerB s = true := h.1
theorem exact_succ {l : List Nod} {s : Stp} {k : Nat} (h : exact_ l (k + 1) s) : outerB s = false ∧ exact_ l k (look l s).f1 := by
  have h0 : outerB s = false := h.2 0 (by omega)
  refine ⟨h0, ?_, fun j hj => ?_⟩
  · have := h.1
    simp only [root, h0, Bool.false_or] at this
    exact this
  · have := h.2 (j + 1) (by omega)
    simp only [root, h0, Bool.false_or] at this
    exact this
theorem exact_path {l : List Nod} (hr : Rooted l) : ∀ (k : Nat) (s : Stp), exact_ l k s → (has l s || outerB s) = true → ∃ ps : List Stp, ps.length = k ∧ ps.Nodup ∧ ∀ p ∈ ps, has l p = true ∧ ∃ j, j ≤ k ∧ 1 ≤ j ∧ exact_ l j p
  | 0, s, h, hs => ⟨[], rfl, List.nodup_nil, fun p hp => by simp at hp⟩
  | k + 1, s, h, hs => by
    obtain ⟨h0, h1⟩ := exact_succ h
    have hh : has l s = true := by rw [h0, Bool.or_false] at hs; exact hs
    obtain ⟨ps, e1, e2, e3⟩ := exact_path hr k _ h1 (hr.par _ (look_mem hh).1)
    refine ⟨s :: ps, by simp [e1], List.nodup_cons.2 ⟨fun hm => ?_, e2⟩, fun p hp => ?_⟩
    · obtain ⟨_, j, hj, _, he⟩ := e3 s hm
      have := exact_one h he
      omega
    · rcases List.mem_cons.1 hp with rfl | hp
      · exact ⟨hh, k + 1, Nat.le_refl _, by omega, h⟩
      · obtain ⟨a, j, hj, hj1, he⟩ := e3 p hp
        exact ⟨a, j, by omega, hj1, he⟩
theorem sub_len {α : Type} : ∀ (ps l : List α), ps.Nodup → (∀ p ∈ ps, p ∈ l) → ps.length ≤ l.length
  | [], l, _, _ => by simp
  | p :: ps, l, h, hs => by
    obtain ⟨a, b, rfl⟩ := List.append_of_mem (hs p (List.mem_cons_self ..))
    have hn := List.nodup_cons.1 h
    have := sub_len ps (a ++ b) hn.2 (fun x hx => by
      have h1 := hs x (List.mem_cons_of_mem _ hx)
      simp only [List.mem_append, List.mem_cons] at h1 ⊢
      rcases h1 with h1 | h1 | h1
      · exact .inl h1
      · subst h1; exact absurd hx hn.1
      · exact .inr h1)
    simp at this ⊢
    omega
/-- No more steps than nodes. -/
theorem exact_le {l : List Nod} (hr : Rooted l) {k : Nat} {s : Stp} (h : exact_ l k s) (hs : (has l s || outerB s) = true) : k ≤ l.length := by
  obtain ⟨ps, e1, e2, e3⟩ := exact_path hr k s h hs
  have := sub_len ps (l.map fun n => n.f0) e2 (fun p hp => by
    obtain ⟨hm, he⟩ := look_mem (e3 p hp).1
    exact List.mem_map.2 ⟨_, hm, he⟩)
  rw [e1, List.length_map] at this
  exact this
theorem exact_is {l : List Nod} (hr : Rooted l) {s : Stp} (hs : (has l s || outerB s) = true) : ∃ k, k ≤ l.length ∧ exact_ l k s := by
  obtain ⟨k, hk⟩ := hr.rt s
  obtain ⟨j, _, hj⟩ := exact_of k hk
  exact ⟨j, exact_le hr hj hs, hj⟩
/-- What a tree of a law has that began with nothing: its operations are l. -/
structure Fresh (T : Tr) : Prop where
  good : Good T
  fixed : T.fixed = []
  base : T.base = St0
  fine : ∀ o ∈ T.ops, Fine o
theorem Fresh.now {T : Tr} (h : Fresh T) : T.now = T.ops.foldl doN [] := by
  obtain ⟨l0, hp, he⟩ := h.good.now
  rw [h.fixed] at hp
  obtain rfl := List.Perm.eq_nil hp
  exact he
theorem putO_mem {T : Tr} {o : Opn} {r : Int} {x : Opn} (h : x ∈ (putO T o r).1) : x ∈ T.ops ∨ (x = o ∧ r = 0) := by
  unfold putO at h
  split at h
  · exact .inl h
  · rename_i h1
    split at h
    · exact .inl h
    · split at h
      · exact .inl h
      · rcases (insO_mem T.ops o x).1 h with rfl | h
        · refine .inr ⟨rfl, ?_⟩
          simp at h1
          exact h1.1
        · exact .inl h
theorem Fresh.step {T T' : Tr} (h : Fresh T) {o : Opn} {r : Int} (hr : r = 0 → Fine o) (hg : Good T') (h1 : T'.fixed = T.fixed) (h2 : T'.base = T.base) (h3 : T'.ops = (putO T o r).1) : Fresh T' :=
  ⟨hg, h1.trans h.fixed, h2.trans h.base, fun x hx => by
    rw [h3] at hx
    rcases putO_mem hx with hx | ⟨rfl, e⟩
    · exact h.fine x hx
    · exact hr e⟩
theorem now_nodup {T : Tr} (h : Good T) : (T.now.map fun n => n.f0).Nodup := by
  obtain ⟨l0, hp, he⟩ := h.now
  rw [he]
  exact fold_nodup _ ((hp.map _).nodup_iff.2 h.nd)
theorem now_len {T : Tr} (h : Good T) : T.now.length ≤ 512 := by
  obtain ⟨l0, hp, he⟩ := h.now
  have := fold_length T.ops l0
  rw [he]
  have h2 := h.fl
  rw [hp.length_eq] at this
  omega
/-- Nodes in order, of stamps of their own, stand in strict order. -/
theorem OrdN.strict {l : List Nod} (h : OrdN l) (hn : (l.map fun n => n.f0).Nodup) {i j : Nat} (hij : i < j) (hj : j < l.length) : lessB (l[i]!).f0 (l[j]!).f0 = true := by
  have h1 := h i j hij hj
  rcases less_or _ _ h1 with e | e
  · exfalso
    have e := eqS_iff.1 e
    rw [getElem!_pos l j hj, getElem!_pos l i (by omega)] at e
    have := List.pairwise_iff_getElem.1 hn i j (by simp; omega) (by simpa using hj) hij
    simp only [List.getElem_map] at this
    exact this e.symm
  · exact e
theorem ref10_less (a b : Stp) : samphireref10_Less.f a.f0 a.f1 b.f0 b.f1 = some (lessB a b) := by
  unfold samphireref10_Less.f lessB
  by_cases h1 : a.f0 < b.f0
  · rw [if_pos h1, if_neg (by omega), decide_eq_true h1]
  · rw [if_neg h1]
    by_cases h2 : a.f0 = b.f0
    · rw [if_pos h2, if_pos h2]
    · rw [if_neg h2, if_neg h2, decide_eq_false h1]
theorem rdN_at (l : List Nod) (i : Nat) (h : i < l.length) : rd_T36 l (i : Int) = l[i]! := by
  unfold rd_T36
  rw [getElem!_pos l i h]
  simp [List.getD, h]
/-- A row of nodes, as one reads it. -/
theorem NodesAt.reads {w : World} {B : Nat} {v : Value} {l : List Nod} (h : NodesAt w B v l) : ∃ A c, v = .slice A l.length c ∧ l.length ≤ c ∧ Kd.C k36 w A l.length l := by
  rcases h.2 with ⟨rfl, h0⟩ | ⟨q, c, cur, rfl, hB, hc, hle, hm, hs, ht⟩
  · obtain rfl : l = [] := List.eq_nil_of_length_eq_zero h0
    exact ⟨none, 0, rfl, Nat.le_refl _, rfl, by simp, fun h => absurd h (by simp)⟩
  · refine ⟨some ⟨q, 0, none⟩, c, rfl, hle, rfl, by unfold maxLen at hm; omega, fun _ => ⟨_, rfl, fun j p hj => ⟨nodC p, rfl, k36_mk w p, fun i u hu => ?_⟩⟩⟩
    obtain ⟨hj1, rfl⟩ := List.getElem?_eq_some_iff.1 hj
    have hi : i < 6 := (List.getElem?_eq_some_iff.1 hu).1
    have hf := flatN_get l (j * 6 + i) (by omega)
    rw [show (j * 6 + i) / 6 = j by omega, show (j * 6 + i) % 6 = i by omega, getElem!_pos l j hj1] at hf
    show w.cell? ((⟨q, 0, none⟩ : Addr).add (j * 6 + i)) = some u
    rw [show (⟨q, 0, none⟩ : Addr).add (j * 6 + i) = ⟨q, j * 6 + i, none⟩ by unfold Addr.add; split <;> simp_all, blk_cell hc]
    rw [← ht, List.getElem?_take_of_lt (by omega)] at hf
    rw [List.getElem?_eq_getElem hi] at hu
    rw [getElem!_pos _ i hi, Option.some.inj hu] at hf
    simpa using hf
end Go.Proofs.YtiffeljmeahmkaaDoor.S
