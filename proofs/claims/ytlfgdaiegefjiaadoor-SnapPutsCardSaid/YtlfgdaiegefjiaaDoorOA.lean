/- Operations as arguments: few of them; what the check says of any. Plain laws. -/
import Derived.Test.YtlfgdaiegefjiaaDoorSA
import Derived.Test.YtlfgdaiegefjiaaDoorSx14
import Derived.Test.YtlfgdaiegefjiaaDoorSx4
import Derived.Test.YtlfgdaiegefjiaaDoorSx6
import Derived.Test.YtlfgdaiegefjiaaDoorMK
import Derived.Test.YtlfgdaiegefjiaaDoorSx8
import Derived.Test.YtlfgdaiegefjiaaDoorSx5
namespace Go.Proofs.YtlfgdaiegefjiaaDoor.S
open Go.RowKit Go.Proofs.YtlfgdaiegefjiaaDoorW.PrintWords Go.Proofs.YtlfgdaiegefjiaaDoorW.PrintLast Go.Proofs.YtlfgdaiegefjiaaDoorW.PrintMore
set_option linter.unusedVariables false
set_option linter.unusedSimpArgs false
def light (o : Opn) : Prop := o.f4.size ≤ 200 ∧ o.f5.size ≤ 200
theorem rd_at (l : List Opn) (i : Nat) (h : i < l.length) : rd_T25 l (i : Int) = l[i] := by
 unfold rd_T25
 simp [List.getD, h]
theorem light_is (o : Opn) : ∃ r, samphireref11_Light.f o.f0 o.f1.f0 o.f1.f1 o.f2.f0 o.f2.f1 o.f3.f0 o.f3.f1 o.f4 o.f5 = some r ∧ (r = true → light o) := by
 unfold samphireref11_Light.f light
 by_cases h1 : (o.f4.size : Int) ≤ 200
 · rw [if_pos h1]
   refine ⟨_, rfl, fun h => ⟨by omega, ?_⟩⟩
   have := of_decide_eq_true h
   omega
 · rw [if_neg h1]
   exact ⟨false, rfl, fun h => by cases h⟩
/-! ### what the check says -/
theorem toL (s : ByteArray) : s.toList = s.data.toList := Lib.toList_data s
theorem prefix_is (s : ByteArray) (h : s.size < 9223372036854775807) : ∃ b, strings_HasPrefix.f s ⟨#[32]⟩ = some b := by
 unfold strings_HasPrefix.f stringslite_HasPrefix.f
 have e1 : (⟨#[32]⟩ : ByteArray).size = 1 := rfl
 rw [e1]
 by_cases h1 : (s.size : Int) ≥ ((1 : Nat) : Int)
 · rw [if_pos h1, if_pos (by omega), if_pos (by omega)]
   exact ⟨_, rfl⟩
 · rw [if_neg h1]
   exact ⟨_, rfl⟩
theorem suffix_is (s : ByteArray) (h : s.size < 9223372036854775807) : ∃ b, strings_HasSuffix.f s ⟨#[32]⟩ = some b := by
 unfold strings_HasSuffix.f stringslite_HasSuffix.f
 have e1 : (⟨#[32]⟩ : ByteArray).size = 1 := rfl
 rw [e1]
 by_cases h1 : (s.size : Int) ≥ ((1 : Nat) : Int)
 · have e2 : wrap64 ((s.size : Int) - ((1 : Nat) : Int)) = ((s.size - 1 : Nat) : Int) := by unfold wrap64; omega
   rw [if_pos h1, e2, if_pos (by omega), if_pos (by omega)]
   exact ⟨_, rfl⟩
 · rw [if_neg h1]
   exact ⟨_, rfl⟩
def fineB (t w : Int) : Bool := decide (1 ≤ t ∧ t ≤ 1099511627775 ∧ 1 ≤ w ∧ w ≤ 6)
theorem clockmay_is (a b : Int) : clock_may.f a b = some (fineB a b) := by
 unfold clock_may.f fineB
 by_cases h1 : a ≥ 1 <;> by_cases h2 : a ≤ 1099511627775 <;> by_cases h3 : b ≥ 1 <;> simp [h1, h2, h3]
theorem fine_is (a b : Int) : tree_fine.f a b = some (fineB a b) := by
 unfold tree_fine.f clock_Check.f
 rw [clockmay_is]
 cases fineB a b <;> rfl
def outB (t w : Int) : Bool := (t == 0 && (w == 0)) || (t == 0 && (w == 1))
theorem outer_is (a b : Int) : tree_outer.f a b = some (outB a b) := by
 unfold tree_outer.f outB
 by_cases h1 : (a == 0 && (b == 0)) = true <;> simp [h1]
def emp (s : ByteArray) : Bool := s.toList == ([] : List UInt8)
def goodB (nb : Bool) (k t1 w1 t2 w2 t3 w3 : Int) (nm v : ByteArray) : Bool :=
 fineB t1 w1 && fineB t2 w2 &&
 (if k = 1 then (t2 == t1 && (w2 == w1)) && nb && (outB t3 w3 || fineB t3 w3) && emp v
  else if k = 2 then (outB t3 w3 || fineB t3 w3) && emp nm && emp v
  else if k = 3 then (t3 == 0 && (w3 == 0)) && nb && emp v
  else if k = 4 then (t3 == 0 && (w3 == 0)) && emp nm && decide ((v.size : Int) ≤ 64)
  else if k = 5 then (t3 == 0 && (w3 == 0)) && emp nm && emp v
  else false)
theorem emp_nil : emp ⟨#[]⟩ = true := by unfold emp; rw [toL]; rfl
set_option maxHeartbeats 2000000 in
theorem check11_is (n : Nat) (nb : Bool) (k t1 w1 t2 w2 t3 w3 : Int) (nm v : ByteArray) (hn : name_Check.f nm = some (if nb = true then 0 else 80)) :
 tree_Check.f (n + 3) k t1 w1 t2 w2 t3 w3 nm v = some (if goodB nb k t1 w1 t2 w2 t3 w3 nm v = true then 0 else 1) := by
 unfold tree_Check.f
 simp only [fine_is, Option.bind_some, tree_Check.j0, tree_Check.j1, tree_Check.j2, outer_is, hn]
 rw [show ∀ s : ByteArray, (s.toList == ([] : List UInt8)) = emp s from fun _ => rfl]
 unfold goodB
 simp only [show ∀ s : ByteArray, (s.toList == ([] : List UInt8)) = emp s from fun _ => rfl, emp_nil]
 generalize fineB t1 w1 = f1
 generalize fineB t2 w2 = f2
 generalize fineB t3 w3 = f3
 generalize outB t3 w3 = o3
 clear hn
 generalize emp nm = en
 generalize emp v = ev
 generalize decide ((v.size : Int) ≤ 64) = lv
 generalize (t3 == 0) = p3
 generalize (w3 == 0) = q3
 generalize (t2 == t1 && (w2 == w1)) = same
 by_cases h1 : k = 1
 · subst h1
   cases f1 <;> cases f2 <;> cases same <;> cases nb <;> cases o3 <;> cases f3 <;> cases ev <;> rfl
 by_cases h3 : k = 3
 · subst h3
   cases f1 <;> cases f2 <;> cases nb <;> cases p3 <;> cases q3 <;> cases ev <;> rfl
 by_cases h4 : k = 4
 · subst h4
   cases f1 <;> cases f2 <;> cases lv <;> cases p3 <;> cases q3 <;> cases en <;> rfl
 by_cases h2 : k = 2
 · subst h2
   cases f1 <;> cases f2 <;> cases o3 <;> cases f3 <;> cases en <;> cases ev <;> rfl
 by_cases h5 : k = 5
 · subst h5
   cases f1 <;> cases f2 <;> cases p3 <;> cases q3 <;> cases en <;> cases ev <;> rfl
 simp only [if_neg h1, if_neg h2, if_neg h3, if_neg h4, if_neg h5]
 have e2 : (k == 2) = false := by simpa using h2
 cases f1 <;> cases f2 <;> simp [e2]
/-- An operation that the check lets by: its stamps are stamps, and what is made has the operation's own. -/
def Fine (o : Opn) : Prop := OpOk o ∧ 1 ≤ o.f1.f0 ∧ 1 ≤ o.f2.f0 ∧ (o.f0 = 1 → o.f2 = o.f1)
theorem good_fine {nb : Bool} {o : Opn} (h : goodB nb o.f0 o.f1.f0 o.f1.f1 o.f2.f0 o.f2.f1 o.f3.f0 o.f3.f1 o.f4 o.f5 = true) : Fine o := by
 unfold goodB at h
 simp only [Bool.and_eq_true] at h
 obtain ⟨⟨h1, h2⟩, h3⟩ := h
 have h1 := of_decide_eq_true h1
 have h2 := of_decide_eq_true h2
 have hk : o.f0 = 1 ∨ o.f0 = 2 ∨ o.f0 = 3 ∨ o.f0 = 4 ∨ o.f0 = 5 := by
  by_cases k1 : o.f0 = 1
  · exact .inl k1
  by_cases k2 : o.f0 = 2
  · exact .inr (.inl k2)
  by_cases k3 : o.f0 = 3
  · exact .inr (.inr (.inl k3))
  by_cases k4 : o.f0 = 4
  · exact .inr (.inr (.inr (.inl k4)))
  by_cases k5 : o.f0 = 5
  · exact .inr (.inr (.inr (.inr k5)))
  rw [if_neg k1, if_neg k2, if_neg k3, if_neg k4, if_neg k5] at h3
  cases h3
 refine ⟨⟨hk, ?_⟩, h1.1, h2.1, fun e => ?_⟩
 · unfold outerB
   have : (o.f2.f0 == 0) = false := beq_eq_false_iff_ne.2 (by omega)
   simp [this]
 · rw [if_pos e] at h3
   simp only [Bool.and_eq_true, beq_iff_eq] at h3
   exact eqS_iff.1 ((eqS_two _ _).2 ⟨h3.1.1.1.1, h3.1.1.1.2⟩)
end Go.Proofs.YtlfgdaiegefjiaaDoor.S
/- Nodes whose parents lead to the root: how far; what a tree of checked operations is. Plain laws. -/
namespace Go.Proofs.YtlfgdaiegefjiaaDoor.S
open Go.RowKit Go.Proofs.YtlfgdaiegefjiaaDoorW.PrintWords Go.Proofs.YtlfgdaiegefjiaaDoorW.PrintLast Go.Proofs.YtlfgdaiegefjiaaDoorW.PrintMore
set_option linter.unusedVariables false
set_option linter.unusedSimpArgs false
/-- Parents lead outside in just k steps. -/
def exact_ (l : List Nod) (k : Nat) (s : Stp) : Prop := root l k s = true ∧ ∀ j, j < k → root l j s = false
theorem exact_one {l : List Nod} {s : Stp} {a b : Nat} (h : exact_ l a s) (h' : exact_ l b s) : a = b := by
 rcases Nat.lt_trichotomy a b with hl | hl | hl
 · have := h'.2 a hl
   rw [h.1] at this
   cases this
 · exact hl
 · have := h.2 b hl
   rw [h'.1] at this
   cases this
theorem exact_of {l : List Nod} {s : Stp} : ∀ k, root l k s = true → ∃ j, j ≤ k ∧ exact_ l j s := by
 intro k
 induction k with
 | zero => intro h; exact ⟨0, Nat.le_refl _, h, fun j hj => absurd hj (by omega)⟩
 | succ k ih =>
  intro h
  by_cases hx : ∃ j, j ≤ k ∧ root l j s = true
  · obtain ⟨j, hj, hr⟩ := hx
    have : root l k s = true := by
     obtain ⟨d, rfl⟩ : ∃ d, k = j + d := ⟨k - j, by omega⟩
     exact root_more d hr
    obtain ⟨i, hi, he⟩ := ih this
    exact ⟨i, by omega, he⟩
  · refine ⟨k + 1, Nat.le_refl _, h, fun j hj => ?_⟩
    cases hr : root l j s with
    | false => rfl
    | true => exact absurd ⟨j, by omega, hr⟩ hx
theorem exact_zero {l : List Nod} {s : Stp} (h : exact_ l 0 s) : outerB s = true := h.1
theorem exact_succ {l : List Nod} {s : Stp} {k : Nat} (h : exact_ l (k + 1) s) : outerB s = false ∧ exact_ l k (look l s).f1 := by
 have h0 : outerB s = false := h.2 0 (by omega)
 refine ⟨h0, ?_, fun j hj => ?_⟩
 · have := h.1
   simp only [root, h0, Bool.false_or] at this
   exact this
 · have := h.2 (j + 1) (by omega)
   simp only [root, h0, Bool.false_or] at this
   exact this
theorem exact_path {l : List Nod} (hr : Rooted l) : ∀ (k : Nat) (s : Stp), exact_ l k s → (has l s || outerB s) = true → ∃ ps : List Stp, ps.length = k ∧ ps.Nodup ∧ ∀ p ∈ ps, has l p = true ∧ ∃ j, j ≤ k ∧ 1 ≤ j ∧ exact_ l j p
 | 0, s, h, hs => ⟨[], rfl, List.nodup_nil, fun p hp => by simp at hp⟩
 | k + 1, s, h, hs => by
  obtain ⟨h0, h1⟩ := exact_succ h
  have hh : has l s = true := by rw [h0, Bool.or_false] at hs; exact hs
  obtain ⟨ps, e1, e2, e3⟩ := exact_path hr k _ h1 (hr.par _ (look_mem hh).1)
  refine ⟨s :: ps, by simp [e1], List.nodup_cons.2 ⟨fun hm => ?_, e2⟩, fun p hp => ?_⟩
  · obtain ⟨_, j, hj, _, he⟩ := e3 s hm
    have := exact_one h he
    omega
  · rcases List.mem_cons.1 hp with rfl | hp
    · exact ⟨hh, k + 1, Nat.le_refl _, by omega, h⟩
    · obtain ⟨a, j, hj, hj1, he⟩ := e3 p hp
      exact ⟨a, j, by omega, hj1, he⟩
theorem sub_len {α : Type} : ∀ (ps l : List α), ps.Nodup → (∀ p ∈ ps, p ∈ l) → ps.length ≤ l.length
 | [], l, _, _ => by simp
 | p :: ps, l, h, hs => by
  obtain ⟨a, b, rfl⟩ := List.append_of_mem (hs p (List.mem_cons_self ..))
  have hn := List.nodup_cons.1 h
  have := sub_len ps (a ++ b) hn.2 (fun x hx => by
   have h1 := hs x (List.mem_cons_of_mem _ hx)
   simp only [List.mem_append, List.mem_cons] at h1 ⊢
   rcases h1 with h1 | h1 | h1
   · exact .inl h1
   · subst h1; exact absurd hx hn.1
   · exact .inr h1)
  simp at this ⊢
  omega
/-- No more steps than nodes. -/
theorem exact_le {l : List Nod} (hr : Rooted l) {k : Nat} {s : Stp} (h : exact_ l k s) (hs : (has l s || outerB s) = true) : k ≤ l.length := by
 obtain ⟨ps, e1, e2, e3⟩ := exact_path hr k s h hs
 have := sub_len ps (l.map fun n => n.f0) e2 (fun p hp => by
  obtain ⟨hm, he⟩ := look_mem (e3 p hp).1
  exact List.mem_map.2 ⟨_, hm, he⟩)
 rw [e1, List.length_map] at this
 exact this
theorem exact_is {l : List Nod} (hr : Rooted l) {s : Stp} (hs : (has l s || outerB s) = true) : ∃ k, k ≤ l.length ∧ exact_ l k s := by
 obtain ⟨k, hk⟩ := hr.rt s
 obtain ⟨j, _, hj⟩ := exact_of k hk
 exact ⟨j, exact_le hr hj hs, hj⟩
/-- What a tree of a law has that began with nothing: its operations are l. -/
structure Fresh (T : Tr) : Prop where
 good : Good T
 fixed : T.fixed = []
 base : T.base = St0
 fine : ∀ o ∈ T.ops, Fine o
theorem Fresh.now {T : Tr} (h : Fresh T) : T.now = T.ops.foldl doN [] := by
 obtain ⟨l0, hp, he⟩ := h.good.now
 rw [h.fixed] at hp
 obtain rfl := List.Perm.eq_nil hp
 exact he
theorem putO_mem {T : Tr} {o : Opn} {r : Int} {x : Opn} (h : x ∈ (putO T o r).1) : x ∈ T.ops ∨ (x = o ∧ r = 0) := by
 unfold putO at h
 split at h
 · exact .inl h
 · rename_i h1
   split at h
   · exact .inl h
   · split at h
     · exact .inl h
     · rcases (insO_mem T.ops o x).1 h with rfl | h
       · refine .inr ⟨rfl, ?_⟩
         simp at h1
         exact h1.1
       · exact .inl h
theorem Fresh.step {T T' : Tr} (h : Fresh T) {o : Opn} {r : Int} (hr : r = 0 → Fine o) (hg : Good T') (h1 : T'.fixed = T.fixed) (h2 : T'.base = T.base) (h3 : T'.ops = (putO T o r).1) : Fresh T' :=
 ⟨hg, h1.trans h.fixed, h2.trans h.base, fun x hx => by
  rw [h3] at hx
  rcases putO_mem hx with hx | ⟨rfl, e⟩
  · exact h.fine x hx
  · exact hr e⟩
/-- Nodes in order, of stamps of their own, stand in strict order. -/
theorem OrdN.strict {l : List Nod} (h : OrdN l) (hn : (l.map fun n => n.f0).Nodup) {i j : Nat} (hij : i < j) (hj : j < l.length) : lessB (l[i]!).f0 (l[j]!).f0 = true := by
 have h1 := h i j hij hj
 rcases less_or _ _ h1 with e | e
 · exfalso
   have e := eqS_iff.1 e
   rw [getElem!_pos l j hj, getElem!_pos l i (by omega)] at e
   have := List.pairwise_iff_getElem.1 hn i j (by simp; omega) (by simpa using hj) hij
   simp only [List.getElem_map] at this
   exact this e.symm
 · exact e
theorem ref10_less (a b : Stp) : samphireref10_Less.f a.f0 a.f1 b.f0 b.f1 = some (lessB a b) := by
 unfold samphireref10_Less.f lessB
 by_cases h1 : a.f0 < b.f0
 · rw [if_pos h1, if_neg (by omega), decide_eq_true h1]
 · rw [if_neg h1]
   by_cases h2 : a.f0 = b.f0
   · rw [if_pos h2, if_pos h2]
   · rw [if_neg h2, if_neg h2, decide_eq_false h1]
theorem rdN_at (l : List Nod) (i : Nat) (h : i < l.length) : rd_T72 l (i : Int) = l[i]! := by
 unfold rd_T72
 rw [getElem!_pos l i h]
 simp [List.getD, h]
/-- A row of nodes, as one reads it. -/
theorem NodesAt.reads {w : World} {B : Nat} {v : Value} {l : List Nod} (h : NodesAt w B v l) : ∃ A c, v = .slice A l.length c ∧ l.length ≤ c ∧ Kd.C k72 w A l.length l := by
 rcases h.2 with ⟨rfl, h0⟩ | ⟨q, c, cur, rfl, hB, hc, hle, hm, hs, ht⟩
 · obtain rfl : l = [] := List.eq_nil_of_length_eq_zero h0
   exact ⟨none, 0, rfl, Nat.le_refl _, rfl, by simp, fun h => absurd h (by simp)⟩
 · refine ⟨some ⟨q, 0, none⟩, c, rfl, hle, rfl, by unfold maxLen at hm; omega, fun _ => ⟨_, rfl, fun j p hj => ⟨nodC p, rfl, k72_mk w p, fun i u hu => ?_⟩⟩⟩
   obtain ⟨hj1, rfl⟩ := List.getElem?_eq_some_iff.1 hj
   have hi : i < 6 := (List.getElem?_eq_some_iff.1 hu).1
   have hf := flatN_get l (j * 6 + i) (by omega)
   rw [show (j * 6 + i) / 6 = j by omega, show (j * 6 + i) % 6 = i by omega, getElem!_pos l j hj1] at hf
   show w.cell? ((⟨q, 0, none⟩ : Addr).add (j * 6 + i)) = some u
   rw [show (⟨q, 0, none⟩ : Addr).add (j * 6 + i) = ⟨q, j * 6 + i, none⟩ by unfold Addr.add; split <;> simp_all, blk_cell hc]
   rw [← ht, List.getElem?_take_of_lt (by omega)] at hf
   rw [List.getElem?_eq_getElem hi] at hu
   rw [getElem!_pos _ i hi, Option.some.inj hu] at hf
   simpa using hf
end Go.Proofs.YtlfgdaiegefjiaaDoor.S
/- The order in which operations come does not matter: plain laws. -/
namespace Go.Proofs.YtlfgdaiegefjiaaDoor.S
open Go.RowKit Go.Proofs.YtlfgdaiegefjiaaDoorW.PrintWords Go.Proofs.YtlfgdaiegefjiaaDoorW.PrintLast Go.Proofs.YtlfgdaiegefjiaaDoorW.PrintMore
set_option linter.unusedVariables false
set_option linter.unusedSimpArgs false
/-- Two lists in strict order that hold the same are the same. -/
theorem pw_ext {α : Type} {R : α → α → Prop} (has : ∀ a b, R a b → R b a → False) : ∀ (a b : List α), a.Pairwise R → b.Pairwise R → (∀ x, x ∈ a ↔ x ∈ b) → a = b
 | [], [], _, _, _ => rfl
 | [], y :: b, _, _, h => absurd ((h y).2 (List.mem_cons_self ..)) (by simp)
 | x :: a, [], _, _, h => absurd ((h x).1 (List.mem_cons_self ..)) (by simp)
 | x :: a, y :: b, ha, hb, h => by
  have ha := List.pairwise_cons.1 ha
  have hb := List.pairwise_cons.1 hb
  have e : x = y := by
   rcases List.mem_cons.1 ((h x).1 (List.mem_cons_self ..)) with e | hx
   · exact e
   · rcases List.mem_cons.1 ((h y).2 (List.mem_cons_self ..)) with e | hy
     · exact e.symm
     · exact (has _ _ (ha.1 y hy) (hb.1 x hx)).elim
  subst e
  rw [pw_ext has a b ha.2 hb.2 (fun z => ⟨fun hz => ?_, fun hz => ?_⟩)]
  · rcases List.mem_cons.1 ((h z).1 (List.mem_cons_of_mem _ hz)) with rfl | hz'
    · exact (has _ _ (ha.1 z hz) (ha.1 z hz)).elim
    · exact hz'
  · rcases List.mem_cons.1 ((h z).2 (List.mem_cons_of_mem _ hz)) with rfl | hz'
    · exact (has _ _ (hb.1 z hz) (hb.1 z hz)).elim
    · exact hz'
theorem less_asym (a b : Stp) (h : lessB a b = true) (h' : lessB b a = true) : False := by
 have := less_trans h h'
 rw [less_irr] at this
 cases this
theorem sorted_ext {a b : List Opn} (ha : Sorted a) (hb : Sorted b) (h : ∀ x, x ∈ a ↔ x ∈ b) : a = b := pw_ext (fun x y => less_asym x.f1 y.f1) a b ha hb h
theorem sorted_nodup {a : List Opn} (h : Sorted a) : a.Nodup := by
 refine List.Pairwise.imp ?_ h
 intro x y hxy e
 subst e
 rw [less_irr] at hxy
 cases hxy
/-- What the check answers. -/
def chk (o : Opn) : Int := (tree_Check.f 40 o.f0 o.f1.f0 o.f1.f1 o.f2.f0 o.f2.f1 o.f3.f0 o.f3.f1 o.f4 o.f5).getD 1
/-- An operation that a tree of nothing takes. -/
def acc (o : Opn) : Prop := chk o = 0 ∧ lessB St0 o.f1 = true
/-- Operations of one stamp are the same. -/
def OneEach (l : List Opn) : Prop := ∀ x ∈ l, ∀ y ∈ l, x.f1 = y.f1 → x = y
theorem isIn_mem {l : List Opn} {s : Stp} (h : isIn l s = true) : ∃ y ∈ l, y.f1 = s := by
 unfold isIn found at h
 simp only [Bool.and_eq_true] at h
 obtain ⟨h1, h2⟩ := h
 have h1 := of_decide_eq_true h1
 rw [rd_at l _ h1] at h2
 exact ⟨_, List.getElem_mem h1, eqS_iff.1 h2⟩
/-- A tree that began with nothing, when the operations of P (all of them out of l) have come. -/
structure Came (l : List Opn) (P : Opn → Prop) (T : Tr) : Prop where
 fresh : Fresh T
 mem : ∀ x, x ∈ T.ops ↔ P x ∧ acc x
theorem Came.few {l : List Opn} {P : Opn → Prop} {T : Tr} (h : Came l P T) (hl : ∀ x, P x → x ∈ l) : T.ops.length ≤ l.length :=
 sub_len T.ops l (sorted_nodup h.fresh.good.srt) (fun x hx => hl x ((h.mem x).1 hx).1)
theorem Came.step {l : List Opn} {P : Opn → Prop} {T T' : Tr} (h : Came l P T) (hl : ∀ x, P x → x ∈ l) (h1 : OneEach l) (hn : l.length ≤ 500) {o : Opn} (ho : o ∈ l) (hf : chk o = 0 → Fine o) (hg : Good T') (e1 : T'.fixed = T.fixed) (e2 : T'.base = T.base) (e3 : T'.ops = (putO T o (chk o)).1) : Came l (fun x => x = o ∨ P x) T' := by
 refine ⟨h.fresh.step hf hg e1 e2 e3, fun x => ?_⟩
 rw [e3]
 have hlen := h.few hl
 have hfull : fullB T o = false := by
  have := creates_le T.ops
  unfold fullB
  rw [h.fresh.fixed, decide_eq_false (show ¬ 512 ≤ T.ops.length by omega), decide_eq_false (show ¬ 512 ≤ ([] : List Nod).length + creates T.ops by simp; omega)]
  simp
 unfold putO
 rw [hfull, h.fresh.base]
 by_cases ha : (chk o == 0 && lessB St0 o.f1) = false
 · rw [if_pos ha]
   show x ∈ T.ops ↔ _
   rw [h.mem]
   constructor
   · rintro ⟨a, b⟩; exact ⟨.inr a, b⟩
   · rintro ⟨rfl | a, b⟩
     · exfalso
       obtain ⟨b1, b2⟩ := b
       rw [b1, b2] at ha
       simp at ha
     · exact ⟨a, b⟩
 · rw [if_neg ha]
   have hacc : acc o := by
    simp at ha
    exact ha
   by_cases hi : isIn T.ops o.f1 = true
   · rw [if_pos hi]
     show x ∈ T.ops ↔ _
     obtain ⟨y, hy, e⟩ := isIn_mem hi
     have hyo : y = o := h1 y (hl y ((h.mem y).1 hy).1) o ho e
     subst hyo
     rw [h.mem]
     constructor
     · rintro ⟨a, b⟩; exact ⟨.inr a, b⟩
     · rintro ⟨rfl | a, b⟩
       · exact (h.mem _).1 hy
       · exact ⟨a, b⟩
   · rw [if_neg hi, if_neg (by simp)]
     show x ∈ insO T.ops o ↔ _
     rw [insO_mem, h.mem]
     constructor
     · rintro (rfl | ⟨a, b⟩)
       · exact ⟨.inl rfl, hacc⟩
       · exact ⟨.inr a, b⟩
     · rintro ⟨rfl | a, b⟩
       · exact .inl rfl
       · exact .inr ⟨a, b⟩
/-- The same operations: the same tree. -/
theorem Came.same {l : List Opn} {P Q : Opn → Prop} {T U : Tr} (h : Came l P T) (h' : Came l Q U) (hpq : ∀ x, P x ↔ Q x) : T.ops = U.ops ∧ T.now = U.now := by
 have e : T.ops = U.ops := sorted_ext h.fresh.good.srt h'.fresh.good.srt (fun x => by rw [h.mem, h'.mem, hpq])
 exact ⟨e, by rw [h.fresh.now, h'.fresh.now, e]⟩
end Go.Proofs.YtlfgdaiegefjiaaDoor.S
