/- Operations as arguments: few of them; what the check says of any. Plain laws. -/
import Derived.Test.YtiffeljmeahmkaaDoorMw
namespace Go.Proofs.YtiffeljmeahmkaaDoor.S
open Go.RowKit Go.Proofs.YtiffeljmeahmkaaDoorW.PrintWords Go.Proofs.YtiffeljmeahmkaaDoorW.PrintLast Go.Proofs.YtiffeljmeahmkaaDoorW.PrintMore
set_option linter.unusedVariables false
set_option linter.unusedSimpArgs false
def light (o : Opn) : Prop := o.f4.size ≤ 200 ∧ o.f5.size ≤ 200
theorem rd_at (l : List Opn) (i : Nat) (h : i < l.length) : rd_T28 l (i : Int) = l[i] := by
  unfold rd_T28
  simp [List.getD, h]
theorem light_is (o : Opn) : ∃ r, samphireref11_Light.f o.f0 o.f1.f0 o.f1.f1 o.f2.f0 o.f2.f1 o.f3.f0 o.f3.f1 o.f4 o.f5 = some r ∧ (r = true → light o) := by
  unfold samphireref11_Light.f light
  by_cases h1 : (o.f4.size : Int) ≤ 200
  · rw [if_pos h1]
    refine ⟨_, rfl, fun h => ⟨by omega, ?_⟩⟩
    have := of_decide_eq_true h
    omega
  · rw [if_neg h1]
    exact ⟨false, rfl, fun h => by cases h⟩
theorem few_from (l : List Opn) (m : Nat) (hl : m ≤ 1000000) : ∀ (n i : Nat), i ≤ l.length → i ≤ m → n + i = min l.length m → (∀ o ∈ l.take i, light o) → ∃ r, samphirelaw11_few.l0 (2 * n + 2) l m i = some r ∧ (r = true → l.length ≤ m ∧ ∀ o ∈ l, light o)
  | 0, i, h1, h2, h3, h4 => by
    unfold samphirelaw11_few.l0
    by_cases h5 : (i : Int) < (l.length : Int)
    · rw [if_pos h5, decide_eq_false (show ¬ (i : Int) < (m : Int) by omega)]
      unfold samphirelaw11_few.j1
      rw [if_neg (by simp)]
      exact ⟨_, rfl, fun h => absurd (of_decide_eq_true h) (by omega)⟩
    · rw [if_neg h5]
      unfold samphirelaw11_few.j1
      rw [if_neg (by simp)]
      refine ⟨_, rfl, fun h => ⟨by have := of_decide_eq_true h; omega, fun o ho => h4 o ?_⟩⟩
      rwa [List.take_of_length_le (by omega)]
  | n + 1, i, h1, h2, h3, h4 => by
    have h5 : (i : Int) < (l.length : Int) := by omega
    have h6 : i < l.length := by omega
    rw [show 2 * (n + 1) + 2 = (2 * n + 2) + 1 + 1 by omega]
    unfold samphirelaw11_few.l0
    rw [if_pos h5, decide_eq_true (show (i : Int) < (m : Int) by omega)]
    unfold samphirelaw11_few.j1
    rw [if_pos rfl, if_pos (by omega), if_pos h5, rd_at l i h6]
    obtain ⟨r, hr, hl2⟩ := light_is l[i]
    rw [hr, Option.bind_some]
    cases r with
    | false => exact ⟨false, rfl, fun h => by cases h⟩
    | true =>
      rw [if_pos rfl, show wrap64 ((i : Int) + 1) = ((i + 1 : Nat) : Int) by unfold wrap64; omega]
      refine few_from l m hl n (i + 1) (by omega) (by omega) (by omega) (fun o ho => ?_)
      rw [List.take_succ_eq_append_getElem h6, List.mem_append, List.mem_singleton] at ho
      rcases ho with ho | rfl
      · exact h4 o ho
      · exact hl2 rfl
theorem few_is (l : List Opn) (m : Nat) (hl : m ≤ 1000000) : ∃ k r, samphirelaw11_few.f k l m = some r ∧ (r = true → l.length ≤ m ∧ ∀ o ∈ l, light o) := by
  obtain ⟨r, h1, h2⟩ := few_from l m hl (min l.length m) 0 (by omega) (by omega) (by omega) (fun o ho => by simp at ho)
  exact ⟨_, r, h1, h2⟩
/-! ### what the check says -/
theorem toL (s : ByteArray) : s.toList = s.data.toList := Lib.toList_data s
theorem prefix_is (s : ByteArray) (h : s.size < 9223372036854775807) : ∃ b, strings_HasPrefix.f s ⟨#[32]⟩ = some b := by
  unfold strings_HasPrefix.f stringslite_HasPrefix.f
  have e1 : (⟨#[32]⟩ : ByteArray).size = 1 := rfl
  rw [e1]
  by_cases h1 : (s.size : Int) ≥ ((1 : Nat) : Int)
  · rw [if_pos h1, if_pos (by omega), if_pos (by omega)]
    exact ⟨_, rfl⟩
  · rw [if_neg h1]
    exact ⟨_, rfl⟩
theorem suffix_is (s : ByteArray) (h : s.size < 9223372036854775807) : ∃ b, strings_HasSuffix.f s ⟨#[32]⟩ = some b := by
  unfold strings_HasSuffix.f stringslite_HasSuffix.f
  have e1 : (⟨#[32]⟩ : ByteArray).size = 1 := rfl
  rw [e1]
  by_cases h1 : (s.size : Int) ≥ ((1 : Nat) : Int)
  · have e2 : wrap64 ((s.size : Int) - ((1 : Nat) : Int)) = ((s.size - 1 : Nat) : Int) := by unfold wrap64; omega
    rw [if_pos h1, e2, if_pos (by omega), if_pos (by omega)]
    exact ⟨_, rfl⟩
  · rw [if_neg h1]
    exact ⟨_, rfl⟩
def fineB (t w : Int) : Bool := decide (1 ≤ t ∧ t ≤ 1099511627775 ∧ 1 ≤ w ∧ w ≤ 6)
theorem clockmay_is (a b : Int) : clock_may.f a b = some (fineB a b) := by
  unfold clock_may.f fineB
  by_cases h1 : a ≥ 1 <;> by_cases h2 : a ≤ 1099511627775 <;> by_cases h3 : b ≥ 1 <;> simp [h1, h2, h3]
theorem fine_is (a b : Int) : tree_fine.f a b = some (fineB a b) := by
  unfold tree_fine.f clock_Check.f
  rw [clockmay_is]
  cases fineB a b <;> rfl
def outB (t w : Int) : Bool := (t == 0 && (w == 0)) || (t == 0 && (w == 1))
theorem outer_is (a b : Int) : tree_outer.f a b = some (outB a b) := by
  unfold tree_outer.f outB
  by_cases h1 : (a == 0 && (b == 0)) = true <;> simp [h1]
def emp (s : ByteArray) : Bool := s.toList == ([] : List UInt8)
def goodB (nb : Bool) (k t1 w1 t2 w2 t3 w3 : Int) (nm v : ByteArray) : Bool :=
  fineB t1 w1 && fineB t2 w2 &&
  (if k = 1 then (t2 == t1 && (w2 == w1)) && nb && (outB t3 w3 || fineB t3 w3) && emp v
   else if k = 2 then (outB t3 w3 || fineB t3 w3) && emp nm && emp v
   else if k = 3 then (t3 == 0 && (w3 == 0)) && nb && emp v
   else if k = 4 then (t3 == 0 && (w3 == 0)) && emp nm && decide ((v.size : Int) ≤ 64)
   else if k = 5 then (t3 == 0 && (w3 == 0)) && emp nm && emp v
   else false)
theorem emp_nil : emp ⟨#[]⟩ = true := by unfold emp; rw [toL]; rfl
set_option maxHeartbeats 2000000 in
theorem check11_is (n : Nat) (nb : Bool) (k t1 w1 t2 w2 t3 w3 : Int) (nm v : ByteArray) (hn : name_Check.f nm = some (if nb = true then 0 else 80)) :
    tree_Check.f (n + 3) k t1 w1 t2 w2 t3 w3 nm v = some (if goodB nb k t1 w1 t2 w2 t3 w3 nm v = true then 0 else 1) := by
  unfold tree_Check.f
  simp only [fine_is, Option.bind_some, tree_Check.j0, tree_Check.j1, tree_Check.j2, outer_is, hn]
  rw [show ∀ s : ByteArray, (s.toList == ([] : List UInt8)) = emp s from fun _ => rfl]
  unfold goodB
  simp only [show ∀ s : ByteArray, (s.toList == ([] : List UInt8)) = emp s from fun _ => rfl, emp_nil]
  generalize fineB t1 w1 = f1
  generalize fineB t2 w2 = f2
  generalize fineB t3 w3 = f3
  generalize outB t3 w3 = o3
  clear hn
  generalize emp nm = en
  generalize emp v = ev
  generalize decide ((v.size : Int) ≤ 64) = lv
  generalize (t3 == 0) = p3
  generalize (w3 == 0) = q3
  generalize (t2 == t1 && (w2 == w1)) = same
  by_cases h1 : k = 1
  · subst h1
    cases f1 <;> cases f2 <;> cases same <;> cases nb <;> cases o3 <;> cases f3 <;> cases ev <;> rfl
  by_cases h3 : k = 3
  · subst h3
    cases f1 <;> cases f2 <;> cases nb <;> cases p3 <;> cases q3 <;> cases ev <;> rfl
  by_cases h4 : k = 4
  · subst h4
    cases f1 <;> cases f2 <;> cases lv <;> cases p3 <;> cases q3 <;> cases en <;> rfl
  by_cases h2 : k = 2
  · subst h2
    cases f1 <;> cases f2 <;> cases o3 <;> cases f3 <;> cases en <;> cases ev <;> rfl
  by_cases h5 : k = 5
  · subst h5
    cases f1 <;> cases f2 <;> cases p3 <;> cases q3 <;> cases en <;> cases ev <;> rfl
  simp only [if_neg h1, if_neg h2, if_neg h3, if_neg h4, if_neg h5]
  have e2 : (k == 2) = false := by simpa using h2
  cases f1 <;> cases f2 <;> simp [e2]
/-- An operation that the check lets by: its stamps are stamps, and what is made has the operation's own. -/
def Fine (o : Opn) : Prop := OpOk o ∧ 1 ≤ o.f1.f0 ∧ 1 ≤ o.f2.f0 ∧ (o.f0 = 1 → o.f2 = o.f1)
theorem good_fine {nb : Bool} {o : Opn} (h : goodB nb o.f0 o.f1.f0 o.f1.f1 o.f2.f0 o.f2.f1 o.f3.f0 o.f3.f1 o.f4 o.f5 = true) : Fine o := by
  unfold goodB at h
  simp only [Bool.and_eq_true] at h
  obtain ⟨⟨h1, h2⟩, h3⟩ := h
  have h1 := of_decide_eq_true h1
  have h2 := of_decide_eq_true h2
  have hk : o.f0 = 1 ∨ o.f0 = 2 ∨ o.f0 = 3 ∨ o.f0 = 4 ∨ o.f0 = 5 := by
    by_cases k1 : o.f0 = 1
    · exact .inl k1
    by_cases k2 : o.f0 = 2
    · exact .inr (.inl k2)
    by_cases k3 : o.f0 = 3
    · exact .inr (.inr (.inl k3))
    by_cases k4 : o.f0 = 4
    · exact .inr (.inr (.inr (.inl k4)))
    by_cases k5 : o.f0 = 5
    · exact .inr (.inr (.inr (.inr k5)))
    rw [if_neg k1, if_neg k2, if_neg k3, if_neg k4, if_neg k5] at h3
    cases h3
  refine ⟨⟨hk, ?_⟩, h1.1, h2.1, fun e => ?_⟩
  · unfold outerB
    have : (o.f2.f0 == 0) = false := beq_eq_false_iff_ne.2 (by omega)
    simp [this]
  · rw [if_pos e] at h3
    simp only [Bool.and_eq_true, beq_iff_eq] at h3
    exact eqS_iff.1 ((eqS_two _ _).2 ⟨h3.1.1.1.1, h3.1.1.1.2⟩)
end Go.Proofs.YtiffeljmeahmkaaDoor.S
