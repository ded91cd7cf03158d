/- Distinct names are distinct, the first of each is as it was, names stay names: the plain law. -/
import Derived.Test.YtlipgfahjmgekabDoorPd
import Derived.Test.YtlipgfahjmgekabDoorSa
namespace Go.Proofs.YtlipgfahjmgekabDoor.S
open Go.RowKit Go.Proofs.YtlipgfahjmgekabDoorW.PrintWords Go.Proofs.YtlipgfahjmgekabDoorW.PrintLast Go.Proofs.YtlipgfahjmgekabDoorW.PrintMore
open Go.Lib (decodeL decodeN decodeL_N) 
open Pl
set_option linter.unusedVariables false
set_option linter.unusedSimpArgs false
theorem fine_first (l : List UInt8) (h : fine l = true) (n : Nat) : fine (firstL l n) = true := by
  unfold fine at h ⊢
  simp only [Bool.and_eq_true, decide_eq_true_eq, Bool.not_eq_true', List.any_eq_false] at h ⊢
  have e : runes (firstL l n) = (runes l).take n := by unfold firstL; rw [runes_take]
  refine ⟨fun c hc => ?_, fun c hc => ?_⟩
  · rw [e] at hc; exact h.1 c (List.mem_of_mem_take hc)
  · rw [e] at hc; exact h.2 c (List.mem_of_mem_take hc)
theorem good_of_fine {l : List UInt8} (h : fine l = true) : good l := by
  unfold fine at h
  simp only [Bool.and_eq_true, decide_eq_true_eq] at h
  exact h.1
theorem isName_cand (l : List UInt8) (k : Nat) (hk : k < 100) (h : isName l = true) : isName (cand l k) = true := by
  obtain ⟨h1, h2, h3, h4, h5, h6⟩ := isName_good h
  obtain ⟨d1, d2, d3, d4, d5, d6, d7⟩ := dg_of k hk
  have hne := ne_nil_of_runes h3
  have hf := fine_first l h2 (31 - (dg k).length)
  have hr : (runes (cand l k)).length = min (31 - (dg k).length) (runes l).length + (1 + (dg k).length) := by
    unfold cand
    rw [runes_append _ _ (good_of_fine hf), List.length_append, first_runes, d5]
  obtain ⟨m, hm⟩ : ∃ m, 31 - (dg k).length = m + 1 := ⟨30 - (dg k).length, by omega⟩
  have hhead : (cand l k).head? = l.head? := by
    unfold cand
    rw [hm, first_step l hne, List.append_assoc]
    have hw := wd_pos l
    cases l with
    | nil => exact absurd rfl hne
    | cons a r =>
      obtain ⟨w, hw2⟩ : ∃ w, wd (a :: r) = w + 1 := ⟨wd (a :: r) - 1, by omega⟩
      rw [hw2, List.take_succ_cons, List.cons_append]
      rfl
  have hlast : (cand l k).getLast? = (126 :: dg k).getLast? := by
    unfold cand
    rw [List.getLast?_append]
    cases hb : (126 :: dg k).getLast? with
    | none => simp at hb
    | some y => rfl
  rw [isName_fine, hr]
  have e1 : (cand l k != [46]) = true := by
    rw [bne_iff_ne]
    intro e
    rw [e] at hlast
    exact d7 hlast.symm
  have e2 : (cand l k != [46, 46]) = true := by
    rw [bne_iff_ne]
    intro e
    rw [e] at hlast
    exact d7 hlast.symm
  have e3 : ((cand l k).head? != some 32) = true := by rw [bne_iff_ne, hhead]; exact h5
  have e4 : ((cand l k).getLast? != some 32) = true := by rw [bne_iff_ne, hlast]; exact d6
  have e5 : fine (cand l k) = true := fine_append _ _ hf d4
  rw [e1, e2, e3, e4, e5, decide_eq_true (show 1 ≤ min (31 - (dg k).length) (runes l).length + (1 + (dg k).length) by omega), decide_eq_true (show min (31 - (dg k).length) (runes l).length + (1 + (dg k).length) ≤ 32 by omega)]
  rfl
theorem isName_seq (s : ByteArray) (j : Nat) (hj : j < 99) (h : isName (L s) = true) : isName (L (seq s j)) = true := by
  unfold seq
  split
  · exact h
  · rw [L_mk]; exact isName_cand _ _ (by omega) h
/-- What is known of the list of the names, each told apart from those before it. -/
def Told (l m : List ByteArray) : Prop :=
  m.length = l.length ∧ ∀ (i : Nat) (h : i < m.length) (h2 : i < l.length), m[i] ∉ m.take i ∧ (l[i] ∉ m.take i → m[i] = l[i]) ∧ (isName (L l[i]) = true → isName (L m[i]) = true) ∧ m[i].size ≤ l[i].size + 10
theorem pick_tells (acc : List ByteArray) (s : ByteArray) (h : acc.length ≤ 40) : pick acc s ∉ acc ∧ (s ∉ acc → pick acc s = s) ∧ (isName (L s) = true → isName (L (pick acc s)) = true) ∧ (pick acc s).size ≤ s.size + 10 := by
  obtain ⟨_, h2, h3, h4⟩ := pk_tells acc s (acc.length + 2) 0 (free acc s h)
  unfold pick
  refine ⟨fun hm => ?_, fun hs => ?_, fun hn => isName_seq s _ (by omega) hn, seq_size s _ (by omega)⟩
  · rw [← inB_iff, h3] at hm
    cases hm
  · have hz : pk acc s (acc.length + 2) 0 = 0 := by
      apply Classical.byContradiction
      intro hne
      have := h4 0 (Nat.le_refl _) (by omega)
      rw [show seq s 0 = s from rfl, inB_iff] at this
      exact hs this
    rw [hz]
    rfl
theorem dist_take : ∀ (l acc : List ByteArray), (dist l acc).take acc.length = acc
  | [], acc => by simp [dist]
  | s :: l, acc => by
    rw [dist]
    have h := dist_take l (acc ++ [pick acc s])
    have h2 := congrArg (List.take acc.length) h
    rw [List.take_take, List.take_left', List.length_append] at h2
    · rw [Nat.min_eq_left (by omega)] at h2
      exact h2
    · rfl
theorem dist_at : ∀ (l acc : List ByteArray) (i : Nat) (h : i < l.length) (h2 : acc.length + i < (dist l acc).length), (dist l acc)[acc.length + i] = pick ((dist l acc).take (acc.length + i)) l[i]
  | s :: l, acc, 0, h, h2 => by
    have ht := dist_take l (acc ++ [pick acc s])
    have ht2 := dist_take (s :: l) acc
    simp only [Nat.add_zero, List.getElem_cons_zero] at h2 ⊢
    rw [ht2]
    simp only [dist] at h2 ⊢
    have hl : acc.length < (acc ++ [pick acc s]).length := by simp
    have e : (dist l (acc ++ [pick acc s]))[acc.length] = ((dist l (acc ++ [pick acc s])).take (acc ++ [pick acc s]).length)[acc.length]'(by rw [ht]; exact hl) := by rw [List.getElem_take]
    rw [e]
    simp only [ht]
    simp
  | s :: l, acc, i + 1, h, h2 => by
    simp only [List.length_cons] at h
    simp only [dist] at h2 ⊢
    have ih := dist_at l (acc ++ [pick acc s]) i (by omega) (by rw [List.length_append, List.length_singleton]; omega)
    simp only [List.length_append, List.length_singleton] at ih
    simp only [show acc.length + (i + 1) = acc.length + 1 + i by omega, List.getElem_cons_succ]
    exact ih
theorem dist_told (l : List ByteArray) (h : l.length ≤ 40) : Told l (dist l []) := by
  have hlen : (dist l []).length = l.length := by rw [dist_length]; simp
  refine ⟨hlen, fun i h1 h2 => ?_⟩
  have e := dist_at l [] i h2 (by simpa using h1)
  simp only [List.length_nil, Nat.zero_add] at e
  rw [e]
  exact pick_tells _ _ (by rw [List.length_take]; omega)
theorem in_take (m : List ByteArray) (j i : Nat) (hj : j < i) (hi : i < m.length) : m[j] ∈ m.take i := by
  have : (m.take i)[j]'(by rw [List.length_take]; omega) = m[j] := by rw [List.getElem_take]
  rw [← this]
  exact List.getElem_mem _
theorem rd_at (l : List ByteArray) (i : Nat) (h : i < l.length) : rdOf ByteArray.empty l (i : Int) = l[i] := by simp [rdOf, h]
/-- What comes of the inner loop. -/
def fin (k : Nat) (l m : List ByteArray) (i : Nat) : Option Bool := samphirelaw08_NameApart.l0 k l m ((i + 1 : Nat) : Int)
theorem apart_inner (l m : List ByteArray) (hT : Told l m) (hl : l.length ≤ 40) (hs : ∀ s ∈ l, s.size ≤ 1000) (i : Nat) (hi : i < m.length) : ∀ (d k j : Nat) (first : Bool), j + d = i → d < k → (first = true → ∀ q, (hq : q < j) → (hqm : q < m.length) → m[q] ≠ l[i]'(by have := hT.1; omega)) →
    samphirelaw08_NameApart.l1 k l m i first j = fin (k - 1 - d) l m i := by
  have hml := hT.1
  have hil : i < l.length := by omega
  have hs1 := hs _ (List.getElem_mem hil)
  obtain ⟨t1, t2, t3, t4⟩ := hT.2 i hi hil
  intro d
  induction d with
  | zero =>
    intro k j first hj hk hf
    obtain ⟨k, rfl⟩ : ∃ x, k = x + 1 := ⟨k - 1, by omega⟩
    obtain rfl : j = i := by omega
    simp only [samphirelaw08_NameApart.l1]
    rw [if_neg (by omega)]
    have hc : name_Check.f l[j] = some (if isName (L l[j]) = true then 0 else 80) := check_is _ (by omega)
    have hc2 : name_Check.f m[j] = some (if isName (L m[j]) = true then 0 else 80) := check_is _ (by omega)
    have hw : wrap64 ((j : Int) + 1) = ((j + 1 : Nat) : Int) := by rw [w64 _ (by omega) (by omega)]; rfl
    have hfin : ((name_Check.f l[j]).bind fun t => if t = 0 then (name_Check.f m[j]).bind fun t2 => if t2 = 0 then samphirelaw08_NameApart.l0 k l m ((j + 1 : Nat) : Int) else some false else samphirelaw08_NameApart.l0 k l m ((j + 1 : Nat) : Int)) = fin (k + 1 - 1 - 0) l m j := by
      rw [hc, Option.bind_some]
      by_cases c : isName (L l[j]) = true
      · rw [if_pos c, if_pos rfl, hc2, t3 c, Option.bind_some, if_pos rfl, if_pos rfl]; rfl
      · rw [if_neg c, if_neg (by decide)]; rfl
    have hfin2 : ((name_Check.f l[j]).bind fun t => if t = 0 then (if (j : Int) < (m.length : Int) then (name_Check.f m[j]).bind fun t2 => if t2 = 0 then samphirelaw08_NameApart.l0 k l m ((j + 1 : Nat) : Int) else some false else none) else samphirelaw08_NameApart.l0 k l m ((j + 1 : Nat) : Int)) = fin (k + 1 - 1 - 0) l m j := by
      rw [if_pos (show (j : Int) < (m.length : Int) by omega)]
      exact hfin
    rw [rd_at l j hil, rd_at m j hi, hw]
    cases first with
    | true =>
      have hnot : l[j] ∉ m.take j := by
        intro hm
        obtain ⟨q, hq, e⟩ := List.getElem_of_mem hm
        rw [List.getElem_take] at e
        rw [List.length_take] at hq
        exact hf rfl q (by omega) (by omega) e
      rw [if_pos rfl, if_pos (by omega), if_pos (by omega), if_pos (by omega), t2 hnot, if_pos rfl]
      have h3 := hfin
      rw [t2 hnot] at h3
      exact h3
    | false =>
      rw [if_neg Bool.false_ne_true, if_pos (by omega), if_pos (by omega)]
      exact hfin2
  | succ d ih =>
    intro k j first hj hk hf
    obtain ⟨k, rfl⟩ : ∃ x, k = x + 1 := ⟨k - 1, by omega⟩
    have hjm : j < m.length := by omega
    have hjl : j < l.length := by omega
    have hw : wrap64 ((j : Int) + 1) = ((j + 1 : Nat) : Int) := by rw [w64 _ (by omega) (by omega)]; rfl
    have hne : ¬ L m[j] = L m[i] := fun e => t1 (by rw [← L_ext e]; exact in_take m j i (by omega) hi)
    simp only [samphirelaw08_NameApart.l1]
    rw [if_pos (by omega), if_pos (by omega), if_pos (by omega), if_pos (by omega), if_pos (by omega), rd_at m j hjm, rd_at m i hi, toL, toL, if_neg hne, hw, show k + 1 - 1 - (d + 1) = k - 1 - d by omega]
    cases first with
    | false =>
      rw [if_neg Bool.false_ne_true]
      exact ih k (j + 1) false (by omega) (by omega) (fun h => by cases h)
    | true =>
      rw [if_pos rfl, if_pos (by omega), if_pos (by omega), rd_at l j hjl, rd_at l i hil, toL, toL]
      by_cases c : L l[j] = L l[i]
      · rw [if_pos c]
        exact ih k (j + 1) false (by omega) (by omega) (fun h => by cases h)
      · rw [if_neg c]
        refine ih k (j + 1) _ (by omega) (by omega) (fun h q hq hqm => ?_)
        by_cases e : q = j
        · subst e
          rw [bne_iff_ne] at h
          exact fun e2 => h (congrArg L e2)
        · exact hf rfl q (by omega) hqm
theorem apart_outer (l m : List ByteArray) (hT : Told l m) (hl : l.length ≤ 40) (hs : ∀ s ∈ l, s.size ≤ 1000) : ∀ (d i k : Nat), i + d = m.length → 60 * d + 60 ≤ k → samphirelaw08_NameApart.l0 k l m i = some true := by
  have hml := hT.1
  intro d
  induction d with
  | zero =>
    intro i k hi hk
    obtain ⟨k, rfl⟩ : ∃ x, k = x + 1 := ⟨k - 1, by omega⟩
    simp only [samphirelaw08_NameApart.l0]
    rw [if_neg (by omega), awake_b _ (by omega)]
  | succ d ih =>
    intro i k hi hk
    obtain ⟨k, rfl⟩ : ∃ x, k = x + 1 := ⟨k - 1, by omega⟩
    simp only [samphirelaw08_NameApart.l0]
    have h := apart_inner l m hT hl hs i (by omega) i k 0 true (by omega) (by omega) (fun _ q hq _ => by omega)
    rw [if_pos (by omega), show (0 : Int) = ((0 : Nat) : Int) from rfl, h]
    exact ih (i + 1) _ (by omega) (by omega)
theorem NameApart (l : List ByteArray) : ∃ k, samphirelaw08_NameApart.f k l = some true := by
  refine ⟨6000, ?_⟩
  unfold samphirelaw08_NameApart.f
  obtain ⟨b, h1, h2⟩ := few_is l 40 0 (by omega)
  have hf : samphirelaw08_few.f 6000 l = some b := h1 6000 (by omega)
  rw [hf, Option.bind_some]
  cases b with
  | false => rw [if_neg Bool.false_ne_true, awake_b _ (by omega)]
  | true =>
    obtain ⟨h3, h4⟩ := h2 rfl
    rw [List.drop_zero] at h4
    have hs : ∀ s ∈ l, s.size ≤ 1000 := fun s hs => by have := h4 s hs; omega
    have hT := dist_told l h3
    rw [if_pos rfl, distinct_is l h3 hs, Option.bind_some, if_pos (by rw [hT.1])]
    exact apart_outer l _ hT h3 hs (dist l []).length 0 6000 (by omega) (by have := hT.1; omega)
end Go.Proofs.YtlipgfahjmgekabDoor.S
