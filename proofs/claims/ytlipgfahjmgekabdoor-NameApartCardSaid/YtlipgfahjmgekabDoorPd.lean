/- Distinct, told over lists: the program's and the reference's are the same; distinct names are distinct, and names stay names. -/
import Derived.Test.YtlipgfahjmgekabDoorPq
import Derived.Test.YtlipgfahjmgekabDoorNd
namespace Go.Proofs.YtlipgfahjmgekabDoor.S
open Go.RowKit Go.Proofs.YtlipgfahjmgekabDoorW.PrintWords Go.Proofs.YtlipgfahjmgekabDoorW.PrintLast Go.Proofs.YtlipgfahjmgekabDoorW.PrintMore
open Go.Lib (decodeL decodeN decodeL_N) 
open Pl
set_option linter.unusedVariables false
set_option linter.unusedSimpArgs false
abbrev dg (k : Nat) : List UInt8 := Lib.decDigits k
theorem dg_facts : ∀ k : Fin 100, 1 ≤ (dg k.val).length ∧ (dg k.val).length ≤ 2 ∧ (126 : UInt8) ∉ dg k.val ∧ fine (126 :: dg k.val) = true ∧ (runes (126 :: dg k.val)).length = 1 + (dg k.val).length ∧
    (126 :: dg k.val).getLast? ≠ some 32 ∧ (126 :: dg k.val).getLast? ≠ some 46 := by decide +kernel
theorem dg_of (k : Nat) (h : k < 100) : 1 ≤ (dg k).length ∧ (dg k).length ≤ 2 ∧ (126 : UInt8) ∉ dg k ∧ fine (126 :: dg k) = true ∧ (runes (126 :: dg k)).length = 1 + (dg k).length ∧
    (126 :: dg k).getLast? ≠ some 32 ∧ (126 :: dg k).getLast? ≠ some 46 := dg_facts ⟨k, h⟩
theorem dg_inj : ∀ a b : Fin 100, dg a.val = dg b.val → a = b := by decide +kernel
/-- The text by which a name is told apart from earlier ones. -/
def cand (l : List UInt8) (k : Nat) : List UInt8 := firstL l (31 - (dg k).length) ++ 126 :: dg k
theorem tail_inj : ∀ (d e x y : List UInt8), (126 : UInt8) ∉ d → (126 : UInt8) ∉ e → d ++ 126 :: x = e ++ 126 :: y → d = e
  | [], [], _, _, _, _, _ => rfl
  | [], b :: e, x, y, _, h2, h => by
    simp at h h2
    exact absurd h.1 h2.1
  | a :: d, [], x, y, h1, _, h => by
    simp at h h1
    exact absurd h.1.symm h1.1
  | a :: d, b :: e, x, y, h1, h2, h => by
    simp only [List.cons_append, List.cons.injEq, List.mem_cons, not_or] at h h1 h2
    rw [h.1, tail_inj d e x y h1.2 h2.2 h.2]
theorem cand_inj (l : List UInt8) (a b : Nat) (ha : a < 100) (hb : b < 100) (h : cand l a = cand l b) : a = b := by
  have fa := dg_of (a) (ha)
  have fb := dg_of (b) (hb)
  have h2 := congrArg List.reverse h
  unfold cand at h2
  simp only [List.reverse_append, List.reverse_cons, List.append_assoc, List.singleton_append] at h2
  have h3 := tail_inj _ _ _ _ (by simpa using fa.2.2.1) (by simpa using fb.2.2.1) h2
  exact congrArg Fin.val (dg_inj ⟨a, ha⟩ ⟨b, hb⟩ (List.reverse_inj.1 h3))
/-- What is tried for a text, one behind the other. -/
def seq (s : ByteArray) (j : Nat) : ByteArray := if j = 0 then s else ⟨(cand (L s) (j + 1)).toArray⟩
theorem L_mk (l : List UInt8) : L ⟨l.toArray⟩ = l := rfl
theorem seq_inj (s : ByteArray) (i j : Nat) (hi : 0 < i) (hj : 0 < j) (hi2 : i < 99) (hj2 : j < 99) (h : seq s i = seq s j) : i = j := by
  unfold seq at h
  rw [if_neg (by omega), if_neg (by omega)] at h
  have h2 := congrArg L h
  rw [L_mk, L_mk] at h2
  have := cand_inj _ _ _ (by omega) (by omega) h2
  omega
theorem inB_iff (acc : List ByteArray) (t : ByteArray) : inB acc t = true ↔ t ∈ acc := by
  unfold inB
  rw [List.any_eq_true]
  constructor
  · rintro ⟨x, hx, he⟩
    rw [beq_iff_eq] at he
    exact (L_ext he) ▸ hx
  · intro h
    exact ⟨t, h, by simp⟩
theorem few_of {α : Type} [BEq α] [LawfulBEq α] : ∀ (xs ys : List α), xs.Nodup → (∀ x ∈ xs, x ∈ ys) → xs.length ≤ ys.length
  | [], _, _, _ => by simp
  | x :: xs, ys, hn, hs => by
    rw [List.nodup_cons] at hn
    have hx := hs x (by simp)
    have h := few_of xs (ys.erase x) hn.2 (fun y hy => (List.mem_erase_of_ne (fun e => hn.1 (by rw [← e]; exact hy))).2 (hs y (by simp [hy])))
    rw [List.length_erase_of_mem hx] at h
    have := List.length_pos_of_mem hx
    simp
    omega
/-- How many are taken before one is free. -/
def pk (acc : List ByteArray) (s : ByteArray) : Nat → Nat → Nat
  | 0, i => i
  | f + 1, i => if inB acc (seq s i) = true then pk acc s f (i + 1) else i
theorem pk_tells (acc : List ByteArray) (s : ByteArray) : ∀ (f i : Nat), (∃ j, i ≤ j ∧ j < i + f ∧ inB acc (seq s j) = false) →
    i ≤ pk acc s f i ∧ pk acc s f i < i + f ∧ inB acc (seq s (pk acc s f i)) = false ∧ ∀ j, i ≤ j → j < pk acc s f i → inB acc (seq s j) = true
  | 0, i, ⟨j, h1, h2, _⟩ => by omega
  | f + 1, i, ⟨j, h1, h2, h3⟩ => by
    unfold pk
    by_cases c : inB acc (seq s i) = true
    · rw [if_pos c]
      have hne : i ≠ j := by
        rintro rfl
        rw [h3] at c
        cases c
      obtain ⟨a, b, d, e⟩ := pk_tells acc s f (i + 1) ⟨j, by omega, by omega, h3⟩
      refine ⟨by omega, by omega, d, fun j' h4 h5 => ?_⟩
      by_cases e2 : j' = i
      · rw [e2]; exact c
      · exact e j' (by omega) h5
    · rw [if_neg c]
      exact ⟨Nat.le_refl _, by omega, Bool.eq_false_iff.mpr c, fun j' h4 h5 => by omega⟩
theorem free (acc : List ByteArray) (s : ByteArray) (h : acc.length ≤ 40) : ∃ j, 0 ≤ j ∧ j < 0 + (acc.length + 2) ∧ inB acc (seq s j) = false := by
  apply Classical.byContradiction
  intro hno
  have hall : ∀ j, j < acc.length + 2 → seq s j ∈ acc := by
    intro j hj
    rw [← inB_iff]
    apply Classical.byContradiction
    intro h2
    exact hno ⟨j, Nat.zero_le _, by omega, Bool.eq_false_iff.mpr h2⟩
  have hl := few_of ((List.range (acc.length + 1)).map fun i => L (seq s (i + 1))) (acc.map L) (by
    rw [List.nodup_iff_pairwise_ne, List.pairwise_map]
    have hr : (List.range (acc.length + 1)).Pairwise (fun a b => a < b ∧ b < acc.length + 1) := by
      rw [List.pairwise_iff_getElem]
      intro i j hi hj hij
      simp at hi hj ⊢
      omega
    refine hr.imp fun {a b} hab e => ?_
    have := seq_inj s (a + 1) (b + 1) (by omega) (by omega) (by omega) (by omega) (L_ext e)
    omega) (by
    intro x hx
    obtain ⟨i, hi, rfl⟩ := List.mem_map.1 hx
    rw [List.mem_range] at hi
    exact List.mem_map.2 ⟨_, hall _ (by omega), rfl⟩)
  simp at hl
  omega
def pick (acc : List ByteArray) (s : ByteArray) : ByteArray := seq s (pk acc s (acc.length + 2) 0)
def dist : List ByteArray → List ByteArray → List ByteArray
  | [], acc => acc
  | s :: l, acc => dist l (acc ++ [pick acc s])
theorem dist_length : ∀ (l acc : List ByteArray), (dist l acc).length = acc.length + l.length
  | [], acc => by simp [dist]
  | s :: l, acc => by rw [dist, dist_length l]; simp; omega
/-! ### the program's -/
theorem seq_next (s : ByteArray) (i : Nat) (hi : i < 98) (hs : s.size < 9223372036854775807) : ∃ d c, strconv_Itoa_27.f ((i + 2 : Nat) : Int) = some d ∧ 1 + d.size ≤ 9 ∧ name_Cut.f s (32 - (1 + (d.size : Int))) = some c ∧
    c.size ≤ s.size ∧ c ++ tailOf d = seq s (i + 1) ∧ ∀ k, s.size + 10 ≤ k → s.size < 4611686018427387904 → samphireref08_Cut.f k s (32 - (1 + (d.size : Int))) = some c := by
  have fa := dg_of (i + 2) (by omega)
  have hds : (⟨(Lib.decDigits (i + 2)).toArray⟩ : ByteArray).size = (dg (i + 2)).length := by simp [ByteArray.size]
  obtain ⟨c, hc, hL⟩ := cut_is s (32 - (1 + ((⟨(Lib.decDigits (i + 2)).toArray⟩ : ByteArray).size : Int))) hs (by omega)
  refine ⟨⟨(Lib.decDigits (i + 2)).toArray⟩, c, ?_, ?_, hc, ?_, ?_, ?_⟩
  · unfold strconv_Itoa_27.f
    rw [if_pos ⟨by omega, by omega⟩]
    rfl
  · rw [hds]; omega
  · rw [← L_len, ← L_len, hL]; exact first_le _ _
  · apply L_ext
    show L (c ++ tailOf _) = L (seq s (i + 1))
    have e1 : L (seq s (i + 1)) = cand (L s) (i + 2) := by unfold seq; rw [if_neg (by omega)]
    rw [e1, L_append, hL, hds]
    unfold cand tailOf
    rw [L_append, show (32 - (1 + ((dg (i + 2)).length : Int))).toNat = 31 - (dg (i + 2)).length by omega]
    rfl
  · intro k hk hs2
    obtain ⟨c', hc', hL'⟩ := rcut_is s (32 - (1 + ((⟨(Lib.decDigits (i + 2)).toArray⟩ : ByteArray).size : Int))) k hs2 (by omega) hk
    rw [hc', L_ext (hL'.trans hL.symm)]
theorem seq_size (s : ByteArray) (j : Nat) (hj : j < 99) : (seq s j).size ≤ s.size + 10 := by
  unfold seq
  split
  · omega
  · have fa := dg_of (j + 1) (by omega)
    have h1 := first_le (L s) (31 - (dg (j + 1)).length)
    rw [L_len] at h1
    rw [← L_len, L_mk]
    unfold cand
    simp
    omega
theorem one_picks (acc : List ByteArray) (s : ByteArray) (hs : s.size ≤ 1000) (j : Nat) (hj : j < 98) (hfree : inB acc (seq s j) = false) (hall : ∀ i, i < j → inB acc (seq s i) = true) :
    ∀ (d q i : Nat), i + d = j → d < q → name_Distinct.one q acc s (seq s i) ((i + 2 : Nat) : Int) = some (seq s j) := by
  intro d
  induction d with
  | zero =>
    intro q i hi hq
    obtain ⟨q, rfl⟩ : ∃ x, q = x + 1 := ⟨q - 1, by omega⟩
    obtain rfl : i = j := by omega
    simp only [name_Distinct.one]
    rw [hfree, if_neg Bool.false_ne_true]
  | succ d ih =>
    intro q i hi hq
    obtain ⟨q, rfl⟩ : ∃ x, q = x + 1 := ⟨q - 1, by omega⟩
    simp only [name_Distinct.one]
    obtain ⟨dd, c, h1, h2, h3, h4, h5, _⟩ := seq_next s i (by omega) (by omega)
    rw [if_pos (hall i (by omega)), h1, Option.bind_some, if_pos (by omega), h3, Option.bind_some, if_pos (by omega), h5, w64 _ (by omega) (by omega)]
    rw [show ((i + 2 : Nat) : Int) + 1 = ((i + 1 + 2 : Nat) : Int) by omega]
    exact ih q (i + 1) (by omega) (by omega)
theorem all_picks : ∀ (l acc : List ByteArray), acc.length + l.length ≤ 40 → (∀ s ∈ l, s.size ≤ 1000) → name_Distinct.all l acc = some (dist l acc)
  | [], acc, _, _ => rfl
  | s :: l, acc, h, hs => by
    unfold name_Distinct.all
    have hs0 := hs s (by simp)
    simp only [List.length_cons] at h
    obtain ⟨_, hp2, hp3, hp4⟩ := pk_tells acc s (acc.length + 2) 0 (free acc s (by omega))
    have h1 := one_picks acc s hs0 _ (by omega) hp3 (fun i hi => hp4 i (Nat.zero_le _) hi) (pk acc s (acc.length + 2) 0) 99 0 (by omega) (by omega)
    rw [if_pos (by omega), show name_Distinct.one 99 acc s s 2 = some (pick acc s) from h1, Option.bind_some, all_picks l _ (by simp; omega) (fun x hx => hs x (by simp [hx]))]
    rfl
theorem distinct_is (l : List ByteArray) (h : l.length ≤ 40) (hs : ∀ s ∈ l, s.size ≤ 1000) : name_Distinct.f l = some (dist l []) := by
  unfold name_Distinct.f
  rw [if_pos (by omega), all_picks l [] (by simpa using h) hs]
/-! ### the reference's -/
theorem has_is (acc : List ByteArray) (t : ByteArray) (hacc : acc.length ≤ 1000) : ∀ (d k i : Nat), i + d = acc.length → d < k → samphireref08_has.l0 k acc t i = some (inB (acc.drop i) t) := by
  intro d
  induction d with
  | zero =>
    intro k i hi hk
    obtain ⟨k, rfl⟩ : ∃ x, k = x + 1 := ⟨k - 1, by omega⟩
    simp only [samphireref08_has.l0]
    rw [if_neg (by omega), List.drop_of_length_le (by omega)]
    rfl
  | succ d ih =>
    intro k i hi hk
    obtain ⟨k, rfl⟩ : ∃ x, k = x + 1 := ⟨k - 1, by omega⟩
    simp only [samphireref08_has.l0]
    have hlt : i < acc.length := by omega
    rw [if_pos (by omega), if_pos (by omega), List.drop_eq_getElem_cons hlt]
    have e : rdOf ByteArray.empty acc (i : Int) = acc[i] := by simp [rdOf, hlt]
    rw [e, toL, toL]
    have e2 : inB (acc[i] :: acc.drop (i + 1)) t = ((L acc[i] == L t) || inB (acc.drop (i + 1)) t) := rfl
    rw [e2]
    by_cases c : L acc[i] = L t
    · rw [if_pos c, beq_iff_eq.mpr c]; rfl
    · rw [if_neg c, beq_eq_false_iff_ne.mpr c, Bool.false_or, w64 _ (by omega) (by omega), show ((i : Int) + 1) = ((i + 1 : Nat) : Int) from rfl, ih k (i + 1) (by omega) (by omega)]
theorem rone_picks (l0 acc : List ByteArray) (n : Nat) (hn : acc.length = n) (hnl : n < l0.length) (hl : l0.length ≤ 40) (s : ByteArray) (hs0 : rdOf ByteArray.empty l0 (n : Int) = s) (hs : s.size ≤ 1000) (j : Nat) (hj : j < n + 2) (hfree : inB acc (seq s j) = false) (hall : ∀ i, i < j → inB acc (seq s i) = true)
    (r : Option (List ByteArray)) (K : Nat) (hK : 1100 ≤ K) (hr : ∀ k, K ≤ k → samphireref08_Distinct.l0 k l0 (acc ++ [seq s j]) ((n + 1 : Nat) : Int) = r) :
    ∀ (d k i : Nat), i + d = j → K + 2 * d + 2 ≤ k → samphireref08_Distinct.l1 k l0 acc n (seq s i) ((i + 2 : Nat) : Int) = r := by
  intro d
  induction d with
  | zero =>
    intro k i hi hk
    obtain ⟨k, rfl⟩ : ∃ x, k = x + 2 := ⟨k - 2, by omega⟩
    obtain rfl : i = j := by omega
    simp only [samphireref08_Distinct.l1]
    have hh : samphireref08_has.f (k + 1) acc (seq s i) = some false := by
      unfold samphireref08_has.f
      rw [show (0 : Int) = ((0 : Nat) : Int) from rfl, has_is acc _ (by omega) acc.length (k + 1) 0 (by omega) (by omega), List.drop_zero, hfree]
    rw [w64 _ (by omega) (by omega), if_pos (by omega), hh, Option.bind_some]
    simp only [samphireref08_Distinct.j2]
    rw [if_neg Bool.false_ne_true, if_pos (by omega), w64 _ (by omega) (by omega), show ((n : Int) + 1) = ((n + 1 : Nat) : Int) from rfl]
    exact hr k (by omega)
  | succ d ih =>
    intro k i hi hk
    obtain ⟨k, rfl⟩ : ∃ x, k = x + 2 := ⟨k - 2, by omega⟩
    simp only [samphireref08_Distinct.l1]
    have hh : samphireref08_has.f (k + 1) acc (seq s i) = some true := by
      unfold samphireref08_has.f
      rw [show (0 : Int) = ((0 : Nat) : Int) from rfl, has_is acc _ (by omega) acc.length (k + 1) 0 (by omega) (by omega), List.drop_zero, hall i (by omega)]
    rw [w64 _ (by omega) (by omega), if_pos (by omega), hh, Option.bind_some]
    simp only [samphireref08_Distinct.j2]
    obtain ⟨dd, c, h1, h2, h3, h4, h5, h6⟩ := seq_next s i (by omega) (by omega)
    have e : wrap64 (32 - (((⟨#[126]⟩ : ByteArray) ++ dd).size : Int)) = 32 - (1 + (dd.size : Int)) := by
      rw [ByteArray.size_append, show (⟨#[126]⟩ : ByteArray).size = 1 from rfl, w64 _ (by omega) (by omega)]
      omega
    have e2 : ((⟨#[126]⟩ : ByteArray) ++ dd).size = 1 + dd.size := by rw [ByteArray.size_append]; rfl
    rw [if_pos trivial, h1, Option.bind_some, if_pos (by omega), if_pos (by omega), if_pos (by omega), e, hs0, h6 k (by omega) (by omega), Option.bind_some, if_pos (by omega), w64 _ (by omega) (by omega),
      show ((i + 2 : Nat) : Int) + 1 = ((i + 1 + 2 : Nat) : Int) by omega, show c ++ ((⟨#[126]⟩ : ByteArray) ++ dd) = seq s (i + 1) from h5]
    exact ih k (i + 1) (by omega) (by omega)
theorem rall_picks (l0 : List ByteArray) (hl : l0.length ≤ 40) (hs : ∀ s ∈ l0, s.size ≤ 1000) : ∀ (d : Nat) (acc : List ByteArray) (k : Nat), acc.length + d = l0.length → 1100 + 100 * d + 1 ≤ k →
    samphireref08_Distinct.l0 k l0 acc (acc.length : Int) = some (dist (l0.drop acc.length) acc) := by
  intro d
  induction d with
  | zero =>
    intro acc k hd hk
    obtain ⟨k, rfl⟩ : ∃ x, k = x + 1 := ⟨k - 1, by omega⟩
    simp only [samphireref08_Distinct.l0]
    rw [if_neg (by omega), List.drop_of_length_le (by omega)]
    rfl
  | succ d ih =>
    intro acc k hd hk
    obtain ⟨k, rfl⟩ : ∃ x, k = x + 1 := ⟨k - 1, by omega⟩
    simp only [samphireref08_Distinct.l0]
    have hlt : acc.length < l0.length := by omega
    have e : rdOf ByteArray.empty l0 (acc.length : Int) = l0[acc.length] := by simp [rdOf, hlt]
    rw [if_pos (by omega), if_pos (by omega), List.drop_eq_getElem_cons hlt, dist, e]
    obtain ⟨_, hp2, hp3, hp4⟩ := pk_tells acc l0[acc.length] (acc.length + 2) 0 (free acc _ (by omega))
    exact rone_picks l0 acc acc.length rfl hlt hl l0[acc.length] e (hs _ (List.getElem_mem hlt)) _ (by omega) hp3 (fun i hi => hp4 i (Nat.zero_le _) hi) _ (1100 + 100 * d + 1) (by omega)
      (fun k hk => by
        have h := ih (acc ++ [pick acc l0[acc.length]]) k (by simp; omega) (by omega)
        rw [List.length_append, List.length_singleton] at h
        exact h) (pk acc l0[acc.length] (acc.length + 2) 0) k 0 (by omega) (by omega)
theorem rdistinct_is (l : List ByteArray) (h : l.length ≤ 40) (hs : ∀ s ∈ l, s.size ≤ 1000) (k : Nat) (hk : 6000 ≤ k) : samphireref08_Distinct.f k l = some (dist l []) := by
  unfold samphireref08_Distinct.f
  exact rall_picks l h hs l.length [] k (by simp) (by omega)
/-! ### few, Same -/
theorem few_is (l : List ByteArray) : ∀ (d i : Nat), i + d = 40 → ∃ b, (∀ k, 2 * d + 10 ≤ k → samphirelaw08_few.l0 k l i = some b) ∧ (b = true → l.length ≤ 40 ∧ ∀ s ∈ l.drop i, s.size ≤ 200) := by
  intro d
  induction d with
  | zero =>
    intro i hi
    refine ⟨decide ((l.length : Int) ≤ 40), fun k hk => ?_, fun hb => ?_⟩
    · obtain ⟨k, rfl⟩ : ∃ x, k = x + 2 := ⟨k - 2, by omega⟩
      simp only [samphirelaw08_few.l0, samphirelaw08_few.j1]
      rw [decide_eq_false (show ¬ (i : Int) < 40 by omega), if_neg Bool.false_ne_true]
      split <;> rfl
    · have := of_decide_eq_true hb
      rw [List.drop_of_length_le (by omega)]
      exact ⟨by omega, fun s hs => by simp at hs⟩
  | succ d ih =>
    intro i hi
    by_cases c : i < l.length
    · have e : rdOf ByteArray.empty l (i : Int) = l[i] := by simp [rdOf, c]
      by_cases c2 : (l[i].size : Int) > 200
      · refine ⟨false, fun k hk => ?_, fun hb => by cases hb⟩
        obtain ⟨k, rfl⟩ : ∃ x, k = x + 2 := ⟨k - 2, by omega⟩
        simp only [samphirelaw08_few.l0, samphirelaw08_few.j1]
        rw [if_pos (by omega), decide_eq_true (show (i : Int) < 40 by omega), if_pos rfl, if_pos (by omega), if_pos (by omega), e, if_pos c2]
      · obtain ⟨b, h1, h2⟩ := ih (i + 1) (by omega)
        refine ⟨b, fun k hk => ?_, fun hb => ?_⟩
        · obtain ⟨k, rfl⟩ : ∃ x, k = x + 2 := ⟨k - 2, by omega⟩
          simp only [samphirelaw08_few.l0, samphirelaw08_few.j1]
          rw [if_pos (by omega), decide_eq_true (show (i : Int) < 40 by omega), if_pos rfl, if_pos (by omega), if_pos (by omega), e, if_neg c2, w64 _ (by omega) (by omega)]
          exact h1 k (by omega)
        · obtain ⟨h3, h4⟩ := h2 hb
          refine ⟨h3, fun s hs => ?_⟩
          rw [List.drop_eq_getElem_cons c, List.mem_cons] at hs
          rcases hs with rfl | hs
          · omega
          · exact h4 s hs
    · refine ⟨decide ((l.length : Int) ≤ 40), fun k hk => ?_, fun hb => ?_⟩
      · obtain ⟨k, rfl⟩ : ∃ x, k = x + 2 := ⟨k - 2, by omega⟩
        simp only [samphirelaw08_few.l0, samphirelaw08_few.j1]
        rw [if_neg (by omega), if_neg Bool.false_ne_true]
      · have := of_decide_eq_true hb
        rw [List.drop_of_length_le (by omega)]
        exact ⟨by omega, fun s hs => by simp at hs⟩
theorem same_is (a b : List ByteArray) (hab : a = b) (h : a.length ≤ 1000) : ∀ (d k i : Nat), i + d = a.length → d < k → samphireref08_Same.l0 k a b i = some true := by
  subst hab
  intro d
  induction d with
  | zero =>
    intro k i hi hk
    obtain ⟨k, rfl⟩ : ∃ x, k = x + 1 := ⟨k - 1, by omega⟩
    simp only [samphireref08_Same.l0]
    rw [if_neg (by omega)]
  | succ d ih =>
    intro k i hi hk
    obtain ⟨k, rfl⟩ : ∃ x, k = x + 1 := ⟨k - 1, by omega⟩
    simp only [samphireref08_Same.l0]
    rw [if_pos (by omega), if_pos (by omega), if_pos (by omega), if_pos trivial, w64 _ (by omega) (by omega)]
    exact ih k (i + 1) (by omega) (by omega)
theorem NameDistinct (l : List ByteArray) : ∃ k, samphirelaw08_NameDistinct.f k l = some true := by
  refine ⟨6000, ?_⟩
  unfold samphirelaw08_NameDistinct.f
  obtain ⟨b, h1, h2⟩ := few_is l 40 0 (by omega)
  have hf : samphirelaw08_few.f 6000 l = some b := h1 6000 (by omega)
  rw [hf, Option.bind_some]
  cases b with
  | false => rw [if_neg Bool.false_ne_true, awake_b _ (by omega)]
  | true =>
    obtain ⟨h3, h4⟩ := h2 rfl
    rw [List.drop_zero] at h4
    have hs : ∀ s ∈ l, s.size ≤ 1000 := fun s hs => by have := h4 s hs; omega
    have hsm : samphireref08_Same.f 6000 (dist l []) (dist l []) = some true := by
      unfold samphireref08_Same.f
      rw [if_pos rfl]
      have hdl := dist_length l []
      simp only [List.length_nil] at hdl
      exact same_is _ _ rfl (by omega) (dist l []).length 6000 0 (by omega) (by omega)
    rw [if_pos rfl, distinct_is l h3 hs, Option.bind_some, rdistinct_is l h3 hs _ (by omega), Option.bind_some, hsm, Option.bind_some, if_pos rfl, awake_b _ (by omega)]
end Go.Proofs.YtlipgfahjmgekabDoor.S
