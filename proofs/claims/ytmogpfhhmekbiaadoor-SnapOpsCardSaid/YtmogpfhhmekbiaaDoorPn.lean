/- The readers: the program's and the reference's. -/
import Derived.Test.YtmogpfhhmekbiaaDoorPf
namespace Go.Proofs.YtmogpfhhmekbiaaDoor.S
open Go.RowKit Go.Proofs.YtmogpfhhmekbiaaDoorW.PrintWords Go.Proofs.YtmogpfhhmekbiaaDoorW.PrintLast Go.Proofs.YtmogpfhhmekbiaaDoorW.PrintMore
set_option linter.unusedVariables false
set_option linter.unusedSimpArgs false
theorem byte_both (sp sr : ByteArray) (e : Int) (k : Nat) (h : e = 0 → sp = sr) (hk : 10 ≤ k) :
    ∃ v sp' sr' e', code_In_Byte.f k true sp e = some (v, true, sp', e') ∧ samphireref09_InByte.f k sr e = some (sr', e', v) ∧ (e' = 0 → sp' = sr') := by
  have hp := number_prog sp e 1 k (by omega) (by omega)
  have hr := number_ref sr e 1 k (by omega) (by omega)
  rw [show ((1 : Nat) : Int) = 1 from rfl] at hp hr
  unfold code_In_Byte.f samphireref09_InByte.f
  rw [hp, hr]
  unfold numP numR
  by_cases he : e = 0
  · obtain rfl := h he
    subst he
    by_cases hs : sp.size < 1
    · simp only [if_pos, hs]
      exact ⟨0, ⟨#[]⟩, ⟨#[]⟩, 90, rfl, rfl, fun _ => rfl⟩
    · simp only [if_pos, if_neg hs]
      exact ⟨_, _, _, 0, rfl, rfl, fun _ => rfl⟩
  · simp only [if_neg he]
    exact ⟨0, sp, ⟨#[]⟩, e, rfl, rfl, fun h' => absurd h' he⟩
theorem num_both (sp sr : ByteArray) (e : Int) (k : Nat) (h : e = 0 → sp = sr) (hk : 10 ≤ k) :
    ∃ v sp' sr' e', code_In_Num.f k true sp e = some (v, true, sp', e') ∧ samphireref09_InNum.f k sr e = some (sr', e', v) ∧ (e' = 0 → sp' = sr') := by
  have hp := number_prog sp e 6 k (by omega) (by omega)
  have hr := number_ref sr e 6 k (by omega) (by omega)
  rw [show ((6 : Nat) : Int) = 6 from rfl] at hp hr
  unfold code_In_Num.f samphireref09_InNum.f
  rw [hp, hr]
  unfold numP numR
  by_cases he : e = 0
  · obtain rfl := h he
    subst he
    by_cases hs : sp.size < 6
    · simp only [if_pos, hs, Option.bind_some]
      exact ⟨0, ⟨#[]⟩, ⟨#[]⟩, 90, rfl, rfl, fun _ => rfl⟩
    · simp only [if_pos, if_neg hs, Option.bind_some]
      have h0 := (numOf_range sp 6 (by omega)).1
      rw [time_f, Option.bind_some]
      by_cases ht : numOf sp 6 > 1099511627775
      · rw [if_pos ht, if_neg (by unfold isTime; simp; omega)]
        exact ⟨0, ⟨#[]⟩, ⟨#[]⟩, 91, rfl, rfl, fun _ => rfl⟩
      · rw [if_neg ht, if_pos (by unfold isTime; simp; omega)]
        exact ⟨_, _, _, 0, rfl, rfl, fun _ => rfl⟩
  · simp only [if_neg he]
    exact ⟨0, sp, ⟨#[]⟩, e, rfl, rfl, fun h' => absurd h' he⟩
theorem stamp_both (sp sr : ByteArray) (e : Int) (k : Nat) (h : e = 0 → sp = sr) (hk : 10 ≤ k) :
    ∃ a b sp' sr' e', code_In_Stamp.f k true sp e = some (a, b, true, sp', e') ∧ samphireref09_InStamp.f k sr e = some (sr', e', a, b) ∧ (e' = 0 → sp' = sr') := by
  obtain ⟨v, sp1, sr1, e1, h1, h2, h3⟩ := num_both sp sr e k h hk
  have hp := number_prog sp1 e1 1 k (by omega) (by omega)
  have hr := number_ref sr1 e1 1 k (by omega) (by omega)
  rw [show ((1 : Nat) : Int) = 1 from rfl] at hp hr
  unfold code_In_Stamp.f samphireref09_InStamp.f
  rw [h1, h2]
  simp only [Option.bind_some]
  rw [hp, hr]
  unfold numP numR
  by_cases he : e1 = 0
  · obtain rfl := h3 he
    subst he
    by_cases hs : sp1.size < 1
    · simp only [if_pos, hs, Option.bind_some]
      exact ⟨0, 0, ⟨#[]⟩, ⟨#[]⟩, 90, rfl, rfl, fun _ => rfl⟩
    · simp only [if_pos, if_neg hs, Option.bind_some]
      exact ⟨_, _, _, _, 0, rfl, rfl, fun _ => rfl⟩
  · simp only [if_neg he, Option.bind_some]
    exact ⟨0, 0, sp1, ⟨#[]⟩, e1, rfl, rfl, fun h' => absurd h' he⟩
theorem text_both (sp sr : ByteArray) (e : Int) (k : Nat) (h : e = 0 → sp = sr) (hk : 10 ≤ k) :
    ∃ v sp' sr' e', code_In_Text.f k true sp e 1024 = some (v, true, sp', e') ∧ samphireref09_InText.f k sr e 1024 = some (sr', e', v) ∧ (e' = 0 → sp' = sr') ∧ v.size ≤ 1024 := by
  have hp := number_prog sp e 2 k (by omega) (by omega)
  have hr := number_ref sr e 2 k (by omega) (by omega)
  rw [show ((2 : Nat) : Int) = 2 from rfl] at hp hr
  obtain ⟨k, rfl⟩ : ∃ k', k = k' + 1 := ⟨k - 1, by omega⟩
  unfold code_In_Text.f samphireref09_InText.f
  rw [hp, hr]
  unfold numP numR
  by_cases he : e = 0
  · obtain rfl := h he
    subst he
    by_cases hs : sp.size < 2
    · simp only [if_pos, hs, Option.bind_some]
      exact ⟨⟨#[]⟩, ⟨#[]⟩, ⟨#[]⟩, 90, rfl, rfl, fun _ => rfl, by first | decide | (simp; omega)⟩
    · simp only [if_pos, if_neg hs, Option.bind_some]
      have h0 := (numOf_range sp 2 (by omega)).1
      by_cases ht : numOf sp 2 > 1024
      · rw [if_pos ht, if_pos ht]
        exact ⟨⟨#[]⟩, ⟨#[]⟩, ⟨#[]⟩, 91, rfl, rfl, fun _ => rfl, by first | decide | (simp; omega)⟩
      · rw [if_neg ht, if_neg ht]
        simp only [code_In_take.f, if_pos, code_In_take.j0]
        rw [if_neg (by decide)]
        by_cases hz : numOf sp 2 > ((sp.extract 2 sp.size).size : Int)
        · rw [if_pos hz, if_pos hz]
          exact ⟨⟨#[]⟩, ⟨#[]⟩, ⟨#[]⟩, 90, rfl, rfl, fun _ => rfl, by first | decide | (simp; omega)⟩
        · rw [if_neg hz, if_neg hz, if_pos h0, if_pos (by omega), if_pos h0, if_pos (by omega)]
          exact ⟨_, _, _, 0, rfl, rfl, fun _ => rfl, by first | decide | (simp; omega)⟩
  · simp only [if_neg he, Option.bind_some]
    exact ⟨⟨#[]⟩, sp, ⟨#[]⟩, e, rfl, rfl, fun h' => absurd h' he, by decide⟩
theorem takes_both (s : ByteArray) (k : Nat) (hk : 10 ≤ k) :
    ∃ o t1 w1 t2 w2 t3 w3 nm v sp sr e, snap_takes.f k true s 0 = some (o, t1, w1, t2, w2, t3, w3, nm, v, true, sp, e) ∧ samphireref13_takeOp.f k s 0 = some (sr, e, o, t1, w1, t2, w2, t3, w3, nm, v) ∧ (e = 0 → sp = sr) ∧ nm.size ≤ 1024 ∧ v.size ≤ 1024 := by
  obtain ⟨o, p1, r1, e1, a1, b1, c1⟩ := byte_both s s 0 k (fun _ => rfl) hk
  obtain ⟨t1, w1, p2, r2, e2, a2, b2, c2⟩ := stamp_both p1 r1 e1 k c1 hk
  obtain ⟨t2, w2, p3, r3, e3, a3, b3, c3⟩ := stamp_both p2 r2 e2 k c2 hk
  obtain ⟨t3, w3, p4, r4, e4, a4, b4, c4⟩ := stamp_both p3 r3 e3 k c3 hk
  obtain ⟨nm, p5, r5, e5, a5, b5, c5, d5⟩ := text_both p4 r4 e4 k c4 hk
  obtain ⟨v, p6, r6, e6, a6, b6, c6, d6⟩ := text_both p5 r5 e5 k c5 hk
  refine ⟨o, t1, w1, t2, w2, t3, w3, nm, v, p6, r6, e6, ?_, ?_, c6, d5, d6⟩
  · unfold snap_takes.f
    rw [a1, Option.bind_some, a2, Option.bind_some, a3, Option.bind_some, a4, Option.bind_some, a5, Option.bind_some, a6, Option.bind_some]
  · unfold samphireref13_takeOp.f
    rw [b1, Option.bind_some, b2, Option.bind_some, b3, Option.bind_some, b4, Option.bind_some, b5, Option.bind_some, b6, Option.bind_some]
theorem take_is (s : ByteArray) (n : Nat) (hn : 2000 ≤ n) : ∃ r, snap_TakeOp.f (n + 3) s = some r ∧ samphireref13_TakeOp.f (n + 3) s = some r := by
  obtain ⟨o, t1, w1, t2, w2, t3, w3, nm, v, sp, sr, e, ha, hb, hc, hnm, hv⟩ := takes_both s (n + 3) (by omega)
  have h1 := check11_is n o t1 w1 t2 w2 t3 w3 nm v (by omega)
  have h2 := may11_is (n + 2) o t1 w1 t2 w2 t3 w3 nm v (by omega) (by omega)
  unfold snap_TakeOp.f samphireref13_TakeOp.f code_NewIn.f
  rw [Option.bind_some, ha, Option.bind_some, hb, Option.bind_some]
  unfold code_In_Done.f samphireref09_InDone.f
  by_cases he : e = 0
  · obtain rfl := hc he
    subst he
    by_cases hs : sp.toList = ([] : List UInt8)
    · simp only [if_pos, hs, Option.bind_some, h1, h2]
      cases goodOp o t1 w1 t2 w2 t3 w3 nm v
      · exact ⟨_, rfl, rfl⟩
      · exact ⟨_, rfl, rfl⟩
    · simp only [if_pos, if_neg hs, Option.bind_some]
      exact ⟨_, rfl, rfl⟩
  · simp only [if_pos, if_neg he, Option.bind_some]
    exact ⟨_, rfl, rfl⟩
end Go.Proofs.YtmogpfhhmekbiaaDoor.S
/- What was written is read. -/
namespace Go.Proofs.YtmogpfhhmekbiaaDoor.S
open Go.RowKit Go.Proofs.YtmogpfhhmekbiaaDoorW.PrintWords Go.Proofs.YtmogpfhhmekbiaaDoorW.PrintLast Go.Proofs.YtmogpfhhmekbiaaDoorW.PrintMore
set_option linter.unusedVariables false
set_option linter.unusedSimpArgs false
theorem bt_nums (l : List Int) (i : Nat) (x : Int) (h : l[i]? = some x) (h0 : 0 ≤ x) (h1 : x < 256) : bt (strOfNums l) (i : Int) = x := by
  obtain ⟨hl, hx⟩ := List.getElem?_eq_some_iff.1 h
  have hs : i < (strOfNums l).size := by rw [strOfNums_size]; exact hl
  rw [bt_at8]
  have e : at8 (strOfNums l) i = (UInt8.ofNat x.toNat).toNat := by
    show ((List.map (fun n => UInt8.ofNat (Int.toNat n)) l).toArray.toList.getD i 0).toNat = _
    simp [List.getD_eq_getElem?_getD, h]
  rw [e]
  simp
  omega
theorem byteAt_range (v : Int) (k : Nat) : 0 ≤ byteAt v k ∧ byteAt v k < 256 := by unfold byteAt; omega
theorem two_mods (q m : Int) (hm : 0 < m) : q / 256 % m * 256 + q % 256 = q % (m * 256) := by
  have h1 := Int.emod_add_mul_ediv q 256
  have h2 := Int.emod_add_mul_ediv (q / 256) m
  have h3 := Int.emod_nonneg (q / 256) (show m ≠ 0 by omega)
  have h4 := Int.emod_lt_of_pos (q / 256) hm
  have e : q = (q / 256 % m * 256 + q % 256) + m * 256 * (q / 256 / m) := by
    have h5 : m * 256 * (q / 256 / m) = 256 * (m * (q / 256 / m)) := by rw [Int.mul_comm m 256, Int.mul_assoc]
    omega
  have hlt : q / 256 % m * 256 + q % 256 < m * 256 := by omega
  have hge : 0 ≤ q / 256 % m * 256 + q % 256 := by omega
  conv => rhs; rw [e]
  rw [Int.add_mul_emod_self_left, Int.emod_eq_of_lt hge hlt]
theorem numOf_row (v : Int) (n : Nat) (hn : n ≤ 8) (rest : List Int) : ∀ i, i ≤ n → numOf (strOfNums ((byteRow v).drop (8 - n) ++ rest)) i = v / 2 ^ (8 * (n - i)) % 256 ^ i
  | 0, _ => by simp [numOf]
  | i + 1, h => by
    unfold numOf
    rw [numOf_row v n hn rest i (by omega)]
    have hb : bt (strOfNums ((byteRow v).drop (8 - n) ++ rest)) (i : Int) = byteAt v (8 - n + i) := by
      refine bt_nums _ i _ ?_ (byteAt_range _ _).1 (byteAt_range _ _).2
      have hl : (byteRow v).length = 8 := by simp [byteRow]
      rw [List.getElem?_append_left (by rw [List.length_drop, hl]; omega), List.getElem?_drop]
      unfold byteRow
      rw [List.getElem?_map, List.getElem?_range (by omega)]
      rfl
    rw [hb]
    unfold byteAt
    rw [show 8 * (7 - (8 - n + i)) = 8 * (n - (i + 1)) by omega, show 8 * (n - i) = 8 * (n - (i + 1)) + 8 by omega, Int.pow_add]
    have hp : (0 : Int) ≤ 2 ^ (8 * (n - (i + 1))) := Int.le_of_lt (Int.pow_pos (by decide))
    rw [show (2 : Int) ^ 8 = 256 from rfl, Int.pow_succ]
    generalize (2 : Int) ^ (8 * (n - (i + 1))) = p at hp ⊢
    have e2 : v / (p * 256) = v / p / 256 := by rw [Int.ediv_ediv, if_neg (fun h => absurd h.1 (by omega)), Int.sub_zero]
    rw [e2]
    exact two_mods _ _ (Int.pow_pos (by decide))
theorem numOf_back (v : Int) (n : Nat) (hn : n ≤ 8) (rest : List Int) (h0 : 0 ≤ v) (h1 : v < 256 ^ n) : numOf (strOfNums ((byteRow v).drop (8 - n) ++ rest)) n = v := by
  rw [numOf_row v n hn rest n (Nat.le_refl _), Nat.sub_self, Nat.mul_zero, Int.pow_zero, Int.ediv_one]
  exact Int.emod_eq_of_lt h0 h1
theorem rest_back (v : Int) (n : Nat) (hn : n ≤ 8) (rest : List Int) : (strOfNums ((byteRow v).drop (8 - n) ++ rest)).extract n (strOfNums ((byteRow v).drop (8 - n) ++ rest)).size = strOfNums rest := by
  refine L_ext ?_
  rw [L_drop, strOfNums_add, L_append, List.drop_append_of_le_length (by rw [L_len, strOfNums_size]; simp [byteRow]; omega), List.drop_of_length_le (by rw [L_len, strOfNums_size]; simp [byteRow]; omega)]
  rfl
theorem numP_back (v : Int) (n : Nat) (hn : n ≤ 6) (rest : List Int) (h0 : 0 ≤ v) (h1 : v < 256 ^ n) : numP (strOfNums ((byteRow v).drop (8 - n) ++ rest)) 0 n = (v, true, true, strOfNums rest, 0) := by
  unfold numP
  rw [if_pos rfl, if_neg (by rw [strOfNums_size]; simp [byteRow]; omega), numOf_back v n (by omega) rest h0 h1, rest_back v n (by omega) rest]
theorem byte_back (v : Int) (rest : List Int) (k : Nat) (hk : 10 ≤ k) (h : isByte v = true) : code_In_Byte.f k true (strOfNums ((byteRow v).drop (8 - 1) ++ rest)) 0 = some (v, true, strOfNums rest, 0) := by
  have hr : 0 ≤ v ∧ v ≤ 255 := by simpa [isByte] using h
  have hp := number_prog (strOfNums ((byteRow v).drop (8 - 1) ++ rest)) 0 1 k (by omega) (by omega)
  rw [show ((1 : Nat) : Int) = 1 from rfl, numP_back v 1 (by omega) rest hr.1 (by omega)] at hp
  unfold code_In_Byte.f
  rw [hp]
  rfl
theorem stamp_back (a n : Int) (rest : List Int) (k : Nat) (hk : 10 ≤ k) (ha : isTime a = true) (hn : isByte n = true) :
    code_In_Stamp.f k true (strOfNums ((byteRow a).drop (8 - 6) ++ ((byteRow n).drop (8 - 1) ++ rest))) 0 = some (a, n, true, strOfNums rest, 0) := by
  have hr : 0 ≤ a ∧ a ≤ 1099511627775 := by simpa [isTime] using ha
  have hr' : 0 ≤ n ∧ n ≤ 255 := by simpa [isByte] using hn
  have hp := number_prog (strOfNums ((byteRow a).drop (8 - 6) ++ ((byteRow n).drop (8 - 1) ++ rest))) 0 6 k (by omega) (by omega)
  rw [show ((6 : Nat) : Int) = 6 from rfl, numP_back a 6 (by omega) _ hr.1 (by omega)] at hp
  have hp' := number_prog (strOfNums ((byteRow n).drop (8 - 1) ++ rest)) 0 1 k (by omega) (by omega)
  rw [show ((1 : Nat) : Int) = 1 from rfl, numP_back n 1 (by omega) _ hr'.1 (by omega)] at hp'
  unfold code_In_Stamp.f code_In_Num.f
  rw [hp]
  simp only [Option.bind_some, if_pos]
  rw [time_f, Option.bind_some, if_pos ha, Option.bind_some, hp', Option.bind_some]
  rfl
theorem text_back (s : ByteArray) (rest : List Int) (k : Nat) (hk : 10 ≤ k) (hs : s.size ≤ 1024) :
    code_In_Text.f k true (strOfNums ((byteRow (s.size : Int)).drop (8 - 2) ++ (bytesOf s ++ rest))) 0 1024 = some (s, true, strOfNums rest, 0) := by
  obtain ⟨k, rfl⟩ : ∃ k', k = k' + 1 := ⟨k - 1, by omega⟩
  have hp := number_prog (strOfNums ((byteRow (s.size : Int)).drop (8 - 2) ++ (bytesOf s ++ rest))) 0 2 (k + 1) (by omega) (by omega)
  rw [show ((2 : Nat) : Int) = 2 from rfl, numP_back (s.size : Int) 2 (by omega) _ (by omega) (by omega)] at hp
  unfold code_In_Text.f
  rw [hp]
  have e : strOfNums (bytesOf s ++ rest) = s ++ strOfNums rest := by rw [strOfNums_add, strOfNums_bytes]
  have e1 : (s ++ strOfNums rest).extract 0 s.size = s := L_ext (by rw [L_take, L_append, ← L_len]; simp)
  have e2 : (s ++ strOfNums rest).extract s.size (s ++ strOfNums rest).size = strOfNums rest := L_ext (by rw [L_drop, L_append, ← L_len]; simp)
  have e3 : s.size ≤ (s ++ strOfNums rest).size := by simp
  simp only [Option.bind_some, if_pos]
  rw [if_neg (by omega), e]
  simp only [code_In_take.f, if_pos, code_In_take.j0]
  rw [if_neg (by decide), if_neg (by omega), if_pos (by omega), if_pos (by omega), Option.bind_some]
  simp only [Int.toNat_natCast]
  rw [e1, e2]
end Go.Proofs.YtmogpfhhmekbiaaDoor.S
/- An operation that was put is taken. -/
namespace Go.Proofs.YtmogpfhhmekbiaaDoor.S
open Go.RowKit Go.Proofs.YtmogpfhhmekbiaaDoorW.PrintWords Go.Proofs.YtmogpfhhmekbiaaDoorW.PrintLast Go.Proofs.YtmogpfhhmekbiaaDoorW.PrintMore
set_option linter.unusedVariables false
set_option linter.unusedSimpArgs false
theorem puts_good (b : List Int) (s : ByteArray) (ps : List (Int × Nat)) (h : b.length + (s.size + total ps) ≤ 65536) : St.puts (false, b) true s ps = (false, b ++ partBytes ps ++ bytesOf s) := by
  have e : isBad false true b s ps = false := by unfold isBad; simp; omega
  unfold St.puts putsTo
  simp [e]
theorem size_nil : (⟨#[]⟩ : ByteArray).size = 0 := rfl
theorem fine_ok {t w : Int} (h : fineB t w = true) : isTime t = true ∧ isByte w = true := by
  have h' : 1 ≤ t ∧ t ≤ 1099511627775 ∧ 1 ≤ w ∧ w ≤ 6 := by simpa [fineB] using h
  exact ⟨by simp [isTime]; omega, by simp [isByte]; omega⟩
theorem out_ok {t w : Int} (h : outB t w = true) : isTime t = true ∧ isByte w = true := by
  have h' : (t = 0 ∧ w = 0) ∨ (t = 0 ∧ w = 1) := by simpa [outB] using h
  rcases h' with ⟨rfl, rfl⟩ | ⟨rfl, rfl⟩ <;> decide
theorem good_ok {o t1 w1 t2 w2 t3 w3 : Int} {nm v : ByteArray} (h : goodOp o t1 w1 t2 w2 t3 w3 nm v = true) :
    isByte o = true ∧ (isTime t1 = true ∧ isByte w1 = true) ∧ (isTime t2 = true ∧ isByte w2 = true) ∧ (isTime t3 = true ∧ isByte w3 = true) := by
  unfold goodOp at h
  simp only [Bool.and_eq_true] at h
  obtain ⟨⟨h1, h2⟩, h3⟩ := h
  have h0 : isTime 0 = true ∧ isByte 0 = true := by decide
  have hz : (t3 = 0 ∧ w3 = 0) → isTime t3 = true ∧ isByte w3 = true := by rintro ⟨rfl, rfl⟩; exact h0
  have hp : (outB t3 w3 || fineB t3 w3) = true → isTime t3 = true ∧ isByte w3 = true := fun h => by
    rcases Bool.or_eq_true_iff.1 h with h | h
    · exact out_ok h
    · exact fine_ok h
  by_cases k1 : o = 1
  · subst k1; simp only [if_pos, Bool.and_eq_true] at h3; exact ⟨by decide, fine_ok h1, fine_ok h2, hp h3.1.2⟩
  by_cases k2 : o = 2
  · subst k2; simp only [if_neg k1, if_pos, Bool.and_eq_true] at h3; exact ⟨by decide, fine_ok h1, fine_ok h2, hp h3.1.1⟩
  by_cases k3 : o = 3
  · subst k3; simp only [if_neg k1, if_neg k2, if_pos, Bool.and_eq_true, beq_iff_eq] at h3; exact ⟨by decide, fine_ok h1, fine_ok h2, hz h3.1.1⟩
  by_cases k4 : o = 4
  · subst k4; simp only [if_neg k1, if_neg k2, if_neg k3, if_pos, Bool.and_eq_true, beq_iff_eq] at h3; exact ⟨by decide, fine_ok h1, fine_ok h2, hz h3.1.1⟩
  by_cases k5 : o = 5
  · subst k5; simp only [if_neg k1, if_neg k2, if_neg k3, if_neg k4, if_pos, Bool.and_eq_true, beq_iff_eq] at h3; exact ⟨by decide, fine_ok h1, fine_ok h2, hz h3.1.1⟩
  simp only [if_neg k1, if_neg k2, if_neg k3, if_neg k4, if_neg k5] at h3
  exact absurd h3 (by decide)
/-- The bytes of an operation. -/
def opBytes (o t1 w1 t2 w2 t3 w3 : Int) (nm v : ByteArray) : List Int :=
  (byteRow o).drop (8 - 1) ++ ((byteRow t1).drop (8 - 6) ++ ((byteRow w1).drop (8 - 1) ++ ((byteRow t2).drop (8 - 6) ++ ((byteRow w2).drop (8 - 1) ++ ((byteRow t3).drop (8 - 6) ++ ((byteRow w3).drop (8 - 1) ++
    ((byteRow (nm.size : Int)).drop (8 - 2) ++ (bytesOf nm ++ ((byteRow (v.size : Int)).drop (8 - 2) ++ (bytesOf v ++ []))))))))))
theorem op_good (o t1 w1 t2 w2 t3 w3 : Int) (nm v : ByteArray) (h : goodOp o t1 w1 t2 w2 t3 w3 nm v = true) (h7 : nm.size ≤ 1024) (h8 : v.size ≤ 1024) :
    St.op (false, []) o t1 w1 t2 w2 t3 w3 nm v = (false, opBytes o t1 w1 t2 w2 t3 w3 nm v) := by
  obtain ⟨k0, k1, k2, k3⟩ := good_ok h
  have hl : ∀ x : Int, (byteRow x).length = 8 := fun x => by simp [byteRow]
  have hb : ∀ s : ByteArray, (bytesOf s).length = s.size := fun s => by simp [bytesOf]
  unfold St.op St.byte St.stamp St.text
  rw [k0, k1.1, k1.2, k2.1, k2.2, k3.1, k3.2, show decide ((nm.size : Int) ≤ 65535) = true by simp; omega, show decide ((v.size : Int) ≤ 65535) = true by simp; omega]
  simp only [Bool.and_true]
  rw [puts_good _ _ _ (by simp [total, size_nil] <;> omega), puts_good _ _ _ (by simp [total, size_nil, partBytes, hl, bytesOf_nil] <;> omega), puts_good _ _ _ (by simp [total, size_nil, partBytes, hl, bytesOf_nil] <;> omega), puts_good _ _ _ (by simp [total, size_nil, partBytes, hl, bytesOf_nil] <;> omega),
    puts_good _ _ _ (by simp [total, size_nil, partBytes, hl, bytesOf_nil] <;> omega), puts_good _ _ _ (by simp [total, size_nil, partBytes, hl, hb, bytesOf_nil] <;> omega)]
  unfold opBytes
  simp [partBytes, bytesOf_nil, List.append_assoc]
theorem takes_back (o t1 w1 t2 w2 t3 w3 : Int) (nm v : ByteArray) (k : Nat) (hk : 10 ≤ k) (h : goodOp o t1 w1 t2 w2 t3 w3 nm v = true) (h7 : nm.size ≤ 1024) (h8 : v.size ≤ 1024) :
    snap_takes.f k true (strOfNums (opBytes o t1 w1 t2 w2 t3 w3 nm v)) 0 = some (o, t1, w1, t2, w2, t3, w3, nm, v, true, ⟨#[]⟩, 0) := by
  obtain ⟨k0, k1, k2, k3⟩ := good_ok h
  unfold snap_takes.f opBytes
  rw [byte_back o _ k hk k0, Option.bind_some, stamp_back t1 w1 _ k hk k1.1 k1.2, Option.bind_some, stamp_back t2 w2 _ k hk k2.1 k2.2, Option.bind_some, stamp_back t3 w3 _ k hk k3.1 k3.2, Option.bind_some,
    text_back nm _ k hk h7, Option.bind_some, text_back v _ k hk h8, Option.bind_some]
  rfl
theorem put_take (o t1 w1 t2 w2 t3 w3 : Int) (nm v : ByteArray) (n : Nat) (hn : 10 ≤ n) (h : goodOp o t1 w1 t2 w2 t3 w3 nm v = true) (h7 : nm.size ≤ 1024) (h8 : v.size ≤ 1024) :
    snap_TakeOp.f (n + 3) (strOfNums (opBytes o t1 w1 t2 w2 t3 w3 nm v)) = some (o, t1, w1, t2, w2, t3, w3, nm, v, 0) := by
  unfold snap_TakeOp.f code_NewIn.f
  rw [Option.bind_some, takes_back o t1 w1 t2 w2 t3 w3 nm v (n + 3) (by omega) h h7 h8, Option.bind_some]
  have hc := check11_is n o t1 w1 t2 w2 t3 w3 nm v (by omega)
  rw [if_pos h] at hc
  have he : (⟨#[]⟩ : ByteArray).toList = ([] : List UInt8) := toL _
  unfold code_In_Done.f
  simp only [if_pos, he, Option.bind_some, hc]
end Go.Proofs.YtmogpfhhmekbiaaDoor.S
/- What was read is what was written. -/
namespace Go.Proofs.YtmogpfhhmekbiaaDoor.S
open Go.RowKit Go.Proofs.YtmogpfhhmekbiaaDoorW.PrintWords Go.Proofs.YtmogpfhhmekbiaaDoorW.PrintLast Go.Proofs.YtmogpfhhmekbiaaDoorW.PrintMore
set_option linter.unusedVariables false
set_option linter.unusedSimpArgs false
theorem numOf_digit (s : ByteArray) : ∀ (n j : Nat), j < n → numOf s n / 2 ^ (8 * j) % 256 = bt s ((n - 1 - j : Nat) : Int)
  | 0, j, h => absurd h (by omega)
  | n + 1, 0, h => by
    have hb := bt_range s (n : Int)
    simp only [numOf, Nat.mul_zero, Int.pow_zero, Int.ediv_one, Nat.add_sub_cancel, Nat.sub_zero]
    omega
  | n + 1, j + 1, h => by
    have hb := bt_range s (n : Int)
    have ih := numOf_digit s n j (by omega)
    rw [show 8 * (j + 1) = 8 + 8 * j by omega, Int.pow_add, show (2 : Int) ^ 8 = 256 from rfl]
    have e2 : numOf s (n + 1) / (256 * 2 ^ (8 * j)) = numOf s (n + 1) / 256 / 2 ^ (8 * j) := by rw [Int.ediv_ediv, if_neg (fun h => absurd h.1 (by decide)), Int.sub_zero]
    rw [e2, show numOf s (n + 1) / 256 = numOf s n by simp only [numOf]; omega, ih]
    congr 2
    omega
theorem row_back (s : ByteArray) (n : Nat) (hn : n ≤ 6) (hs : n ≤ s.size) : strOfNums ((byteRow (numOf s n)).drop (8 - n)) = s.extract 0 n := by
  refine L_ext ?_
  rw [L_take]
  refine List.ext_getElem? fun i => ?_
  by_cases hi : i < n
  · have hb := numOf_digit s n (n - 1 - i) (by omega)
    rw [show n - 1 - (n - 1 - i) = i by omega] at hb
    have hl : i < s.data.toList.length := by simpa using (by omega : i < s.size)
    rw [List.getElem?_take, if_pos hi]
    show (List.map (fun n => UInt8.ofNat (Int.toNat n)) _).toArray.toList[i]? = _
    simp only [List.getElem?_map, List.getElem?_drop]
    rw [show (byteRow (numOf s n))[8 - n + i]? = some (byteAt (numOf s n) (8 - n + i)) by unfold byteRow; rw [List.getElem?_map, List.getElem?_range (by omega)]; rfl]
    unfold byteAt
    rw [show 7 - (8 - n + i) = n - 1 - i by omega, hb, bt_at8]
    simp [at8, L, List.getD_eq_getElem?_getD, List.getElem?_eq_getElem hl]
  · have h1 : (strOfNums ((byteRow (numOf s n)).drop (8 - n))).size = n := by rw [strOfNums_size]; simp [byteRow]; omega
    rw [List.getElem?_eq_none (by rw [L_len, h1]; omega), List.getElem?_eq_none (by simp; omega)]
end Go.Proofs.YtmogpfhhmekbiaaDoor.S
/- What was taken is put as the same text. -/
namespace Go.Proofs.YtmogpfhhmekbiaaDoor.S
open Go.RowKit Go.Proofs.YtmogpfhhmekbiaaDoorW.PrintWords Go.Proofs.YtmogpfhhmekbiaaDoorW.PrintLast Go.Proofs.YtmogpfhhmekbiaaDoorW.PrintMore
set_option linter.unusedVariables false
set_option linter.unusedSimpArgs false
theorem split_at (s : ByteArray) (n : Nat) : s.extract 0 n ++ s.extract n s.size = s := L_ext (by rw [L_append, L_take, L_drop, List.take_append_drop])
theorem numP_fwd (s : ByteArray) (e : Int) (n : Nat) (hn : n ≤ 6) : ∃ v ok s' e', numP s e n = (v, ok, true, s', e') ∧ (ok = true → e' = 0) ∧ (e' = 0 → ok = true ∧ e = 0 ∧ s = strOfNums ((byteRow v).drop (8 - n)) ++ s' ∧ v = numOf s n) := by
  unfold numP
  by_cases he : e = 0
  · subst he
    by_cases hs : s.size < n
    · simp only [if_pos, hs]
      exact ⟨0, false, ⟨#[]⟩, 90, rfl, fun h => absurd h (by decide), fun h => absurd h (by decide)⟩
    · simp only [if_pos, if_neg hs]
      exact ⟨_, true, _, 0, rfl, fun _ => rfl, fun _ => ⟨by first | rfl | trivial, by first | rfl | trivial, by rw [row_back s n hn (by omega), split_at], rfl⟩⟩
  · simp only [if_neg he]
    exact ⟨0, false, s, e, rfl, fun h => absurd h (by decide), fun h => absurd h he⟩
theorem byte_fwd (s : ByteArray) (e : Int) (k : Nat) (hk : 10 ≤ k) : ∃ v s' e', code_In_Byte.f k true s e = some (v, true, s', e') ∧ (e' = 0 → e = 0 ∧ s = strOfNums ((byteRow v).drop (8 - 1)) ++ s') := by
  have hp := number_prog s e 1 k (by omega) (by omega)
  rw [show ((1 : Nat) : Int) = 1 from rfl] at hp
  obtain ⟨v, ok, s', e', h1, h2, h3⟩ := numP_fwd s e 1 (by omega)
  unfold code_In_Byte.f
  rw [hp, h1]
  exact ⟨v, s', e', rfl, fun h => ⟨(h3 h).2.1, (h3 h).2.2.1⟩⟩
theorem stamp_fwd (s : ByteArray) (e : Int) (k : Nat) (hk : 10 ≤ k) : ∃ a n s' e', code_In_Stamp.f k true s e = some (a, n, true, s', e') ∧ (e' = 0 → e = 0 ∧ s = strOfNums ((byteRow a).drop (8 - 6)) ++ (strOfNums ((byteRow n).drop (8 - 1)) ++ s')) := by
  have hp := number_prog s e 6 k (by omega) (by omega)
  rw [show ((6 : Nat) : Int) = 6 from rfl] at hp
  obtain ⟨v, ok, s1, e1, h1, h2, h3⟩ := numP_fwd s e 6 (by omega)
  have hnum : ∃ a s2 e2, code_In_Num.f k true s e = some (a, true, s2, e2) ∧ (e2 = 0 → e = 0 ∧ s = strOfNums ((byteRow a).drop (8 - 6)) ++ s2) := by
    unfold code_In_Num.f
    rw [hp, h1]
    simp only [Option.bind_some]
    cases ok with
    | false =>
      rw [if_neg (by decide)]
      exact ⟨v, s1, e1, rfl, fun h => absurd (h3 h).1 (by decide)⟩
    | true =>
      rw [if_pos rfl, time_f, Option.bind_some]
      cases isTime v with
      | true => exact ⟨v, s1, e1, rfl, fun h => ⟨(h3 h).2.1, (h3 h).2.2.1⟩⟩
      | false =>
        rw [if_neg (by decide)]
        unfold code_In_wrong.f
        rw [if_pos (h2 rfl)]
        exact ⟨0, ⟨#[]⟩, 91, rfl, fun h => absurd h (by decide)⟩
  obtain ⟨a, s2, e2, g1, g2⟩ := hnum
  have hp' := number_prog s2 e2 1 k (by omega) (by omega)
  rw [show ((1 : Nat) : Int) = 1 from rfl] at hp'
  obtain ⟨n, ok', s3, e3, f1, f2, f3⟩ := numP_fwd s2 e2 1 (by omega)
  unfold code_In_Stamp.f
  rw [g1, Option.bind_some]
  simp only []
  rw [hp', f1]
  simp only [Option.bind_some]
  cases ok' with
  | false =>
    rw [if_neg (by decide)]
    exact ⟨0, 0, s3, e3, rfl, fun h => absurd (f3 h).1 (by decide)⟩
  | true =>
    rw [if_pos rfl]
    refine ⟨a, n, s3, e3, rfl, fun h => ?_⟩
    obtain ⟨_, q1, q2, _⟩ := f3 h
    exact ⟨(g2 q1).1, by rw [← q2]; exact (g2 q1).2⟩
theorem text_fwd (s : ByteArray) (e : Int) (k : Nat) (hk : 10 ≤ k) : ∃ v s' e', code_In_Text.f k true s e 1024 = some (v, true, s', e') ∧ (e' = 0 → e = 0 ∧ v.size ≤ 1024 ∧ s = strOfNums ((byteRow (v.size : Int)).drop (8 - 2)) ++ (v ++ s')) := by
  have hp := number_prog s e 2 k (by omega) (by omega)
  rw [show ((2 : Nat) : Int) = 2 from rfl] at hp
  obtain ⟨k, rfl⟩ : ∃ k', k = k' + 1 := ⟨k - 1, by omega⟩
  obtain ⟨n, ok, s1, e1, h1, h2, h3⟩ := numP_fwd s e 2 (by omega)
  unfold code_In_Text.f
  rw [hp, h1]
  simp only [Option.bind_some]
  cases ok with
  | false =>
    rw [if_neg (by decide)]
    exact ⟨⟨#[]⟩, s1, e1, rfl, fun h => absurd (h3 h).1 (by decide)⟩
  | true =>
    have he := h2 rfl
    subst he
    obtain ⟨_, q1, q2, q3⟩ := h3 rfl
    have h0 := (numOf_range s 2 (by omega)).1
    rw [← q3] at h0
    rw [if_pos rfl]
    by_cases ht : n > 1024
    · rw [if_pos ht]
      exact ⟨⟨#[]⟩, ⟨#[]⟩, 91, rfl, fun h => absurd h (by decide)⟩
    · rw [if_neg ht]
      simp only [code_In_take.f, if_pos, code_In_take.j0]
      rw [if_neg (by decide)]
      by_cases hz : n > (s1.size : Int)
      · rw [if_pos hz]
        exact ⟨⟨#[]⟩, ⟨#[]⟩, 90, rfl, fun h => absurd h (by decide)⟩
      · rw [if_neg hz, if_pos h0, if_pos (by omega)]
        have hv : (s1.extract 0 n.toNat).size = n.toNat := by simp; omega
        refine ⟨s1.extract 0 n.toNat, s1.extract n.toNat s1.size, 0, rfl, fun _ => ⟨q1, by omega, ?_⟩⟩
        rw [hv, split_at, show ((n.toNat : Nat) : Int) = n by omega]
        exact q2
theorem take_put (s : ByteArray) (n : Nat) (hn : 2000 ≤ n) : ∃ o t1 w1 t2 w2 t3 w3 nm v i, snap_TakeOp.f (n + 3) s = some (o, t1, w1, t2, w2, t3, w3, nm, v, i) ∧
    (i = 0 → goodOp o t1 w1 t2 w2 t3 w3 nm v = true ∧ nm.size ≤ 1024 ∧ v.size ≤ 1024 ∧ s = strOfNums (opBytes o t1 w1 t2 w2 t3 w3 nm v)) := by
  obtain ⟨o, p1, e1, a1, c1⟩ := byte_fwd s 0 (n + 3) (by omega)
  obtain ⟨t1, w1, p2, e2, a2, c2⟩ := stamp_fwd p1 e1 (n + 3) (by omega)
  obtain ⟨t2, w2, p3, e3, a3, c3⟩ := stamp_fwd p2 e2 (n + 3) (by omega)
  obtain ⟨t3, w3, p4, e4, a4, c4⟩ := stamp_fwd p3 e3 (n + 3) (by omega)
  obtain ⟨nm, p5, e5, a5, c5⟩ := text_fwd p4 e4 (n + 3) (by omega)
  obtain ⟨v, p6, e6, a6, c6⟩ := text_fwd p5 e5 (n + 3) (by omega)
  have ht : snap_takes.f (n + 3) true s 0 = some (o, t1, w1, t2, w2, t3, w3, nm, v, true, p6, e6) := by
    unfold snap_takes.f
    rw [a1, Option.bind_some, a2, Option.bind_some, a3, Option.bind_some, a4, Option.bind_some, a5, Option.bind_some, a6, Option.bind_some]
  unfold snap_TakeOp.f code_NewIn.f
  rw [Option.bind_some, ht, Option.bind_some]
  unfold code_In_Done.f
  by_cases he : e6 = 0
  · subst he
    obtain ⟨z5, l6, x6⟩ := c6 rfl
    obtain ⟨z4, l5, x5⟩ := c5 z5
    obtain ⟨z3, x4⟩ := c4 z4
    obtain ⟨z2, x3⟩ := c3 z3
    obtain ⟨z1, x2⟩ := c2 z2
    obtain ⟨_, x1⟩ := c1 z1
    have h1 := check11_is n o t1 w1 t2 w2 t3 w3 nm v (by omega)
    by_cases hs : p6.toList = ([] : List UInt8)
    · simp only [if_pos, hs, Option.bind_some, h1]
      cases hg : goodOp o t1 w1 t2 w2 t3 w3 nm v
      · exact ⟨_, _, _, _, _, _, _, _, _, 91, rfl, fun h => absurd h (by decide)⟩
      · refine ⟨o, t1, w1, t2, w2, t3, w3, nm, v, 0, rfl, fun _ => ⟨hg, l5, l6, ?_⟩⟩
        have hp6 : p6 = strOfNums [] := L_ext (by rw [← toL, hs]; rfl)
        unfold opBytes
        rw [x1, x2, x3, x4, x5, x6, hp6]
        simp only [strOfNums_add, strOfNums_bytes]
    · simp only [if_pos, if_neg hs, Option.bind_some]
      exact ⟨_, _, _, _, _, _, _, _, _, 91, rfl, fun h => absurd h (by decide)⟩
  · simp only [if_pos, if_neg he, Option.bind_some]
    exact ⟨_, _, _, _, _, _, _, _, _, 91, rfl, fun h => absurd h (by decide)⟩
end Go.Proofs.YtmogpfhhmekbiaaDoor.S
/- The plain law of SnapOps. -/
namespace Go.Proofs.YtmogpfhhmekbiaaDoor.S
open Go.RowKit Go.Proofs.YtmogpfhhmekbiaaDoorW.PrintWords Go.Proofs.YtmogpfhhmekbiaaDoorW.PrintLast Go.Proofs.YtmogpfhhmekbiaaDoorW.PrintMore
set_option linter.unusedVariables false
set_option linter.unusedSimpArgs false
theorem put_good {o t1 w1 t2 w2 t3 w3 : Int} {nm v : ByteArray} (h : goodOp o t1 w1 t2 w2 t3 w3 nm v = true) (h7 : nm.size ≤ 1024) (h8 : v.size ≤ 1024) : putR o t1 w1 t2 w2 t3 w3 nm v = (strOfNums (opBytes o t1 w1 t2 w2 t3 w3 nm v), 0) := by
  unfold putR
  rw [if_pos h, op_good o t1 w1 t2 w2 t3 w3 nm v h h7 h8]
  rfl
theorem j2_is (n : Nat) (hn : 2000 ≤ n) (s : ByteArray) (i o t1 w1 t2 w2 t3 w3 : Int) (nm v : ByteArray) (h : i = 0 → goodOp o t1 w1 t2 w2 t3 w3 nm v = true ∧ nm.size ≤ 1024 ∧ v.size ≤ 1024 ∧ s = strOfNums (opBytes o t1 w1 t2 w2 t3 w3 nm v)) :
    samphirelaw13_SnapOps.j2 (n + 4) s i o t1 w1 t2 w2 t3 w3 nm v = some true := by
  simp only [samphirelaw13_SnapOps.j2]
  by_cases hi : i = 0
  · obtain ⟨hg, h7, h8, hs⟩ := h hi
    rw [if_pos hi, put_is n o t1 w1 t2 w2 t3 w3 nm v h7 h8, put_good hg h7 h8, Option.bind_some, ← hs, if_pos rfl, if_pos rfl]
    rfl
  · rw [if_neg hi]
    rfl
theorem j1_is (n : Nat) (hn : 2000 ≤ n) (s : ByteArray) (i o t1 w1 t2 w2 t3 w3 : Int) (nm v : ByteArray) (o' t1' w1' t2' w2' t3' w3' : Int) (nm' v' : ByteArray) (h7 : nm'.size ≤ 1024) (h8 : v'.size ≤ 1024) (h : i = 0 → goodOp o t1 w1 t2 w2 t3 w3 nm v = true ∧ nm.size ≤ 1024 ∧ v.size ≤ 1024 ∧ s = strOfNums (opBytes o t1 w1 t2 w2 t3 w3 nm v)) :
    samphirelaw13_SnapOps.j1 (n + 5) s (putR o' t1' w1' t2' w2' t3' w3' nm' v').1 (putR o' t1' w1' t2' w2' t3' w3' nm' v').2 i false o' t1' w1' t2' w2' t3' w3' nm' v' o t1 w1 t2 w2 t3 w3 nm v = some true := by
  simp only [samphirelaw13_SnapOps.j1]
  rw [if_neg (by decide)]
  have hj := j2_is n hn s i o t1 w1 t2 w2 t3 w3 nm v h
  by_cases hg : goodOp o' t1' w1' t2' w2' t3' w3' nm' v' = true
  · rw [put_good hg h7 h8]
    simp only [if_pos]
    rw [put_take o' t1' w1' t2' w2' t3' w3' nm' v' (n + 1) (by omega) hg h7 h8, Option.bind_some]
    rw [if_neg (by simp), if_pos rfl]
    exact hj
  · have he : (putR o' t1' w1' t2' w2' t3' w3' nm' v').2 = 1 := by unfold putR; rw [if_neg hg]
    rw [he, if_neg (by decide)]
    exact hj
theorem ops_is (o t1 w1 t2 w2 t3 w3 : Int) (nm v s : ByteArray) : samphirelaw13_SnapOps.f 4006 o t1 w1 t2 w2 t3 w3 nm v s = some true := by
  have hT : ∀ b : Bool, b = true → samphirelaw13_SnapOps.j0 4006 s b o t1 w1 t2 w2 t3 w3 nm v = some true := by
    rintro b rfl
    show samphirelaw13_SnapOps.j0 (4005 + 1) s true o t1 w1 t2 w2 t3 w3 nm v = _
    simp only [samphirelaw13_SnapOps.j0]
    rfl
  unfold samphirelaw13_SnapOps.f samphireref11_Light.f
  by_cases h7 : (nm.size : Int) ≤ 200
  · rw [if_pos h7, Option.bind_some]
    by_cases h8 : (v.size : Int) ≤ 200
    · rw [show decide ((v.size : Int) ≤ 200) = true from decide_eq_true h8, if_pos rfl]
      cases hd : decide ((s.size : Int) > 512) with
      | true => exact hT true rfl
      | false =>
        obtain ⟨o', t1', w1', t2', w2', t3', w3', nm', v', i, hk, hi⟩ := take_put s 4002 (by omega)
        obtain ⟨r, ha, hb⟩ := take_is s 4002 (by omega)
        obtain rfl := Option.some.inj (hk.symm.trans ha)
        show samphirelaw13_SnapOps.j0 (4005 + 1) s false o t1 w1 t2 w2 t3 w3 nm v = _
        simp only [samphirelaw13_SnapOps.j0]
        rw [if_neg (by decide), put_is 4002 o t1 w1 t2 w2 t3 w3 nm v (by omega) (by omega), Option.bind_some, putref_is 4004 (by omega) o t1 w1 t2 w2 t3 w3 nm v (by omega) (by omega), Option.bind_some, ha, Option.bind_some, hb, Option.bind_some,
          if_pos rfl, if_pos rfl, if_neg (by simp)]
        rw [show (i != i) = false by simp]
        exact j1_is 4000 (by omega) s i o' t1' w1' t2' w2' t3' w3' nm' v' o t1 w1 t2 w2 t3 w3 nm v (by omega) (by omega) hi
    · rw [show decide ((v.size : Int) ≤ 200) = false from decide_eq_false h8, if_neg (by decide)]
      exact hT true rfl
  · rw [if_neg h7, Option.bind_some, if_neg (by decide)]
    exact hT true rfl
end Go.Proofs.YtmogpfhhmekbiaaDoor.S
