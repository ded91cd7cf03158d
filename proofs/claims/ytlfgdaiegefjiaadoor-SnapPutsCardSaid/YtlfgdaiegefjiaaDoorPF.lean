/- What is written: the program's bytes and the reference's. -/
import Derived.Test.YtlfgdaiegefjiaaDoorSA
import Derived.Test.YtlfgdaiegefjiaaDoorSB
import Derived.Test.YtlfgdaiegefjiaaDoorSx4
import Derived.Test.YtlfgdaiegefjiaaDoorSx5
import Derived.Test.YtlfgdaiegefjiaaDoorSx6
import Derived.Test.YtlfgdaiegefjiaaDoorSx7
import Derived.Test.YtlfgdaiegefjiaaDoorSx8
import Derived.Test.YtlfgdaiegefjiaaDoorPa
import Derived.Test.YtlfgdaiegefjiaaDoorHC
namespace Go.Proofs.YtlfgdaiegefjiaaDoor.S
open Go.RowKit Go.Proofs.YtlfgdaiegefjiaaDoorW.PrintWords Go.Proofs.YtlfgdaiegefjiaaDoorW.PrintLast Go.Proofs.YtlfgdaiegefjiaaDoorW.PrintMore
open Go.Proofs.YtlfgdaiegefjiaaDoor.P hiding fine
open Go.Proofs.YtlfgdaiegefjiaaDoor.Pl
set_option linter.unusedVariables false
set_option linter.unusedSimpArgs false
theorem mask8 (x : Int) : Go.bits .and .i64 x 255 = x % 256 := by
 rw [show Go.bits .and .i64 x 255 = IntKind.i64.wrap ((BitVec.ofInt 64 x &&& BitVec.ofInt 64 255).toNat : Int) from rfl, IntKind.wrap_i64]
 have e : (BitVec.ofInt 64 x &&& BitVec.ofInt 64 255).toNat = (x % 256).toNat := by
  rw [BitVec.toNat_and, BitVec.toNat_ofInt, show (BitVec.ofInt 64 255).toNat = 2 ^ 8 - 1 from by decide, Nat.and_two_pow_sub_one_eq_mod]
  omega
 rw [e]
 omega
theorem big_step (v : Int) (j : Nat) (h : j < 8) : (Go.bits .and .i64 (shr .i64 v (wrap64 (8 * (j : Int)))) 255) % 256 = byteAt v (7 - j) := by
 rw [mask8]
 unfold byteAt shr
 have e : wrap64 (8 * (j : Int)) = 8 * (j : Int) := by unfold wrap64; omega
 rw [e, show min (8 * (j : Int)).toNat IntKind.i64.bits = 8 * (7 - (7 - j)) by simp [IntKind.bits]; omega]
 omega
theorem big_loop (v : Int) : ∀ (j k : Nat) (x : List Int), j ≤ 8 → j + 1 ≤ k → x.length + j ≤ 100 →
 samphireref09_big.l0 k v x ((j : Int) - 1) = some (strOfNums (x ++ (byteRow v).drop (8 - j)))
 | 0, k, x, hj, hk, hx => by
  obtain ⟨k, rfl⟩ : ∃ k', k = k' + 1 := ⟨k - 1, by omega⟩
  unfold samphireref09_big.l0
  rw [if_neg (by omega), show (byteRow v).drop (8 - 0) = [] from List.drop_of_length_le (by simp [byteRow]), List.append_nil]
 | j + 1, k, x, hj, hk, hx => by
  obtain ⟨k, rfl⟩ : ∃ k', k = k' + 1 := ⟨k - 1, by omega⟩
  unfold samphireref09_big.l0
  have e0 : (((j + 1 : Nat) : Int) - 1) = (j : Int) := by omega
  have e1 : wrap64 ((j : Int) - 1) = (j : Int) - 1 := by unfold wrap64; omega
  have e2 : 0 ≤ wrap64 (8 * (j : Int)) := by unfold wrap64; omega
  rw [e0, if_pos (show (j : Int) ≥ 0 by omega), if_pos e2, if_pos (show x.length < 140737488355328 by omega), big_step v j (by omega), e1, big_loop v j k _ (by omega) (by omega) (by simp; omega)]
  rw [List.append_assoc, show [byteAt v (7 - j)] ++ (byteRow v).drop (8 - j) = (byteRow v).drop (8 - (j + 1)) by
   have hl : (byteRow v).length = 8 := by simp [byteRow]
   rw [show 8 - (j + 1) = 7 - j by omega, List.drop_eq_getElem_cons (i := 7 - j) (by omega), show 7 - j + 1 = 8 - j by omega]
   simp [byteRow]]
theorem big_is (v : Int) (n k : Nat) (h : n ≤ 8) (hk : n + 1 ≤ k) : samphireref09_big.f k v (n : Int) = some (strOfNums ((byteRow v).drop (8 - n))) := by
 unfold samphireref09_big.f
 rw [show wrap64 ((n : Int) - 1) = (n : Int) - 1 by unfold wrap64; omega, big_loop v n k [] h hk (by simp; omega)]
 rfl
end Go.Proofs.YtlfgdaiegefjiaaDoor.S
/- PutOp: the program's and the reference's. -/
namespace Go.Proofs.YtlfgdaiegefjiaaDoor.S
open Go.RowKit Go.Proofs.YtlfgdaiegefjiaaDoorW.PrintWords Go.Proofs.YtlfgdaiegefjiaaDoorW.PrintLast Go.Proofs.YtlfgdaiegefjiaaDoorW.PrintMore
open Go.Proofs.YtlfgdaiegefjiaaDoor.P hiding fine
open Go.Proofs.YtlfgdaiegefjiaaDoor.Pl
set_option linter.unusedVariables false
set_option linter.unusedSimpArgs false
/-- The reference's state: the bytes as text, and whether it is bad. -/
def asRef (x : St) : ByteArray × Bool := (strOfNums x.2, x.1)
theorem strOfNums_size (l : List Int) : (strOfNums l).size = l.length := by
 show (List.map (fun n => UInt8.ofNat (Int.toNat n)) l).toArray.size = _
 simp
theorem strOfNums_add (a b : List Int) : strOfNums (a ++ b) = strOfNums a ++ strOfNums b := by
 refine L_ext ?_
 rw [L_append]
 show (List.map _ (a ++ b)).toArray.toList = (List.map _ a).toArray.toList ++ (List.map _ b).toArray.toList
 simp
theorem with_is (x : St) (ok : Bool) (s : ByteArray) (ps : List (Int × Nat)) (hps : ∀ p ∈ ps, p.2 ≤ 8) (hx : x.2.length ≤ 65536) (hs : s.size + total ps ≤ 100000) :
 samphireref09_with.f (strOfNums x.2) x.1 (strOfNums (partBytes ps ++ bytesOf s)) ok = some (asRef (x.puts ok s ps)) := by
 unfold samphireref09_with.f asRef St.puts putsTo isBad
 have e1 : (strOfNums (partBytes ps ++ bytesOf s)).size = total ps + s.size := by
  rw [strOfNums_size, List.length_append, partBytes_length ps hps]; simp [bytesOf]
 rw [e1, strOfNums_size]
 have e2 : wrap64 ((x.2.length : Int) + ((total ps + s.size : Nat) : Int)) = (x.2.length : Int) + ((total ps + s.size : Nat) : Int) := by unfold wrap64; omega
 rw [e2]
 cases ok with
 | false => simp
 | true =>
  cases hb : x.1 with
  | true => simp
  | false =>
   by_cases hc : 65536 < x.2.length + (s.size + total ps)
   · have hc' : (x.2.length : Int) + ((total ps + s.size : Nat) : Int) > 65536 := by omega
     simp [hc, hc']
     omega
   · have hc' : ¬ (x.2.length : Int) + ((total ps + s.size : Nat) : Int) > 65536 := by omega
     rw [if_pos rfl, if_neg (by decide), if_neg hc', if_pos (by omega)]
     simp [hc]
     rw [← strOfNums_add]
theorem bytesOf_nil : bytesOf ⟨#[]⟩ = [] := rfl
theorem strOfNums_bytes (s : ByteArray) : strOfNums (bytesOf s) = s := by
 refine L_ext ?_
 show (List.map (fun n => UInt8.ofNat (Int.toNat n)) (bytesOf s)).toArray.toList = s.data.toList
 simp [bytesOf, Function.comp_def]
theorem byte_is (x : St) (n : Int) (k : Nat) (hk : 2 ≤ k) (hx : x.2.length ≤ 65536) : samphireref09_Byte.f k (strOfNums x.2) x.1 n = some (asRef (x.byte n)) := by
 unfold samphireref09_Byte.f St.byte
 have hb := big_is n 1 k (by decide) hk
 rw [show ((1 : Nat) : Int) = 1 from rfl] at hb
 rw [hb, Option.bind_some]
 have hw := fun ok => with_is x ok ⟨#[]⟩ [(n, 1)] (by simp) hx (by simp [total]; decide)
 rw [show partBytes [(n, 1)] ++ bytesOf ⟨#[]⟩ = (byteRow n).drop (8 - 1) by simp [partBytes, bytesOf_nil]] at hw
 rw [hw, hw]
 by_cases h0 : n ≥ 0
 · rw [if_pos h0, show decide (n ≤ 255) = isByte n by unfold isByte; simp [h0]]; rfl
 · rw [if_neg h0, show isByte n = false by unfold isByte; simp; omega]; rfl
theorem stamp_is (x : St) (a n : Int) (k : Nat) (hk : 7 ≤ k) (hx : x.2.length ≤ 65536) : samphireref09_Stamp.f k (strOfNums x.2) x.1 a n = some (asRef (x.stamp a n)) := by
 unfold samphireref09_Stamp.f St.stamp
 have hb := big_is n 1 k (by decide) (by omega)
 have ha := big_is a 6 k (by decide) hk
 rw [show ((1 : Nat) : Int) = 1 from rfl] at hb
 rw [show ((6 : Nat) : Int) = 6 from rfl] at ha
 rw [ha, Option.bind_some, hb, Option.bind_some, ← strOfNums_add]
 have hw := fun ok => with_is x ok ⟨#[]⟩ [(a, 6), (n, 1)] (by simp) hx (by simp [total]; decide)
 rw [show partBytes [(a, 6), (n, 1)] ++ bytesOf ⟨#[]⟩ = (byteRow a).drop (8 - 6) ++ (byteRow n).drop (8 - 1) by simp [partBytes, bytesOf_nil]] at hw
 rw [if_pos (by rw [strOfNums_size, strOfNums_size]; simp [byteRow]), hw, hw]
 by_cases h0 : a ≥ 0
 · by_cases h1 : a ≤ 1099511627775
   · by_cases h2 : n ≥ 0
     · rw [if_pos h0, if_pos h1, if_pos h2, show (isTime a && isByte n) = decide (n ≤ 255) by unfold isTime isByte; simp [h0, h1, h2]]; rfl
     · rw [if_pos h0, if_pos h1, if_neg h2, show (isTime a && isByte n) = false by unfold isTime isByte; simp; omega]; rfl
   · rw [if_pos h0, if_neg h1, show (isTime a && isByte n) = false by unfold isTime isByte; simp; omega]; rfl
 · rw [if_neg h0, show (isTime a && isByte n) = false by unfold isTime isByte; simp; omega]; rfl
theorem text_is (x : St) (s : ByteArray) (k : Nat) (hk : 3 ≤ k) (hx : x.2.length ≤ 65536) : samphireref09_Text.f k (strOfNums x.2) x.1 s = some (asRef (x.text s)) := by
 unfold samphireref09_Text.f St.text
 by_cases h : (s.size : Int) > 65535
 · rw [if_pos h, show decide ((s.size : Int) ≤ 65535) = false by simp; omega]
   simp [samphireref09_with.f, asRef, St.puts, isBad, putsTo]
 · have hb := big_is (s.size : Int) 2 k (by decide) hk
   rw [show ((2 : Nat) : Int) = 2 from rfl] at hb
   have hw := fun ok => with_is x ok s [((s.size : Int), 2)] (by simp) hx (by simp [total]; omega)
   rw [show partBytes [((s.size : Int), 2)] = (byteRow (s.size : Int)).drop (8 - 2) by simp [partBytes]] at hw
   rw [strOfNums_add, strOfNums_bytes] at hw
   rw [if_neg h, hb, Option.bind_some, if_pos (by rw [strOfNums_size]; simp [byteRow]; omega), hw, show decide ((s.size : Int) ≤ 65535) = true by simp; omega]
   rfl
theorem op_is (x : St) (o t1 w1 t2 w2 t3 w3 : Int) (nm v : ByteArray) (k : Nat) (hk : 7 ≤ k) (hx : x.2.length ≤ 65536) :
 samphireref13_op.f k (strOfNums x.2) x.1 o t1 w1 t2 w2 t3 w3 nm v = some (asRef (x.op o t1 w1 t2 w2 t3 w3 nm v)) := by
 have l1 := St.byte_le x o hx
 have l2 := St.stamp_le _ t1 w1 l1
 have l3 := St.stamp_le _ t2 w2 l2
 have l4 := St.stamp_le _ t3 w3 l3
 have l5 := St.text_le _ nm l4
 have e1 := byte_is x o k (by omega) hx
 have e2 := stamp_is _ t1 w1 k hk l1
 have e3 := stamp_is _ t2 w2 k hk l2
 have e4 := stamp_is _ t3 w3 k hk l3
 have e5 := text_is _ nm k (by omega) l4
 have e6 := text_is _ v k (by omega) l5
 unfold samphireref13_op.f
 rw [e1, Option.bind_some, show (asRef (x.byte o)).1 = strOfNums (x.byte o).2 from rfl, show (asRef (x.byte o)).2 = (x.byte o).1 from rfl, e2, Option.bind_some]
 simp only [asRef] at e2 e3 e4 e5 e6 ⊢
 rw [e3, Option.bind_some, e4, Option.bind_some, e5, Option.bind_some, e6, Option.bind_some]
 rfl
end Go.Proofs.YtlfgdaiegefjiaaDoor.S
/- PutOp: the program's is the reference's. -/
namespace Go.Proofs.YtlfgdaiegefjiaaDoor.S
open Go.RowKit Go.Proofs.YtlfgdaiegefjiaaDoorW.PrintWords Go.Proofs.YtlfgdaiegefjiaaDoorW.PrintLast Go.Proofs.YtlfgdaiegefjiaaDoorW.PrintMore
open Go.Proofs.YtlfgdaiegefjiaaDoor.P hiding fine
open Go.Proofs.YtlfgdaiegefjiaaDoor.Pl
set_option linter.unusedVariables false
set_option linter.unusedSimpArgs false
end Go.Proofs.YtlfgdaiegefjiaaDoor.S
/- The readers of numbers: the program's and the reference's. -/
namespace Go.Proofs.YtlfgdaiegefjiaaDoor.S
open Go.RowKit Go.Proofs.YtlfgdaiegefjiaaDoorW.PrintWords Go.Proofs.YtlfgdaiegefjiaaDoorW.PrintLast Go.Proofs.YtlfgdaiegefjiaaDoorW.PrintMore
open Go.Proofs.YtlfgdaiegefjiaaDoor.P hiding fine
open Go.Proofs.YtlfgdaiegefjiaaDoor.Pl
set_option linter.unusedVariables false
set_option linter.unusedSimpArgs false
theorem or_step (x b : Int) (h0 : 0 ≤ x) (h1 : x < 281474976710656) (hb : 0 ≤ b) (hb2 : b < 256) : Go.bits .or .i64 (wrap64 (x * 256)) (wrap64 b) = x * 256 + b := by
 rw [show wrap64 (x * 256) = x * 256 by unfold wrap64; omega, show wrap64 b = b by unfold wrap64; omega]
 rw [show Go.bits .or .i64 (x * 256) b = IntKind.i64.wrap ((BitVec.ofInt 64 (x * 256) ||| BitVec.ofInt 64 b).toNat : Int) from rfl, IntKind.wrap_i64]
 obtain ⟨n, rfl⟩ := Int.eq_ofNat_of_zero_le h0
 obtain ⟨m, rfl⟩ := Int.eq_ofNat_of_zero_le hb
 have e : (BitVec.ofInt 64 ((n : Int) * 256) ||| BitVec.ofInt 64 (m : Int)).toNat = n * 256 + m := by
  rw [BitVec.toNat_or, BitVec.toNat_ofInt, BitVec.toNat_ofInt]
  rw [show (((n : Int) * 256) % ((2 ^ 64 : Nat) : Int)).toNat = n <<< 8 by rw [Nat.shiftLeft_eq]; omega, show ((m : Int) % ((2 ^ 64 : Nat) : Int)).toNat = m by omega]
  rw [← Nat.shiftLeft_add_eq_or_of_lt (show m < 2 ^ 8 by omega), Nat.shiftLeft_eq]
 rw [e]
 omega
def numOf (s : ByteArray) : Nat → Int
 | 0 => 0
 | n + 1 => numOf s n * 256 + bt s (n : Int)
theorem numOf_range (s : ByteArray) : ∀ n, n ≤ 6 → 0 ≤ numOf s n ∧ numOf s n < 256 ^ n
 | 0, _ => by simp [numOf]
 | n + 1, h => by
  have ih := numOf_range s n (by omega)
  have hb := bt_range s (n : Int)
  unfold numOf
  rw [Int.pow_succ]
  omega
theorem numOf_small (s : ByteArray) (n : Nat) (h : n ≤ 6) : numOf s n < 281474976710656 := by
 have h1 := (numOf_range s n h).2
 have h2 : (256 : Int) ^ n ≤ 281474976710656 := by
  match n, h with
  | 0, _ | 1, _ | 2, _ | 3, _ | 4, _ | 5, _ | 6, _ => decide
 omega
theorem ref_loop (s : ByteArray) (n : Nat) (hn : n ≤ 6) (hs : n ≤ s.size) (e : Int) : ∀ (d i k : Nat), i + d = n → d + 1 ≤ k →
 samphireref09_number.l0 k (n : Int) (numOf s i) (i : Int) s e = some (s.extract n s.size, e, numOf s n)
 | 0, i, k, hi, hk => by
  obtain ⟨k, rfl⟩ : ∃ k', k = k' + 1 := ⟨k - 1, by omega⟩
  obtain rfl : i = n := by omega
  unfold samphireref09_number.l0
  rw [if_neg (by omega), if_pos (by omega), if_pos (by omega), Int.toNat_natCast]
 | d + 1, i, k, hi, hk => by
  obtain ⟨k, rfl⟩ : ∃ k', k = k' + 1 := ⟨k - 1, by omega⟩
  have hb := bt_range s (i : Int)
  unfold samphireref09_number.l0
  rw [if_pos (by omega), if_pos (by omega), if_pos (by omega), or_step _ _ (numOf_range s i (by omega)).1 (numOf_small s i (by omega)) hb.1 (by omega),
   show wrap64 ((i : Int) + 1) = ((i + 1 : Nat) : Int) by unfold wrap64; omega]
  exact ref_loop s n hn hs e d (i + 1) k (by omega) (by omega)
theorem prog_loop (t s : ByteArray) (n : Nat) (hn : n ≤ 6) (ht : t.size = n) (hb : ∀ i : Nat, i < n → bt t (i : Int) = bt s (i : Int)) (ok md : Bool) (r : ByteArray) (e : Int) : ∀ (d i k : Nat), i + d = n → d + 1 ≤ k →
 code_In_number.l0 k t ok (numOf s i) (n : Int) (i : Int) md r e = some (numOf s n, ok, md, r, e)
 | 0, i, k, hi, hk => by
  obtain ⟨k, rfl⟩ : ∃ k', k = k' + 1 := ⟨k - 1, by omega⟩
  obtain rfl : i = n := by omega
  unfold code_In_number.l0
  rw [if_neg (by omega)]
 | d + 1, i, k, hi, hk => by
  obtain ⟨k, rfl⟩ : ∃ k', k = k' + 1 := ⟨k - 1, by omega⟩
  have hr := bt_range s (i : Int)
  unfold code_In_number.l0
  rw [if_pos (by omega), if_pos (by omega), if_pos (by omega), hb i (by omega), or_step _ _ (numOf_range s i (by omega)).1 (numOf_small s i (by omega)) hr.1 (by omega),
   show wrap64 ((i : Int) + 1) = ((i + 1 : Nat) : Int) by unfold wrap64; omega]
  exact prog_loop t s n hn ht hb ok md r e d (i + 1) k (by omega) (by omega)
theorem bt_take (s : ByteArray) (n i : Nat) (hs : n ≤ s.size) (h : i < n) : bt (s.extract 0 n) (i : Int) = bt s (i : Int) := by
 rw [bt_at8, bt_at8]
 have e := L_take s n
 simp only [at8, L] at e ⊢
 rw [e]
 simp [List.getD_eq_getElem?_getD, List.getElem?_take, h]
/-- What a number of n bytes is read as: the rest, the fault, the number. -/
def numR (s : ByteArray) (e : Int) (n : Nat) : ByteArray × Int × Int :=
 if e = 0 then (if s.size < n then (⟨#[]⟩, 90, 0) else (s.extract n s.size, 0, numOf s n)) else (⟨#[]⟩, e, 0)
theorem number_ref (s : ByteArray) (e : Int) (n k : Nat) (hn : n ≤ 6) (hk : n + 2 ≤ k) : samphireref09_number.f k s e (n : Int) = some (numR s e n) := by
 obtain ⟨k, rfl⟩ : ∃ k', k = k' + 1 := ⟨k - 1, by omega⟩
 unfold samphireref09_number.f numR
 by_cases he : e = 0
 · subst he
   rw [if_pos rfl, if_pos rfl]
   simp only [samphireref09_number.j0]
   by_cases hs : s.size < n
   · rw [if_pos hs, if_pos (by simp; omega)]
     rfl
   · rw [if_neg hs, if_neg (by simp; omega)]
     exact ref_loop s n hn (by omega) 0 n 0 k (by omega) (by omega)
 · rw [if_neg he, if_neg he]
   simp only [samphireref09_number.j0]
   rw [if_pos trivial]
   unfold samphireref09_wrong.f
   rw [if_neg he]
   rfl
/-- The same, as the program reads it: the number, whether it was read, and the reader behind it. -/
def numP (s : ByteArray) (e : Int) (n : Nat) : Int × Bool × Bool × ByteArray × Int :=
 if e = 0 then (if s.size < n then (0, false, true, ⟨#[]⟩, 90) else (numOf s n, true, true, s.extract n s.size, 0)) else (0, false, true, s, e)
theorem number_prog (s : ByteArray) (e : Int) (n k : Nat) (hn : n ≤ 6) (hk : n + 2 ≤ k) : code_In_number.f k true s e (n : Int) = some (numP s e n) := by
 obtain ⟨k, rfl⟩ : ∃ k', k = k' + 1 := ⟨k - 1, by omega⟩
 unfold code_In_number.f code_In_take.f numP
 rw [if_pos rfl]
 simp only [code_In_take.j0]
 by_cases he : e = 0
 · subst he
   rw [if_neg (by decide), if_pos rfl]
   by_cases hs : s.size < n
   · rw [if_pos (by omega), if_pos hs]
     simp only [code_In_wrong.f, if_pos, Option.bind_some]
     exact prog_loop ⟨#[]⟩ s 0 (by omega) rfl (fun i h => absurd h (by omega)) false true ⟨#[]⟩ 90 0 0 (k + 1) rfl (by omega)
   · rw [if_neg (by omega), if_pos (by omega), if_pos (by omega), if_neg hs, Option.bind_some]
     simp only [Int.toNat_natCast]
     have hl : (s.extract 0 n).size = n := by simp; omega
     rw [hl]
     exact prog_loop (s.extract 0 n) s n hn hl (fun i h => bt_take s n i (by omega) h) true true _ 0 n 0 (k + 1) (by omega) (by omega)
 · rw [if_pos (by simpa using he), if_neg he, Option.bind_some]
   exact prog_loop ⟨#[]⟩ s 0 (by omega) rfl (fun i h => absurd h (by omega)) false true s e 0 0 (k + 1) rfl (by omega)
end Go.Proofs.YtlfgdaiegefjiaaDoor.S
/- The readers: the program's and the reference's. -/
namespace Go.Proofs.YtlfgdaiegefjiaaDoor.S
open Go.RowKit Go.Proofs.YtlfgdaiegefjiaaDoorW.PrintWords Go.Proofs.YtlfgdaiegefjiaaDoorW.PrintLast Go.Proofs.YtlfgdaiegefjiaaDoorW.PrintMore
open Go.Proofs.YtlfgdaiegefjiaaDoor.P hiding fine
open Go.Proofs.YtlfgdaiegefjiaaDoor.Pl
set_option linter.unusedVariables false
set_option linter.unusedSimpArgs false
theorem num_both (sp sr : ByteArray) (e : Int) (k : Nat) (h : e = 0 → sp = sr) (hk : 10 ≤ k) :
 ∃ v sp' sr' e', code_In_Num.f k true sp e = some (v, true, sp', e') ∧ samphireref09_InNum.f k sr e = some (sr', e', v) ∧ (e' = 0 → sp' = sr') := by
 have hp := number_prog sp e 6 k (by omega) (by omega)
 have hr := number_ref sr e 6 k (by omega) (by omega)
 rw [show ((6 : Nat) : Int) = 6 from rfl] at hp hr
 unfold code_In_Num.f samphireref09_InNum.f
 rw [hp, hr]
 unfold numP numR
 by_cases he : e = 0
 · obtain rfl := h he
   subst he
   by_cases hs : sp.size < 6
   · simp only [if_pos, hs, Option.bind_some]
     exact ⟨0, ⟨#[]⟩, ⟨#[]⟩, 90, rfl, rfl, fun _ => rfl⟩
   · simp only [if_pos, if_neg hs, Option.bind_some]
     have h0 := (numOf_range sp 6 (by omega)).1
     rw [time_f, Option.bind_some]
     by_cases ht : numOf sp 6 > 1099511627775
     · rw [if_pos ht, if_neg (by unfold isTime; simp; omega)]
       exact ⟨0, ⟨#[]⟩, ⟨#[]⟩, 91, rfl, rfl, fun _ => rfl⟩
     · rw [if_neg ht, if_pos (by unfold isTime; simp; omega)]
       exact ⟨_, _, _, 0, rfl, rfl, fun _ => rfl⟩
 · simp only [if_neg he]
   exact ⟨0, sp, ⟨#[]⟩, e, rfl, rfl, fun h' => absurd h' he⟩
theorem text_both (sp sr : ByteArray) (e : Int) (k : Nat) (h : e = 0 → sp = sr) (hk : 10 ≤ k) :
 ∃ v sp' sr' e', code_In_Text.f k true sp e 1024 = some (v, true, sp', e') ∧ samphireref09_InText.f k sr e 1024 = some (sr', e', v) ∧ (e' = 0 → sp' = sr') ∧ v.size ≤ 1024 := by
 have hp := number_prog sp e 2 k (by omega) (by omega)
 have hr := number_ref sr e 2 k (by omega) (by omega)
 rw [show ((2 : Nat) : Int) = 2 from rfl] at hp hr
 obtain ⟨k, rfl⟩ : ∃ k', k = k' + 1 := ⟨k - 1, by omega⟩
 unfold code_In_Text.f samphireref09_InText.f
 rw [hp, hr]
 unfold numP numR
 by_cases he : e = 0
 · obtain rfl := h he
   subst he
   by_cases hs : sp.size < 2
   · simp only [if_pos, hs, Option.bind_some]
     exact ⟨⟨#[]⟩, ⟨#[]⟩, ⟨#[]⟩, 90, rfl, rfl, fun _ => rfl, by first | decide | (simp; omega)⟩
   · simp only [if_pos, if_neg hs, Option.bind_some]
     have h0 := (numOf_range sp 2 (by omega)).1
     by_cases ht : numOf sp 2 > 1024
     · rw [if_pos ht, if_pos ht]
       exact ⟨⟨#[]⟩, ⟨#[]⟩, ⟨#[]⟩, 91, rfl, rfl, fun _ => rfl, by first | decide | (simp; omega)⟩
     · rw [if_neg ht, if_neg ht]
       simp only [code_In_take.f, if_pos, code_In_take.j0]
       rw [if_neg (by decide)]
       by_cases hz : numOf sp 2 > ((sp.extract 2 sp.size).size : Int)
       · rw [if_pos hz, if_pos hz]
         exact ⟨⟨#[]⟩, ⟨#[]⟩, ⟨#[]⟩, 90, rfl, rfl, fun _ => rfl, by first | decide | (simp; omega)⟩
       · rw [if_neg hz, if_neg hz, if_pos h0, if_pos (by omega), if_pos h0, if_pos (by omega)]
         exact ⟨_, _, _, 0, rfl, rfl, fun _ => rfl, by first | decide | (simp; omega)⟩
 · simp only [if_neg he, Option.bind_some]
   exact ⟨⟨#[]⟩, sp, ⟨#[]⟩, e, rfl, rfl, fun h' => absurd h' he, by decide⟩
end Go.Proofs.YtlfgdaiegefjiaaDoor.S
/- What was written is read. -/
namespace Go.Proofs.YtlfgdaiegefjiaaDoor.S
open Go.RowKit Go.Proofs.YtlfgdaiegefjiaaDoorW.PrintWords Go.Proofs.YtlfgdaiegefjiaaDoorW.PrintLast Go.Proofs.YtlfgdaiegefjiaaDoorW.PrintMore
open Go.Proofs.YtlfgdaiegefjiaaDoor.P hiding fine
open Go.Proofs.YtlfgdaiegefjiaaDoor.Pl
set_option linter.unusedVariables false
set_option linter.unusedSimpArgs false
theorem bt_nums (l : List Int) (i : Nat) (x : Int) (h : l[i]? = some x) (h0 : 0 ≤ x) (h1 : x < 256) : bt (strOfNums l) (i : Int) = x := by
 obtain ⟨hl, hx⟩ := List.getElem?_eq_some_iff.1 h
 have hs : i < (strOfNums l).size := by rw [strOfNums_size]; exact hl
 rw [bt_at8]
 have e : at8 (strOfNums l) i = (UInt8.ofNat x.toNat).toNat := by
  show ((List.map (fun n => UInt8.ofNat (Int.toNat n)) l).toArray.toList.getD i 0).toNat = _
  simp [List.getD_eq_getElem?_getD, h]
 rw [e]
 simp
 omega
theorem byteAt_range (v : Int) (k : Nat) : 0 ≤ byteAt v k ∧ byteAt v k < 256 := by unfold byteAt; omega
theorem two_mods (q m : Int) (hm : 0 < m) : q / 256 % m * 256 + q % 256 = q % (m * 256) := by
 have h1 := Int.emod_add_mul_ediv q 256
 have h2 := Int.emod_add_mul_ediv (q / 256) m
 have h3 := Int.emod_nonneg (q / 256) (show m ≠ 0 by omega)
 have h4 := Int.emod_lt_of_pos (q / 256) hm
 have e : q = (q / 256 % m * 256 + q % 256) + m * 256 * (q / 256 / m) := by
  have h5 : m * 256 * (q / 256 / m) = 256 * (m * (q / 256 / m)) := by rw [Int.mul_comm m 256, Int.mul_assoc]
  omega
 have hlt : q / 256 % m * 256 + q % 256 < m * 256 := by omega
 have hge : 0 ≤ q / 256 % m * 256 + q % 256 := by omega
 conv => rhs; rw [e]
 rw [Int.add_mul_emod_self_left, Int.emod_eq_of_lt hge hlt]
theorem numOf_row (v : Int) (n : Nat) (hn : n ≤ 8) (rest : List Int) : ∀ i, i ≤ n → numOf (strOfNums ((byteRow v).drop (8 - n) ++ rest)) i = v / 2 ^ (8 * (n - i)) % 256 ^ i
 | 0, _ => by simp [numOf]
 | i + 1, h => by
  unfold numOf
  rw [numOf_row v n hn rest i (by omega)]
  have hb : bt (strOfNums ((byteRow v).drop (8 - n) ++ rest)) (i : Int) = byteAt v (8 - n + i) := by
   refine bt_nums _ i _ ?_ (byteAt_range _ _).1 (byteAt_range _ _).2
   have hl : (byteRow v).length = 8 := by simp [byteRow]
   rw [List.getElem?_append_left (by rw [List.length_drop, hl]; omega), List.getElem?_drop]
   unfold byteRow
   rw [List.getElem?_map, List.getElem?_range (by omega)]
   rfl
  rw [hb]
  unfold byteAt
  rw [show 8 * (7 - (8 - n + i)) = 8 * (n - (i + 1)) by omega, show 8 * (n - i) = 8 * (n - (i + 1)) + 8 by omega, Int.pow_add]
  have hp : (0 : Int) ≤ 2 ^ (8 * (n - (i + 1))) := Int.le_of_lt (Int.pow_pos (by decide))
  rw [show (2 : Int) ^ 8 = 256 from rfl, Int.pow_succ]
  generalize (2 : Int) ^ (8 * (n - (i + 1))) = p at hp ⊢
  have e2 : v / (p * 256) = v / p / 256 := by rw [Int.ediv_ediv, if_neg (fun h => absurd h.1 (by omega)), Int.sub_zero]
  rw [e2]
  exact two_mods _ _ (Int.pow_pos (by decide))
theorem numOf_back (v : Int) (n : Nat) (hn : n ≤ 8) (rest : List Int) (h0 : 0 ≤ v) (h1 : v < 256 ^ n) : numOf (strOfNums ((byteRow v).drop (8 - n) ++ rest)) n = v := by
 rw [numOf_row v n hn rest n (Nat.le_refl _), Nat.sub_self, Nat.mul_zero, Int.pow_zero, Int.ediv_one]
 exact Int.emod_eq_of_lt h0 h1
theorem rest_back (v : Int) (n : Nat) (hn : n ≤ 8) (rest : List Int) : (strOfNums ((byteRow v).drop (8 - n) ++ rest)).extract n (strOfNums ((byteRow v).drop (8 - n) ++ rest)).size = strOfNums rest := by
 refine L_ext ?_
 rw [L_drop, strOfNums_add, L_append, List.drop_append_of_le_length (by rw [L_len, strOfNums_size]; simp [byteRow]; omega), List.drop_of_length_le (by rw [L_len, strOfNums_size]; simp [byteRow]; omega)]
 rfl
theorem numP_back (v : Int) (n : Nat) (hn : n ≤ 6) (rest : List Int) (h0 : 0 ≤ v) (h1 : v < 256 ^ n) : numP (strOfNums ((byteRow v).drop (8 - n) ++ rest)) 0 n = (v, true, true, strOfNums rest, 0) := by
 unfold numP
 rw [if_pos rfl, if_neg (by rw [strOfNums_size]; simp [byteRow]; omega), numOf_back v n (by omega) rest h0 h1, rest_back v n (by omega) rest]
theorem byte_back (v : Int) (rest : List Int) (k : Nat) (hk : 10 ≤ k) (h : isByte v = true) : code_In_Byte.f k true (strOfNums ((byteRow v).drop (8 - 1) ++ rest)) 0 = some (v, true, strOfNums rest, 0) := by
 have hr : 0 ≤ v ∧ v ≤ 255 := by simpa [isByte] using h
 have hp := number_prog (strOfNums ((byteRow v).drop (8 - 1) ++ rest)) 0 1 k (by omega) (by omega)
 rw [show ((1 : Nat) : Int) = 1 from rfl, numP_back v 1 (by omega) rest hr.1 (by omega)] at hp
 unfold code_In_Byte.f
 rw [hp]
 rfl
theorem stamp_back (a n : Int) (rest : List Int) (k : Nat) (hk : 10 ≤ k) (ha : isTime a = true) (hn : isByte n = true) :
 code_In_Stamp.f k true (strOfNums ((byteRow a).drop (8 - 6) ++ ((byteRow n).drop (8 - 1) ++ rest))) 0 = some (a, n, true, strOfNums rest, 0) := by
 have hr : 0 ≤ a ∧ a ≤ 1099511627775 := by simpa [isTime] using ha
 have hr' : 0 ≤ n ∧ n ≤ 255 := by simpa [isByte] using hn
 have hp := number_prog (strOfNums ((byteRow a).drop (8 - 6) ++ ((byteRow n).drop (8 - 1) ++ rest))) 0 6 k (by omega) (by omega)
 rw [show ((6 : Nat) : Int) = 6 from rfl, numP_back a 6 (by omega) _ hr.1 (by omega)] at hp
 have hp' := number_prog (strOfNums ((byteRow n).drop (8 - 1) ++ rest)) 0 1 k (by omega) (by omega)
 rw [show ((1 : Nat) : Int) = 1 from rfl, numP_back n 1 (by omega) _ hr'.1 (by omega)] at hp'
 unfold code_In_Stamp.f code_In_Num.f
 rw [hp]
 simp only [Option.bind_some, if_pos]
 rw [time_f, Option.bind_some, if_pos ha, Option.bind_some, hp', Option.bind_some]
 rfl
theorem text_back (s : ByteArray) (rest : List Int) (k : Nat) (hk : 10 ≤ k) (hs : s.size ≤ 1024) :
 code_In_Text.f k true (strOfNums ((byteRow (s.size : Int)).drop (8 - 2) ++ (bytesOf s ++ rest))) 0 1024 = some (s, true, strOfNums rest, 0) := by
 obtain ⟨k, rfl⟩ : ∃ k', k = k' + 1 := ⟨k - 1, by omega⟩
 have hp := number_prog (strOfNums ((byteRow (s.size : Int)).drop (8 - 2) ++ (bytesOf s ++ rest))) 0 2 (k + 1) (by omega) (by omega)
 rw [show ((2 : Nat) : Int) = 2 from rfl, numP_back (s.size : Int) 2 (by omega) _ (by omega) (by omega)] at hp
 unfold code_In_Text.f
 rw [hp]
 have e : strOfNums (bytesOf s ++ rest) = s ++ strOfNums rest := by rw [strOfNums_add, strOfNums_bytes]
 have e1 : (s ++ strOfNums rest).extract 0 s.size = s := L_ext (by rw [L_take, L_append, ← L_len]; simp)
 have e2 : (s ++ strOfNums rest).extract s.size (s ++ strOfNums rest).size = strOfNums rest := L_ext (by rw [L_drop, L_append, ← L_len]; simp)
 have e3 : s.size ≤ (s ++ strOfNums rest).size := by simp
 simp only [Option.bind_some, if_pos]
 rw [if_neg (by omega), e]
 simp only [code_In_take.f, if_pos, code_In_take.j0]
 rw [if_neg (by decide), if_neg (by omega), if_pos (by omega), if_pos (by omega), Option.bind_some]
 simp only [Int.toNat_natCast]
 rw [e1, e2]
end Go.Proofs.YtlfgdaiegefjiaaDoor.S
/- An operation that was put is taken. -/
namespace Go.Proofs.YtlfgdaiegefjiaaDoor.S
open Go.RowKit Go.Proofs.YtlfgdaiegefjiaaDoorW.PrintWords Go.Proofs.YtlfgdaiegefjiaaDoorW.PrintLast Go.Proofs.YtlfgdaiegefjiaaDoorW.PrintMore
open Go.Proofs.YtlfgdaiegefjiaaDoor.P hiding fine
open Go.Proofs.YtlfgdaiegefjiaaDoor.Pl
set_option linter.unusedVariables false
set_option linter.unusedSimpArgs false
end Go.Proofs.YtlfgdaiegefjiaaDoor.S
/- What was read is what was written. -/
namespace Go.Proofs.YtlfgdaiegefjiaaDoor.S
open Go.RowKit Go.Proofs.YtlfgdaiegefjiaaDoorW.PrintWords Go.Proofs.YtlfgdaiegefjiaaDoorW.PrintLast Go.Proofs.YtlfgdaiegefjiaaDoorW.PrintMore
open Go.Proofs.YtlfgdaiegefjiaaDoor.P hiding fine
open Go.Proofs.YtlfgdaiegefjiaaDoor.Pl
set_option linter.unusedVariables false
set_option linter.unusedSimpArgs false
theorem numOf_digit (s : ByteArray) : ∀ (n j : Nat), j < n → numOf s n / 2 ^ (8 * j) % 256 = bt s ((n - 1 - j : Nat) : Int)
 | 0, j, h => absurd h (by omega)
 | n + 1, 0, h => by
  have hb := bt_range s (n : Int)
  simp only [numOf, Nat.mul_zero, Int.pow_zero, Int.ediv_one, Nat.add_sub_cancel, Nat.sub_zero]
  omega
 | n + 1, j + 1, h => by
  have hb := bt_range s (n : Int)
  have ih := numOf_digit s n j (by omega)
  rw [show 8 * (j + 1) = 8 + 8 * j by omega, Int.pow_add, show (2 : Int) ^ 8 = 256 from rfl]
  have e2 : numOf s (n + 1) / (256 * 2 ^ (8 * j)) = numOf s (n + 1) / 256 / 2 ^ (8 * j) := by rw [Int.ediv_ediv, if_neg (fun h => absurd h.1 (by decide)), Int.sub_zero]
  rw [e2, show numOf s (n + 1) / 256 = numOf s n by simp only [numOf]; omega, ih]
  congr 2
  omega
theorem row_back (s : ByteArray) (n : Nat) (hn : n ≤ 6) (hs : n ≤ s.size) : strOfNums ((byteRow (numOf s n)).drop (8 - n)) = s.extract 0 n := by
 refine L_ext ?_
 rw [L_take]
 refine List.ext_getElem? fun i => ?_
 by_cases hi : i < n
 · have hb := numOf_digit s n (n - 1 - i) (by omega)
   rw [show n - 1 - (n - 1 - i) = i by omega] at hb
   have hl : i < s.data.toList.length := by simpa using (by omega : i < s.size)
   rw [List.getElem?_take, if_pos hi]
   show (List.map (fun n => UInt8.ofNat (Int.toNat n)) _).toArray.toList[i]? = _
   simp only [List.getElem?_map, List.getElem?_drop]
   rw [show (byteRow (numOf s n))[8 - n + i]? = some (byteAt (numOf s n) (8 - n + i)) by unfold byteRow; rw [List.getElem?_map, List.getElem?_range (by omega)]; rfl]
   unfold byteAt
   rw [show 7 - (8 - n + i) = n - 1 - i by omega, hb, bt_at8]
   simp [at8, L, List.getD_eq_getElem?_getD, List.getElem?_eq_getElem hl]
 · have h1 : (strOfNums ((byteRow (numOf s n)).drop (8 - n))).size = n := by rw [strOfNums_size]; simp [byteRow]; omega
   rw [List.getElem?_eq_none (by rw [L_len, h1]; omega), List.getElem?_eq_none (by simp; omega)]
end Go.Proofs.YtlfgdaiegefjiaaDoor.S
/- What was taken is put as the same text. -/
namespace Go.Proofs.YtlfgdaiegefjiaaDoor.S
open Go.RowKit Go.Proofs.YtlfgdaiegefjiaaDoorW.PrintWords Go.Proofs.YtlfgdaiegefjiaaDoorW.PrintLast Go.Proofs.YtlfgdaiegefjiaaDoorW.PrintMore
open Go.Proofs.YtlfgdaiegefjiaaDoor.P hiding fine
open Go.Proofs.YtlfgdaiegefjiaaDoor.Pl
set_option linter.unusedVariables false
set_option linter.unusedSimpArgs false
theorem split_at (s : ByteArray) (n : Nat) : s.extract 0 n ++ s.extract n s.size = s := L_ext (by rw [L_append, L_take, L_drop, List.take_append_drop])
theorem numP_fwd (s : ByteArray) (e : Int) (n : Nat) (hn : n ≤ 6) : ∃ v ok s' e', numP s e n = (v, ok, true, s', e') ∧ (ok = true → e' = 0) ∧ (e' = 0 → ok = true ∧ e = 0 ∧ s = strOfNums ((byteRow v).drop (8 - n)) ++ s' ∧ v = numOf s n) := by
 unfold numP
 by_cases he : e = 0
 · subst he
   by_cases hs : s.size < n
   · simp only [if_pos, hs]
     exact ⟨0, false, ⟨#[]⟩, 90, rfl, fun h => absurd h (by decide), fun h => absurd h (by decide)⟩
   · simp only [if_pos, if_neg hs]
     exact ⟨_, true, _, 0, rfl, fun _ => rfl, fun _ => ⟨by first | rfl | trivial, by first | rfl | trivial, by rw [row_back s n hn (by omega), split_at], rfl⟩⟩
 · simp only [if_neg he]
   exact ⟨0, false, s, e, rfl, fun h => absurd h (by decide), fun h => absurd h he⟩
theorem byte_fwd (s : ByteArray) (e : Int) (k : Nat) (hk : 10 ≤ k) : ∃ v s' e', code_In_Byte.f k true s e = some (v, true, s', e') ∧ (e' = 0 → e = 0 ∧ s = strOfNums ((byteRow v).drop (8 - 1)) ++ s') := by
 have hp := number_prog s e 1 k (by omega) (by omega)
 rw [show ((1 : Nat) : Int) = 1 from rfl] at hp
 obtain ⟨v, ok, s', e', h1, h2, h3⟩ := numP_fwd s e 1 (by omega)
 unfold code_In_Byte.f
 rw [hp, h1]
 exact ⟨v, s', e', rfl, fun h => ⟨(h3 h).2.1, (h3 h).2.2.1⟩⟩
theorem stamp_fwd (s : ByteArray) (e : Int) (k : Nat) (hk : 10 ≤ k) : ∃ a n s' e', code_In_Stamp.f k true s e = some (a, n, true, s', e') ∧ (e' = 0 → e = 0 ∧ s = strOfNums ((byteRow a).drop (8 - 6)) ++ (strOfNums ((byteRow n).drop (8 - 1)) ++ s')) := by
 have hp := number_prog s e 6 k (by omega) (by omega)
 rw [show ((6 : Nat) : Int) = 6 from rfl] at hp
 obtain ⟨v, ok, s1, e1, h1, h2, h3⟩ := numP_fwd s e 6 (by omega)
 have hnum : ∃ a s2 e2, code_In_Num.f k true s e = some (a, true, s2, e2) ∧ (e2 = 0 → e = 0 ∧ s = strOfNums ((byteRow a).drop (8 - 6)) ++ s2) := by
  unfold code_In_Num.f
  rw [hp, h1]
  simp only [Option.bind_some]
  cases ok with
  | false =>
   rw [if_neg (by decide)]
   exact ⟨v, s1, e1, rfl, fun h => absurd (h3 h).1 (by decide)⟩
  | true =>
   rw [if_pos rfl, time_f, Option.bind_some]
   cases isTime v with
   | true => exact ⟨v, s1, e1, rfl, fun h => ⟨(h3 h).2.1, (h3 h).2.2.1⟩⟩
   | false =>
    rw [if_neg (by decide)]
    unfold code_In_wrong.f
    rw [if_pos (h2 rfl)]
    exact ⟨0, ⟨#[]⟩, 91, rfl, fun h => absurd h (by decide)⟩
 obtain ⟨a, s2, e2, g1, g2⟩ := hnum
 have hp' := number_prog s2 e2 1 k (by omega) (by omega)
 rw [show ((1 : Nat) : Int) = 1 from rfl] at hp'
 obtain ⟨n, ok', s3, e3, f1, f2, f3⟩ := numP_fwd s2 e2 1 (by omega)
 unfold code_In_Stamp.f
 rw [g1, Option.bind_some]
 simp only []
 rw [hp', f1]
 simp only [Option.bind_some]
 cases ok' with
 | false =>
  rw [if_neg (by decide)]
  exact ⟨0, 0, s3, e3, rfl, fun h => absurd (f3 h).1 (by decide)⟩
 | true =>
  rw [if_pos rfl]
  refine ⟨a, n, s3, e3, rfl, fun h => ?_⟩
  obtain ⟨_, q1, q2, _⟩ := f3 h
  exact ⟨(g2 q1).1, by rw [← q2]; exact (g2 q1).2⟩
theorem text_fwd (s : ByteArray) (e : Int) (k : Nat) (hk : 10 ≤ k) : ∃ v s' e', code_In_Text.f k true s e 1024 = some (v, true, s', e') ∧ (e' = 0 → e = 0 ∧ v.size ≤ 1024 ∧ s = strOfNums ((byteRow (v.size : Int)).drop (8 - 2)) ++ (v ++ s')) := by
 have hp := number_prog s e 2 k (by omega) (by omega)
 rw [show ((2 : Nat) : Int) = 2 from rfl] at hp
 obtain ⟨k, rfl⟩ : ∃ k', k = k' + 1 := ⟨k - 1, by omega⟩
 obtain ⟨n, ok, s1, e1, h1, h2, h3⟩ := numP_fwd s e 2 (by omega)
 unfold code_In_Text.f
 rw [hp, h1]
 simp only [Option.bind_some]
 cases ok with
 | false =>
  rw [if_neg (by decide)]
  exact ⟨⟨#[]⟩, s1, e1, rfl, fun h => absurd (h3 h).1 (by decide)⟩
 | true =>
  have he := h2 rfl
  subst he
  obtain ⟨_, q1, q2, q3⟩ := h3 rfl
  have h0 := (numOf_range s 2 (by omega)).1
  rw [← q3] at h0
  rw [if_pos rfl]
  by_cases ht : n > 1024
  · rw [if_pos ht]
    exact ⟨⟨#[]⟩, ⟨#[]⟩, 91, rfl, fun h => absurd h (by decide)⟩
  · rw [if_neg ht]
    simp only [code_In_take.f, if_pos, code_In_take.j0]
    rw [if_neg (by decide)]
    by_cases hz : n > (s1.size : Int)
    · rw [if_pos hz]
      exact ⟨⟨#[]⟩, ⟨#[]⟩, 90, rfl, fun h => absurd h (by decide)⟩
    · rw [if_neg hz, if_pos h0, if_pos (by omega)]
      have hv : (s1.extract 0 n.toNat).size = n.toNat := by simp; omega
      refine ⟨s1.extract 0 n.toNat, s1.extract n.toNat s1.size, 0, rfl, fun _ => ⟨q1, by omega, ?_⟩⟩
      rw [hv, split_at, show ((n.toNat : Nat) : Int) = n by omega]
      exact q2
end Go.Proofs.YtlfgdaiegefjiaaDoor.S
/- The plain law of SnapOps. -/
namespace Go.Proofs.YtlfgdaiegefjiaaDoor.S
open Go.RowKit Go.Proofs.YtlfgdaiegefjiaaDoorW.PrintWords Go.Proofs.YtlfgdaiegefjiaaDoorW.PrintLast Go.Proofs.YtlfgdaiegefjiaaDoorW.PrintMore
open Go.Proofs.YtlfgdaiegefjiaaDoor.P hiding fine
open Go.Proofs.YtlfgdaiegefjiaaDoor.Pl
set_option linter.unusedVariables false
set_option linter.unusedSimpArgs false
end Go.Proofs.YtlfgdaiegefjiaaDoor.S
