/- What is written: the program's bytes and the reference's. -/
import Derived.Test.YtmogpfhhmekbiaaDoorPa
import Derived.Test.YtmogpfhhmekbiaaDoorHc
import Derived.Test.YtmogpfhhmekbiaaDoorSx12
import Derived.Test.YtmogpfhhmekbiaaDoorSx14
import Derived.Test.YtmogpfhhmekbiaaDoorHd
import Derived.Test.YtmogpfhhmekbiaaDoorSL3
namespace Go.Proofs.YtmogpfhhmekbiaaDoor.S
open Go.RowKit Go.Proofs.YtmogpfhhmekbiaaDoorW.PrintWords Go.Proofs.YtmogpfhhmekbiaaDoorW.PrintLast Go.Proofs.YtmogpfhhmekbiaaDoorW.PrintMore
set_option linter.unusedVariables false
set_option linter.unusedSimpArgs false
theorem mask8 (x : Int) : Go.bits .and .i64 x 255 = x % 256 := by
  rw [show Go.bits .and .i64 x 255 = IntKind.i64.wrap ((BitVec.ofInt 64 x &&& BitVec.ofInt 64 255).toNat : Int) from rfl, IntKind.wrap_i64]
  have e : (BitVec.ofInt 64 x &&& BitVec.ofInt 64 255).toNat = (x % 256).toNat := by
    rw [BitVec.toNat_and, BitVec.toNat_ofInt, show (BitVec.ofInt 64 255).toNat = 2 ^ 8 - 1 from by decide, Nat.and_two_pow_sub_one_eq_mod]
    omega
  rw [e]
  omega
theorem big_step (v : Int) (j : Nat) (h : j < 8) : (Go.bits .and .i64 (shr .i64 v (wrap64 (8 * (j : Int)))) 255) % 256 = byteAt v (7 - j) := by
  rw [mask8]
  unfold byteAt shr
  have e : wrap64 (8 * (j : Int)) = 8 * (j : Int) := by unfold wrap64; omega
  rw [e, show min (8 * (j : Int)).toNat IntKind.i64.bits = 8 * (7 - (7 - j)) by simp [IntKind.bits]; omega]
  omega
theorem big_loop (v : Int) : ∀ (j k : Nat) (x : List Int), j ≤ 8 → j + 1 ≤ k → x.length + j ≤ 100 →
    samphireref09_big.l0 k v x ((j : Int) - 1) = some (strOfNums (x ++ (byteRow v).drop (8 - j)))
  | 0, k, x, hj, hk, hx => by
    obtain ⟨k, rfl⟩ : ∃ k', k = k' + 1 := ⟨k - 1, by omega⟩
    unfold samphireref09_big.l0
    rw [if_neg (by omega), show (byteRow v).drop (8 - 0) = [] from List.drop_of_length_le (by simp [byteRow]), List.append_nil]
  | j + 1, k, x, hj, hk, hx => by
    obtain ⟨k, rfl⟩ : ∃ k', k = k' + 1 := ⟨k - 1, by omega⟩
    unfold samphireref09_big.l0
    have e0 : (((j + 1 : Nat) : Int) - 1) = (j : Int) := by omega
    have e1 : wrap64 ((j : Int) - 1) = (j : Int) - 1 := by unfold wrap64; omega
    have e2 : 0 ≤ wrap64 (8 * (j : Int)) := by unfold wrap64; omega
    rw [e0, if_pos (show (j : Int) ≥ 0 by omega), if_pos e2, if_pos (show x.length < 140737488355328 by omega), big_step v j (by omega), e1, big_loop v j k _ (by omega) (by omega) (by simp; omega)]
    rw [List.append_assoc, show [byteAt v (7 - j)] ++ (byteRow v).drop (8 - j) = (byteRow v).drop (8 - (j + 1)) by
      have hl : (byteRow v).length = 8 := by simp [byteRow]
      rw [show 8 - (j + 1) = 7 - j by omega, List.drop_eq_getElem_cons (i := 7 - j) (by omega), show 7 - j + 1 = 8 - j by omega]
      simp [byteRow]]
theorem big_is (v : Int) (n k : Nat) (h : n ≤ 8) (hk : n + 1 ≤ k) : samphireref09_big.f k v (n : Int) = some (strOfNums ((byteRow v).drop (8 - n))) := by
  unfold samphireref09_big.f
  rw [show wrap64 ((n : Int) - 1) = (n : Int) - 1 by unfold wrap64; omega, big_loop v n k [] h hk (by simp; omega)]
  rfl
end Go.Proofs.YtmogpfhhmekbiaaDoor.S
/- PutOp: the program's and the reference's. -/
namespace Go.Proofs.YtmogpfhhmekbiaaDoor.S
open Go.RowKit Go.Proofs.YtmogpfhhmekbiaaDoorW.PrintWords Go.Proofs.YtmogpfhhmekbiaaDoorW.PrintLast Go.Proofs.YtmogpfhhmekbiaaDoorW.PrintMore
set_option linter.unusedVariables false
set_option linter.unusedSimpArgs false
theorem may11_is (n : Nat) (k t1 w1 t2 w2 t3 w3 : Int) (nm v : ByteArray) (hs : nm.size < 4611686018427387904) (hk : nm.size + 12 ≤ n) :
    samphireref11_May.f (n + 1) k t1 w1 t2 w2 t3 w3 nm v = some (goodOp k t1 w1 t2 w2 t3 w3 nm v) := by
  have hn := rcheck_is nm n hs hk
  unfold samphireref11_May.f
  simp only [may10_is, Option.bind_some, samphireref11_May.j0, parent_is, hn, emp_if]
  unfold goodOp
  simp only [show ∀ s : ByteArray, (s.toList == ([] : List UInt8)) = emp s from fun _ => rfl]
  generalize fineB t1 w1 = f1
  generalize fineB t2 w2 = f2
  generalize (outB t3 w3 || fineB t3 w3) = o3
  generalize isName (L nm) = nb
  generalize emp nm = en
  generalize emp v = ev
  generalize decide ((v.size : Int) ≤ 64) = lv
  generalize (t3 == 0 && (w3 == 0)) = p3
  generalize (t2 == t1 && (w2 == w1)) = same
  by_cases h1 : k = 1
  · subst h1
    cases f1 <;> cases f2 <;> cases same <;> cases nb <;> cases o3 <;> cases ev <;> rfl
  by_cases h3 : k = 3
  · subst h3
    cases f1 <;> cases f2 <;> cases nb <;> cases p3 <;> cases ev <;> rfl
  by_cases h4 : k = 4
  · subst h4
    cases f1 <;> cases f2 <;> cases lv <;> cases p3 <;> cases en <;> rfl
  by_cases h2 : k = 2
  · subst h2
    cases f1 <;> cases f2 <;> cases o3 <;> cases en <;> cases ev <;> rfl
  by_cases h5 : k = 5
  · subst h5
    cases f1 <;> cases f2 <;> cases p3 <;> cases en <;> cases ev <;> rfl
  simp only [if_neg h1, if_neg h2, if_neg h3, if_neg h4, if_neg h5]
  cases f1 <;> cases f2 <;> simp
/-- The reference's state: the bytes as text, and whether it is bad. -/
def asRef (x : St) : ByteArray × Bool := (strOfNums x.2, x.1)
theorem strOfNums_size (l : List Int) : (strOfNums l).size = l.length := by
  show (List.map (fun n => UInt8.ofNat (Int.toNat n)) l).toArray.size = _
  simp
theorem strOfNums_add (a b : List Int) : strOfNums (a ++ b) = strOfNums a ++ strOfNums b := by
  refine L_ext ?_
  rw [L_append]
  show (List.map _ (a ++ b)).toArray.toList = (List.map _ a).toArray.toList ++ (List.map _ b).toArray.toList
  simp
theorem with_is (x : St) (ok : Bool) (s : ByteArray) (ps : List (Int × Nat)) (hps : ∀ p ∈ ps, p.2 ≤ 8) (hx : x.2.length ≤ 65536) (hs : s.size + total ps ≤ 100000) :
    samphireref09_with.f (strOfNums x.2) x.1 (strOfNums (partBytes ps ++ bytesOf s)) ok = some (asRef (x.puts ok s ps)) := by
  unfold samphireref09_with.f asRef St.puts putsTo isBad
  have e1 : (strOfNums (partBytes ps ++ bytesOf s)).size = total ps + s.size := by
    rw [strOfNums_size, List.length_append, partBytes_length ps hps]; simp [bytesOf]
  rw [e1, strOfNums_size]
  have e2 : wrap64 ((x.2.length : Int) + ((total ps + s.size : Nat) : Int)) = (x.2.length : Int) + ((total ps + s.size : Nat) : Int) := by unfold wrap64; omega
  rw [e2]
  cases ok with
  | false => simp
  | true =>
    cases hb : x.1 with
    | true => simp
    | false =>
      by_cases hc : 65536 < x.2.length + (s.size + total ps)
      · have hc' : (x.2.length : Int) + ((total ps + s.size : Nat) : Int) > 65536 := by omega
        simp [hc, hc']
        omega
      · have hc' : ¬ (x.2.length : Int) + ((total ps + s.size : Nat) : Int) > 65536 := by omega
        rw [if_pos rfl, if_neg (by decide), if_neg hc', if_pos (by omega)]
        simp [hc]
        rw [← strOfNums_add]
theorem bytesOf_nil : bytesOf ⟨#[]⟩ = [] := rfl
theorem strOfNums_bytes (s : ByteArray) : strOfNums (bytesOf s) = s := by
  refine L_ext ?_
  show (List.map (fun n => UInt8.ofNat (Int.toNat n)) (bytesOf s)).toArray.toList = s.data.toList
  simp [bytesOf, Function.comp_def]
theorem byte_is (x : St) (n : Int) (k : Nat) (hk : 2 ≤ k) (hx : x.2.length ≤ 65536) : samphireref09_Byte.f k (strOfNums x.2) x.1 n = some (asRef (x.byte n)) := by
  unfold samphireref09_Byte.f St.byte
  have hb := big_is n 1 k (by decide) hk
  rw [show ((1 : Nat) : Int) = 1 from rfl] at hb
  rw [hb, Option.bind_some]
  have hw := fun ok => with_is x ok ⟨#[]⟩ [(n, 1)] (by simp) hx (by simp [total]; decide)
  rw [show partBytes [(n, 1)] ++ bytesOf ⟨#[]⟩ = (byteRow n).drop (8 - 1) by simp [partBytes, bytesOf_nil]] at hw
  rw [hw, hw]
  by_cases h0 : n ≥ 0
  · rw [if_pos h0, show decide (n ≤ 255) = isByte n by unfold isByte; simp [h0]]; rfl
  · rw [if_neg h0, show isByte n = false by unfold isByte; simp; omega]; rfl
theorem stamp_is (x : St) (a n : Int) (k : Nat) (hk : 7 ≤ k) (hx : x.2.length ≤ 65536) : samphireref09_Stamp.f k (strOfNums x.2) x.1 a n = some (asRef (x.stamp a n)) := by
  unfold samphireref09_Stamp.f St.stamp
  have hb := big_is n 1 k (by decide) (by omega)
  have ha := big_is a 6 k (by decide) hk
  rw [show ((1 : Nat) : Int) = 1 from rfl] at hb
  rw [show ((6 : Nat) : Int) = 6 from rfl] at ha
  rw [ha, Option.bind_some, hb, Option.bind_some, ← strOfNums_add]
  have hw := fun ok => with_is x ok ⟨#[]⟩ [(a, 6), (n, 1)] (by simp) hx (by simp [total]; decide)
  rw [show partBytes [(a, 6), (n, 1)] ++ bytesOf ⟨#[]⟩ = (byteRow a).drop (8 - 6) ++ (byteRow n).drop (8 - 1) by simp [partBytes, bytesOf_nil]] at hw
  rw [if_pos (by rw [strOfNums_size, strOfNums_size]; simp [byteRow]), hw, hw]
  by_cases h0 : a ≥ 0
  · by_cases h1 : a ≤ 1099511627775
    · by_cases h2 : n ≥ 0
      · rw [if_pos h0, if_pos h1, if_pos h2, show (isTime a && isByte n) = decide (n ≤ 255) by unfold isTime isByte; simp [h0, h1, h2]]; rfl
      · rw [if_pos h0, if_pos h1, if_neg h2, show (isTime a && isByte n) = false by unfold isTime isByte; simp; omega]; rfl
    · rw [if_pos h0, if_neg h1, show (isTime a && isByte n) = false by unfold isTime isByte; simp; omega]; rfl
  · rw [if_neg h0, show (isTime a && isByte n) = false by unfold isTime isByte; simp; omega]; rfl
theorem text_is (x : St) (s : ByteArray) (k : Nat) (hk : 3 ≤ k) (hx : x.2.length ≤ 65536) : samphireref09_Text.f k (strOfNums x.2) x.1 s = some (asRef (x.text s)) := by
  unfold samphireref09_Text.f St.text
  by_cases h : (s.size : Int) > 65535
  · rw [if_pos h, show decide ((s.size : Int) ≤ 65535) = false by simp; omega]
    simp [samphireref09_with.f, asRef, St.puts, isBad, putsTo]
  · have hb := big_is (s.size : Int) 2 k (by decide) hk
    rw [show ((2 : Nat) : Int) = 2 from rfl] at hb
    have hw := fun ok => with_is x ok s [((s.size : Int), 2)] (by simp) hx (by simp [total]; omega)
    rw [show partBytes [((s.size : Int), 2)] = (byteRow (s.size : Int)).drop (8 - 2) by simp [partBytes]] at hw
    rw [strOfNums_add, strOfNums_bytes] at hw
    rw [if_neg h, hb, Option.bind_some, if_pos (by rw [strOfNums_size]; simp [byteRow]; omega), hw, show decide ((s.size : Int) ≤ 65535) = true by simp; omega]
    rfl
theorem op_is (x : St) (o t1 w1 t2 w2 t3 w3 : Int) (nm v : ByteArray) (k : Nat) (hk : 7 ≤ k) (hx : x.2.length ≤ 65536) :
    samphireref13_op.f k (strOfNums x.2) x.1 o t1 w1 t2 w2 t3 w3 nm v = some (asRef (x.op o t1 w1 t2 w2 t3 w3 nm v)) := by
  have l1 := St.byte_le x o hx
  have l2 := St.stamp_le _ t1 w1 l1
  have l3 := St.stamp_le _ t2 w2 l2
  have l4 := St.stamp_le _ t3 w3 l3
  have l5 := St.text_le _ nm l4
  have e1 := byte_is x o k (by omega) hx
  have e2 := stamp_is _ t1 w1 k hk l1
  have e3 := stamp_is _ t2 w2 k hk l2
  have e4 := stamp_is _ t3 w3 k hk l3
  have e5 := text_is _ nm k (by omega) l4
  have e6 := text_is _ v k (by omega) l5
  unfold samphireref13_op.f
  rw [e1, Option.bind_some, show (asRef (x.byte o)).1 = strOfNums (x.byte o).2 from rfl, show (asRef (x.byte o)).2 = (x.byte o).1 from rfl, e2, Option.bind_some]
  simp only [asRef] at e2 e3 e4 e5 e6 ⊢
  rw [e3, Option.bind_some, e4, Option.bind_some, e5, Option.bind_some, e6, Option.bind_some]
  rfl
end Go.Proofs.YtmogpfhhmekbiaaDoor.S
/- PutOp: the program's is the reference's. -/
namespace Go.Proofs.YtmogpfhhmekbiaaDoor.S
open Go.RowKit Go.Proofs.YtmogpfhhmekbiaaDoorW.PrintWords Go.Proofs.YtmogpfhhmekbiaaDoorW.PrintLast Go.Proofs.YtmogpfhhmekbiaaDoorW.PrintMore
set_option linter.unusedVariables false
set_option linter.unusedSimpArgs false
def putR (o t1 w1 t2 w2 t3 w3 : Int) (nm v : ByteArray) : ByteArray × Int :=
  if goodOp o t1 w1 t2 w2 t3 w3 nm v = true then St.done (St.op (false, []) o t1 w1 t2 w2 t3 w3 nm v) else (⟨#[]⟩, 1)
theorem put_is (n : Nat) (o t1 w1 t2 w2 t3 w3 : Int) (nm v : ByteArray) (h7 : nm.size ≤ 1024) (h8 : v.size ≤ 1024) :
    snap_PutOp.f (n + 3) o t1 w1 t2 w2 t3 w3 nm v = some (putR o t1 w1 t2 w2 t3 w3 nm v) := by
  unfold snap_PutOp.f
  rw [check11_is n o t1 w1 t2 w2 t3 w3 nm v (by omega), Option.bind_some]
  unfold putOp putR
  cases goodOp o t1 w1 t2 w2 t3 w3 nm v
  · rfl
  · rw [if_pos rfl, if_pos rfl, if_pos rfl, if_pos ⟨by omega, by omega⟩]
theorem putref_is (n : Nat) (hn : 1100 ≤ n) (o t1 w1 t2 w2 t3 w3 : Int) (nm v : ByteArray) (h7 : nm.size ≤ 1024) (h8 : v.size ≤ 1024) :
    samphireref13_PutOp.f (n + 1) o t1 w1 t2 w2 t3 w3 nm v = some (putR o t1 w1 t2 w2 t3 w3 nm v) := by
  unfold samphireref13_PutOp.f
  rw [may11_is n o t1 w1 t2 w2 t3 w3 nm v (by omega) (by omega), Option.bind_some]
  unfold putR
  cases goodOp o t1 w1 t2 w2 t3 w3 nm v
  · rfl
  · rw [if_pos rfl, if_pos rfl]
    have ho := op_is (false, []) o t1 w1 t2 w2 t3 w3 nm v (n + 1) (by omega) (by simp)
    rw [show strOfNums (false, ([] : List Int)).2 = ⟨#[]⟩ from rfl] at ho
    rw [ho, Option.bind_some]
    unfold samphireref09_Done.f St.done asRef
    cases (St.op (false, []) o t1 w1 t2 w2 t3 w3 nm v).1 <;> rfl
end Go.Proofs.YtmogpfhhmekbiaaDoor.S
/- The readers of numbers: the program's and the reference's. -/
namespace Go.Proofs.YtmogpfhhmekbiaaDoor.S
open Go.RowKit Go.Proofs.YtmogpfhhmekbiaaDoorW.PrintWords Go.Proofs.YtmogpfhhmekbiaaDoorW.PrintLast Go.Proofs.YtmogpfhhmekbiaaDoorW.PrintMore
set_option linter.unusedVariables false
set_option linter.unusedSimpArgs false
theorem or_step (x b : Int) (h0 : 0 ≤ x) (h1 : x < 281474976710656) (hb : 0 ≤ b) (hb2 : b < 256) : Go.bits .or .i64 (wrap64 (x * 256)) (wrap64 b) = x * 256 + b := by
  rw [show wrap64 (x * 256) = x * 256 by unfold wrap64; omega, show wrap64 b = b by unfold wrap64; omega]
  rw [show Go.bits .or .i64 (x * 256) b = IntKind.i64.wrap ((BitVec.ofInt 64 (x * 256) ||| BitVec.ofInt 64 b).toNat : Int) from rfl, IntKind.wrap_i64]
  obtain ⟨n, rfl⟩ := Int.eq_ofNat_of_zero_le h0
  obtain ⟨m, rfl⟩ := Int.eq_ofNat_of_zero_le hb
  have e : (BitVec.ofInt 64 ((n : Int) * 256) ||| BitVec.ofInt 64 (m : Int)).toNat = n * 256 + m := by
    rw [BitVec.toNat_or, BitVec.toNat_ofInt, BitVec.toNat_ofInt]
    rw [show (((n : Int) * 256) % ((2 ^ 64 : Nat) : Int)).toNat = n <<< 8 by rw [Nat.shiftLeft_eq]; omega, show ((m : Int) % ((2 ^ 64 : Nat) : Int)).toNat = m by omega]
    rw [← Nat.shiftLeft_add_eq_or_of_lt (show m < 2 ^ 8 by omega), Nat.shiftLeft_eq]
  rw [e]
  omega
def numOf (s : ByteArray) : Nat → Int
  | 0 => 0
  | n + 1 => numOf s n * 256 + bt s (n : Int)
theorem numOf_range (s : ByteArray) : ∀ n, n ≤ 6 → 0 ≤ numOf s n ∧ numOf s n < 256 ^ n
  | 0, _ => by simp [numOf]
  | n + 1, h => by
    have ih := numOf_range s n (by omega)
    have hb := bt_range s (n : Int)
    unfold numOf
    rw [Int.pow_succ]
    omega
theorem numOf_small (s : ByteArray) (n : Nat) (h : n ≤ 6) : numOf s n < 281474976710656 := by
  have h1 := (numOf_range s n h).2
  have h2 : (256 : Int) ^ n ≤ 281474976710656 := by
    match n, h with
    | 0, _ | 1, _ | 2, _ | 3, _ | 4, _ | 5, _ | 6, _ => decide
  omega
theorem ref_loop (s : ByteArray) (n : Nat) (hn : n ≤ 6) (hs : n ≤ s.size) (e : Int) : ∀ (d i k : Nat), i + d = n → d + 1 ≤ k →
    samphireref09_number.l0 k (n : Int) (numOf s i) (i : Int) s e = some (s.extract n s.size, e, numOf s n)
  | 0, i, k, hi, hk => by
    obtain ⟨k, rfl⟩ : ∃ k', k = k' + 1 := ⟨k - 1, by omega⟩
    obtain rfl : i = n := by omega
    unfold samphireref09_number.l0
    rw [if_neg (by omega), if_pos (by omega), if_pos (by omega), Int.toNat_natCast]
  | d + 1, i, k, hi, hk => by
    obtain ⟨k, rfl⟩ : ∃ k', k = k' + 1 := ⟨k - 1, by omega⟩
    have hb := bt_range s (i : Int)
    unfold samphireref09_number.l0
    rw [if_pos (by omega), if_pos (by omega), if_pos (by omega), or_step _ _ (numOf_range s i (by omega)).1 (numOf_small s i (by omega)) hb.1 (by omega),
      show wrap64 ((i : Int) + 1) = ((i + 1 : Nat) : Int) by unfold wrap64; omega]
    exact ref_loop s n hn hs e d (i + 1) k (by omega) (by omega)
theorem prog_loop (t s : ByteArray) (n : Nat) (hn : n ≤ 6) (ht : t.size = n) (hb : ∀ i : Nat, i < n → bt t (i : Int) = bt s (i : Int)) (ok md : Bool) (r : ByteArray) (e : Int) : ∀ (d i k : Nat), i + d = n → d + 1 ≤ k →
    code_In_number.l0 k t ok (numOf s i) (n : Int) (i : Int) md r e = some (numOf s n, ok, md, r, e)
  | 0, i, k, hi, hk => by
    obtain ⟨k, rfl⟩ : ∃ k', k = k' + 1 := ⟨k - 1, by omega⟩
    obtain rfl : i = n := by omega
    unfold code_In_number.l0
    rw [if_neg (by omega)]
  | d + 1, i, k, hi, hk => by
    obtain ⟨k, rfl⟩ : ∃ k', k = k' + 1 := ⟨k - 1, by omega⟩
    have hr := bt_range s (i : Int)
    unfold code_In_number.l0
    rw [if_pos (by omega), if_pos (by omega), if_pos (by omega), hb i (by omega), or_step _ _ (numOf_range s i (by omega)).1 (numOf_small s i (by omega)) hr.1 (by omega),
      show wrap64 ((i : Int) + 1) = ((i + 1 : Nat) : Int) by unfold wrap64; omega]
    exact prog_loop t s n hn ht hb ok md r e d (i + 1) k (by omega) (by omega)
theorem bt_take (s : ByteArray) (n i : Nat) (hs : n ≤ s.size) (h : i < n) : bt (s.extract 0 n) (i : Int) = bt s (i : Int) := by
  rw [bt_at8, bt_at8]
  have e := L_take s n
  simp only [at8, L] at e ⊢
  rw [e]
  simp [List.getD_eq_getElem?_getD, List.getElem?_take, h]
/-- What a number of n bytes is read as: the rest, the fault, the number. -/
def numR (s : ByteArray) (e : Int) (n : Nat) : ByteArray × Int × Int :=
  if e = 0 then (if s.size < n then (⟨#[]⟩, 90, 0) else (s.extract n s.size, 0, numOf s n)) else (⟨#[]⟩, e, 0)
theorem number_ref (s : ByteArray) (e : Int) (n k : Nat) (hn : n ≤ 6) (hk : n + 2 ≤ k) : samphireref09_number.f k s e (n : Int) = some (numR s e n) := by
  obtain ⟨k, rfl⟩ : ∃ k', k = k' + 1 := ⟨k - 1, by omega⟩
  unfold samphireref09_number.f numR
  by_cases he : e = 0
  · subst he
    rw [if_pos rfl, if_pos rfl]
    simp only [samphireref09_number.j0]
    by_cases hs : s.size < n
    · rw [if_pos hs, if_pos (by simp; omega)]
      rfl
    · rw [if_neg hs, if_neg (by simp; omega)]
      exact ref_loop s n hn (by omega) 0 n 0 k (by omega) (by omega)
  · rw [if_neg he, if_neg he]
    simp only [samphireref09_number.j0]
    rw [if_pos trivial]
    unfold samphireref09_wrong.f
    rw [if_neg he]
    rfl
/-- The same, as the program reads it: the number, whether it was read, and the reader behind it. -/
def numP (s : ByteArray) (e : Int) (n : Nat) : Int × Bool × Bool × ByteArray × Int :=
  if e = 0 then (if s.size < n then (0, false, true, ⟨#[]⟩, 90) else (numOf s n, true, true, s.extract n s.size, 0)) else (0, false, true, s, e)
theorem number_prog (s : ByteArray) (e : Int) (n k : Nat) (hn : n ≤ 6) (hk : n + 2 ≤ k) : code_In_number.f k true s e (n : Int) = some (numP s e n) := by
  obtain ⟨k, rfl⟩ : ∃ k', k = k' + 1 := ⟨k - 1, by omega⟩
  unfold code_In_number.f code_In_take.f numP
  rw [if_pos rfl]
  simp only [code_In_take.j0]
  by_cases he : e = 0
  · subst he
    rw [if_neg (by decide), if_pos rfl]
    by_cases hs : s.size < n
    · rw [if_pos (by omega), if_pos hs]
      simp only [code_In_wrong.f, if_pos, Option.bind_some]
      exact prog_loop ⟨#[]⟩ s 0 (by omega) rfl (fun i h => absurd h (by omega)) false true ⟨#[]⟩ 90 0 0 (k + 1) rfl (by omega)
    · rw [if_neg (by omega), if_pos (by omega), if_pos (by omega), if_neg hs, Option.bind_some]
      simp only [Int.toNat_natCast]
      have hl : (s.extract 0 n).size = n := by simp; omega
      rw [hl]
      exact prog_loop (s.extract 0 n) s n hn hl (fun i h => bt_take s n i (by omega) h) true true _ 0 n 0 (k + 1) (by omega) (by omega)
  · rw [if_pos (by simpa using he), if_neg he, Option.bind_some]
    exact prog_loop ⟨#[]⟩ s 0 (by omega) rfl (fun i h => absurd h (by omega)) false true s e 0 0 (k + 1) rfl (by omega)
end Go.Proofs.YtmogpfhhmekbiaaDoor.S
