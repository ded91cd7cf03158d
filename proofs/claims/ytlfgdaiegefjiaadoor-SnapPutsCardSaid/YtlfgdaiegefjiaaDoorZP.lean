/- What Put writes is what Take reads; the document's Put: plain. -/
import Derived.Test.YtlfgdaiegefjiaaDoorSA
import Derived.Test.YtlfgdaiegefjiaaDoorSB
import Derived.Test.YtlfgdaiegefjiaaDoorSx16
import Derived.Test.YtlfgdaiegefjiaaDoorSx5
import Derived.Test.YtlfgdaiegefjiaaDoorSx6
import Derived.Test.YtlfgdaiegefjiaaDoorZE
namespace Go.Proofs.YtlfgdaiegefjiaaDoor.S
open Go.RowKit Go.Proofs.YtlfgdaiegefjiaaDoorW.PrintWords Go.Proofs.YtlfgdaiegefjiaaDoorW.PrintLast Go.Proofs.YtlfgdaiegefjiaaDoorW.PrintMore
open Go.Proofs.YtlfgdaiegefjiaaDoor.P (L_ext L_append)
set_option linter.unusedVariables false
set_option linter.unusedSimpArgs false
/-! ### the bytes that are written -/
def stampB (s : Stp) : List Int := (byteRow s.f0).drop (8 - 6) ++ (byteRow s.f1).drop (8 - 1)
def textB (s : ByteArray) : List Int := (byteRow (s.size : Int)).drop (8 - 2) ++ bytesOf s
def numB (n : Int) : List Int := (byteRow n).drop (8 - 6)
def nodeB (n : Nod) : List Int := stampB n.f0 ++ (stampB n.f1 ++ (textB n.f2 ++ textB n.f3))
def opnB (o : Opn) : List Int := (byteRow o.f0).drop (8 - 1) ++ (stampB o.f1 ++ (stampB o.f2 ++ (stampB o.f3 ++ (textB o.f4 ++ textB o.f5))))
def stpOk (s : Stp) : Prop := isTime s.f0 = true ∧ isByte s.f1 = true
def nodOk (n : Nod) : Prop := stpOk n.f0 ∧ stpOk n.f1
def opnOk (o : Opn) : Prop := isByte o.f0 = true ∧ stpOk o.f1 ∧ stpOk o.f2 ∧ stpOk o.f3
theorem puts_out {x : St} {ok : Bool} {s : ByteArray} {ps : List (Int × Nat)} (h : (x.puts ok s ps).1 = false) : x.1 = false ∧ ok = true ∧ (x.puts ok s ps).2 = x.2 ++ (partBytes ps ++ bytesOf s) := by
 have h' : isBad x.1 ok x.2 s ps = false := h
 have h2 := h'
 unfold isBad at h2
 rw [Bool.or_eq_false_iff, Bool.or_eq_false_iff] at h2
 refine ⟨h2.1, by simpa using h2.2.1, ?_⟩
 show putsTo x.1 ok x.2 s ps = _
 unfold putsTo
 rw [h', if_neg (by decide), List.append_assoc]
theorem stamp_out {x : St} {s : Stp} (h : (x.stamp s.f0 s.f1).1 = false) : x.1 = false ∧ stpOk s ∧ (x.stamp s.f0 s.f1).2 = x.2 ++ stampB s := by
 obtain ⟨h1, h2, h3⟩ := puts_out h
 rw [Bool.and_eq_true] at h2
 exact ⟨h1, h2, h3.trans (by simp [partBytes, bytesOf_nil, stampB])⟩
theorem text_out {x : St} {s : ByteArray} (h : (x.text s).1 = false) : x.1 = false ∧ (x.text s).2 = x.2 ++ textB s := by
 obtain ⟨h1, _, h3⟩ := puts_out h
 exact ⟨h1, h3.trans (by simp [partBytes, textB])⟩
theorem num_out {x : St} {n : Int} (h : (x.num n).1 = false) : x.1 = false ∧ isTime n = true ∧ (x.num n).2 = x.2 ++ numB n := by
 obtain ⟨h1, h2, h3⟩ := puts_out h
 exact ⟨h1, h2, h3.trans (by simp [partBytes, bytesOf_nil, numB])⟩
theorem byte_out {x : St} {n : Int} (h : (x.byte n).1 = false) : x.1 = false ∧ isByte n = true ∧ (x.byte n).2 = x.2 ++ (byteRow n).drop (8 - 1) := by
 obtain ⟨h1, h2, h3⟩ := puts_out h
 exact ⟨h1, h2, h3.trans (by simp [partBytes, bytesOf_nil])⟩
theorem node_out {x : St} {n : Nod} (h : (x.node n).1 = false) : x.1 = false ∧ nodOk n ∧ (x.node n).2 = x.2 ++ nodeB n := by
 obtain ⟨h4, e4⟩ := text_out (x := ((x.stamp n.f0.f0 n.f0.f1).stamp n.f1.f0 n.f1.f1).text n.f2) (s := n.f3) h
 obtain ⟨h3, e3⟩ := text_out h4
 obtain ⟨h2, k2, e2⟩ := stamp_out (s := n.f1) h3
 obtain ⟨h1, k1, e1⟩ := stamp_out (s := n.f0) h2
 refine ⟨h1, ⟨k1, k2⟩, ?_⟩
 show (St.text (((x.stamp n.f0.f0 n.f0.f1).stamp n.f1.f0 n.f1.f1).text n.f2) n.f3).2 = _
 rw [e4, e3, e2, e1]
 simp only [nodeB, List.append_assoc]
theorem opn_out {x : St} {o : Opn} (h : (x.opn o).1 = false) : x.1 = false ∧ opnOk o ∧ (x.opn o).2 = x.2 ++ opnB o := by
 obtain ⟨h6, e6⟩ := text_out (x := ((((x.byte o.f0).stamp o.f1.f0 o.f1.f1).stamp o.f2.f0 o.f2.f1).stamp o.f3.f0 o.f3.f1).text o.f4) (s := o.f5) h
 obtain ⟨h5, e5⟩ := text_out h6
 obtain ⟨h4, k4, e4⟩ := stamp_out (s := o.f3) h5
 obtain ⟨h3, k3, e3⟩ := stamp_out (s := o.f2) h4
 obtain ⟨h2, k2, e2⟩ := stamp_out (s := o.f1) h3
 obtain ⟨h1, k1, e1⟩ := byte_out h2
 refine ⟨h1, ⟨k1, k2, k3, k4⟩, ?_⟩
 show (St.text (((((x.byte o.f0).stamp o.f1.f0 o.f1.f1).stamp o.f2.f0 o.f2.f1).stamp o.f3.f0 o.f3.f1).text o.f4) o.f5).2 = _
 rw [e6, e5, e4, e3, e2, e1]
 simp only [opnB, List.append_assoc]
theorem nodes_out : ∀ (l : List Nod) {x : St}, (x.nodes l).1 = false → x.1 = false ∧ (∀ n ∈ l, nodOk n) ∧ (x.nodes l).2 = x.2 ++ l.flatMap nodeB
 | [], x, h => ⟨h, fun n hn => by (cases hn), by simp [St.nodes]⟩
 | n :: l, x, h => by
  obtain ⟨h1, k1, e1⟩ := nodes_out l (x := x.node n) h
  obtain ⟨h2, k2, e2⟩ := node_out h1
  refine ⟨h2, fun m hm => ?_, ?_⟩
  · rcases List.mem_cons.1 hm with rfl | hm
    · exact k2
    · exact k1 m hm
  · show ((x.node n).nodes l).2 = _
    rw [e1, e2, List.flatMap_cons, List.append_assoc]
theorem opns_out : ∀ (l : List Opn) {x : St}, (x.opns l).1 = false → x.1 = false ∧ (∀ n ∈ l, opnOk n) ∧ (x.opns l).2 = x.2 ++ l.flatMap opnB
 | [], x, h => ⟨h, fun n hn => by (cases hn), by simp [St.opns]⟩
 | n :: l, x, h => by
  obtain ⟨h1, k1, e1⟩ := opns_out l (x := x.opn n) h
  obtain ⟨h2, k2, e2⟩ := opn_out h1
  refine ⟨h2, fun m hm => ?_, ?_⟩
  · rcases List.mem_cons.1 hm with rfl | hm
    · exact k2
    · exact k1 m hm
  · show ((x.opn n).opns l).2 = _
    rw [e1, e2, List.flatMap_cons, List.append_assoc]
def snapB (nodes : List Nod) (ops : List Opn) (base : Stp) : List Int := stampB base ++ (numB nodes.length ++ (nodes.flatMap nodeB ++ (numB ops.length ++ (ops.flatMap opnB ++ []))))
theorem snap_out {nodes : List Nod} {ops : List Opn} {base : Stp} (h : (snapSt nodes ops base).1 = false) : stpOk base ∧ (∀ n ∈ nodes, nodOk n) ∧ (∀ n ∈ ops, opnOk n) ∧ (snapSt nodes ops base).2 = snapB nodes ops base := by
 obtain ⟨h5, k5, e5⟩ := opns_out ops h
 obtain ⟨h4, _, e4⟩ := num_out h5
 obtain ⟨h3, k3, e3⟩ := nodes_out nodes h4
 obtain ⟨h2, _, e2⟩ := num_out h3
 obtain ⟨_, k1, e1⟩ := stamp_out (s := base) h2
 refine ⟨k1, k3, k5, ?_⟩
 unfold snapSt
 rw [e5, e4, e3, e2, e1]
 simp only [snapB, List.append_assoc, List.nil_append, List.append_nil]
theorem snap_le (nodes : List Nod) (ops : List Opn) (base : Stp) : (snapSt nodes ops base).2.length ≤ 65536 :=
 St.opns_le _ _ (St.num_le _ _ (St.nodes_le _ _ (St.num_le _ _ (St.stamp_le _ _ _ (by decide)))))
/-! ### read back -/
theorem rdStamp_back {s : Stp} (h : stpOk s) (rest : List Int) : rdStamp (strOfNums (stampB s ++ rest)) 0 = (s, strOfNums rest, 0) := by
 have := stamp_back s.f0 s.f1 rest 20 (by decide) h.1 h.2
 unfold rdStamp stampB
 rw [List.append_assoc, this]
theorem rdText_back {s : ByteArray} (h : s.size ≤ 1024) (rest : List Int) : rdText (strOfNums (textB s ++ rest)) 0 = (s, strOfNums rest, 0) := by
 have := text_back s rest 20 (by decide) h
 unfold rdText textB
 rw [List.append_assoc, this]
theorem rdNum_back {n : Int} (h : isTime n = true) (rest : List Int) : rdNum (strOfNums (numB n ++ rest)) 0 = (n, strOfNums rest, 0) := by
 have hr : 0 ≤ n ∧ n ≤ 1099511627775 := by simpa [isTime] using h
 have hp := number_prog (strOfNums (numB n ++ rest)) 0 6 20 (by omega) (by omega)
 rw [show ((6 : Nat) : Int) = 6 from rfl, numB, numP_back n 6 (by omega) _ hr.1 (by omega)] at hp
 have : code_In_Num.f 20 true (strOfNums (numB n ++ rest)) 0 = some (n, true, strOfNums rest, 0) := by
  unfold code_In_Num.f numB
  rw [hp]
  simp only [Option.bind_some, if_pos]
  rw [time_f, Option.bind_some, if_pos h]
 unfold rdNum
 rw [this]
theorem rdNode_back {n : Nod} (h : nodOk n) (h2 : n.f2.size ≤ 1024 ∧ n.f3.size ≤ 1024) (rest : List Int) : rdNode (strOfNums (nodeB n ++ rest)) 0 = (n, strOfNums rest, 0) := by
 have e : nodeB n ++ rest = stampB n.f0 ++ (stampB n.f1 ++ (textB n.f2 ++ (textB n.f3 ++ rest))) := by simp only [nodeB, List.append_assoc]
 rw [e]
 exact rdNode_of (rdStamp_back h.1 _) (rdStamp_back h.2 _) (rdText_back h2.1 _) (rdText_back h2.2 _)
theorem rdOpn_back {o : Opn} (h : opnOk o) (h2 : o.f4.size ≤ 1024 ∧ o.f5.size ≤ 1024) (rest : List Int) : rdOpn (strOfNums (opnB o ++ rest)) 0 = (o, strOfNums rest, 0) := by
 have e : opnB o ++ rest = (byteRow o.f0).drop (8 - 1) ++ ((byteRow o.f1.f0).drop (8 - 6) ++ ((byteRow o.f1.f1).drop (8 - 1) ++ ((byteRow o.f2.f0).drop (8 - 6) ++ ((byteRow o.f2.f1).drop (8 - 1) ++ ((byteRow o.f3.f0).drop (8 - 6) ++ ((byteRow o.f3.f1).drop (8 - 1) ++ ((byteRow (o.f4.size : Int)).drop (8 - 2) ++ (bytesOf o.f4 ++ ((byteRow (o.f5.size : Int)).drop (8 - 2) ++ (bytesOf o.f5 ++ rest)))))))))) := by simp only [opnB, stampB, textB, List.append_assoc]
 have : snap_takes.f 20 true (strOfNums (opnB o ++ rest)) 0 = some (o.f0, o.f1.f0, o.f1.f1, o.f2.f0, o.f2.f1, o.f3.f0, o.f3.f1, o.f4, o.f5, true, strOfNums rest, 0) := by
  rw [e]
  unfold snap_takes.f
  rw [byte_back o.f0 _ 20 (by decide) h.1, Option.bind_some, stamp_back _ _ _ 20 (by decide) h.2.1.1 h.2.1.2, Option.bind_some, stamp_back _ _ _ 20 (by decide) h.2.2.1.1 h.2.2.1.2, Option.bind_some, stamp_back _ _ _ 20 (by decide) h.2.2.2.1 h.2.2.2.2, Option.bind_some,
   text_back o.f4 _ 20 (by decide) h2.1, Option.bind_some, text_back o.f5 _ 20 (by decide) h2.2, Option.bind_some]
 unfold rdOpn
 rw [this]
theorem rdNodes_back {l : List Nod} (h : ∀ n ∈ l, nodOk n) (h2 : ∀ n ∈ l, n.f2.size ≤ 1024 ∧ n.f3.size ≤ 1024) (rest : List Int) : ∀ i, i ≤ l.length → rdNodes i (strOfNums (l.flatMap nodeB ++ rest)) 0 = (l.take i, strOfNums ((l.drop i).flatMap nodeB ++ rest), 0)
 | 0, _ => rfl
 | i + 1, hi => by
  have hlt : i < l.length := hi
  rw [rdNodes_more, rdNodes_back h h2 rest i (by omega), nodeStep]
  have e : (l.drop i).flatMap nodeB ++ rest = nodeB l[i] ++ ((l.drop (i + 1)).flatMap nodeB ++ rest) := by rw [List.drop_eq_getElem_cons hlt, List.flatMap_cons, List.append_assoc]
  simp only
  rw [e, rdNode_back (h _ (List.getElem_mem hlt)) (h2 _ (List.getElem_mem hlt)), List.take_succ_eq_append_getElem hlt]
theorem rdOpns_back {l : List Opn} (h : ∀ n ∈ l, opnOk n) (h2 : ∀ n ∈ l, n.f4.size ≤ 1024 ∧ n.f5.size ≤ 1024) (rest : List Int) : ∀ i, i ≤ l.length → rdOpns i (strOfNums (l.flatMap opnB ++ rest)) 0 = (l.take i, strOfNums ((l.drop i).flatMap opnB ++ rest), 0)
 | 0, _ => rfl
 | i + 1, hi => by
  have hlt : i < l.length := hi
  rw [rdOpns_more, rdOpns_back h h2 rest i (by omega), opnStep]
  have e : (l.drop i).flatMap opnB ++ rest = opnB l[i] ++ ((l.drop (i + 1)).flatMap opnB ++ rest) := by rw [List.drop_eq_getElem_cons hlt, List.flatMap_cons, List.append_assoc]
  simp only
  rw [e, rdOpn_back (h _ (List.getElem_mem hlt)) (h2 _ (List.getElem_mem hlt)), List.take_succ_eq_append_getElem hlt]
theorem len_time {n : Nat} (h : n ≤ 512) : isTime (n : Int) = true := by simp [isTime]; omega
theorem someN_back {l : List Nod} (hl : l.length ≤ 512) (h : ∀ n ∈ l, nodOk n) (h2 : ∀ n ∈ l, n.f2.size ≤ 1024 ∧ n.f3.size ≤ 1024) (rest : List Int) : someN (strOfNums (numB l.length ++ (l.flatMap nodeB ++ rest))) 0 = (l, true, strOfNums rest, 0) := by
 unfold someN
 rw [rdNum_back (len_time hl), if_neg (by simp only; omega)]
 simp only [Int.toNat_natCast]
 rw [rdNodes_back h h2 rest l.length (Nat.le_refl _), List.take_length, List.drop_length]
 rfl
theorem someO_back {l : List Opn} (hl : l.length ≤ 512) (h : ∀ n ∈ l, opnOk n) (h2 : ∀ n ∈ l, n.f4.size ≤ 1024 ∧ n.f5.size ≤ 1024) (rest : List Int) : someO (strOfNums (numB l.length ++ (l.flatMap opnB ++ rest))) 0 = (l, true, strOfNums rest, 0) := by
 unfold someO
 rw [rdNum_back (len_time hl), if_neg (by simp only; omega)]
 simp only [Int.toNat_natCast]
 rw [rdOpns_back h h2 rest l.length (Nat.le_refl _), List.take_length, List.drop_length]
 rfl
theorem done_nil : inDone (strOfNums []) 0 = 0 := by
 unfold inDone
 have h : (strOfNums []).toList = ([] : List UInt8) := toL _
 rw [if_pos rfl, if_pos h]
/-- What Put put is what Take takes. -/
theorem take_put {nodes : List Nod} {ops : List Opn} {base : Stp} (hnl : nodes.length ≤ 512) (hol : ops.length ≤ 512) (hn : ∀ n ∈ nodes, n.f2.size ≤ 1024 ∧ n.f3.size ≤ 1024) (ho : ∀ n ∈ ops, n.f4.size ≤ 1024 ∧ n.f5.size ≤ 1024) (h : (putP nodes ops base).2 = 0) : takeP (putP nodes ops base).1 = ((nodes, ops, base), 0) := by
 unfold putP at h ⊢
 by_cases hm : mayB nodes ops base = true
 · rw [if_pos hm] at h ⊢
   have hb : (snapSt nodes ops base).1 = false := by
    unfold St.done at h
    cases e : (snapSt nodes ops base).1 with
    | false => rfl
    | true => rw [e, if_pos rfl] at h; exact absurd h (by simp)
   obtain ⟨k1, k2, k3, e⟩ := snap_out hb
   have hd : (snapSt nodes ops base).done.1 = strOfNums (snapB nodes ops base) := by
    unfold St.done
    rw [hb, if_neg (by decide), e]
   have hsz : (strOfNums (snapB nodes ops base)).size ≤ 65536 := by
    rw [strOfNums_size, ← e]
    exact snap_le _ _ _
   rw [hd]
   have ht := take_of (s := strOfNums (snapB nodes ops base)) (rdStamp_back k1 (numB nodes.length ++ (nodes.flatMap nodeB ++ (numB ops.length ++ (ops.flatMap opnB ++ []))))) (someN_back hnl k2 hn (numB ops.length ++ (ops.flatMap opnB ++ []))) (someO_back hol k3 ho [])
   rw [ht, done_nil, hm, decide_eq_true hsz]
   rfl
 · rw [if_neg hm] at h
   exact absurd h (by decide)
/-! ### the document's Put -/
theorem num_is (x : St) (n : Int) (k : Nat) (hk : 7 ≤ k) (hx : x.2.length ≤ 65536) : samphireref09_Num.f k (strOfNums x.2) x.1 n = some (asRef (x.num n)) := by
 unfold samphireref09_Num.f St.num
 have hb := big_is n 6 k (by decide) hk
 rw [show ((6 : Nat) : Int) = 6 from rfl] at hb
 rw [hb, Option.bind_some]
 have hw := fun ok => with_is x ok ⟨#[]⟩ [(n, 6)] (by simp) hx (by simp [total]; decide)
 rw [show partBytes [(n, 6)] ++ bytesOf ⟨#[]⟩ = (byteRow n).drop (8 - 6) by simp [partBytes, bytesOf_nil]] at hw
 rw [hw, hw]
 by_cases h0 : n ≥ 0
 · rw [if_pos h0, show decide (n ≤ 1099511627775) = isTime n by unfold isTime; simp [h0]]; rfl
 · rw [if_neg h0, show isTime n = false by unfold isTime; simp; omega]; rfl
theorem done_ref (x : St) : samphireref09_Done.f (strOfNums x.2) x.1 = some x.done := by
 unfold samphireref09_Done.f St.done
 cases x.1 <;> rfl
theorem put_l1 {nodes : List Nod} {ops : List Opn} {b0 b1 : Int} (hl : ops.length ≤ 100000) : ∀ (d i k : Nat) (x : St), i + d = ops.length → d + 10 ≤ k → x.2.length ≤ 65536 → samphireref13_Put.l1 k (i : Int) nodes ops b0 b1 (strOfNums x.2) x.1 = some ((x.opns (ops.drop i)).done)
 | 0, i, k + 1, x, hi, hk, hx => by
  unfold samphireref13_Put.l1
  rw [if_neg (by omega), done_ref, Option.bind_some, List.drop_of_length_le (by omega)]
  rfl
 | d + 1, i, k + 1, x, hi, hk, hx => by
  have hlt : i < ops.length := by omega
  unfold samphireref13_Put.l1
  rw [if_pos (by omega), if_pos (by omega), rd_at ops i hlt, op_is x _ _ _ _ _ _ _ _ _ k (by omega) hx, Option.bind_some, show wrap64 ((i : Int) + 1) = ((i + 1 : Nat) : Int) by unfold wrap64; omega]
  have ih := put_l1 (nodes := nodes) (b0 := b0) (b1 := b1) hl d (i + 1) k (x.opn ops[i]) (by omega) (by omega) (St.opn_le _ _ hx)
  rw [List.drop_eq_getElem_cons hlt]
  exact ih
theorem put_l0 {nodes : List Nod} {ops : List Opn} {b0 b1 : Int} (hl : nodes.length ≤ 100000) (hl2 : ops.length ≤ 100000) : ∀ (d i k : Nat) (x : St), i + d = nodes.length → d + ops.length + 20 ≤ k → x.2.length ≤ 65536 → samphireref13_Put.l0 k (i : Int) nodes ops b0 b1 (strOfNums x.2) x.1 = some ((((x.nodes (nodes.drop i)).num ops.length).opns ops).done)
 | 0, i, k + 1, x, hi, hk, hx => by
  unfold samphireref13_Put.l0
  have h1 := put_l1 (nodes := nodes) (b0 := b0) (b1 := b1) hl2 ops.length 0 k (x.num ops.length) (by omega) (by omega) (St.num_le _ _ hx)
  rw [if_neg (by omega), num_is x _ k (by omega) hx, Option.bind_some, List.drop_of_length_le (by omega)]
  exact h1
 | d + 1, i, k + 1, x, hi, hk, hx => by
  have hlt : i < nodes.length := by omega
  have e := rdN_at nodes i hlt
  rw [getElem!_pos nodes i hlt] at e
  unfold samphireref13_Put.l0
  have x1 := St.stamp_le x nodes[i].f0.f0 nodes[i].f0.f1 hx
  have x2 := St.stamp_le _ nodes[i].f1.f0 nodes[i].f1.f1 x1
  have x3 := St.text_le _ nodes[i].f2 x2
  have ih := put_l0 (nodes := nodes) (ops := ops) (b0 := b0) (b1 := b1) hl hl2 d (i + 1) k (x.node nodes[i]) (by omega) (by omega) (St.node_le _ _ hx)
  rw [if_pos (by omega), if_pos (by omega), e, stamp_is x _ _ k (by omega) hx, Option.bind_some]
  simp only [asRef]
  rw [stamp_is _ _ _ k (by omega) x1, Option.bind_some]
  simp only [asRef]
  rw [text_is _ _ k (by omega) x2, Option.bind_some]
  simp only [asRef]
  rw [text_is _ _ k (by omega) x3, Option.bind_some, show wrap64 ((i : Int) + 1) = ((i + 1 : Nat) : Int) by unfold wrap64; omega]
  rw [List.drop_eq_getElem_cons hlt]
  exact ih
theorem put_ref {nodes : List Nod} {ops : List Opn} {b0 b1 : Int} (hk : putOk nodes ops = true) (k : Nat) (h : nodes.length + ops.length + 30 ≤ k) : samphireref13_Put.f k nodes ops b0 b1 = some (putP nodes ops ⟨b0, b1⟩) := by
 obtain ⟨_, _, k3, k4⟩ := putOk_iff.1 hk
 unfold samphireref13_Put.f samphireref13_may.f
 rw [if_pos hk, Option.bind_some]
 unfold putP
 cases hm : mayB nodes ops ⟨b0, b1⟩ with
 | false => rfl
 | true =>
  rw [if_pos rfl, if_pos rfl]
  have hs := stamp_is (false, []) b0 b1 k (by omega) (by decide)
  rw [show strOfNums (false, ([] : List Int)).2 = ⟨#[]⟩ from rfl] at hs
  have x1 := St.stamp_le (false, []) b0 b1 (by decide)
  rw [hs, Option.bind_some]
  simp only [asRef]
  rw [num_is _ _ k (by omega) x1, Option.bind_some]
  have h0 := put_l0 (b0 := b0) (b1 := b1) k3 k4 nodes.length 0 k ((St.stamp (false, []) b0 b1).num nodes.length) (by omega) (by omega) (St.num_le _ _ x1)
  exact h0
end Go.Proofs.YtlfgdaiegefjiaaDoor.S
/- The plain law of SnapPuts. -/
namespace Go.Proofs.YtlfgdaiegefjiaaDoor.S
open Go.RowKit Go.Proofs.YtlfgdaiegefjiaaDoorW.PrintWords Go.Proofs.YtlfgdaiegefjiaaDoorW.PrintLast Go.Proofs.YtlfgdaiegefjiaaDoorW.PrintMore
set_option linter.unusedVariables false
set_option linter.unusedSimpArgs false
theorem sameN_go (l : List Nod) (hl : l.length ≤ 1000000) : ∀ (n i k : Nat), n + i = l.length → n + 1 ≤ k → samphireref11_SameNodes.l0 k l l (i : Int) = some true
 | 0, i, k + 1, hi, _ => by
  unfold samphireref11_SameNodes.l0
  rw [if_neg (by omega)]
 | n + 1, i, k + 1, hi, hk => by
  unfold samphireref11_SameNodes.l0
  rw [if_pos (by omega), if_pos (by omega), if_pos (by omega), show wrap64 ((i : Int) + 1) = ((i + 1 : Nat) : Int) by unfold wrap64; omega, sameN_go l hl n (i + 1) k (by omega) (by omega)]
  simp
theorem sameO_go (l : List Opn) (hl : l.length ≤ 1000000) : ∀ (n i k : Nat), n + i = l.length → n + 1 ≤ k → samphireref11_SameOps.l0 k l l (i : Int) = some true
 | 0, i, k + 1, hi, _ => by
  unfold samphireref11_SameOps.l0
  rw [if_neg (by omega)]
 | n + 1, i, k + 1, hi, hk => by
  unfold samphireref11_SameOps.l0
  rw [if_pos (by omega), if_pos (by omega), if_pos (by omega), show wrap64 ((i : Int) + 1) = ((i + 1 : Nat) : Int) by unfold wrap64; omega, sameO_go l hl n (i + 1) k (by omega) (by omega)]
  simp
theorem same_self (nodes : List Nod) (ops : List Opn) (b0 b1 : Int) (k : Nat) (h1 : nodes.length ≤ 600) (h2 : ops.length ≤ 600) (hk : 601 ≤ k) : samphireref13_Same.f k nodes ops b0 b1 nodes ops b0 b1 = some true := by
 unfold samphireref13_Same.f samphireref11_SameNodes.f samphireref11_SameOps.f
 have e1 := sameN_go nodes (by omega) nodes.length 0 k (by omega) (by omega)
 have e2 := sameO_go ops (by omega) ops.length 0 k (by omega) (by omega)
 rw [if_pos rfl, if_pos rfl]
 rw [show (0 : Int) = ((0 : Nat) : Int) from rfl, e1, Option.bind_some, if_pos rfl, e2, Option.bind_some, if_pos rfl]
 simp
theorem light_l1 (nodes : List Nod) (ops : List Opn) (b0 b1 : Int) (hl : ops.length ≤ 100000) : ∀ (d i k : Nat), i + d = ops.length → d + 1 ≤ k → (∀ o ∈ ops.take i, light o) → ∃ r, samphirelaw13_light.l1 k (i : Int) nodes ops b0 b1 = some r ∧ (r = true → ∀ o ∈ ops, light o)
 | 0, i, k + 1, hi, _, h => by
  unfold samphirelaw13_light.l1
  rw [if_neg (by omega)]
  exact ⟨true, rfl, fun _ => by rwa [List.take_of_length_le (by omega)] at h⟩
 | d + 1, i, k + 1, hi, hk, h => by
  have hlt : i < ops.length := by omega
  obtain ⟨r, hr, hl2⟩ := light_is ops[i]
  unfold samphirelaw13_light.l1
  rw [if_pos (by omega), if_pos (by omega), rd_at ops i hlt, hr, Option.bind_some]
  cases r with
  | false => exact ⟨false, rfl, fun h => by cases h⟩
  | true =>
   rw [if_pos rfl, show wrap64 ((i : Int) + 1) = ((i + 1 : Nat) : Int) by unfold wrap64; omega]
   refine light_l1 nodes ops b0 b1 hl d (i + 1) k (by omega) (by omega) (fun o ho => ?_)
   rw [List.take_succ_eq_append_getElem hlt, List.mem_append, List.mem_singleton] at ho
   rcases ho with ho | rfl
   · exact h o ho
   · exact hl2 rfl
def lightNd (n : Nod) : Prop := n.f2.size ≤ 200 ∧ n.f3.size ≤ 200
theorem light_l0 (nodes : List Nod) (ops : List Opn) (b0 b1 : Int) (hn : nodes.length ≤ 100000) (hl : ops.length ≤ 100000) : ∀ (d i k : Nat), i + d = nodes.length → d + ops.length + 3 ≤ k → (∀ o ∈ nodes.take i, lightNd o) → ∃ r, samphirelaw13_light.l0 k (i : Int) nodes ops b0 b1 = some r ∧ (r = true → (∀ n ∈ nodes, lightNd n) ∧ ∀ o ∈ ops, light o)
 | 0, i, k + 1, hi, hk, h => by
  obtain ⟨r, h1, h2⟩ := light_l1 nodes ops b0 b1 hl ops.length 0 k (by omega) (by omega) (fun o ho => by simp at ho)
  unfold samphirelaw13_light.l0
  rw [if_neg (by omega)]
  exact ⟨r, h1, fun hr => ⟨by rwa [List.take_of_length_le (by omega)] at h, h2 hr⟩⟩
 | d + 1, i, k + 1, hi, hk, h => by
  have hlt : i < nodes.length := by omega
  have e := rdN_at nodes i hlt
  rw [getElem!_pos nodes i hlt] at e
  unfold samphirelaw13_light.l0
  rw [if_pos (by omega), if_pos (by omega), e]
  by_cases h2 : (nodes[i].f2.size : Int) > 200
  · rw [if_pos h2]; exact ⟨false, rfl, fun h => by cases h⟩
  · by_cases h3 : (nodes[i].f3.size : Int) > 200
    · rw [if_neg h2, if_pos h3]; exact ⟨false, rfl, fun h => by cases h⟩
    · rw [if_neg h2, if_neg h3, show wrap64 ((i : Int) + 1) = ((i + 1 : Nat) : Int) by unfold wrap64; omega]
      refine light_l0 nodes ops b0 b1 hn hl d (i + 1) k (by omega) (by omega) (fun o ho => ?_)
      rw [List.take_succ_eq_append_getElem hlt, List.mem_append, List.mem_singleton] at ho
      rcases ho with ho | rfl
      · exact h o ho
      · exact ⟨by omega, by omega⟩
theorem lights_is (nodes : List Nod) (ops : List Opn) (b0 b1 : Int) (k : Nat) (hk : 100 ≤ k) : ∃ r, samphirelaw13_light.f k nodes ops b0 b1 = some r ∧ (r = true → nodes.length ≤ 30 ∧ ops.length ≤ 30 ∧ (∀ n ∈ nodes, lightNd n) ∧ ∀ o ∈ ops, light o) := by
 obtain ⟨k, rfl⟩ : ∃ k', k = k' + 1 := ⟨k - 1, by omega⟩
 unfold samphirelaw13_light.f
 by_cases h1 : (nodes.length : Int) > 30
 · rw [if_pos h1]
   exact ⟨false, rfl, fun h => by cases h⟩
 · by_cases h2 : (ops.length : Int) > 30
   · rw [if_neg h1, decide_eq_true h2]
     exact ⟨false, rfl, fun h => by cases h⟩
   · rw [if_neg h1, decide_eq_false h2]
     obtain ⟨r, hr, hh⟩ := light_l0 nodes ops b0 b1 (by omega) (by omega) nodes.length 0 k (by omega) (by omega) (fun o ho => by simp at ho)
     refine ⟨r, ?_, fun h => ⟨by omega, by omega, hh h⟩⟩
     rw [samphirelaw13_light.j0, if_neg (by decide)]
     exact hr
theorem put_size (nodes : List Nod) (ops : List Opn) (base : Stp) : (putP nodes ops base).1.size ≤ 65536 := by
 unfold putP St.done
 split
 · split
   · decide
   · show (strOfNums _).size ≤ 65536
     rw [strOfNums_size]
     exact snap_le _ _ _
 · decide
theorem puts_is (nodes : List Nod) (ops : List Opn) (b0 b1 : Int) : samphirelaw13_SnapPuts.f 1001 nodes ops b0 b1 = some true := by
 obtain ⟨r, hr, hl⟩ := lights_is nodes ops b0 b1 1001 (by decide)
 unfold samphirelaw13_SnapPuts.f
 rw [hr, Option.bind_some]
 cases r with
 | false => rfl
 | true =>
  obtain ⟨l1, l2, l3, l4⟩ := hl rfl
  have hk : putOk nodes ops = true := putOk_iff.2 ⟨fun m hm => ⟨by have := (l3 m hm).1; omega, by have := (l3 m hm).2; omega⟩, fun m hm => ⟨by have := (l4 m hm).1; omega, by have := (l4 m hm).2; omega⟩, by omega, by omega⟩
  have hp : snap_Put.f nodes ops b0 b1 = some (putP nodes ops ⟨b0, b1⟩) := by unfold snap_Put.f; rw [if_pos hk]
  rw [if_pos rfl, hp, Option.bind_some, put_ref hk 1001 (by omega), Option.bind_some, if_pos rfl, show ((putP nodes ops ⟨b0, b1⟩).2 != (putP nodes ops ⟨b0, b1⟩).2) = false by simp]
  obtain ⟨q1, q2, _, _⟩ := putOk_iff.1 hk
  have ht := take_put (base := ⟨b0, b1⟩) (by omega) (by omega) q1 q2
  have hz := put_size nodes ops ⟨b0, b1⟩
  generalize putP nodes ops ⟨b0, b1⟩ = a at ht hz ⊢
  show samphirelaw13_SnapPuts.j0 (1000 + 1) a.1 a.2 false nodes ops b0 b1 = some true
  rw [samphirelaw13_SnapPuts.j0, if_neg (by decide)]
  by_cases he : a.2 = 0
  · have hf : snap_Take.f a.1 = some (nodes, ops, b0, b1, 0) := by unfold snap_Take.f; rw [if_pos (by omega), ht he]
    rw [if_pos he, hf, Option.bind_some]
    simp only [if_true]
    rw [same_self nodes ops b0 b1 1000 (by omega) (by omega) (by decide), Option.bind_some, if_pos rfl]
    rfl
  · rw [if_neg he]
    rfl
end Go.Proofs.YtlfgdaiegefjiaaDoor.S
