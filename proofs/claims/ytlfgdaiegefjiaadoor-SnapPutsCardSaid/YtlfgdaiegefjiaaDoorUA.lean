/- Which nodes make a tree: the program's test (chains of parents end outside) and the document's (each parent is there, and none is below itself) are one. Plain laws. -/
import Derived.Test.YtlfgdaiegefjiaaDoorSA
import Derived.Test.YtlfgdaiegefjiaaDoorRA
import Derived.Test.YtlfgdaiegefjiaaDoorQc
import Derived.Test.YtlfgdaiegefjiaaDoorSx4
import Derived.Test.YtlfgdaiegefjiaaDoorSx5
import Derived.Test.YtlfgdaiegefjiaaDoorPa
namespace Go.Proofs.YtlfgdaiegefjiaaDoor.S
open Go.RowKit Go.Proofs.YtlfgdaiegefjiaaDoorW.PrintWords Go.Proofs.YtlfgdaiegefjiaaDoorW.PrintLast Go.Proofs.YtlfgdaiegefjiaaDoorW.PrintMore
set_option linter.unusedVariables false
set_option linter.unusedSimpArgs false
/-- A chain of parents that ends outside, by so many steps at the most. -/
def chainB (l : List Nod) : Nat → Stp → Bool
 | 0, s => outerB s
 | k + 1, s => outerB s || (has l s && chainB l k (look l s).f1)
/-- What the document asks of a node's parent. -/
def parB (l : List Nod) (n : Nod) : Bool := if n.f1.f0 = 0 then outerB n.f1 else (has l n.f1 && !undR l n.f0 (l.length + 1) n.f1)
theorem chain_und {l : List Nod} {id : Stp} (hp : ∀ n ∈ l, (has l n.f1 || outerB n.f1) = true) : ∀ (m : Nat) (s : Stp), undR l id m s = false → (has l s || outerB s) = true → chainB l m s = true
 | 0, s, h, _ => by simp [undR] at h
 | m + 1, s, h, hs => by
  by_cases he : s = id
  · rw [und_hit he] at h; cases h
  · unfold chainB
    cases hh : has l s with
    | false =>
     rw [hh, Bool.false_or] at hs
     rw [hs]; rfl
    | true =>
     rw [und_on he hh] at h
     rw [chain_und hp m _ h (hp _ (look_mem hh).1)]
     simp
theorem chain_root {l : List Nod} : ∀ (m : Nat) (s : Stp), chainB l m s = true → root l m s = true
 | 0, s, h => h
 | m + 1, s, h => by
  unfold chainB at h
  show (outerB s || root l m (look l s).f1) = true
  rcases orT h with h | h
  · rw [h]; rfl
  · rw [chain_root m _ (by simp at h; exact h.2)]; simp
theorem chain_first {l : List Nod} {m : Nat} {s : Stp} (h : chainB l (m + 1) s = true) : (has l s || outerB s) = true := by
 unfold chainB at h
 rcases orT h with h | h
 · rw [h]; simp
 · simp at h
   rw [h.1]; rfl
theorem chain_rooted {l : List Nod} {m : Nat} (hid : ∀ n ∈ l, outerB n.f0 = false) (h : ∀ n ∈ l, chainB l (m + 1) n.f1 = true) : Rooted l := by
 refine ⟨fun s => ?_, fun n hn => chain_first (h n hn), hid⟩
 cases hh : has l s with
 | false =>
  refine ⟨1, ?_⟩
  show (outerB s || outerB (look l s).f1) = true
  rw [look_not hh]
  rw [show outerB zNod.f1 = true from rfl]; simp
 | true =>
  refine ⟨m + 2, ?_⟩
  show (outerB s || root l (m + 1) (look l s).f1) = true
  rw [chain_root _ _ (h _ (look_mem hh).1)]; simp
theorem bel_exact {l : List Nod} {id : Stp} : ∀ (k m : Nat) (s : Stp), exact_ l k s → bel l id m s = some true → ∃ j, j ≤ k ∧ exact_ l j id
 | k, 0, s, _, h => by simp [bel] at h
 | k, m + 1, s, he, h => by
  unfold bel at h
  split at h
  · cases h
  · rename_i ho
    split at h
    · rename_i e
      exact ⟨k, Nat.le_refl _, (eqS_iff.1 e) ▸ he⟩
    · cases k with
      | zero => exact absurd (exact_zero he) ho
      | succ k =>
       obtain ⟨_, h1⟩ := exact_succ he
       obtain ⟨j, hj, hx⟩ := bel_exact k m _ h1 h
       exact ⟨j, by omega, hx⟩
theorem look_in {l : List Nod} (hd : (l.map fun n => n.f0).Nodup) {n : Nod} (hn : n ∈ l) : look l n.f0 = n := by
 induction l with
 | nil => cases hn
 | cons x l ih =>
  rw [List.map_cons, List.nodup_cons] at hd
  rw [look_cons]
  rcases List.mem_cons.1 hn with rfl | hm
  · rw [if_pos (eqS_self _)]
  · have : eqS n.f0 x.f0 = false := eqS_false (fun e => hd.1 (List.mem_map.2 ⟨n, hm, e⟩))
    rw [if_neg (by rw [this]; simp), ih hd.2 hm]
theorem not_below {l : List Nod} (hr : Rooted l) (hd : (l.map fun n => n.f0).Nodup) {n : Nod} (hn : n ∈ l) : under l n.f0 n.f1 = false := by
 obtain ⟨k, hk⟩ := hr.rt n.f1
 obtain ⟨j, _, hj⟩ := exact_of k hk
 obtain ⟨r, hb⟩ := bel_root n.f0 hj.1
 rw [under_of hb]
 cases r with
 | false => rfl
 | true =>
  exfalso
  obtain ⟨i, hi, hx⟩ := bel_exact j _ _ hj hb
  have ho := hr.own n hn
  have hy : exact_ l (j + 1) n.f0 := by
   refine ⟨?_, fun q hq => ?_⟩
   · show (outerB n.f0 || root l j (look l n.f0).f1) = true
     rw [look_in hd hn, hj.1]; simp
   · cases q with
     | zero => exact ho
     | succ q =>
      show (outerB n.f0 || root l q (look l n.f0).f1) = false
      rw [look_in hd hn, ho, hj.2 q (by omega)]; rfl
  have := exact_one hx hy
  omega
/-- Both tests of parents are one. -/
theorem par_chain {l : List Nod} (hd : (l.map fun n => n.f0).Nodup) (hid : ∀ n ∈ l, 1 ≤ n.f0.f0) : (∀ n ∈ l, chainB l (l.length + 1) n.f1 = true) ↔ (∀ n ∈ l, parB l n = true) := by
 have hout : ∀ n ∈ l, outerB n.f0 = false := fun n hn => by
  have := hid n hn
  unfold outerB
  rw [show (n.f0.f0 == 0) = false from beq_eq_false_iff_ne.2 (by omega)]; rfl
 constructor
 · intro h n hn
   have hr := chain_rooted hout h
   unfold parB
   split
   · rename_i hz
     rcases orT (chain_first (h n hn)) with h1 | h1
     · obtain ⟨m, hm, e⟩ := has_iff.1 h1
       have := hid m hm
       rw [e, hz] at this
       omega
     · exact h1
   · rename_i hz
     have hnot : outerB n.f1 = false := by
      unfold outerB
      rw [show (n.f1.f0 == 0) = false from beq_eq_false_iff_ne.2 hz]; rfl
     have hh : has l n.f1 = true := by
      have := chain_first (h n hn)
      rwa [hnot, Bool.or_false] at this
     rw [hh, undR_under hr (hout n hn) (by rw [hh]; rfl), not_below hr hd hn]; rfl
 · intro h
   have hp : ∀ n ∈ l, (has l n.f1 || outerB n.f1) = true := by
    intro n hn
    have := h n hn
    unfold parB at this
    split at this
    · rw [this]; simp
    · simp at this; rw [this.1]; rfl
   intro n hn
   have hq := h n hn
   unfold parB at hq
   split at hq
   · unfold chainB; rw [hq]; rfl
   · simp at hq
     exact chain_und hp _ _ hq.2 (by rw [hq.1]; rfl)
end Go.Proofs.YtlfgdaiegefjiaaDoor.S
/- tree.Of, as the machine walks it. -/
namespace Go.Proofs.YtlfgdaiegefjiaaDoor.S
open Go.RowKit Go.Proofs.YtlfgdaiegefjiaaDoorW.PrintWords Go.Proofs.YtlfgdaiegefjiaaDoorW.PrintLast Go.Proofs.YtlfgdaiegefjiaaDoorW.PrintMore
open Go.Proofs.YtlfgdaiegefjiaaDoor.P (isName L chkO)
set_option linter.unusedVariables false
set_option linter.unusedSimpArgs false
attribute [local go_sem high] eqA23 mEq field_par
/-- Whether a node may stand where it stands. -/
def nodeOk (base : Stp) (nodes : List Nod) (x : Int) : Bool :=
 fineB (rd_T72 nodes x).f0.f0 (rd_T72 nodes x).f0.f1 && (!lessB base (rd_T72 nodes x).f0) && isName (L (rd_T72 nodes x).f2) && decide ((rd_T72 nodes x).f3.size ≤ 64) && (decide (x = 0) || lessB (rd_T72 nodes (x - 1)).f0 (rd_T72 nodes x).f0)
def allOk (base : Stp) (nodes : List Nod) : Prop := ∀ x : Int, 0 ≤ x → x < nodes.length → nodeOk base nodes x = true
def baseOk (base : Stp) : Bool := fineB base.f0 base.f1 || (base.f0 == 0 && base.f1 == 0)
theorem ndx {w : World} {ad : Addr} {m c : Nat} {l : List Nod} {x : Int} (h : RowN w (.slice (some ad) m c) l) (h0 : 0 ≤ x) (h1 : x < l.length) :
 w.cell? (ad.add (x.toNat * 6)) = some (.int .i64 (rd_T72 l x).f0.f0) ∧ w.cell? ⟨(ad.add (x.toNat * 6)).block, (ad.add (x.toNat * 6)).off + 1, none⟩ = some (.int .i64 (rd_T72 l x).f0.f1) := by
 obtain ⟨ad', e, x0, x1, _⟩ := at_T72 h.at.2.2 x h0 h1
 cases e
 exact ⟨x0, x1⟩
theorem new_low' {w1 : World} {B B' g f n : Nat} (h : TreeAt w1 B g f n (.slice none 0 0) ⟨[], [], [], St0⟩) (hb : B' ≤ B) : TreeAt w1 B' g f n (.slice none 0 0) ⟨[], [], [], St0⟩ :=
 ⟨h.blk, h.fix, h.now, Kd.R_nil _ _ _ _ _, h.ne, Nat.le_trans hb h.bg, Nat.le_trans hb h.bf, Nat.le_trans hb h.bn⟩
theorem rdn_is (l : List Nod) (x : Int) (h0 : 0 ≤ x) (h1 : x < l.length) : ∃ i, ∃ h : i < l.length, (i : Int) = x ∧ rd_T72 l x = l[i] := by
 obtain ⟨i, rfl⟩ : ∃ i : Nat, x = i := ⟨x.toNat, by omega⟩
 exact ⟨i, by omega, rfl, by rw [rdN_at l i (by omega), getElem!_pos l i (by omega)]⟩
theorem TreeAt.setBase {w : World} {B g f n : Nat} {v : Value} {T : Tr} (h : TreeAt w B g f n v T) (b : Stp) : TreeAt ((w.setCell ⟨g, 3, none⟩ (.int .i64 b.f0)).setCell ⟨g, 4, none⟩ (.int .i64 b.f1)) B g f n v { T with base := b } := by
 have hs : Stay w ((w.setCell ⟨g, 3, none⟩ (.int .i64 b.f0)).setCell ⟨g, 4, none⟩ (.int .i64 b.f1)) (· = g) := (Stay.cell w ⟨g, 3, none⟩ (.int .i64 b.f0)).trans (Stay.cell _ ⟨g, 4, none⟩ (.int .i64 b.f1)) (fun _ hk => .inl hk)
 exact ⟨blk_put (blk_put h.blk 3 (.int .i64 b.f0) rfl) 4 (.int .i64 b.f1) rfl, h.fix.stay hs (fun e => h.gf e.symm), h.now.stay hs (fun e => h.gn e.symm), h.ops.stay hs (fun k hk e => by subst e; exact h.ops.own_ne h.blk hk), h.ne, h.bg, h.bf, h.bn⟩
/-- The fixed nodes turn. -/
theorem TreeAt.turnF {w w1 : World} {B g f n : Nat} {v : Value} {T : Tr} (h : TreeAt w B g f n v T) (hs : Stay w w1 (· = f)) {l : List Nod} (hl : Lies w1 f l) : TreeAt w1 B g f n v { T with fixed := l } :=
 ⟨hs.blk h.blk h.gf, hl, h.now.stay hs (fun e => h.ne e.symm), h.ops.stay hs (fun k hk e => by subst e; exact h.ops.own_map h.fix hk), h.ne, h.bg, h.bf, h.bn⟩
theorem foot_in2 {w : World} {B g f n : Nat} {v : Value} {T : Tr} (h : TreeAt w B g f n v T) {k : Nat} (hk : foot g f n v k) : k < w.heap.size := by
 rcases hk with rfl | rfl | rfl | hk
 · exact blk_lt h.blk
 · exact h.fix.lt
 · exact h.now.lt
 · exact h.ops.own_lt k hk
theorem drop_rd (ops : List Opn) {y : Int} (h0 : 0 ≤ y) (h1 : y < ops.length) : ops.drop y.toNat = rd_T25 ops y :: ops.drop (y + 1).toNat := by
 obtain ⟨i, hi, hii, e⟩ := rd_is ops y h0 h1
 rw [e, show y.toNat = i by omega, show (y + 1).toNat = i + 1 by omega]
 exact List.drop_eq_getElem_cons hi
theorem putO_same {T : Tr} {nodes : List Nod} {base : Stp} {o : Opn} {r : Int} (h1 : T.fixed = nodes) (h2 : T.base = base) : putO ⟨nodes, [], T.ops, base⟩ o r = putO T o r := by
 subst h1 h2
 rfl
theorem outB_is (s : Stp) : outB s.f0 s.f1 = outerB s := by
 unfold outB outerB
 cases (s.f0 == 0) <;> simp
theorem chain_out {l : List Nod} {s : Stp} : ∀ (m : Nat), outerB s = true → chainB l m s = true
 | 0, h => h
 | m + 1, h => by unfold chainB; rw [h]; rfl
theorem chain_no {l : List Nod} {s : Stp} : ∀ (m : Nat), outerB s = false → has l s = false → chainB l m s = false
 | 0, h, _ => h
 | m + 1, h, h' => by unfold chainB; rw [h, h']; rfl
theorem chain_on {l : List Nod} {s : Stp} (m : Nat) (h : outerB s = false) (h' : has l s = true) : chainB l (m + 1) s = chainB l m (look l s).f1 := by
 conv => lhs; unfold chainB
 rw [h, h']
 simp
theorem ok_less {base : Stp} {nodes : List Nod} {x : Int} (h : nodeOk base nodes x = true) (hx : x ≠ 0) : lessB (rd_T72 nodes (x - 1)).f0 (rd_T72 nodes x).f0 = true := by
 unfold nodeOk at h
 rw [decide_eq_false hx, Bool.false_or] at h
 simp only [Bool.and_eq_true] at h
 exact h.2
/-- Nodes that pass stand in strict order: each is new to those ahead. -/
theorem ok_srt {base : Stp} {nodes : List Nod} : ∀ (k : Nat), k ≤ nodes.length → (∀ y : Int, 0 ≤ y → y < k → nodeOk base nodes y = true) → SrtN (nodes.take k)
 | 0, _, _ => by rw [List.take_zero]; exact List.Pairwise.nil
 | k + 1, hk, h => by
  have ih := ok_srt k (by omega) (fun y h0 h1 => h y h0 (by omega))
  rw [List.take_add_one, List.getElem?_eq_getElem (by omega)]
  refine List.pairwise_append.2 ⟨ih, List.pairwise_singleton _ _, fun a ha b hb => ?_⟩
  have hb : b = nodes[k] := by simpa using hb
  subst hb
  cases k with
  | zero => simp at ha
  | succ k =>
   have hl := ok_less (h ((k + 1 : Nat) : Int) (by omega) (by omega)) (by omega)
   rw [show ((k + 1 : Nat) : Int) - 1 = (k : Int) by omega, rdN_at nodes k (by omega), rdN_at nodes (k + 1) (by omega), getElem!_pos nodes k (by omega), getElem!_pos nodes (k + 1) (by omega)] at hl
   rw [List.take_add_one, List.getElem?_eq_getElem (by omega)] at ha ih
   rcases List.mem_append.1 ha with ha | ha
   · exact less_trans ((List.pairwise_append.1 ih).2.2 a ha _ (by simp)) hl
   · have : a = nodes[k] := by simpa using ha
     rw [this]; exact hl
theorem ok_put {base : Stp} {nodes : List Nod} {x : Int} (h0 : 0 ≤ x) (hx : x < nodes.length) (h : ∀ y : Int, 0 ≤ y → y < x + 1 → nodeOk base nodes y = true) : put (nodes.take x.toNat) (rd_T72 nodes x) = nodes.take (x + 1).toNat := by
 obtain ⟨k, rfl⟩ : ∃ k : Nat, x = k := ⟨x.toNat, by omega⟩
 have hk : k < nodes.length := by omega
 have hs := ok_srt (base := base) (nodes := nodes) (k + 1) hk (fun y a b => h y a (by omega))
 rw [show ((k : Int) + 1).toNat = k + 1 by omega, show (k : Int).toNat = k by omega, List.take_add_one, List.getElem?_eq_getElem hk, rdN_at nodes k hk, getElem!_pos nodes k hk]
 rw [List.take_add_one, List.getElem?_eq_getElem hk] at hs
 refine put_none ?_
 cases hq : lk (nodes.take k) nodes[k].f0 with
 | none => rfl
 | some y =>
  exfalso
  obtain ⟨j, m⟩ := y
  obtain ⟨h1, h2⟩ := lk_some hq
  have := (List.pairwise_append.1 hs).2.2 m (List.mem_of_getElem? h1) nodes[k] (by simp)
  rw [h2, less_irr] at this
  cases this
/-- Operations put one behind the other: which lie there then, and the first fault. -/
def putAll (T : Tr) : List Opn → List Opn × Int
 | [] => (T.ops, 0)
 | o :: os => if (putO T o (chkO o)).2 ≠ 0 then (T.ops, (putO T o (chkO o)).2) else if (putO T o (chkO o)).1.length = T.ops.length then (T.ops, 1) else putAll { T with ops := (putO T o (chkO o)).1 } os
structure StartOk (base : Stp) (nodes : List Nod) : Prop where
 len : nodes.length ≤ 512
 bas : baseOk base = true
 all : allOk base nodes
 chain : ∀ n ∈ nodes, chainB nodes (nodes.length + 1) n.f1 = true
abbrev T0 (base : Stp) (nodes : List Nod) : Tr := ⟨nodes, [], [], base⟩
/-- What tree.Of answers. -/
def OfSpec (w : World) (nodes : List Nod) (ops : List Opn) (base : Stp) (e : Ending) (w' : World) : Prop :=
 (¬ StartOk base nodes → e = .returned (.tuple #[.pointer none, .int .i64 1])) ∧
 (StartOk base nodes → (putAll (T0 base nodes) ops).2 ≠ 0 → e = .returned (.tuple #[.pointer none, .int .i64 (putAll (T0 base nodes) ops).2])) ∧
 (StartOk base nodes → (putAll (T0 base nodes) ops).2 = 0 → ∃ g f n v T', e = .returned (.tuple #[.pointer (some ⟨g, 0, none⟩), .int .i64 0]) ∧ TreeAt w' w.heap.size g f n v T' ∧ Good T' ∧ T'.fixed = nodes ∧ T'.base = base ∧ T'.ops = (putAll (T0 base nodes) ops).1) ∧ Below w.heap.size w w'
theorem OfSpec.bad {w w' : World} {nodes : List Nod} {ops : List Opn} {base : Stp} (h : ¬ StartOk base nodes) (hb : Below w.heap.size w w') : OfSpec w nodes ops base (.returned (.tuple #[.pointer none, .int .i64 1])) w' :=
 ⟨fun _ => rfl, fun h1 => absurd h1 h, fun h1 => absurd h1 h, hb⟩
theorem OfSpec.fault {w w' : World} {nodes : List Nod} {ops : List Opn} {base : Stp} {pe : Int} (hs : StartOk base nodes) (h : (putAll (T0 base nodes) ops).2 = pe) (hne : pe ≠ 0) (hb : Below w.heap.size w w') : OfSpec w nodes ops base (.returned (.tuple #[.pointer none, .int .i64 pe])) w' :=
 ⟨fun h1 => absurd hs h1, fun _ _ => by rw [h], fun _ h1 => absurd (h.symm.trans h1) hne, hb⟩
theorem OfSpec.good {w w' : World} {nodes : List Nod} {ops : List Opn} {base : Stp} {g f n : Nat} {v : Value} {T : Tr} (hs : StartOk base nodes) (h : putAll (T0 base nodes) ops = (T.ops, 0)) (ht : TreeAt w' w.heap.size g f n v T) (hg : Good T) (h1 : T.fixed = nodes) (h2 : T.base = base) (hb : Below w.heap.size w w') : OfSpec w nodes ops base (.returned (.tuple #[.pointer (some ⟨g, 0, none⟩), .int .i64 0])) w' :=
 ⟨fun h3 => absurd hs h3, fun _ h3 => absurd (by rw [h]) h3, fun _ _ => ⟨g, f, n, v, T, rfl, ht, hg, h1, h2, by rw [h]⟩, hb⟩
def of_.T8 : Bool × List (List Nat × List Nat) := (true, [([], []), ([0], [0]), ([1], [1]), ([2], [2]), ([3, 2], [3]), ([4], [4]), ([5, 4], [4, 5]), ([4], [4]), ([7, 4], [4, 7]), ([6, 8, 4, 4], [4, 6, 8]), ([4, 9], [4, 9]), ([10, 9], [10]), ([11], [11]), ([12, 11], [11, 12]), ([13, 11, 11], [11, 13]), ([14, 11], [11, 14]), ([11, 15], [11, 15]), ([16, 14], [16]), ([17], [17]), ([18, 17], [17, 18]), ([19, 17], [17, 19]), ([20, 17], [17, 20]), ([17, 21], [17, 21]), ([22, 17], [22]), ([23], [23]), ([24, 23], [23, 24]), ([25, 23, 23], [23, 25]), ([26], [26]), ([27, 26], [26, 27]), ([26], [26]), ([29, 26], [26, 29]), ([28, 30, 26], [26, 28, 30]), ([31, 26], [26, 31]), ([32, 26], [26, 32]), ([26], [26]), ([34, 26], [26, 34]), ([33, 35, 26, 26], [26, 33, 35]), ([36, 26], [26, 36]), ([26, 37, 23], [23, 26, 37]), ([23, 38], [23, 38])])
def of_.B8 : List Nat := [0, 1, 3, 7, 15, 31, 63, 31, 159, 511, 1023, 2047, 4095, 8191, 16383, 32767, 65535, 131071, 262143, 524287, 1048575, 2097151, 4194303, 8388607, 16777215, 33554431, 67108863, 134217727, 268435455, 134217727, 671088639, 2147483647, 4294967295, 8589934591, 134217727, 17314086911, 68719476735, 137438953471, 274877906943, 549755813887]
theorem of_.tab8 : rtab .any (opsOf Tryd.f69 8) = of_.T8 := by kernel_rfl
theorem of_.bits8 : waitsOk of_.T8.2 of_.B8 = true := by kernel_rfl
def of_.T19 : Bool × List (List Nat × List Nat) := (true, [([], []), ([0], [0]), ([1], [1]), ([2], [2]), ([], []), ([3, 4], [3, 4]), ([5], [5]), ([6], [6]), ([6], [6]), ([], []), ([9, 7, 0, 1, 2, 3, 4, 5, 6, 7, 9], [7, 9]), ([8, 10, 0, 1, 2, 3, 4, 5, 6, 7, 8, 9, 10], [8])])
def of_.B19 : List Nat := [0, 1, 3, 7, 0, 31, 63, 127, 127, 0, 767, 2047]
theorem of_.tab19 : rtab .any (opsOf Tryd.f69 19) = of_.T19 := by kernel_rfl
theorem of_.bits19 : waitsOk of_.T19.2 of_.B19 = true := by kernel_rfl
set_option maxHeartbeats 16000000 in
set_option maxRecDepth 100000 in
theorem Of_calls (w : World) (vN vO : Value) (nodes : List Nod) (ops : List Opn) (base : Stp) (hN : RowN w vN nodes) (hO : RowO w vO ops) (hnm : ∀ m ∈ nodes, m.f2.size < 9223372036854775807) (hon : ∀ o ∈ ops, o.f4.size ≤ 1024) (hol : ops.length ≤ 100000) (hL : Laid w) :
 Calls Tryd.prog 69 #[.agg #[vN, vO, .int .i64 base.f0, .int .i64 base.f1]] w (OfSpec w nodes ops base) := by
 have hu := Tryd.underlying37
 have hu1 := Tryd.underlying23
 have hu2 := Tryd.underlying72
 have hu3 := Tryd.underlying137
 have hu4 := Tryd.underlying25
 have HN := Aside0.mk hN
 have HO := Aside0.mk hO
 obtain ⟨AN, cN, e, _, _⟩ := hN
 subst e
 obtain ⟨AO, cO, e, _, _⟩ := hO
 subst e
 have HL := Aside0.mk hL
 have HNM0 := Aside0.mk hnm
 have HON := Aside0.mk hon
 have HOL := Aside0.mk hol
 have BS := Aside0.mk (heap_alloc_new w (.cells #[.slice AN nodes.length cN, .slice AO ops.length cO, .int .i64 base.f0, .int .i64 base.f1] 37))
 have HB := Aside0.mk (below_alloc (Below.refl w.heap.size w) (.cells #[.slice AN nodes.length cN, .slice AO ops.length cO, .int .i64 base.f0, .int .i64 base.f1] 37))
 clear hL hnm hon hol
 go_enter Tryd.func69, Tryd.ntmps69
 obtain ⟨z0, z1, z2, z3, zf⟩ := Z4 BS.out
 by_cases hlen : 512 < nodes.length
 · have m1 : decide ((512 : Int) < (nodes.length : Int)) = true := decide_eq_true (by omega)
   have m2 : (512 < nodes.length) = True := eq_true hlen
   have m3 : decide ((nodes.length : Int) > 512) = true := decide_eq_true (by omega)
   have HX := Aside0.mk (show ¬ StartOk base nodes from fun h => by have := h.len; omega)
   clear hlen
   go_wp2
   go_ret2
   exact OfSpec.bad HX.out HB.out
 have HLEN := Aside0.mk (show nodes.length ≤ 512 by omega)
 have m1 : decide ((512 : Int) < (nodes.length : Int)) = false := decide_eq_false (by omega)
 have m2 : (512 < nodes.length) = False := eq_false hlen
 have m3 : decide ((nodes.length : Int) > 512) = false := decide_eq_false (by omega)
 clear hlen
 by_cases hbo : baseOk base = true
 rotate_left
 · have HX := Aside0.mk (show ¬ StartOk base nodes from fun h => hbo h.bas)
   unfold baseOk at hbo
   have hbo : (fineB base.f0 base.f1 || (base.f0 == 0 && base.f1 == 0)) = false := by simpa using hbo
   rw [Bool.or_eq_false_iff] at hbo
   obtain ⟨q0, q1⟩ := hbo
   have HFB := Aside0.mk (fine_is base.f0 base.f1)
   rw [q0] at HFB
   clear q0
   cases q2 : (base.f0 == 0) <;> cases q3 : (base.f1 == 0)
   all_goals first
    | (rw [q2, q3] at q1; cases q1; done)
    | (clear q1
       go_wp2_with (go_at_call 59; refine (tree_fine.calls _ _ _ _ HFB.out).mono ?_; rintro e w1 ⟨rfl, hb⟩; replace BS := Aside0.mk (blk_below BS.out hb); replace HB := Aside0.mk (below_then HB.out HB.out.size hb); clear hb z0 z1 z2 z3 zf; obtain ⟨z0, z1, z2, z3, zf⟩ := Z4 BS.out)
       go_ret2
       exact OfSpec.bad HX.out HB.out)
 rw [show baseOk base = (fineB base.f0 base.f1 || (base.f0 == 0 && base.f1 == 0)) from rfl] at hbo
 have HBO := Aside0.mk (show baseOk base = true from hbo)
 have HFB := Aside0.mk (fine_is base.f0 base.f1)
 generalize hfb : fineB base.f0 base.f1 = fb at HFB hbo
 clear hfb
 cases fb
 case' false =>
  rw [Bool.false_or, Bool.and_eq_true] at hbo
  obtain ⟨q2, q3⟩ := hbo
  go_upto_region 3 with (go_at_call 59; refine (tree_fine.calls _ _ _ _ HFB.out).mono ?_; rintro e w1 ⟨rfl, hb⟩; replace BS := Aside0.mk (blk_below BS.out hb); replace HB := Aside0.mk (below_then HB.out HB.out.size hb); clear hb z0 z1 z2 z3 zf; obtain ⟨z0, z1, z2, z3, zf⟩ := Z4 BS.out)
  clear q2 q3
 case' true =>
  clear hbo
  go_upto_region 3 with (go_at_call 59; refine (tree_fine.calls _ _ _ _ HFB.out).mono ?_; rintro e w1 ⟨rfl, hb⟩; replace BS := Aside0.mk (blk_below BS.out hb); replace HB := Aside0.mk (below_then HB.out HB.out.size hb); clear hb z0 z1 z2 z3 zf; obtain ⟨z0, z1, z2, z3, zf⟩ := Z4 BS.out)
 all_goals
  clear m1 m2 m3
  go_upto_region 4 with (go_at_call 92; refine (New_calls _).mono ?_; rintro e w2 ⟨g, f, n, rfl, ht, hb⟩; have HG := Aside0.mk (show w.heap.size < g ∧ w.heap.size < f ∧ w.heap.size < n from ⟨Nat.lt_of_lt_of_le (blk_lt BS.out) ht.bg, Nat.lt_of_lt_of_le (blk_lt BS.out) ht.bf, Nat.lt_of_lt_of_le (blk_lt BS.out) ht.bn⟩); have HT := Aside0.mk (new_low' ht HB.out.size); replace BS := Aside0.mk (blk_below BS.out hb); replace HB := Aside0.mk (below_then HB.out HB.out.size hb); clear ht hb)
  clear z0 z1 z2 z3 zf
  obtain ⟨z0, z1, z2, z3, zf⟩ := Z4 BS.out
  obtain ⟨t0, t1, t2, t3, t4, tf0, tf1, tf2, tf3, tf4⟩ := Z5 HT.out.blk
  go_upto_region 5 with fail
  replace HT := Aside0.mk (HT.out.setBase base)
  replace BS := Aside0.mk (blk_far (p := ⟨g, 4, none⟩) (blk_far (p := ⟨g, 3, none⟩) BS.out (show w.heap.size ≠ g by have := HG.out.1; omega) (.int .i64 base.f0)) (show w.heap.size ≠ g by have := HG.out.1; omega) (.int .i64 base.f1))
  replace HB := Aside0.mk (below_set (g := g) (below_set (g := g) HB.out (Nat.le_of_lt HG.out.1) (j := 3) (v := .int .i64 base.f0)) (Nat.le_of_lt HG.out.1) (j := 4) (v := .int .i64 base.f1))
  generalize (w2.setCell ⟨g, 3, none⟩ (.int .i64 base.f0)).setCell ⟨g, 4, none⟩ (.int .i64 base.f1) = w3 at HT BS HB ⊢
  clear t0 t1 t2 t3 t4 tf0 tf1 tf2 tf3 tf4
  clear z0 z1 z2 z3 zf
  obtain ⟨z0, z1, z2, z3, zf⟩ := Z4 BS.out
  go_wp2_with fail
  try go_frame
  go_loopg [5, 6, 42] (nodes.length + 1) (fun kq _ _ p wr => ∃ (x : Int), Aside0 ((kq : Int) + x = (nodes.length : Int) + 1 ∧ 0 ≤ x ∧ x ≤ (nodes.length : Int)) ∧ p = .int .i64 x ∧ Aside0 (∀ y : Int, 0 ≤ y → y < x → nodeOk base nodes y = true) ∧ Aside0 (TreeAt wr w.heap.size g f n (.slice none 0 0) ⟨nodes.take x.toNat, [], [], base⟩) ∧ Aside0 (wr.heap[w.heap.size]? = some (.cells #[.slice AN nodes.length cN, .slice AO ops.length cO, .int .i64 base.f0, .int .i64 base.f1] 37 (0, 0))) ∧ Aside0 (Below w.heap.size w wr))
  case atStart => exact ⟨0, ⟨by omega⟩, rfl, ⟨fun y a b => by omega⟩, HT, BS, HB⟩
  case round =>
   clear z0 z1 z2 z3 zf HT BS HB
   obtain ⟨x, HK, rfl, HJ, HT, BS, HB⟩ := hrel
   obtain ⟨k1, rfl⟩ : ∃ k1, gk = k1 + 1 := ⟨((nodes.length : Int) - x).toNat, by have := HK.out; omega⟩
   have h0 : 0 ≤ x := HK.out.2.1
   obtain ⟨z0, z1, z2, z3, zf⟩ := Z4 BS.out
   by_cases hx : x < (nodes.length : Int)
   · have b1 : decide (x < (nodes.length : Int)) = true := decide_eq_true hx
     obtain ⟨ad, e, x0, x1, x2, x3, x4, x5⟩ := at_T72 (HN.out.below HB.out).at.2.2 x h0 hx
     cases e
     have p1 := eq_true h0
     have q1 := eq_true hx
     have H0 := Aside0.mk h0
     have H1 := Aside0.mk hx
     have hl5 := HLEN.out
     have hw1 : wrap64 (x + 1) = x + 1 := by unfold wrap64; omega
     obtain ⟨z, hz⟩ : ∃ z, wrap64 (x - 1) = z := ⟨_, rfl⟩
     have HZX := Aside0.mk (show z = x - 1 by rw [← hz]; unfold wrap64; omega)
     clear h0 hx hl5
     go_upto_region 8 with fail
     have BN := Aside0.mk (heap_alloc_new wr (.cells #[.int .i64 (rd_T72 nodes x).f0.f0, .int .i64 (rd_T72 nodes x).f0.f1, .int .i64 (rd_T72 nodes x).f1.f0, .int .i64 (rd_T72 nodes x).f1.f1, .string (rd_T72 nodes x).f2, .string (rd_T72 nodes x).f3] 72))
     replace BS := Aside0.mk (blk_below BS.out (below_alloc (Below.refl wr.heap.size wr) (.cells #[.int .i64 (rd_T72 nodes x).f0.f0, .int .i64 (rd_T72 nodes x).f0.f1, .int .i64 (rd_T72 nodes x).f1.f0, .int .i64 (rd_T72 nodes x).f1.f1, .string (rd_T72 nodes x).f2, .string (rd_T72 nodes x).f3] 72)))
     replace HT := Aside0.mk (HT.out.below (below_alloc (Below.refl wr.heap.size wr) (.cells #[.int .i64 (rd_T72 nodes x).f0.f0, .int .i64 (rd_T72 nodes x).f0.f1, .int .i64 (rd_T72 nodes x).f1.f0, .int .i64 (rd_T72 nodes x).f1.f1, .string (rd_T72 nodes x).f2, .string (rd_T72 nodes x).f3] 72)))
     replace HB := Aside0.mk (below_alloc HB.out (.cells #[.int .i64 (rd_T72 nodes x).f0.f0, .int .i64 (rd_T72 nodes x).f0.f1, .int .i64 (rd_T72 nodes x).f1.f0, .int .i64 (rd_T72 nodes x).f1.f1, .string (rd_T72 nodes x).f2, .string (rd_T72 nodes x).f3] 72))
     generalize wr.heap.size = nb at BN ⊢
     generalize wr.alloc (.cells #[.int .i64 (rd_T72 nodes x).f0.f0, .int .i64 (rd_T72 nodes x).f0.f1, .int .i64 (rd_T72 nodes x).f1.f0, .int .i64 (rd_T72 nodes x).f1.f1, .string (rd_T72 nodes x).f2, .string (rd_T72 nodes x).f3] 72) = w5 at BN BS HT HB ⊢
     clear x0 x1 x2 x3 x4 x5
     replace BN := Aside0.mk (blk_below BN.out (Below.refl _ _).drew)
     replace BS := Aside0.mk (blk_below BS.out (Below.refl _ _).drew)
     replace HT := Aside0.mk (HT.out.below (Below.refl _ _).drew)
     replace HB := Aside0.mk HB.out.drew
     obtain ⟨b0, b1', b2, b3, b4, b5, bf0, bf1, bf2, bf3, bf4, bf5⟩ := Z6 BN.out
     obtain ⟨t0, t1, t2, t3, t4, tf0, tf1, tf2, tf3, tf4⟩ := Z5 HT.out.blk
     have HFI := Aside0.mk (fine_is (rd_T72 nodes x).f0.f0 (rd_T72 nodes x).f0.f1)
     have HLS := Aside0.mk (less_f base (rd_T72 nodes x).f0)
     have HNM := Aside0.mk (P.check_is (rd_T72 nodes x).f2 (HNM0.out _ (by obtain ⟨i, hi, hii, e⟩ := rdn_is nodes x H0.out H1.out; rw [e]; exact List.getElem_mem hi)))
     cases hfi : fineB (rd_T72 nodes x).f0.f0 (rd_T72 nodes x).f0.f1 with
     | false =>
      rw [hfi] at HFI
      have HX := Aside0.mk (show ¬ StartOk base nodes from fun h => by
       have h1 := h.all x H0.out H1.out
       unfold nodeOk at h1
       rw [hfi] at h1
       simp at h1)
      refine st 40 (fun w' => w'.cell? ⟨nb, 0, none⟩ = some (.int .i64 (rd_T72 nodes x).f0.f0) ∧ w'.cell? ⟨nb, 1, none⟩ = some (.int .i64 (rd_T72 nodes x).f0.f1) ∧ w'.cell? ⟨nb, 2, none⟩ = some (.int .i64 (rd_T72 nodes x).f1.f0) ∧ w'.cell? ⟨nb, 3, none⟩ = some (.int .i64 (rd_T72 nodes x).f1.f1) ∧ w'.cell? ⟨nb, 4, none⟩ = some (.string (rd_T72 nodes x).f2) ∧ w'.cell? ⟨nb, 5, none⟩ = some (.string (rd_T72 nodes x).f3) ∧ w'.cell? ⟨w.heap.size, 0, none⟩ = some (.slice (some ad) nodes.length cN) ∧ w'.cell? ⟨w.heap.size, 2, none⟩ = some (.int .i64 base.f0) ∧ w'.cell? ⟨w.heap.size, 3, none⟩ = some (.int .i64 base.f1)) [] (fun hHeld => ?_)
      refine with_tabW of_.tab8 of_.bits8 (fun HT_ HW_ => ?_)
      refine pu 0 47 (mb 40 1) HT_ ?_
      refine tk 1 48 (mb 40 3) HT_ HW_ hHeld ?_
      refine on 2 (some 49) (mb 40 7) HT_ (fun K hK => ?_)
      refine gs Tryd.func59 #[.agg #[.int .i64 (rd_T72 nodes x).f0.f0, .int .i64 (rd_T72 nodes x).f0.f1]] ?_
      with_reducible refine (tree_fine.calls _ _ _ _ HFI.out).mono ?_
      rintro e w5 ⟨rfl, hb⟩
      refine ⟨_, rfl, ?_⟩
      replace BS := Aside0.mk (blk_below BS.out hb)
      replace HT := Aside0.mk (HT.out.below hb)
      replace HB := Aside0.mk (below_then HB.out HB.out.size hb)
      replace BN := Aside0.mk (blk_below BN.out hb)
      clear hb
      refine hq hK (fun hHeld => ?_)
      clear hK K
      refine nm _ ?_
      refine pu 3 50 (mb 40 15) HT_ ?_
      refine pu 4 51 (mb 40 31) HT_ ?_
      refine sk 5 52 5 (mb 40 1023) HT_ ?_
      refine pu 10 57 (mb 40 2047) HT_ ?_
      refine pu 11 58 (mb 40 4095) HT_ ?_
      refine sk 12 59 4 (mb 40 65535) HT_ ?_
      refine pu 16 63 (mb 40 131071) HT_ ?_
      refine pu 17 64 (mb 40 262143) HT_ ?_
      refine sk 18 65 4 (mb 40 4194303) HT_ ?_
      refine pu 22 69 (mb 40 8388607) HT_ ?_
      refine pu 23 70 (mb 40 16777215) HT_ ?_
      refine sk 24 71 15 (mb 40 549755813887) HT_ ?_
      refine pu 39 86 (mb 40 1099511627775) HT_ ?_
      refine dn HT_ ?_
      go_wp2
      go_ret2
      exact OfSpec.bad HX.out HB.out
     | true =>
      rw [hfi] at HFI
      cases hls : lessB base (rd_T72 nodes x).f0 with
      | true =>
       rw [hls] at HLS
       have HX := Aside0.mk (show ¬ StartOk base nodes from fun h => by
        have h1 := h.all x H0.out H1.out
        unfold nodeOk at h1
        rw [hls] at h1
        simp at h1)
       refine st 40 (fun w' => w'.cell? ⟨nb, 0, none⟩ = some (.int .i64 (rd_T72 nodes x).f0.f0) ∧ w'.cell? ⟨nb, 1, none⟩ = some (.int .i64 (rd_T72 nodes x).f0.f1) ∧ w'.cell? ⟨nb, 2, none⟩ = some (.int .i64 (rd_T72 nodes x).f1.f0) ∧ w'.cell? ⟨nb, 3, none⟩ = some (.int .i64 (rd_T72 nodes x).f1.f1) ∧ w'.cell? ⟨nb, 4, none⟩ = some (.string (rd_T72 nodes x).f2) ∧ w'.cell? ⟨nb, 5, none⟩ = some (.string (rd_T72 nodes x).f3) ∧ w'.cell? ⟨w.heap.size, 0, none⟩ = some (.slice (some ad) nodes.length cN) ∧ w'.cell? ⟨w.heap.size, 2, none⟩ = some (.int .i64 base.f0) ∧ w'.cell? ⟨w.heap.size, 3, none⟩ = some (.int .i64 base.f1)) [] (fun hHeld => ?_)
       refine with_tabW of_.tab8 of_.bits8 (fun HT_ HW_ => ?_)
       refine pu 0 47 (mb 40 1) HT_ ?_
       refine tk 1 48 (mb 40 3) HT_ HW_ hHeld ?_
       refine on 2 (some 49) (mb 40 7) HT_ (fun K hK => ?_)
       refine gs Tryd.func59 #[.agg #[.int .i64 (rd_T72 nodes x).f0.f0, .int .i64 (rd_T72 nodes x).f0.f1]] ?_
       with_reducible refine (tree_fine.calls _ _ _ _ HFI.out).mono ?_
       rintro e w5 ⟨rfl, hb⟩
       refine ⟨_, rfl, ?_⟩
       replace BS := Aside0.mk (blk_below BS.out hb)
       replace HT := Aside0.mk (HT.out.below hb)
       replace HB := Aside0.mk (below_then HB.out HB.out.size hb)
       replace BN := Aside0.mk (blk_below BN.out hb)
       clear hb
       refine hq hK (fun hHeld => ?_)
       clear hK K
       refine nm _ ?_
       refine pu 3 50 (mb 40 15) HT_ ?_
       refine pu 4 51 (mb 40 31) HT_ ?_
       refine pu 5 52 (mb 40 63) HT_ ?_
       refine pu 7 54 (mb 40 191) HT_ ?_
       refine tk 6 53 (mb 40 255) HT_ HW_ hHeld ?_
       refine tk 8 55 (mb 40 511) HT_ HW_ hHeld ?_
       refine on 9 (some 56) (mb 40 1023) HT_ (fun K hK => ?_)
       refine gs Tryd.func68 #[.agg #[.int .i64 base.f0, .int .i64 base.f1], .agg #[.int .i64 (rd_T72 nodes x).f0.f0, .int .i64 (rd_T72 nodes x).f0.f1]] ?_
       with_reducible refine (clock_Less.calls _ _ _ _ _ _ HLS.out).mono ?_
       rintro e w5 ⟨rfl, hb⟩
       refine ⟨_, rfl, ?_⟩
       replace BS := Aside0.mk (blk_below BS.out hb)
       replace HT := Aside0.mk (HT.out.below hb)
       replace HB := Aside0.mk (below_then HB.out HB.out.size hb)
       replace BN := Aside0.mk (blk_below BN.out hb)
       clear hb
       refine hq hK (fun hHeld => ?_)
       clear hK K
       refine nm _ ?_
       refine pu 10 57 (mb 40 2047) HT_ ?_
       refine pu 11 58 (mb 40 4095) HT_ ?_
       refine sk 12 59 4 (mb 40 65535) HT_ ?_
       refine pu 16 63 (mb 40 131071) HT_ ?_
       refine pu 17 64 (mb 40 262143) HT_ ?_
       refine sk 18 65 4 (mb 40 4194303) HT_ ?_
       refine pu 22 69 (mb 40 8388607) HT_ ?_
       refine pu 23 70 (mb 40 16777215) HT_ ?_
       refine sk 24 71 15 (mb 40 549755813887) HT_ ?_
       refine pu 39 86 (mb 40 1099511627775) HT_ ?_
       refine dn HT_ ?_
       go_wp2
       go_ret2
       exact OfSpec.bad HX.out HB.out
      | false =>
       rw [hls] at HLS
       cases hnb : isName (L (rd_T72 nodes x).f2) with
       | false =>
        rw [hnb] at HNM
        have HX := Aside0.mk (show ¬ StartOk base nodes from fun h => by
         have h1 := h.all x H0.out H1.out
         unfold nodeOk at h1
         rw [hnb] at h1
         simp at h1)
        refine st 40 (fun w' => w'.cell? ⟨nb, 0, none⟩ = some (.int .i64 (rd_T72 nodes x).f0.f0) ∧ w'.cell? ⟨nb, 1, none⟩ = some (.int .i64 (rd_T72 nodes x).f0.f1) ∧ w'.cell? ⟨nb, 2, none⟩ = some (.int .i64 (rd_T72 nodes x).f1.f0) ∧ w'.cell? ⟨nb, 3, none⟩ = some (.int .i64 (rd_T72 nodes x).f1.f1) ∧ w'.cell? ⟨nb, 4, none⟩ = some (.string (rd_T72 nodes x).f2) ∧ w'.cell? ⟨nb, 5, none⟩ = some (.string (rd_T72 nodes x).f3) ∧ w'.cell? ⟨w.heap.size, 0, none⟩ = some (.slice (some ad) nodes.length cN) ∧ w'.cell? ⟨w.heap.size, 2, none⟩ = some (.int .i64 base.f0) ∧ w'.cell? ⟨w.heap.size, 3, none⟩ = some (.int .i64 base.f1)) [] (fun hHeld => ?_)
        refine with_tabW of_.tab8 of_.bits8 (fun HT_ HW_ => ?_)
        refine pu 0 47 (mb 40 1) HT_ ?_
        refine tk 1 48 (mb 40 3) HT_ HW_ hHeld ?_
        refine on 2 (some 49) (mb 40 7) HT_ (fun K hK => ?_)
        refine gs Tryd.func59 #[.agg #[.int .i64 (rd_T72 nodes x).f0.f0, .int .i64 (rd_T72 nodes x).f0.f1]] ?_
        with_reducible refine (tree_fine.calls _ _ _ _ HFI.out).mono ?_
        rintro e w5 ⟨rfl, hb⟩
        refine ⟨_, rfl, ?_⟩
        replace BS := Aside0.mk (blk_below BS.out hb)
        replace HT := Aside0.mk (HT.out.below hb)
        replace HB := Aside0.mk (below_then HB.out HB.out.size hb)
        replace BN := Aside0.mk (blk_below BN.out hb)
        clear hb
        refine hq hK (fun hHeld => ?_)
        clear hK K
        refine nm _ ?_
        refine pu 3 50 (mb 40 15) HT_ ?_
        refine pu 4 51 (mb 40 31) HT_ ?_
        refine pu 5 52 (mb 40 63) HT_ ?_
        refine pu 7 54 (mb 40 191) HT_ ?_
        refine tk 6 53 (mb 40 255) HT_ HW_ hHeld ?_
        refine tk 8 55 (mb 40 511) HT_ HW_ hHeld ?_
        refine on 9 (some 56) (mb 40 1023) HT_ (fun K hK => ?_)
        refine gs Tryd.func68 #[.agg #[.int .i64 base.f0, .int .i64 base.f1], .agg #[.int .i64 (rd_T72 nodes x).f0.f0, .int .i64 (rd_T72 nodes x).f0.f1]] ?_
        with_reducible refine (clock_Less.calls _ _ _ _ _ _ HLS.out).mono ?_
        rintro e w5 ⟨rfl, hb⟩
        refine ⟨_, rfl, ?_⟩
        replace BS := Aside0.mk (blk_below BS.out hb)
        replace HT := Aside0.mk (HT.out.below hb)
        replace HB := Aside0.mk (below_then HB.out HB.out.size hb)
        replace BN := Aside0.mk (blk_below BN.out hb)
        clear hb
        refine hq hK (fun hHeld => ?_)
        clear hK K
        refine nm _ ?_
        refine pu 10 57 (mb 40 2047) HT_ ?_
        refine pu 11 58 (mb 40 4095) HT_ ?_
        refine pu 12 59 (mb 40 8191) HT_ ?_
        refine tk 13 60 (mb 40 16383) HT_ HW_ hHeld ?_
        refine on 14 (some 61) (mb 40 32767) HT_ (fun K hK => ?_)
        refine gs Tryd.func60 #[.string (rd_T72 nodes x).f2] ?_
        with_reducible refine (name_Check.calls _ _ _ HNM.out (HL.out.below HB.out)).mono ?_
        rintro e w5 ⟨rfl, hb⟩
        refine ⟨_, rfl, ?_⟩
        replace BS := Aside0.mk (blk_below BS.out hb)
        replace HT := Aside0.mk (HT.out.below hb)
        replace HB := Aside0.mk (below_then HB.out HB.out.size hb)
        replace BN := Aside0.mk (blk_below BN.out hb)
        clear hb
        refine hq hK (fun hHeld => ?_)
        clear hK K
        refine nm _ ?_
        refine pu 15 62 (mb 40 65535) HT_ ?_
        refine pu 16 63 (mb 40 131071) HT_ ?_
        refine pu 17 64 (mb 40 262143) HT_ ?_
        refine sk 18 65 4 (mb 40 4194303) HT_ ?_
        refine pu 22 69 (mb 40 8388607) HT_ ?_
        refine pu 23 70 (mb 40 16777215) HT_ ?_
        refine sk 24 71 15 (mb 40 549755813887) HT_ ?_
        refine pu 39 86 (mb 40 1099511627775) HT_ ?_
        refine dn HT_ ?_
        go_wp2
        go_ret2
        exact OfSpec.bad HX.out HB.out
       | true =>
        rw [hnb] at HNM
        by_cases hv : (rd_T72 nodes x).f3.size ≤ 64
        rotate_left
        · have v1 : decide (((rd_T72 nodes x).f3.size : Int) > 64) = true := decide_eq_true (by omega)
          have v2 : decide ((64 : Int) < ((rd_T72 nodes x).f3.size : Int)) = true := decide_eq_true (by omega)
          have v3 : (64 < (rd_T72 nodes x).f3.size) = True := eq_true (by omega)
          have HX := Aside0.mk (show ¬ StartOk base nodes from fun h => by
           have h1 := h.all x H0.out H1.out
           unfold nodeOk at h1
           rw [decide_eq_false hv] at h1
           simp at h1)
          refine st 40 (fun w' => w'.cell? ⟨nb, 0, none⟩ = some (.int .i64 (rd_T72 nodes x).f0.f0) ∧ w'.cell? ⟨nb, 1, none⟩ = some (.int .i64 (rd_T72 nodes x).f0.f1) ∧ w'.cell? ⟨nb, 2, none⟩ = some (.int .i64 (rd_T72 nodes x).f1.f0) ∧ w'.cell? ⟨nb, 3, none⟩ = some (.int .i64 (rd_T72 nodes x).f1.f1) ∧ w'.cell? ⟨nb, 4, none⟩ = some (.string (rd_T72 nodes x).f2) ∧ w'.cell? ⟨nb, 5, none⟩ = some (.string (rd_T72 nodes x).f3) ∧ w'.cell? ⟨w.heap.size, 0, none⟩ = some (.slice (some ad) nodes.length cN) ∧ w'.cell? ⟨w.heap.size, 2, none⟩ = some (.int .i64 base.f0) ∧ w'.cell? ⟨w.heap.size, 3, none⟩ = some (.int .i64 base.f1)) [] (fun hHeld => ?_)
          refine with_tabW of_.tab8 of_.bits8 (fun HT_ HW_ => ?_)
          refine pu 0 47 (mb 40 1) HT_ ?_
          refine tk 1 48 (mb 40 3) HT_ HW_ hHeld ?_
          refine on 2 (some 49) (mb 40 7) HT_ (fun K hK => ?_)
          refine gs Tryd.func59 #[.agg #[.int .i64 (rd_T72 nodes x).f0.f0, .int .i64 (rd_T72 nodes x).f0.f1]] ?_
          with_reducible refine (tree_fine.calls _ _ _ _ HFI.out).mono ?_
          rintro e w5 ⟨rfl, hb⟩
          refine ⟨_, rfl, ?_⟩
          replace BS := Aside0.mk (blk_below BS.out hb)
          replace HT := Aside0.mk (HT.out.below hb)
          replace HB := Aside0.mk (below_then HB.out HB.out.size hb)
          replace BN := Aside0.mk (blk_below BN.out hb)
          clear hb
          refine hq hK (fun hHeld => ?_)
          clear hK K
          refine nm _ ?_
          refine pu 3 50 (mb 40 15) HT_ ?_
          refine pu 4 51 (mb 40 31) HT_ ?_
          refine pu 5 52 (mb 40 63) HT_ ?_
          refine pu 7 54 (mb 40 191) HT_ ?_
          refine tk 6 53 (mb 40 255) HT_ HW_ hHeld ?_
          refine tk 8 55 (mb 40 511) HT_ HW_ hHeld ?_
          refine on 9 (some 56) (mb 40 1023) HT_ (fun K hK => ?_)
          refine gs Tryd.func68 #[.agg #[.int .i64 base.f0, .int .i64 base.f1], .agg #[.int .i64 (rd_T72 nodes x).f0.f0, .int .i64 (rd_T72 nodes x).f0.f1]] ?_
          with_reducible refine (clock_Less.calls _ _ _ _ _ _ HLS.out).mono ?_
          rintro e w5 ⟨rfl, hb⟩
          refine ⟨_, rfl, ?_⟩
          replace BS := Aside0.mk (blk_below BS.out hb)
          replace HT := Aside0.mk (HT.out.below hb)
          replace HB := Aside0.mk (below_then HB.out HB.out.size hb)
          replace BN := Aside0.mk (blk_below BN.out hb)
          clear hb
          refine hq hK (fun hHeld => ?_)
          clear hK K
          refine nm _ ?_
          refine pu 10 57 (mb 40 2047) HT_ ?_
          refine pu 11 58 (mb 40 4095) HT_ ?_
          refine pu 12 59 (mb 40 8191) HT_ ?_
          refine tk 13 60 (mb 40 16383) HT_ HW_ hHeld ?_
          refine on 14 (some 61) (mb 40 32767) HT_ (fun K hK => ?_)
          refine gs Tryd.func60 #[.string (rd_T72 nodes x).f2] ?_
          with_reducible refine (name_Check.calls _ _ _ HNM.out (HL.out.below HB.out)).mono ?_
          rintro e w5 ⟨rfl, hb⟩
          refine ⟨_, rfl, ?_⟩
          replace BS := Aside0.mk (blk_below BS.out hb)
          replace HT := Aside0.mk (HT.out.below hb)
          replace HB := Aside0.mk (below_then HB.out HB.out.size hb)
          replace BN := Aside0.mk (blk_below BN.out hb)
          clear hb
          refine hq hK (fun hHeld => ?_)
          clear hK K
          refine nm _ ?_
          refine pu 15 62 (mb 40 65535) HT_ ?_
          refine pu 16 63 (mb 40 131071) HT_ ?_
          refine pu 17 64 (mb 40 262143) HT_ ?_
          refine pu 18 65 (mb 40 524287) HT_ ?_
          refine tk 19 66 (mb 40 1048575) HT_ HW_ hHeld ?_
          refine pu 20 67 (mb 40 2097151) HT_ ?_
          refine pu 21 68 (mb 40 4194303) HT_ ?_
          refine pu 22 69 (mb 40 8388607) HT_ ?_
          refine pu 23 70 (mb 40 16777215) HT_ ?_
          refine sk 24 71 15 (mb 40 549755813887) HT_ ?_
          refine pu 39 86 (mb 40 1099511627775) HT_ ?_
          refine dn HT_ ?_
          go_wp2
          go_ret2
          exact OfSpec.bad HX.out HB.out
        · have v1 : decide (((rd_T72 nodes x).f3.size : Int) > 64) = false := decide_eq_false (by omega)
          have v2 : decide ((64 : Int) < ((rd_T72 nodes x).f3.size : Int)) = false := decide_eq_false (by omega)
          have v3 : (64 < (rd_T72 nodes x).f3.size) = False := eq_false (by omega)
          by_cases hx0 : x = 0
          · have y1 : decide (x > 0) = false := decide_eq_false (by omega)
            have y2 : decide (0 < x) = false := decide_eq_false (by omega)
            have y3 : (0 < x) = False := eq_false (by omega)
            have HX0 := Aside0.mk hx0
            have HV := Aside0.mk hv
            clear hx0 hv
            have HOKX := Aside0.mk (show nodeOk base nodes x = true by unfold nodeOk; rw [hfi, hls, hnb, decide_eq_true HV.out, decide_eq_true HX0.out]; simp)
            refine st 40 (fun w' => w'.cell? ⟨nb, 0, none⟩ = some (.int .i64 (rd_T72 nodes x).f0.f0) ∧ w'.cell? ⟨nb, 1, none⟩ = some (.int .i64 (rd_T72 nodes x).f0.f1) ∧ w'.cell? ⟨nb, 2, none⟩ = some (.int .i64 (rd_T72 nodes x).f1.f0) ∧ w'.cell? ⟨nb, 3, none⟩ = some (.int .i64 (rd_T72 nodes x).f1.f1) ∧ w'.cell? ⟨nb, 4, none⟩ = some (.string (rd_T72 nodes x).f2) ∧ w'.cell? ⟨nb, 5, none⟩ = some (.string (rd_T72 nodes x).f3) ∧ w'.cell? ⟨w.heap.size, 0, none⟩ = some (.slice (some ad) nodes.length cN) ∧ w'.cell? ⟨w.heap.size, 2, none⟩ = some (.int .i64 base.f0) ∧ w'.cell? ⟨w.heap.size, 3, none⟩ = some (.int .i64 base.f1)) [] (fun hHeld => ?_)
            refine with_tabW of_.tab8 of_.bits8 (fun HT_ HW_ => ?_)
            refine pu 0 47 (mb 40 1) HT_ ?_
            refine tk 1 48 (mb 40 3) HT_ HW_ hHeld ?_
            refine on 2 (some 49) (mb 40 7) HT_ (fun K hK => ?_)
            refine gs Tryd.func59 #[.agg #[.int .i64 (rd_T72 nodes x).f0.f0, .int .i64 (rd_T72 nodes x).f0.f1]] ?_
            with_reducible refine (tree_fine.calls _ _ _ _ HFI.out).mono ?_
            rintro e w5 ⟨rfl, hb⟩
            refine ⟨_, rfl, ?_⟩
            replace BS := Aside0.mk (blk_below BS.out hb)
            replace HT := Aside0.mk (HT.out.below hb)
            replace HB := Aside0.mk (below_then HB.out HB.out.size hb)
            replace BN := Aside0.mk (blk_below BN.out hb)
            clear hb
            refine hq hK (fun hHeld => ?_)
            clear hK K
            refine nm _ ?_
            refine pu 3 50 (mb 40 15) HT_ ?_
            refine pu 4 51 (mb 40 31) HT_ ?_
            refine pu 5 52 (mb 40 63) HT_ ?_
            refine pu 7 54 (mb 40 191) HT_ ?_
            refine tk 6 53 (mb 40 255) HT_ HW_ hHeld ?_
            refine tk 8 55 (mb 40 511) HT_ HW_ hHeld ?_
            refine on 9 (some 56) (mb 40 1023) HT_ (fun K hK => ?_)
            refine gs Tryd.func68 #[.agg #[.int .i64 base.f0, .int .i64 base.f1], .agg #[.int .i64 (rd_T72 nodes x).f0.f0, .int .i64 (rd_T72 nodes x).f0.f1]] ?_
            with_reducible refine (clock_Less.calls _ _ _ _ _ _ HLS.out).mono ?_
            rintro e w5 ⟨rfl, hb⟩
            refine ⟨_, rfl, ?_⟩
            replace BS := Aside0.mk (blk_below BS.out hb)
            replace HT := Aside0.mk (HT.out.below hb)
            replace HB := Aside0.mk (below_then HB.out HB.out.size hb)
            replace BN := Aside0.mk (blk_below BN.out hb)
            clear hb
            refine hq hK (fun hHeld => ?_)
            clear hK K
            refine nm _ ?_
            refine pu 10 57 (mb 40 2047) HT_ ?_
            refine pu 11 58 (mb 40 4095) HT_ ?_
            refine pu 12 59 (mb 40 8191) HT_ ?_
            refine tk 13 60 (mb 40 16383) HT_ HW_ hHeld ?_
            refine on 14 (some 61) (mb 40 32767) HT_ (fun K hK => ?_)
            refine gs Tryd.func60 #[.string (rd_T72 nodes x).f2] ?_
            with_reducible refine (name_Check.calls _ _ _ HNM.out (HL.out.below HB.out)).mono ?_
            rintro e w5 ⟨rfl, hb⟩
            refine ⟨_, rfl, ?_⟩
            replace BS := Aside0.mk (blk_below BS.out hb)
            replace HT := Aside0.mk (HT.out.below hb)
            replace HB := Aside0.mk (below_then HB.out HB.out.size hb)
            replace BN := Aside0.mk (blk_below BN.out hb)
            clear hb
            refine hq hK (fun hHeld => ?_)
            clear hK K
            refine nm _ ?_
            refine pu 15 62 (mb 40 65535) HT_ ?_
            refine pu 16 63 (mb 40 131071) HT_ ?_
            refine pu 17 64 (mb 40 262143) HT_ ?_
            refine pu 18 65 (mb 40 524287) HT_ ?_
            refine tk 19 66 (mb 40 1048575) HT_ HW_ hHeld ?_
            refine pu 20 67 (mb 40 2097151) HT_ ?_
            refine pu 21 68 (mb 40 4194303) HT_ ?_
            refine pu 22 69 (mb 40 8388607) HT_ ?_
            refine pu 23 70 (mb 40 16777215) HT_ ?_
            refine pu 24 71 (mb 40 33554431) HT_ ?_
            refine pu 25 72 (mb 40 67108863) HT_ ?_
            refine pu 26 73 (mb 40 134217727) HT_ ?_
            refine sk 27 74 11 (mb 40 274877906943) HT_ ?_
            refine pu 38 85 (mb 40 549755813887) HT_ ?_
            refine pu 39 86 (mb 40 1099511627775) HT_ ?_
            refine dn HT_ ?_
            go_upto_region 10 with fail
            clear z0 z1 z2 z3 zf
            obtain ⟨z0, z1, z2, z3, zf⟩ := Z4 BS.out
            clear b0 b1' b2 b3 b4 b5 bf0 bf1 bf2 bf3 bf4 bf5 t0 t1 t2 t3 t4 tf0 tf1 tf2 tf3 tf4
            obtain ⟨b0, b1', b2, b3, b4, b5, bf0, bf1, bf2, bf3, bf4, bf5⟩ := Z6 BN.out
            obtain ⟨t0, t1, t2, t3, t4, tf0, tf1, tf2, tf3, tf4⟩ := Z5 HT.out.blk
            go_still_tail 7, (by kernel_rfl)
            replace BS := Aside0.mk (blk_below BS.out (Below.refl _ _).drew)
            replace HT := Aside0.mk (HT.out.below (Below.refl _ _).drew)
            replace HB := Aside0.mk HB.out.drew
            have HPT := Aside0.mk (ok_put (base := base) H0.out H1.out (fun y a b => by
             by_cases hy : y = x
             · rw [hy]; exact HOKX.out
             · exact HJ.out y a (by omega)))
            go_wp2_with (at_mapUpdate; refine wl_put f (nodes.take x.toNat) (rd_T72 nodes x) _ _ _ rfl rfl rfl rfl HT.out.fix ?_; intro w6 hl6 hs6; rw [HPT.out] at hl6; have HT6 := Aside0.mk (HT.out.turnF hs6 hl6); have BS6 := Aside0.mk (hs6.blk BS.out (show w.heap.size ≠ f by have := HG.out.2.1; omega)); have HB6 := Aside0.mk (hs6.back HB.out HB.out.size (fun k_ hk_ => by have := HG.out.2.1; omega)); clear hl6 hs6)
            go_roundg k1
            case measure => exact Nat.lt_succ_self _
            case rel => exact ⟨x + 1, ⟨by have := HK.out; have := H1.out; omega⟩, (by first | rfl | rw [hw1]), ⟨fun y a b => by
             by_cases hy : y = x
             · rw [hy]; exact HOKX.out
             · exact HJ.out y a (by omega)⟩, HT6, BS6, HB6⟩
          · have y1 : decide (x > 0) = true := decide_eq_true (by have := H0.out; omega)
            have y2 : decide (0 < x) = true := decide_eq_true (by have := H0.out; omega)
            have y3 : (0 < x) = True := eq_true (by have := H0.out; omega)
            have HZ0 := Aside0.mk (show 0 ≤ z by have := H0.out; have := HZX.out; omega)
            have HZ1 := Aside0.mk (show z < (nodes.length : Int) by have := H1.out; have := HZX.out; omega)
            have pz := eq_true HZ0.out
            have qz := eq_true HZ1.out
            have HX0 := Aside0.mk hx0
            have HV := Aside0.mk hv
            clear hx0 hv
            have HLP := Aside0.mk (less_f (rd_T72 nodes z).f0 (rd_T72 nodes x).f0)
            have hpz : (rd_T72 nodes (x - 1)) = (rd_T72 nodes z) := by rw [HZX.out]
            cases hpl : lessB (rd_T72 nodes z).f0 (rd_T72 nodes x).f0 with
            | false =>
             rw [hpl] at HLP
             have HX := Aside0.mk (show ¬ StartOk base nodes from fun h => by
              have h1 := h.all x H0.out H1.out
              unfold nodeOk at h1
              rw [hpz, hpl, decide_eq_false HX0.out] at h1
              simp at h1)
             refine start_ (n := 40) (S := fun w' => w'.cell? ⟨nb, 0, none⟩ = some (.int .i64 (rd_T72 nodes x).f0.f0) ∧ w'.cell? ⟨nb, 1, none⟩ = some (.int .i64 (rd_T72 nodes x).f0.f1) ∧ w'.cell? ⟨nb, 2, none⟩ = some (.int .i64 (rd_T72 nodes x).f1.f0) ∧ w'.cell? ⟨nb, 3, none⟩ = some (.int .i64 (rd_T72 nodes x).f1.f1) ∧ w'.cell? ⟨nb, 4, none⟩ = some (.string (rd_T72 nodes x).f2) ∧ w'.cell? ⟨nb, 5, none⟩ = some (.string (rd_T72 nodes x).f3) ∧ w'.cell? ⟨w.heap.size, 0, none⟩ = some (.slice (some ad) nodes.length cN) ∧ w'.cell? ⟨w.heap.size, 2, none⟩ = some (.int .i64 base.f0) ∧ w'.cell? ⟨w.heap.size, 3, none⟩ = some (.int .i64 base.f1) ∧ w'.cell? (ad.add (z.toNat * 6)) = some (.int .i64 (rd_T72 nodes z).f0.f0) ∧ w'.cell? ⟨(ad.add (z.toNat * 6)).block, (ad.add (z.toNat * 6)).off + 1, none⟩ = some (.int .i64 (rd_T72 nodes z).f0.f1)) (ds := []) (mb 40 0) (by kernel_rfl) rfl (by kernel_rfl) ⟨(blk_cell BN.out 0), (blk_cell BN.out 1), (blk_cell BN.out 2), (blk_cell BN.out 3), (blk_cell BN.out 4), (blk_cell BN.out 5), (blk_cell BS.out 0), (blk_cell BS.out 2), (blk_cell BS.out 3), (ndx (HN.out.below HB.out) HZ0.out HZ1.out).1, (ndx (HN.out.below HB.out) HZ0.out HZ1.out).2⟩ (fun hHeld => ?_)
             refine with_tabW of_.tab8 of_.bits8 (fun HT_ HW_ => ?_)
             refine pu 0 47 (mb 40 1) HT_ ?_
             refine tk 1 48 (mb 40 3) HT_ HW_ hHeld ?_
             refine on 2 (some 49) (mb 40 7) HT_ (fun K hK => ?_)
             refine gs Tryd.func59 #[.agg #[.int .i64 (rd_T72 nodes x).f0.f0, .int .i64 (rd_T72 nodes x).f0.f1]] ?_
             with_reducible refine (tree_fine.calls _ _ _ _ HFI.out).mono ?_
             rintro e w5 ⟨rfl, hb⟩
             refine ⟨_, rfl, ?_⟩
             replace BS := Aside0.mk (blk_below BS.out hb)
             replace HT := Aside0.mk (HT.out.below hb)
             replace HB := Aside0.mk (below_then HB.out HB.out.size hb)
             replace BN := Aside0.mk (blk_below BN.out hb)
             clear hb
             refine hK.out _ _ ⟨(blk_cell BN.out 0), (blk_cell BN.out 1), (blk_cell BN.out 2), (blk_cell BN.out 3), (blk_cell BN.out 4), (blk_cell BN.out 5), (blk_cell BS.out 0), (blk_cell BS.out 2), (blk_cell BS.out 3), (ndx (HN.out.below HB.out) HZ0.out HZ1.out).1, (ndx (HN.out.below HB.out) HZ0.out HZ1.out).2⟩ (fun hHeld => ?_)
             clear hK K
             refine nm _ ?_
             refine pu 3 50 (mb 40 15) HT_ ?_
             refine pu 4 51 (mb 40 31) HT_ ?_
             refine pu 5 52 (mb 40 63) HT_ ?_
             refine pu 7 54 (mb 40 191) HT_ ?_
             refine tk 6 53 (mb 40 255) HT_ HW_ hHeld ?_
             refine tk 8 55 (mb 40 511) HT_ HW_ hHeld ?_
             refine on 9 (some 56) (mb 40 1023) HT_ (fun K hK => ?_)
             refine gs Tryd.func68 #[.agg #[.int .i64 base.f0, .int .i64 base.f1], .agg #[.int .i64 (rd_T72 nodes x).f0.f0, .int .i64 (rd_T72 nodes x).f0.f1]] ?_
             with_reducible refine (clock_Less.calls _ _ _ _ _ _ HLS.out).mono ?_
             rintro e w5 ⟨rfl, hb⟩
             refine ⟨_, rfl, ?_⟩
             replace BS := Aside0.mk (blk_below BS.out hb)
             replace HT := Aside0.mk (HT.out.below hb)
             replace HB := Aside0.mk (below_then HB.out HB.out.size hb)
             replace BN := Aside0.mk (blk_below BN.out hb)
             clear hb
             refine hK.out _ _ ⟨(blk_cell BN.out 0), (blk_cell BN.out 1), (blk_cell BN.out 2), (blk_cell BN.out 3), (blk_cell BN.out 4), (blk_cell BN.out 5), (blk_cell BS.out 0), (blk_cell BS.out 2), (blk_cell BS.out 3), (ndx (HN.out.below HB.out) HZ0.out HZ1.out).1, (ndx (HN.out.below HB.out) HZ0.out HZ1.out).2⟩ (fun hHeld => ?_)
             clear hK K
             refine nm _ ?_
             refine pu 10 57 (mb 40 2047) HT_ ?_
             refine pu 11 58 (mb 40 4095) HT_ ?_
             refine pu 12 59 (mb 40 8191) HT_ ?_
             refine tk 13 60 (mb 40 16383) HT_ HW_ hHeld ?_
             refine on 14 (some 61) (mb 40 32767) HT_ (fun K hK => ?_)
             refine gs Tryd.func60 #[.string (rd_T72 nodes x).f2] ?_
             with_reducible refine (name_Check.calls _ _ _ HNM.out (HL.out.below HB.out)).mono ?_
             rintro e w5 ⟨rfl, hb⟩
             refine ⟨_, rfl, ?_⟩
             replace BS := Aside0.mk (blk_below BS.out hb)
             replace HT := Aside0.mk (HT.out.below hb)
             replace HB := Aside0.mk (below_then HB.out HB.out.size hb)
             replace BN := Aside0.mk (blk_below BN.out hb)
             clear hb
             refine hK.out _ _ ⟨(blk_cell BN.out 0), (blk_cell BN.out 1), (blk_cell BN.out 2), (blk_cell BN.out 3), (blk_cell BN.out 4), (blk_cell BN.out 5), (blk_cell BS.out 0), (blk_cell BS.out 2), (blk_cell BS.out 3), (ndx (HN.out.below HB.out) HZ0.out HZ1.out).1, (ndx (HN.out.below HB.out) HZ0.out HZ1.out).2⟩ (fun hHeld => ?_)
             clear hK K
             refine nm _ ?_
             refine pu 15 62 (mb 40 65535) HT_ ?_
             refine pu 16 63 (mb 40 131071) HT_ ?_
             refine pu 17 64 (mb 40 262143) HT_ ?_
             refine pu 18 65 (mb 40 524287) HT_ ?_
             refine tk 19 66 (mb 40 1048575) HT_ HW_ hHeld ?_
             refine pu 20 67 (mb 40 2097151) HT_ ?_
             refine pu 21 68 (mb 40 4194303) HT_ ?_
             refine pu 22 69 (mb 40 8388607) HT_ ?_
             refine pu 23 70 (mb 40 16777215) HT_ ?_
             refine pu 24 71 (mb 40 33554431) HT_ ?_
             refine pu 25 72 (mb 40 67108863) HT_ ?_
             refine pu 26 73 (mb 40 134217727) HT_ ?_
             refine pu 27 74 (mb 40 268435455) HT_ ?_
             refine pu 29 76 (mb 40 805306367) HT_ ?_
             refine pu 30 77 (mb 40 1879048191) HT_ ?_
             refine pu 34 81 (mb 40 19058917375) HT_ ?_
             refine tk 28 75 (mb 40 19327352831) HT_ HW_ hHeld ?_
             refine pu 31 78 (mb 40 21474836479) HT_ ?_
             refine pu 32 79 (mb 40 25769803775) HT_ ?_
             refine tk 33 80 (mb 40 34359738367) HT_ HW_ hHeld ?_
             refine tk 35 82 (mb 40 68719476735) HT_ HW_ hHeld ?_
             refine on 36 (some 83) (mb 40 137438953471) HT_ (fun K hK => ?_)
             refine gs Tryd.func68 #[.agg #[.int .i64 (rd_T72 nodes z).f0.f0, .int .i64 (rd_T72 nodes z).f0.f1], .agg #[.int .i64 (rd_T72 nodes x).f0.f0, .int .i64 (rd_T72 nodes x).f0.f1]] ?_
             with_reducible refine (clock_Less.calls _ _ _ _ _ _ HLP.out).mono ?_
             rintro e w5 ⟨rfl, hb⟩
             refine ⟨_, rfl, ?_⟩
             replace BS := Aside0.mk (blk_below BS.out hb)
             replace HT := Aside0.mk (HT.out.below hb)
             replace HB := Aside0.mk (below_then HB.out HB.out.size hb)
             replace BN := Aside0.mk (blk_below BN.out hb)
             clear hb
             refine hK.out _ _ ⟨(blk_cell BN.out 0), (blk_cell BN.out 1), (blk_cell BN.out 2), (blk_cell BN.out 3), (blk_cell BN.out 4), (blk_cell BN.out 5), (blk_cell BS.out 0), (blk_cell BS.out 2), (blk_cell BS.out 3), (ndx (HN.out.below HB.out) HZ0.out HZ1.out).1, (ndx (HN.out.below HB.out) HZ0.out HZ1.out).2⟩ (fun hHeld => ?_)
             clear hK K
             refine nm _ ?_
             refine pu 37 84 (mb 40 274877906943) HT_ ?_
             refine pu 38 85 (mb 40 549755813887) HT_ ?_
             refine pu 39 86 (mb 40 1099511627775) HT_ ?_
             refine dn HT_ ?_
             go_wp2
             go_ret2
             exact OfSpec.bad HX.out HB.out
            | true =>
             rw [hpl] at HLP
             have HOKX := Aside0.mk (show nodeOk base nodes x = true by unfold nodeOk; rw [hfi, hls, hnb, decide_eq_true HV.out, decide_eq_false HX0.out, hpz, hpl]; simp)
             refine start_ (n := 40) (S := fun w' => w'.cell? ⟨nb, 0, none⟩ = some (.int .i64 (rd_T72 nodes x).f0.f0) ∧ w'.cell? ⟨nb, 1, none⟩ = some (.int .i64 (rd_T72 nodes x).f0.f1) ∧ w'.cell? ⟨nb, 2, none⟩ = some (.int .i64 (rd_T72 nodes x).f1.f0) ∧ w'.cell? ⟨nb, 3, none⟩ = some (.int .i64 (rd_T72 nodes x).f1.f1) ∧ w'.cell? ⟨nb, 4, none⟩ = some (.string (rd_T72 nodes x).f2) ∧ w'.cell? ⟨nb, 5, none⟩ = some (.string (rd_T72 nodes x).f3) ∧ w'.cell? ⟨w.heap.size, 0, none⟩ = some (.slice (some ad) nodes.length cN) ∧ w'.cell? ⟨w.heap.size, 2, none⟩ = some (.int .i64 base.f0) ∧ w'.cell? ⟨w.heap.size, 3, none⟩ = some (.int .i64 base.f1) ∧ w'.cell? (ad.add (z.toNat * 6)) = some (.int .i64 (rd_T72 nodes z).f0.f0) ∧ w'.cell? ⟨(ad.add (z.toNat * 6)).block, (ad.add (z.toNat * 6)).off + 1, none⟩ = some (.int .i64 (rd_T72 nodes z).f0.f1)) (ds := []) (mb 40 0) (by kernel_rfl) rfl (by kernel_rfl) ⟨(blk_cell BN.out 0), (blk_cell BN.out 1), (blk_cell BN.out 2), (blk_cell BN.out 3), (blk_cell BN.out 4), (blk_cell BN.out 5), (blk_cell BS.out 0), (blk_cell BS.out 2), (blk_cell BS.out 3), (ndx (HN.out.below HB.out) HZ0.out HZ1.out).1, (ndx (HN.out.below HB.out) HZ0.out HZ1.out).2⟩ (fun hHeld => ?_)
             refine with_tabW of_.tab8 of_.bits8 (fun HT_ HW_ => ?_)
             refine pu 0 47 (mb 40 1) HT_ ?_
             refine tk 1 48 (mb 40 3) HT_ HW_ hHeld ?_
             refine on 2 (some 49) (mb 40 7) HT_ (fun K hK => ?_)
             refine gs Tryd.func59 #[.agg #[.int .i64 (rd_T72 nodes x).f0.f0, .int .i64 (rd_T72 nodes x).f0.f1]] ?_
             with_reducible refine (tree_fine.calls _ _ _ _ HFI.out).mono ?_
             rintro e w5 ⟨rfl, hb⟩
             refine ⟨_, rfl, ?_⟩
             replace BS := Aside0.mk (blk_below BS.out hb)
             replace HT := Aside0.mk (HT.out.below hb)
             replace HB := Aside0.mk (below_then HB.out HB.out.size hb)
             replace BN := Aside0.mk (blk_below BN.out hb)
             clear hb
             refine hK.out _ _ ⟨(blk_cell BN.out 0), (blk_cell BN.out 1), (blk_cell BN.out 2), (blk_cell BN.out 3), (blk_cell BN.out 4), (blk_cell BN.out 5), (blk_cell BS.out 0), (blk_cell BS.out 2), (blk_cell BS.out 3), (ndx (HN.out.below HB.out) HZ0.out HZ1.out).1, (ndx (HN.out.below HB.out) HZ0.out HZ1.out).2⟩ (fun hHeld => ?_)
             clear hK K
             refine nm _ ?_
             refine pu 3 50 (mb 40 15) HT_ ?_
             refine pu 4 51 (mb 40 31) HT_ ?_
             refine pu 5 52 (mb 40 63) HT_ ?_
             refine pu 7 54 (mb 40 191) HT_ ?_
             refine tk 6 53 (mb 40 255) HT_ HW_ hHeld ?_
             refine tk 8 55 (mb 40 511) HT_ HW_ hHeld ?_
             refine on 9 (some 56) (mb 40 1023) HT_ (fun K hK => ?_)
             refine gs Tryd.func68 #[.agg #[.int .i64 base.f0, .int .i64 base.f1], .agg #[.int .i64 (rd_T72 nodes x).f0.f0, .int .i64 (rd_T72 nodes x).f0.f1]] ?_
             with_reducible refine (clock_Less.calls _ _ _ _ _ _ HLS.out).mono ?_
             rintro e w5 ⟨rfl, hb⟩
             refine ⟨_, rfl, ?_⟩
             replace BS := Aside0.mk (blk_below BS.out hb)
             replace HT := Aside0.mk (HT.out.below hb)
             replace HB := Aside0.mk (below_then HB.out HB.out.size hb)
             replace BN := Aside0.mk (blk_below BN.out hb)
             clear hb
             refine hK.out _ _ ⟨(blk_cell BN.out 0), (blk_cell BN.out 1), (blk_cell BN.out 2), (blk_cell BN.out 3), (blk_cell BN.out 4), (blk_cell BN.out 5), (blk_cell BS.out 0), (blk_cell BS.out 2), (blk_cell BS.out 3), (ndx (HN.out.below HB.out) HZ0.out HZ1.out).1, (ndx (HN.out.below HB.out) HZ0.out HZ1.out).2⟩ (fun hHeld => ?_)
             clear hK K
             refine nm _ ?_
             refine pu 10 57 (mb 40 2047) HT_ ?_
             refine pu 11 58 (mb 40 4095) HT_ ?_
             refine pu 12 59 (mb 40 8191) HT_ ?_
             refine tk 13 60 (mb 40 16383) HT_ HW_ hHeld ?_
             refine on 14 (some 61) (mb 40 32767) HT_ (fun K hK => ?_)
             refine gs Tryd.func60 #[.string (rd_T72 nodes x).f2] ?_
             with_reducible refine (name_Check.calls _ _ _ HNM.out (HL.out.below HB.out)).mono ?_
             rintro e w5 ⟨rfl, hb⟩
             refine ⟨_, rfl, ?_⟩
             replace BS := Aside0.mk (blk_below BS.out hb)
             replace HT := Aside0.mk (HT.out.below hb)
             replace HB := Aside0.mk (below_then HB.out HB.out.size hb)
             replace BN := Aside0.mk (blk_below BN.out hb)
             clear hb
             refine hK.out _ _ ⟨(blk_cell BN.out 0), (blk_cell BN.out 1), (blk_cell BN.out 2), (blk_cell BN.out 3), (blk_cell BN.out 4), (blk_cell BN.out 5), (blk_cell BS.out 0), (blk_cell BS.out 2), (blk_cell BS.out 3), (ndx (HN.out.below HB.out) HZ0.out HZ1.out).1, (ndx (HN.out.below HB.out) HZ0.out HZ1.out).2⟩ (fun hHeld => ?_)
             clear hK K
             refine nm _ ?_
             refine pu 15 62 (mb 40 65535) HT_ ?_
             refine pu 16 63 (mb 40 131071) HT_ ?_
             refine pu 17 64 (mb 40 262143) HT_ ?_
             refine pu 18 65 (mb 40 524287) HT_ ?_
             refine tk 19 66 (mb 40 1048575) HT_ HW_ hHeld ?_
             refine pu 20 67 (mb 40 2097151) HT_ ?_
             refine pu 21 68 (mb 40 4194303) HT_ ?_
             refine pu 22 69 (mb 40 8388607) HT_ ?_
             refine pu 23 70 (mb 40 16777215) HT_ ?_
             refine pu 24 71 (mb 40 33554431) HT_ ?_
             refine pu 25 72 (mb 40 67108863) HT_ ?_
             refine pu 26 73 (mb 40 134217727) HT_ ?_
             refine pu 27 74 (mb 40 268435455) HT_ ?_
             refine pu 29 76 (mb 40 805306367) HT_ ?_
             refine pu 30 77 (mb 40 1879048191) HT_ ?_
             refine pu 34 81 (mb 40 19058917375) HT_ ?_
             refine tk 28 75 (mb 40 19327352831) HT_ HW_ hHeld ?_
             refine pu 31 78 (mb 40 21474836479) HT_ ?_
             refine pu 32 79 (mb 40 25769803775) HT_ ?_
             refine tk 33 80 (mb 40 34359738367) HT_ HW_ hHeld ?_
             refine tk 35 82 (mb 40 68719476735) HT_ HW_ hHeld ?_
             refine on 36 (some 83) (mb 40 137438953471) HT_ (fun K hK => ?_)
             refine gs Tryd.func68 #[.agg #[.int .i64 (rd_T72 nodes z).f0.f0, .int .i64 (rd_T72 nodes z).f0.f1], .agg #[.int .i64 (rd_T72 nodes x).f0.f0, .int .i64 (rd_T72 nodes x).f0.f1]] ?_
             with_reducible refine (clock_Less.calls _ _ _ _ _ _ HLP.out).mono ?_
             rintro e w5 ⟨rfl, hb⟩
             refine ⟨_, rfl, ?_⟩
             replace BS := Aside0.mk (blk_below BS.out hb)
             replace HT := Aside0.mk (HT.out.below hb)
             replace HB := Aside0.mk (below_then HB.out HB.out.size hb)
             replace BN := Aside0.mk (blk_below BN.out hb)
             clear hb
             refine hK.out _ _ ⟨(blk_cell BN.out 0), (blk_cell BN.out 1), (blk_cell BN.out 2), (blk_cell BN.out 3), (blk_cell BN.out 4), (blk_cell BN.out 5), (blk_cell BS.out 0), (blk_cell BS.out 2), (blk_cell BS.out 3), (ndx (HN.out.below HB.out) HZ0.out HZ1.out).1, (ndx (HN.out.below HB.out) HZ0.out HZ1.out).2⟩ (fun hHeld => ?_)
             clear hK K
             refine nm _ ?_
             refine pu 37 84 (mb 40 274877906943) HT_ ?_
             refine pu 38 85 (mb 40 549755813887) HT_ ?_
             refine pu 39 86 (mb 40 1099511627775) HT_ ?_
             refine dn HT_ ?_
             go_upto_region 10 with fail
             clear z0 z1 z2 z3 zf
             obtain ⟨z0, z1, z2, z3, zf⟩ := Z4 BS.out
             clear b0 b1' b2 b3 b4 b5 bf0 bf1 bf2 bf3 bf4 bf5 t0 t1 t2 t3 t4 tf0 tf1 tf2 tf3 tf4
             obtain ⟨b0, b1', b2, b3, b4, b5, bf0, bf1, bf2, bf3, bf4, bf5⟩ := Z6 BN.out
             obtain ⟨t0, t1, t2, t3, t4, tf0, tf1, tf2, tf3, tf4⟩ := Z5 HT.out.blk
             go_still_tail 7, (by kernel_rfl)
             replace BS := Aside0.mk (blk_below BS.out (Below.refl _ _).drew)
             replace HT := Aside0.mk (HT.out.below (Below.refl _ _).drew)
             replace HB := Aside0.mk HB.out.drew
             have HPT := Aside0.mk (ok_put (base := base) H0.out H1.out (fun y a b => by
              by_cases hy : y = x
              · rw [hy]; exact HOKX.out
              · exact HJ.out y a (by omega)))
             go_wp2_with (at_mapUpdate; refine wl_put f (nodes.take x.toNat) (rd_T72 nodes x) _ _ _ rfl rfl rfl rfl HT.out.fix ?_; intro w6 hl6 hs6; rw [HPT.out] at hl6; have HT6 := Aside0.mk (HT.out.turnF hs6 hl6); have BS6 := Aside0.mk (hs6.blk BS.out (show w.heap.size ≠ f by have := HG.out.2.1; omega)); have HB6 := Aside0.mk (hs6.back HB.out HB.out.size (fun k_ hk_ => by have := HG.out.2.1; omega)); clear hl6 hs6)
             go_roundg k1
             case measure => exact Nat.lt_succ_self _
             case rel => exact ⟨x + 1, ⟨by have := HK.out; have := H1.out; omega⟩, (by first | rfl | rw [hw1]), ⟨fun y a b => by
              by_cases hy : y = x
              · rw [hy]; exact HOKX.out
              · exact HJ.out y a (by omega)⟩, HT6, BS6, HB6⟩
   · have b1 : decide (x < (nodes.length : Int)) = false := decide_eq_false hx
     have hx2 : x = (nodes.length : Int) := by have := HK.out; omega
     have HALL := Aside0.mk (show allOk base nodes from fun y a b => HJ.out y a (by omega))
     have htk : nodes.take x.toNat = nodes := by rw [hx2, show ((nodes.length : Int)).toNat = nodes.length by omega, List.take_length]
     rw [htk] at HT
     clear hx hx2 htk
     go_wp2_with fail
     try go_frame
     go_loopg [8, 9, 10, 11, 12, 98] (nodes.length + 1) (fun kq _ _ _ _ _ p wr => ∃ (y : Int), Aside0 ((kq : Int) + y = (nodes.length : Int) + 1 ∧ 0 ≤ y ∧ y ≤ (nodes.length : Int)) ∧ p = .int .i64 y ∧ Aside0 (∀ u : Int, 0 ≤ u → u < y → chainB nodes (nodes.length + 1) (rd_T72 nodes u).f1 = true) ∧ Aside0 (TreeAt wr w.heap.size g f n (.slice none 0 0) ⟨nodes, [], [], base⟩) ∧ Aside0 (wr.heap[w.heap.size]? = some (.cells #[.slice AN nodes.length cN, .slice AO ops.length cO, .int .i64 base.f0, .int .i64 base.f1] 37 (0, 0))) ∧ Aside0 (Below w.heap.size w wr))
     case atStart => exact ⟨0, ⟨by omega⟩, rfl, ⟨fun u a b => by omega⟩, HT, BS, HB⟩
     case round =>
      clear z0 z1 z2 z3 zf HT BS HB
      obtain ⟨y, HK2, rfl, HJ2, HT, BS, HB⟩ := hrel
      obtain ⟨k2, rfl⟩ : ∃ k2, gk = k2 + 1 := ⟨((nodes.length : Int) - y).toNat, by have := HK2.out; omega⟩
      have h0 : 0 ≤ y := HK2.out.2.1
      obtain ⟨z0, z1, z2, z3, zf⟩ := Z4 BS.out
      by_cases hy : y < (nodes.length : Int)
      · have b2 : decide (y < (nodes.length : Int)) = true := decide_eq_true hy
        obtain ⟨ad, e, x0, x1, x2, x3, x4, x5⟩ := at_T72 (HN.out.below HB.out).at.2.2 y h0 hy
        cases e
        have p1 := eq_true h0
        have q1 := eq_true hy
        have H0 := Aside0.mk h0
        have H1 := Aside0.mk hy
        have hl5 := HLEN.out
        have hw2 : wrap64 (y + 1) = y + 1 := by unfold wrap64; omega
        clear h0 hy hl5
        go_upto_region 15 with fail
        have BN := Aside0.mk (heap_alloc_new wr (.cells #[.int .i64 (rd_T72 nodes y).f0.f0, .int .i64 (rd_T72 nodes y).f0.f1, .int .i64 (rd_T72 nodes y).f1.f0, .int .i64 (rd_T72 nodes y).f1.f1, .string (rd_T72 nodes y).f2, .string (rd_T72 nodes y).f3] 72))
        replace BS := Aside0.mk (blk_below BS.out (below_alloc (Below.refl wr.heap.size wr) (.cells #[.int .i64 (rd_T72 nodes y).f0.f0, .int .i64 (rd_T72 nodes y).f0.f1, .int .i64 (rd_T72 nodes y).f1.f0, .int .i64 (rd_T72 nodes y).f1.f1, .string (rd_T72 nodes y).f2, .string (rd_T72 nodes y).f3] 72)))
        replace HT := Aside0.mk (HT.out.below (below_alloc (Below.refl wr.heap.size wr) (.cells #[.int .i64 (rd_T72 nodes y).f0.f0, .int .i64 (rd_T72 nodes y).f0.f1, .int .i64 (rd_T72 nodes y).f1.f0, .int .i64 (rd_T72 nodes y).f1.f1, .string (rd_T72 nodes y).f2, .string (rd_T72 nodes y).f3] 72)))
        replace HB := Aside0.mk (below_alloc HB.out (.cells #[.int .i64 (rd_T72 nodes y).f0.f0, .int .i64 (rd_T72 nodes y).f0.f1, .int .i64 (rd_T72 nodes y).f1.f0, .int .i64 (rd_T72 nodes y).f1.f1, .string (rd_T72 nodes y).f2, .string (rd_T72 nodes y).f3] 72))
        generalize wr.heap.size = nb at BN ⊢
        generalize wr.alloc (.cells #[.int .i64 (rd_T72 nodes y).f0.f0, .int .i64 (rd_T72 nodes y).f0.f1, .int .i64 (rd_T72 nodes y).f1.f0, .int .i64 (rd_T72 nodes y).f1.f1, .string (rd_T72 nodes y).f2, .string (rd_T72 nodes y).f3] 72) = w5 at BN BS HT HB ⊢
        clear x0 x1 x2 x3 x4 x5
        obtain ⟨b0, b1', b2', b3, b4, b5, bf⟩ := Z6 BN.out
        go_upto_region 16 with fail
        have BP := Aside0.mk (heap_alloc_new w5 (.cells #[.int .i64 (rd_T72 nodes y).f1.f0, .int .i64 (rd_T72 nodes y).f1.f1] 23))
        replace BS := Aside0.mk (blk_below BS.out (below_alloc (Below.refl w5.heap.size w5) (.cells #[.int .i64 (rd_T72 nodes y).f1.f0, .int .i64 (rd_T72 nodes y).f1.f1] 23)))
        have HPB := Aside0.mk (show w.heap.size < w5.heap.size ∧ ¬ foot g f n (.slice none 0 0) w5.heap.size from ⟨Nat.lt_of_lt_of_le (blk_lt BS.out) (Nat.le_refl _) |> fun _ => by have := HB.out.size; have := HG.out.1; have := blk_lt HT.out.blk; omega, fun hf_ => Nat.lt_irrefl _ (foot_in2 HT.out hf_)⟩)
        replace HT := Aside0.mk (HT.out.below (below_alloc (Below.refl w5.heap.size w5) (.cells #[.int .i64 (rd_T72 nodes y).f1.f0, .int .i64 (rd_T72 nodes y).f1.f1] 23)))
        replace HB := Aside0.mk (below_alloc HB.out (.cells #[.int .i64 (rd_T72 nodes y).f1.f0, .int .i64 (rd_T72 nodes y).f1.f1] 23))
        generalize w5.heap.size = pb at BP HPB ⊢
        generalize w5.alloc (.cells #[.int .i64 (rd_T72 nodes y).f1.f0, .int .i64 (rd_T72 nodes y).f1.f1] 23) = w6 at BP BS HT HB ⊢
        clear b0 b1' b2' b3 b4 b5 bf BN z0 z1 z2 z3 zf
        go_wp2_with fail
        try go_frame
        go_loopg [10, 11, 12] (nodes.length + 2) (fun kq p _ _ wr => ∃ (k : Nat) (s : Stp), Aside0 (kq + k = nodes.length + 2 ∧ k ≤ nodes.length + 1) ∧ p = .int .i64 (k : Int) ∧ Aside0 (chainB nodes (nodes.length + 1 - k) s = chainB nodes (nodes.length + 1) (rd_T72 nodes y).f1) ∧ Aside0 (wr.heap[pb]? = some (.cells #[.int .i64 s.f0, .int .i64 s.f1] 23 (0, 0))) ∧ Aside0 (TreeAt wr w.heap.size g f n (.slice none 0 0) ⟨nodes, [], [], base⟩) ∧ Aside0 (wr.heap[w.heap.size]? = some (.cells #[.slice (some ad) nodes.length cN, .slice AO ops.length cO, .int .i64 base.f0, .int .i64 base.f1] 37 (0, 0))) ∧ Aside0 (Below w.heap.size w wr))
        case atStart => exact ⟨0, _, ⟨by omega⟩, rfl, ⟨rfl⟩, BP, HT, BS, HB⟩
        case round =>
         clear BP HT BS HB
         obtain ⟨k, s, HK3, rfl, HC, BP, HT, BS, HB⟩ := hrel
         obtain ⟨k3, rfl⟩ : ∃ k3, gk = k3 + 1 := ⟨nodes.length + 1 - k, by have := HK3.out; omega⟩
         have hl5 := HLEN.out
         have hw3 : wrap64 ((k : Int) + 1) = (k : Int) + 1 := by have := HK3.out; unfold wrap64; omega
         clear hl5
         obtain ⟨s0, s1, sf0, sf1⟩ := Z2 BP.out
         have HOU := Aside0.mk (outer_is s.f0 s.f1)
         rw [outB_is] at HOU
         cases ho : outerB s with
         | true =>
          rw [ho] at HOU
          have HCT := Aside0.mk (HC.out.symm.trans (chain_out _ ho))
          clear ho
          go_wp2_with (go_at_call 61; refine (tree_outer.calls _ _ _ _ HOU.out).mono ?_; rintro e w7 ⟨rfl, hb⟩; replace BP := Aside0.mk (blk_below BP.out hb); replace BS := Aside0.mk (blk_below BS.out hb); replace HT := Aside0.mk (HT.out.below hb); replace HB := Aside0.mk (below_then HB.out HB.out.size hb); clear hb)
          go_roundg k2
          case measure => exact Nat.lt_succ_self _
          case rel => exact ⟨y + 1, ⟨by have := HK2.out; have := H1.out; omega⟩, (by first | rfl | rw [hw2]), ⟨fun u a b => by
           by_cases hu_ : u = y
           · rw [hu_]; exact HCT.out
           · exact HJ2.out u a (by omega)⟩, HT, BS, HB⟩
         | false =>
          rw [ho] at HOU
          go_upto_region 19 with (go_at_call 61; refine (tree_outer.calls _ _ _ _ HOU.out).mono ?_; rintro e w7 ⟨rfl, hb⟩; replace BP := Aside0.mk (blk_below BP.out hb); replace BS := Aside0.mk (blk_below BS.out hb); replace HT := Aside0.mk (HT.out.below hb); replace HB := Aside0.mk (below_then HB.out HB.out.size hb); clear hb)
          generalize w7 = wq at BP BS HT HB ⊢
          replace BP := Aside0.mk (blk_below BP.out (Below.refl _ _).drew)
          replace BS := Aside0.mk (blk_below BS.out (Below.refl _ _).drew)
          replace HT := Aside0.mk (HT.out.below (Below.refl _ _).drew)
          replace HB := Aside0.mk HB.out.drew
          clear s0 s1 sf0 sf1
          refine start_ (n := 12) (S := fun w' => w'.cell? ⟨pb, 0, none⟩ = some (.int .i64 s.f0) ∧ w'.cell? ⟨pb, 1, none⟩ = some (.int .i64 s.f1) ∧ w'.cell? ⟨g, 0, none⟩ = some (.map (some f)) ∧ (Instr.lookup 135 (.map (some f)) (.agg #[.int .i64 s.f0, .int .i64 s.f1]) true).run Tryd.prog w' = .ok (.tuple #[.agg #[.int .i64 (look nodes s).f0.f0, .int .i64 (look nodes s).f0.f1, .int .i64 (look nodes s).f1.f0, .int .i64 (look nodes s).f1.f1, .string (look nodes s).f2, .string (look nodes s).f3], .bool (has nodes s)]) w') (ds := [10]) (mb 12 0) (by kernel_rfl) rfl (by kernel_rfl) ⟨(blk_cell BP.out 0), (blk_cell BP.out 1), (blk_cell HT.out.blk 0), (look_run HT.out.fix s true)⟩ (fun hHeld => ?_)
          refine with_tabW of_.tab19 of_.bits19 (fun HT_ HW_ => ?_)
          refine pu 0 110 (mb 12 1) HT_ ?_
          refine pu 1 111 (mb 12 3) HT_ ?_
          refine pu 2 112 (mb 12 7) HT_ ?_
          refine tk 3 113 (mb 12 15) HT_ HW_ hHeld ?_
          refine tk 4 114 (mb 12 31) HT_ HW_ hHeld ?_
          refine tk 5 115 (mb 12 63) HT_ HW_ hHeld ?_
          refine pu 6 109 (mb 12 127) HT_ ?_
          refine pu 7 116 (mb 12 255) HT_ ?_
          refine pu 8 117 (mb 12 511) HT_ ?_
          refine on 9 (some 11) (mb 12 1023) HT_ (fun K hK => ?_)
          refine value_ (w1 := ?_) (v := ?_) (by rfl) rfl ?_ ?_
          rotate_left 2
          · go_simp
            constructor
            · rfl
            · rfl
          have BLv := Aside0.mk (below_new wq (.cells #[.int .i64 0, .int .i64 0, .int .i64 0, .int .i64 0, .string ⟨#[]⟩, .string ⟨#[]⟩] 72))
          have BPv := Aside0.mk (blk_below BP.out BLv.out)
          have HTv := Aside0.mk (HT.out.below BLv.out)
          have BNv := Aside0.mk (show (wq.alloc (.cells #[.int .i64 0, .int .i64 0, .int .i64 0, .int .i64 0, .string ⟨#[]⟩, .string ⟨#[]⟩] 72)).drew.heap[wq.heap.size]? = _ from heap_alloc_new wq _)
          obtain ⟨u0, u1, u2, u3, u4, u5, u6, u7, u8, u9, ua, ub⟩ := Z6 BNv.out
          refine hK.out _ _ ⟨(blk_cell BPv.out 0), (blk_cell BPv.out 1), (blk_cell HTv.out.blk 0), (look_run HTv.out.fix s true)⟩ (fun hHeld => ?_)
          clear hK K
          refine nm _ ?_
          refine last_ (i := 10) (N := none) (mb 12 2047) rfl rfl (one_of HT_.out (by kernel_rfl)) (by decide) (fun K hK => ?_)
          refine skip_ (w1 := ?_) (by rfl) rfl ?_ ?_
          rotate_left
          · go_simp
            rfl
          refine hK.out _ _ ?_
          clear hK K
          refine pu 11 12 (mb 12 4095) HT_ ?_
          refine dn HT_ ?_
          clear u0 u1 u2 u3 u4 u5 u6 u7 u8 u9 ua ub BLv BPv HTv BNv
          have BX := Aside0.mk (show (wq.alloc (.cells #[.int .i64 (look nodes s).f0.f0, .int .i64 (look nodes s).f0.f1, .int .i64 (look nodes s).f1.f0, .int .i64 (look nodes s).f1.f1, .string (look nodes s).f2, .string (look nodes s).f3] 72)).drew.heap[wq.heap.size]? = _ from heap_alloc_new wq _)
          replace BP := Aside0.mk (blk_below BP.out (below_new wq (.cells #[.int .i64 (look nodes s).f0.f0, .int .i64 (look nodes s).f0.f1, .int .i64 (look nodes s).f1.f0, .int .i64 (look nodes s).f1.f1, .string (look nodes s).f2, .string (look nodes s).f3] 72)))
          replace BS := Aside0.mk (blk_below BS.out (below_new wq (.cells #[.int .i64 (look nodes s).f0.f0, .int .i64 (look nodes s).f0.f1, .int .i64 (look nodes s).f1.f0, .int .i64 (look nodes s).f1.f1, .string (look nodes s).f2, .string (look nodes s).f3] 72)))
          replace HT := Aside0.mk (HT.out.below (below_new wq (.cells #[.int .i64 (look nodes s).f0.f0, .int .i64 (look nodes s).f0.f1, .int .i64 (look nodes s).f1.f0, .int .i64 (look nodes s).f1.f1, .string (look nodes s).f2, .string (look nodes s).f3] 72)))
          replace HB := Aside0.mk (below_then HB.out HB.out.size (below_new wq (.cells #[.int .i64 (look nodes s).f0.f0, .int .i64 (look nodes s).f0.f1, .int .i64 (look nodes s).f1.f0, .int .i64 (look nodes s).f1.f1, .string (look nodes s).f2, .string (look nodes s).f3] 72)))
          generalize (wq.alloc (.cells #[.int .i64 (look nodes s).f0.f0, .int .i64 (look nodes s).f0.f1, .int .i64 (look nodes s).f1.f0, .int .i64 (look nodes s).f1.f1, .string (look nodes s).f2, .string (look nodes s).f3] 72)).drew = w8 at BX BP BS HT HB ⊢
          generalize wq.heap.size = xb at BX ⊢
          obtain ⟨s0, s1, sf0, sf1⟩ := Z2 BP.out
          obtain ⟨z0, z1, z2, z3, zf⟩ := Z4 BS.out
          obtain ⟨x0, x1, x2, x3, x4, x5, xf⟩ := Z6 BX.out
          have HMY := Aside0.mk (show (rd_T72 nodes y) ∈ nodes by obtain ⟨i, hi, hii, e⟩ := rdn_is nodes y H0.out H1.out; rw [e]; exact List.getElem_mem hi)
          cases hh : has nodes s with
          | false =>
           have HX := Aside0.mk (show ¬ StartOk base nodes from fun h => by
            have h1 := h.chain _ HMY.out
            rw [← HC.out, chain_no _ ho hh] at h1
            cases h1)
           clear ho hh
           go_wp2
           go_ret2
           exact OfSpec.bad HX.out HB.out
          | true =>
           by_cases hk : k ≤ nodes.length
           rotate_left
           · have m1 : decide ((nodes.length : Int) < (k : Int)) = true := decide_eq_true (by omega)
             have m2 : (nodes.length < k) = True := eq_true (by omega)
             have m3 : decide ((k : Int) > (nodes.length : Int)) = true := decide_eq_true (by omega)
             have HX := Aside0.mk (show ¬ StartOk base nodes from fun h => by
              have h1 := h.chain _ HMY.out
              rw [← HC.out, show nodes.length + 1 - k = 0 by have := HK3.out; omega] at h1
              rw [show chainB nodes 0 s = outerB s from rfl, ho] at h1
              cases h1)
             clear ho hh hk
             go_wp2
             go_ret2
             exact OfSpec.bad HX.out HB.out
           · have m1 : decide ((nodes.length : Int) < (k : Int)) = false := decide_eq_false (by omega)
             have m2 : (nodes.length < k) = False := eq_false (by omega)
             have m3 : decide ((k : Int) > (nodes.length : Int)) = false := decide_eq_false (by omega)
             have HC2 := Aside0.mk (show chainB nodes (nodes.length + 1 - (k + 1)) (look nodes s).f1 = chainB nodes (nodes.length + 1) (rd_T72 nodes y).f1 by rw [← HC.out, show nodes.length + 1 - k = (nodes.length + 1 - (k + 1)) + 1 by omega, chain_on _ ho hh])
             have HKK := Aside0.mk hk
             clear ho hh hk
             go_wp2
             go_roundg k3
             case measure => exact Nat.lt_succ_self _
             case rel => exact ⟨k + 1, (look nodes s).f1, ⟨by have := HK3.out; have := HKK.out; omega⟩, (by first | rfl | (rw [hw3]; rfl)), HC2, ⟨blk_set2 BP.out⟩,
              ⟨HT.out.stay ((Stay.cell w8 ⟨pb, 0, none⟩ (.int .i64 (look nodes s).f1.f0)).trans (Stay.cell _ ⟨pb, 1, none⟩ (.int .i64 (look nodes s).f1.f1)) (fun _ hk => .inl hk)) (fun k hk e => HPB.out.2 (by rw [← show k = pb from e]; exact hk))⟩,
              ⟨blk_far (blk_far BS.out (show w.heap.size ≠ pb by have := HPB.out.1; omega) _) (show w.heap.size ≠ pb by have := HPB.out.1; omega) _⟩, ⟨below_set (g := pb) (below_set (g := pb) HB.out (Nat.le_of_lt HPB.out.1)) (Nat.le_of_lt HPB.out.1)⟩⟩
      · have b2 : decide (y < (nodes.length : Int)) = false := decide_eq_false hy
        have hy2 : y = (nodes.length : Int) := by have := HK2.out; omega
        have hch : ∀ m ∈ nodes, chainB nodes (nodes.length + 1) m.f1 = true := by
         intro m hm
         obtain ⟨i, hi, rfl⟩ := List.getElem_of_mem hm
         have := HJ2.out (i : Int) (by omega) (by omega)
         rwa [rdN_at nodes i hi, getElem!_pos nodes i hi] at this
        have HSO := Aside0.mk (show StartOk base nodes from ⟨HLEN.out, HBO.out, HALL.out, hch⟩)
        have hid : ∀ m ∈ nodes, outerB m.f0 = false := by
         intro m hm
         obtain ⟨i, hi, rfl⟩ := List.getElem_of_mem hm
         have h1 := HALL.out (i : Int) (by omega) (by omega)
         unfold nodeOk at h1
         simp only [Bool.and_eq_true] at h1
         have h2 := of_decide_eq_true h1.1.1.1.1
         rw [rdN_at nodes i hi, getElem!_pos nodes i hi] at h2
         unfold outerB
         rw [show (nodes[i].f0.f0 == 0) = false from beq_eq_false_iff_ne.2 (by omega)]; rfl
        have HRT := Aside0.mk (chain_rooted (m := nodes.length) hid hch)
        have HND := Aside0.mk (show (nodes.map fun m => m.f0).Nodup by have := ok_srt (base := base) nodes.length (Nat.le_refl _) (fun u a b => HALL.out u a b); rw [List.take_length] at this; exact this.nodup)
        clear hy hy2 hch hid
        go_upto_region 25 with (go_at_call 93; refine (again_calls _ w.heap.size g f n _ ⟨nodes, [], [], base⟩ HT.out HRT.out (fun o ho => by simp at ho) (by simp)).mono ?_; rintro e w9 ⟨rfl, ⟨l0, hp0, ht⟩, hs⟩; have HP0 := Aside0.mk hp0; have HT9 := Aside0.mk ht; have BS9 := Aside0.mk (hs.blk BS.out (show w.heap.size ≠ n by have := HG.out.2.2; omega)); have HB9 := Aside0.mk (hs.back HB.out HB.out.size (fun k_ hk_ => by have := HG.out.2.2; omega)); clear hp0 ht hs)
        clear z0 z1 z2 z3 zf HT BS HB
        obtain ⟨z0, z1, z2, z3, zf⟩ := Z4 BS9.out
        have HGD := Aside0.mk (show Good ⟨nodes, l0, [], base⟩ from ⟨HRT.out, HND.out, fun o ho => by simp at ho, List.Pairwise.nil, fun o ho => by simp at ho, by simp, by simp [creates]; exact HLEN.out, ⟨l0, HP0.out, rfl⟩⟩)
        go_wp2_with fail
        try go_frame
        go_loopg [14, 15, 16, 135] (ops.length + 1) (fun kq _ _ _ p wr => ∃ (y : Int) (T : Tr) (v : Value), Aside0 ((kq : Int) + y = (ops.length : Int) + 1 ∧ 0 ≤ y ∧ y ≤ (ops.length : Int)) ∧ p = .int .i64 y ∧ Aside0 (T.fixed = nodes ∧ T.base = base ∧ putAll ⟨nodes, [], T.ops, base⟩ (ops.drop y.toNat) = putAll (T0 base nodes) ops) ∧ Aside0 (Good T) ∧ Aside0 (TreeAt wr w.heap.size g f n v T) ∧ Aside0 (wr.heap[w.heap.size]? = some (.cells #[.slice AN nodes.length cN, .slice AO ops.length cO, .int .i64 base.f0, .int .i64 base.f1] 37 (0, 0))) ∧ Aside0 (¬ foot g f n v w.heap.size) ∧ Aside0 (Below w.heap.size w wr))
        case atStart => exact ⟨0, ⟨nodes, l0, [], base⟩, _, ⟨by omega⟩, rfl, ⟨rfl, rfl, rfl⟩, HGD, HT9, BS9, ⟨fun hf_ => by have := HG.out; rcases hf_ with h | h | h | h <;> first | omega | cases h⟩, HB9⟩
        case round =>
         clear HT9 BS9 HB9 HGD z0 z1 z2 z3 zf
         obtain ⟨y, T, v, HK3, rfl, HPA, HGD, HT, BS, HNF, HB⟩ := hrel
         obtain ⟨k3, rfl⟩ : ∃ k3, gk = k3 + 1 := ⟨((ops.length : Int) - y).toNat, by have := HK3.out; omega⟩
         have h0 : 0 ≤ y := HK3.out.2.1
         obtain ⟨z0, z1, z2, z3, zf⟩ := Z4 BS.out
         by_cases hyo : y < (ops.length : Int)
         · have b3 : decide (y < (ops.length : Int)) = true := decide_eq_true hyo
           obtain ⟨ad, e, x0, x1, x2, x3, x4, x5, x6, x7, x8⟩ := at_T25 (HO.out.below HB.out).at.2.2 y h0 hyo
           cases e
           have p1 := eq_true h0
           have q1 := eq_true hyo
           have H0 := Aside0.mk h0
           have H1 := Aside0.mk hyo
           have hol5 := HOL.out
           have hw3 : wrap64 (y + 1) = y + 1 := by unfold wrap64; omega
           have HLT := Aside0.mk (show (rd_T25 ops y).f4.size ≤ 1024 by obtain ⟨i, hi, hii, e⟩ := rd_is ops y h0 hyo; rw [e]; exact HON.out _ (List.getElem_mem hi))
           have HDR := Aside0.mk (drop_rd ops h0 hyo)
           clear h0 hyo hol5
           obtain ⟨AV, cV, ev, hcV, hCV⟩ := Kd.R_reads HT.out.ops
           subst ev
           clear hcV hCV
           go_upto_region 28 with fail
           have BO := Aside0.mk (heap_alloc_new wr (.cells #[.int .i64 (rd_T25 ops y).f0, .int .i64 (rd_T25 ops y).f1.f0, .int .i64 (rd_T25 ops y).f1.f1, .int .i64 (rd_T25 ops y).f2.f0, .int .i64 (rd_T25 ops y).f2.f1, .int .i64 (rd_T25 ops y).f3.f0, .int .i64 (rd_T25 ops y).f3.f1, .string (rd_T25 ops y).f4, .string (rd_T25 ops y).f5] 25))
           replace BS := Aside0.mk (blk_below BS.out (below_alloc (Below.refl wr.heap.size wr) (.cells #[.int .i64 (rd_T25 ops y).f0, .int .i64 (rd_T25 ops y).f1.f0, .int .i64 (rd_T25 ops y).f1.f1, .int .i64 (rd_T25 ops y).f2.f0, .int .i64 (rd_T25 ops y).f2.f1, .int .i64 (rd_T25 ops y).f3.f0, .int .i64 (rd_T25 ops y).f3.f1, .string (rd_T25 ops y).f4, .string (rd_T25 ops y).f5] 25)))
           replace HT := Aside0.mk (HT.out.below (below_alloc (Below.refl wr.heap.size wr) (.cells #[.int .i64 (rd_T25 ops y).f0, .int .i64 (rd_T25 ops y).f1.f0, .int .i64 (rd_T25 ops y).f1.f1, .int .i64 (rd_T25 ops y).f2.f0, .int .i64 (rd_T25 ops y).f2.f1, .int .i64 (rd_T25 ops y).f3.f0, .int .i64 (rd_T25 ops y).f3.f1, .string (rd_T25 ops y).f4, .string (rd_T25 ops y).f5] 25)))
           replace HB := Aside0.mk (below_alloc HB.out (.cells #[.int .i64 (rd_T25 ops y).f0, .int .i64 (rd_T25 ops y).f1.f0, .int .i64 (rd_T25 ops y).f1.f1, .int .i64 (rd_T25 ops y).f2.f0, .int .i64 (rd_T25 ops y).f2.f1, .int .i64 (rd_T25 ops y).f3.f0, .int .i64 (rd_T25 ops y).f3.f1, .string (rd_T25 ops y).f4, .string (rd_T25 ops y).f5] 25))
           generalize wr.heap.size = ob at BO ⊢
           generalize wr.alloc (.cells #[.int .i64 (rd_T25 ops y).f0, .int .i64 (rd_T25 ops y).f1.f0, .int .i64 (rd_T25 ops y).f1.f1, .int .i64 (rd_T25 ops y).f2.f0, .int .i64 (rd_T25 ops y).f2.f1, .int .i64 (rd_T25 ops y).f3.f0, .int .i64 (rd_T25 ops y).f3.f1, .string (rd_T25 ops y).f4, .string (rd_T25 ops y).f5] 25) = w5 at BO BS HT HB ⊢
           clear x0 x1 x2 x3 x4 x5 x6 x7 x8 z0 z1 z2 z3 zf
           obtain ⟨x0, x1, x2, x3, x4, x5, x6, x7, x8, xf⟩ := Z9 BO.out
           obtain ⟨t0, t1, t2, t3, t4, tf⟩ := Z5 HT.out.blk
           have HCK := Aside0.mk (P.checkT_is (rd_T25 ops y) HLT.out)
           go_upto_region 30 with (go_at_call 94; refine (Apply_calls _ _ g f n _ T (rd_T25 ops y) 40 _ HT.out HGD.out HCK.out (fun e => (P.chk_fine e).1.1) (HL.out.below HB.out)).mono ?_; rintro e w6 ⟨T', v', rfl, ht, hg, h1, h2, h3, h4, h5⟩; have HT6 := Aside0.mk ht; have HG6 := Aside0.mk hg; have HE1 := Aside0.mk h1; have HE2 := Aside0.mk h2; have HE3 := Aside0.mk h3; have BS6 := Aside0.mk (h4.blk BS.out HNF.out); have HB6 := Aside0.mk (HT.out.back h4 HB.out); have HNF6 := Aside0.mk (show ¬ foot g f n v' w.heap.size from fun hf_ => hf_.elim (fun h => HNF.out (.inl h)) (fun hf_ => hf_.elim (fun h => HNF.out (.inr (.inl h))) (fun hf_ => hf_.elim (fun h => HNF.out (.inr (.inr (.inl h)))) (fun h => (h5 _ h).elim (fun q => HNF.out (.inr (.inr (.inr q)))) (fun q => absurd (blk_lt BS.out) (Nat.not_lt.2 q)))))); clear ht hg h1 h2 h3 h4 h5)
           clear t0 t1 t2 t3 t4 tf x0 x1 x2 x3 x4 x5 x6 x7 x8 xf
           have HPS := Aside0.mk (show putO ⟨nodes, [], T.ops, base⟩ (rd_T25 ops y) (chkO (rd_T25 ops y)) = putO T (rd_T25 ops y) (chkO (rd_T25 ops y)) from putO_same HPA.out.1 HPA.out.2.1)
           have HPD := Aside0.mk (show putAll ⟨nodes, [], T.ops, base⟩ ((rd_T25 ops y) :: ops.drop (y + 1).toNat) = putAll (T0 base nodes) ops by rw [← HDR.out]; exact HPA.out.2.2)
           obtain ⟨pe, hpe⟩ : ∃ pe, (putO T (rd_T25 ops y) (chkO (rd_T25 ops y))).2 = pe := ⟨_, rfl⟩
           rw [hpe]
           by_cases he : pe = 0
           rotate_left
           · have m1 : decide (pe = 0) = false := decide_eq_false he
             have m2 : (pe == 0) = false := beq_eq_false_iff_ne.2 he
             have m3 : (pe = 0) = False := eq_false he
             have HX := Aside0.mk (show (putAll (T0 base nodes) ops).2 = pe by
              rw [← HPD.out]
              show (if (putO ⟨nodes, [], T.ops, base⟩ (rd_T25 ops y) (chkO (rd_T25 ops y))).2 ≠ 0 then _ else _ : List Opn × Int).2 = pe
              rw [HPS.out, if_pos (by rw [hpe]; exact he)]; exact hpe)
             have HNE := Aside0.mk he
             clear he hpe
             go_wp2
             go_ret2
             exact OfSpec.fault HSO.out HX.out HNE.out HB6.out
           · subst he
             obtain ⟨AV2, cV2, ev, hcV, hCV⟩ := Kd.R_reads HT6.out.ops
             subst ev
             clear hcV hCV
             obtain ⟨t0, t1, t2, t3, t4, tf⟩ := Z5 HT6.out.blk
             by_cases hln : T'.ops.length = T.ops.length
             · have m1 : decide ((T'.ops.length : Int) = (T.ops.length : Int)) = true := decide_eq_true (by omega)
               have m2 : (T'.ops.length = T.ops.length) = True := eq_true hln
               have m3 : ((T'.ops.length : Int) == (T.ops.length : Int)) = true := beq_iff_eq.2 (by omega)
               have m4 : (T'.ops.length == T.ops.length) = true := beq_iff_eq.2 hln
               have HX := Aside0.mk (show (putAll (T0 base nodes) ops).2 = 1 by
                rw [← HPD.out]
                show (if (putO ⟨nodes, [], T.ops, base⟩ (rd_T25 ops y) (chkO (rd_T25 ops y))).2 ≠ 0 then _ else if (putO ⟨nodes, [], T.ops, base⟩ (rd_T25 ops y) (chkO (rd_T25 ops y))).1.length = T.ops.length then _ else _ : List Opn × Int).2 = 1
                rw [HPS.out, if_neg (by rw [hpe]; decide), if_pos (by rw [← HE3.out]; exact hln)])
               clear hln hpe
               go_wp2
               go_ret2
               exact OfSpec.fault HSO.out HX.out (by decide) HB6.out
             · have m1 : decide ((T'.ops.length : Int) = (T.ops.length : Int)) = false := decide_eq_false (by omega)
               have m2 : (T'.ops.length = T.ops.length) = False := eq_false hln
               have m3 : ((T'.ops.length : Int) == (T.ops.length : Int)) = false := beq_eq_false_iff_ne.2 (by omega)
               have m4 : (T'.ops.length == T.ops.length) = false := beq_eq_false_iff_ne.2 hln
               have HX := Aside0.mk (show putAll ⟨nodes, [], T'.ops, base⟩ (ops.drop (y + 1).toNat) = putAll (T0 base nodes) ops by
                rw [← HPD.out]
                show _ = (if (putO ⟨nodes, [], T.ops, base⟩ (rd_T25 ops y) (chkO (rd_T25 ops y))).2 ≠ 0 then _ else if (putO ⟨nodes, [], T.ops, base⟩ (rd_T25 ops y) (chkO (rd_T25 ops y))).1.length = T.ops.length then _ else putAll ⟨nodes, [], (putO ⟨nodes, [], T.ops, base⟩ (rd_T25 ops y) (chkO (rd_T25 ops y))).1, base⟩ (ops.drop (y + 1).toNat) : List Opn × Int)
                rw [HPS.out, if_neg (by rw [hpe]; decide), if_neg (by rw [← HE3.out]; exact hln), ← HE3.out])
               clear hln hpe
               go_wp2
               go_roundg k3
               case measure => exact Nat.lt_succ_self _
               case rel => exact ⟨y + 1, T', _, ⟨by have := HK3.out; have := H1.out; omega⟩, (by first | rfl | rw [hw3]), ⟨HE1.out.trans HPA.out.1, HE2.out.trans HPA.out.2.1, HX.out⟩, HG6, HT6, BS6, HNF6, HB6⟩
         · have b3 : decide (y < (ops.length : Int)) = false := decide_eq_false hyo
           have HX := Aside0.mk (show putAll (T0 base nodes) ops = (T.ops, 0) by
            rw [← HPA.out.2.2, show y.toNat = ops.length by have := HK3.out; omega, List.drop_length]; rfl)
           clear hyo
           go_wp2
           go_ret2
           exact OfSpec.good HSO.out HX.out HT.out HGD.out HPA.out.1 HPA.out.2.1 HB.out
end Go.Proofs.YtlfgdaiegefjiaaDoor.S
