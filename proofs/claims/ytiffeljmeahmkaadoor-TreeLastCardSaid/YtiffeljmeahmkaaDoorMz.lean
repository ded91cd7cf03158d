/- The law TreeTrash. -/
import Derived.Test.YtiffeljmeahmkaaDoorMy
namespace Go.Proofs.YtiffeljmeahmkaaDoor.S
open Go.RowKit Go.Proofs.YtiffeljmeahmkaaDoorW.PrintWords Go.Proofs.YtiffeljmeahmkaaDoorW.PrintLast Go.Proofs.YtiffeljmeahmkaaDoorW.PrintMore
set_option linter.unusedVariables false
set_option linter.unusedSimpArgs false
/-- The law's j-th node is made. -/
def trO (j : Nat) : Opn := if j = 0 then ⟨1, ⟨((j : Int) + 1), 1⟩, ⟨((j : Int) + 1), 1⟩, ⟨0, 0⟩, ⟨#[110]⟩, ⟨#[]⟩⟩ else ⟨1, ⟨((j : Int) + 1), 1⟩, ⟨((j : Int) + 1), 1⟩, ⟨(j : Int), 1⟩, ⟨#[110]⟩, ⟨#[]⟩⟩
def trL (m : Nat) : List Opn := (List.range m).map trO
def trT (k : Nat) : Opn := ⟨5, ⟨50, 2⟩, ⟨(k : Int), 1⟩, ⟨0, 0⟩, ⟨#[]⟩, ⟨#[]⟩⟩
def trM (k : Nat) : Opn := ⟨2, ⟨60, 1⟩, ⟨(k : Int), 1⟩, ⟨0, 0⟩, ⟨#[]⟩, ⟨#[]⟩⟩
def trE (n k : Nat) (back : Bool) : List Opn := trL n ++ [trT k] ++ (if back = true then [trM k] else [])
theorem trO_at (j : Nat) : (trO j).f1 = ⟨((j : Int) + 1), 1⟩ := by unfold trO; split <;> rfl
theorem trO_ok (j : Nat) : OpOk (trO j) := by
  unfold trO
  split
  · exact ⟨.inl rfl, by simp [outerB]; omega⟩
  · exact ⟨.inl rfl, by simp [outerB]; omega⟩
theorem trL_length (m : Nat) : (trL m).length = m := by simp [trL]
theorem trL_succ (m : Nat) : trL (m + 1) = trL m ++ [trO m] := by simp [trL, List.range_succ]
theorem trL_less (m : Nat) (s : Stp) (h : (m : Int) < s.f0) : ∀ o ∈ trL m, lessB o.f1 s = true := by
  intro o ho
  obtain ⟨j, hj, rfl⟩ := List.mem_map.1 ho
  rw [trO_at, lessB_iff]
  have := List.mem_range.1 hj
  left
  show (j : Int) + 1 < s.f0
  omega
/-- An operation of a greater stamp than all, where there are few. -/
theorem put_end (T : Tr) (o : Opn) (l : List Opn) (h1 : T.fixed = []) (h2 : T.base = St0) (h3 : T.ops = l) (hl : l.length < 512) (ha : ∀ x ∈ l, lessB x.f1 o.f1 = true) (ho : 0 < o.f1.f0) : putO T o 0 = (l ++ [o], 0) := by
  have hf : fullB T o = false := by
    have := creates_le l
    unfold fullB
    rw [h1, h3, decide_eq_false (show ¬ 512 ≤ l.length by omega), decide_eq_false (show ¬ 512 ≤ ([] : List Nod).length + creates l by simp; omega)]
    simp
  have hb : lessB T.base o.f1 = true := by
    rw [h2, lessB_iff]
    left
    exact ho
  unfold putO
  rw [hb, h3, isIn_all ha, hf, if_neg (by decide), if_neg (by decide), if_neg (by decide), insO_all ha]
def chk0 (o : Opn) : Bool := tree_Check.f 40 o.f0 o.f1.f0 o.f1.f1 o.f2.f0 o.f2.f1 o.f3.f0 o.f3.f1 o.f4 o.f5 == some 0
theorem tr_check : ((List.range 13).all fun j => chk0 (trO j) && chk0 (trT (j + 1)) && chk0 (trM (j + 1))) = true := by kernel_rfl
theorem chk_of {o : Opn} (h : chk0 o = true) : tree_Check.f 40 o.f0 o.f1.f0 o.f1.f1 o.f2.f0 o.f2.f1 o.f3.f0 o.f3.f1 o.f4 o.f5 = some 0 := eq_of_beq h
theorem tr_checks (j : Nat) (h : j < 13) : chk0 (trO j) = true ∧ chk0 (trT (j + 1)) = true ∧ chk0 (trM (j + 1)) = true := by
  have h := List.all_eq_true.1 tr_check j (List.mem_range.2 h)
  simp only [Bool.and_eq_true] at h
  exact ⟨h.1.1, h.1.2, h.2⟩
/-- The parent of the i-th node (from 1) at the end. -/
def trP (k : Nat) (back : Bool) (i : Nat) : Stp := if i = k then (if back = true then ⟨0, 0⟩ else ⟨0, 1⟩) else if i = 1 then ⟨0, 0⟩ else ⟨(i : Int) - 1, 1⟩
def trCk (n k : Nat) (back : Bool) : Bool := match foldK 20 (trE n k back) [] with
  | some l => (List.range n).all fun j => has l ⟨((j : Int) + 1), 1⟩ && eqS (look l ⟨((j : Int) + 1), 1⟩).f1 (trP k back (j + 1))
  | none => false
theorem tr_table : ((List.range 12).all fun n => (List.range (n + 1)).all fun k => trCk (n + 1) (k + 1) true && trCk (n + 1) (k + 1) false) = true := by kernel_rfl
theorem tr_now (n k : Nat) (back : Bool) (hn : 1 ≤ n ∧ n ≤ 12) (hk : 1 ≤ k ∧ k ≤ n) : ∀ i, 1 ≤ i → i ≤ n → has ((trE n k back).foldl doN []) ⟨(i : Int), 1⟩ = true ∧ (look ((trE n k back).foldl doN []) ⟨(i : Int), 1⟩).f1 = trP k back i := by
  intro i h1 h2
  have h := List.all_eq_true.1 tr_table (n - 1) (List.mem_range.2 (by omega))
  have h := List.all_eq_true.1 h (k - 1) (List.mem_range.2 (by omega))
  rw [show n - 1 + 1 = n by omega, show k - 1 + 1 = k by omega] at h
  have h3 : trCk n k back = true := by
    simp only [Bool.and_eq_true] at h
    cases back
    · exact h.2
    · exact h.1
  unfold trCk at h3
  cases hf : foldK 20 (trE n k back) [] with
  | none => rw [hf] at h3; cases h3
  | some l =>
    rw [hf] at h3
    rw [foldK_of hf]
    have h4 := List.all_eq_true.1 h3 (i - 1) (List.mem_range.2 (by omega))
    rw [show ((i - 1 : Nat) : Int) + 1 = (i : Int) by omega, show i - 1 + 1 = i by omega, Bool.and_eq_true] at h4
    exact ⟨h4.1, eqS_iff.1 h4.2⟩
/-- The tree of the law, its operations being l. -/
structure TrAt (w wr : World) (g f n : Nat) (l : List Opn) (v : Value) (T : Tr) : Prop where
  tree : TreeAt wr w.heap.size g f n v T
  good : Good T
  fixed : T.fixed = []
  base : T.base = St0
  ops : T.ops = l
  below : Below w.heap.size w wr
theorem TrAt.step {w wr w' : World} {g f n : Nat} {l l' : List Opn} {v v' : Value} {T T' : Tr} (h : TrAt w wr g f n l v T) (ht : TreeAt w' w.heap.size g f n v' T') (hg : Good T') (h1 : T'.fixed = T.fixed) (h2 : T'.base = T.base) (h3 : T'.ops = l') (h4 : Stay wr w' (foot g f n v)) : TrAt w w' g f n l' v' T' :=
  ⟨ht, hg, h1.trans h.fixed, h2.trans h.base, h3, h.tree.back h4 h.below⟩
theorem TrAt.under {w wr w' : World} {g f n : Nat} {l : List Opn} {v : Value} {T : Tr} (h : TrAt w wr g f n l v T) (hb : Below wr.heap.size wr w') : TrAt w w' g f n l v T :=
  ⟨h.tree.below hb, h.good, h.fixed, h.base, h.ops, below_then h.below h.below.size hb⟩
theorem bits_and255 (x : Int) : bits .and .i64 x 255 = x % 256 := by
  have h : bits .and .i64 x 255 = IntKind.i64.wrap ((BitVec.ofInt 64 x &&& BitVec.ofInt 64 255).toNat : Int) := rfl
  rw [h, IntKind.wrap_i64]
  have e : (BitVec.ofInt 64 x &&& BitVec.ofInt 64 255).toNat = (x % 256).toNat := by
    rw [BitVec.toNat_and, BitVec.toNat_ofInt, show (BitVec.ofInt 64 255).toNat = 2 ^ 8 - 1 from by decide, Nat.and_two_pow_sub_one_eq_mod]
    omega
  rw [e]
  omega
theorem low8 (x : Int) (d : Nat) (hd : 0 < d) (hd2 : d ≤ 256) : ∃ a c m : Nat, bits .and .i64 x 255 = (a : Int) ∧ (a : Int).tmod (d : Int) = (c : Int) ∧ wrap64 (1 + (c : Int)) = (m : Int) ∧ 1 ≤ m ∧ m ≤ d := by
  have hc : (x % 256).toNat % d < d := Nat.mod_lt _ hd
  refine ⟨(x % 256).toNat, (x % 256).toNat % d, 1 + (x % 256).toNat % d, ?_, ?_, ?_, by omega, by omega⟩
  · rw [bits_and255]; omega
  · rw [Int.tmod_eq_emod_of_nonneg (by omega)]; exact (Int.natCast_emod _ _).symm
  · unfold wrap64; omega
theorem tr_few {j N : Nat} (h : j < N) (h2 : 1 ≤ N ∧ N ≤ 12) : j < 512 ∧ j < 13 ∧ wrap64 ((j : Int) + 1 + 1) = (j : Int) + 1 + 1 ∧ wrap64 (j : Int) = (j : Int) := by
  refine ⟨by omega, by omega, ?_, ?_⟩ <;> unfold wrap64 <;> omega
theorem tr_step {j N : Nat} {T : Tr} (h : j < N) (h2 : 1 ≤ N ∧ N ≤ 12) (h3 : T.fixed = []) (h4 : T.base = St0) (h5 : T.ops = trL j) : putO T (trO j) 0 = (trL (j + 1), 0) := by
  rw [trL_succ]
  refine put_end T (trO j) (trL j) h3 h4 h5 (by rw [trL_length]; omega) (by rw [trO_at]; exact trL_less j _ (by show (j : Int) < (j : Int) + 1; omega)) ?_
  rw [trO_at]
  show (0 : Int) < (j : Int) + 1
  omega
theorem tr_k {k1 j N : Nat} (h : k1 + 1 + j = 14 ∧ j ≤ N) (h2 : j < N) : k1 + (j + 1) = 14 ∧ j + 1 ≤ N := by omega
theorem trT_ok {k : Nat} (h : 1 ≤ k) : OpOk (trT k) := ⟨.inr (.inr (.inr (.inr rfl))), by simp [trT, outerB]; omega⟩
theorem trM_ok {k : Nat} (h : 1 ≤ k) : OpOk (trM k) := ⟨.inr (.inl rfl), by simp [trM, outerB]; omega⟩
theorem tr_put1 {N : Nat} {T : Tr} (k : Nat) (h2 : 1 ≤ N ∧ N ≤ 12) (h3 : T.fixed = []) (h4 : T.base = St0) (h5 : T.ops = trL N) : putO T (trT k) 0 = (trL N ++ [trT k], 0) :=
  put_end T (trT k) (trL N) h3 h4 h5 (by rw [trL_length]; omega) (trL_less N _ (by show (N : Int) < 50; omega)) (by show (0 : Int) < 50; omega)
theorem tr_put2 {N : Nat} {T : Tr} (k : Nat) (h2 : 1 ≤ N ∧ N ≤ 12) (h3 : T.fixed = []) (h4 : T.base = St0) (h5 : T.ops = trL N ++ [trT k]) : putO T (trM k) 0 = (trL N ++ [trT k] ++ [trM k], 0) :=
  put_end T (trM k) _ h3 h4 h5 (by rw [List.length_append, trL_length]; simp; omega) (fun o ho => by
    rcases List.mem_append.1 ho with ho | ho
    · exact trL_less N _ (by show (N : Int) < 60; omega) o ho
    · obtain rfl := List.mem_singleton.1 ho
      rfl) (by show (0 : Int) < 60; omega)
theorem tr_chk1 {N k : Nat} (h2 : 1 ≤ N ∧ N ≤ 12) (h : 1 ≤ k ∧ k ≤ N) : tree_Check.f 40 (trT k).f0 (trT k).f1.f0 (trT k).f1.f1 (trT k).f2.f0 (trT k).f2.f1 (trT k).f3.f0 (trT k).f3.f1 (trT k).f4 (trT k).f5 = some 0 ∧ tree_Check.f 40 (trM k).f0 (trM k).f1.f0 (trM k).f1.f1 (trM k).f2.f0 (trM k).f2.f1 (trM k).f3.f0 (trM k).f3.f1 (trM k).f4 (trM k).f5 = some 0 := by
  have h3 := tr_checks (k - 1) (by omega)
  rw [show k - 1 + 1 = k by omega] at h3
  exact ⟨chk_of h3.2.1, chk_of h3.2.2⟩
/-- The tree at the end: what its nodes' parents are. -/
structure TrFin (w wr : World) (g f n : Nat) (N k : Nat) (back : Bool) (v : Value) (T : Tr) : Prop where
  tree : TreeAt wr w.heap.size g f n v T
  node : ∀ i : Nat, 1 ≤ i → i ≤ N → has T.now ⟨(i : Int), 1⟩ = true ∧ (look T.now ⟨(i : Int), 1⟩).f1 = trP k back i
  below : Below w.heap.size w wr
theorem TrFin.under {w wr w' : World} {g f n N k : Nat} {back : Bool} {v : Value} {T : Tr} (h : TrFin w wr g f n N k back v T) (hb : Below wr.heap.size wr w') : TrFin w w' g f n N k back v T :=
  ⟨h.tree.below hb, h.node, below_then h.below h.below.size hb⟩
theorem TrFin.of {w wr : World} {g f n N k : Nat} {back : Bool} {v : Value} {T : Tr} (h : TrAt w wr g f n (trE N k back) v T) (h2 : 1 ≤ N ∧ N ≤ 12) (h1 : 1 ≤ k ∧ k ≤ N) : TrFin w wr g f n N k back v T := by
  have hn : T.now = (trE N k back).foldl doN [] := by
    obtain ⟨l0, hp, he⟩ := h.good.now
    rw [h.fixed] at hp
    obtain rfl := List.Perm.eq_nil hp
    rw [he, h.ops]
  exact ⟨h.tree, by rw [hn]; exact tr_now N k back h2 h1, h.below⟩
/-- Where the law's walk from node i leads to. -/
def trW (k : Nat) (back : Bool) (i : Nat) : Stp := if k ≤ i ∧ back = false then ⟨0, 1⟩ else ⟨0, 0⟩
def TrPath (k : Nat) (back : Bool) (i s : Nat) (q : Stp) : Prop := (∃ m : Nat, s + m = i ∧ 1 ≤ m ∧ q = ⟨(m : Int), 1⟩ ∧ (k ≤ i → k ≤ m)) ∨ (q = trW k back i ∧ s ≤ i)
theorem tr_start (k : Nat) (back : Bool) (j : Nat) : TrPath k back (j + 1) 0 ⟨(j : Int) + 1, 1⟩ := .inl ⟨j + 1, by omega, by omega, rfl, fun h => h⟩
theorem tr_next {k s m i : Nat} {back : Bool} (hk : 1 ≤ k) (h : s + m = i ∧ 1 ≤ m ∧ (k ≤ i → k ≤ m)) : TrPath k back i (s + 1) (trP k back m) := by
  obtain ⟨h1, h2, h3⟩ := h
  unfold trP
  by_cases hm : m = k
  · rw [if_pos hm]
    refine .inr ⟨?_, by omega⟩
    unfold trW
    have : k ≤ i := by omega
    cases back <;> simp [this]
  · rw [if_neg hm]
    by_cases hm1 : m = 1
    · rw [if_pos hm1]
      refine .inr ⟨?_, by omega⟩
      unfold trW
      rw [if_neg (by rintro ⟨h, _⟩; have := h3 h; omega)]
    · rw [if_neg hm1]
      refine .inl ⟨m - 1, by omega, by omega, ?_, fun h => by have := h3 h; omega⟩
      rw [show ((m - 1 : Nat) : Int) = (m : Int) - 1 by omega]
theorem tr_le {s m j N : Nat} (h : s + m = j + 1) (h1 : j < N) : (s : Int) ≤ (N : Int) := by omega
theorem tr_le2 {s m j N : Nat} (h : s + m = j + 1) (h1 : j < N) : m ≤ N := by omega
theorem tr_le3 {s j N : Nat} (h : s ≤ j + 1) (h1 : j < N) : (s : Int) ≤ (N : Int) := by omega
theorem tr_w {s : Nat} (h : s ≤ 13) : wrap64 ((s : Int) + 1) = (s : Int) + 1 := by unfold wrap64; omega
theorem tr_s {k2 s m j N k : Nat} (h : k2 + 1 + s = 15 ∧ s ≤ 13) (h2 : s + m = j + 1 ∧ 1 ≤ m ∧ (k ≤ j + 1 → k ≤ m)) (h1 : j < N) (hN : 1 ≤ N ∧ N ≤ 12) : k2 + (s + 1) = 15 ∧ s + 1 ≤ 13 := by omega
theorem TrFin.set2 {w wr : World} {g f n N k x : Nat} {back : Bool} {v : Value} {T : Tr} (h : TrFin w wr g f n N k back v T) (hx : w.heap.size ≤ x) (hf : ¬ foot g f n v x) (a b : Int) : TrFin w ((wr.setCell ⟨x, 0, none⟩ (.int .i64 a)).setCell ⟨x, 1, none⟩ (.int .i64 b)) g f n N k back v T :=
  ⟨h.tree.stay ((Stay.cell wr ⟨x, 0, none⟩ (.int .i64 a)).trans (Stay.cell _ ⟨x, 1, none⟩ (.int .i64 b)) (fun _ hk => .inl hk)) (fun k hk e => hf (by rw [← show k = x from e]; exact hk)), h.node, below_set (below_set h.below hx) hx⟩
-- TABLE BEGIN
def trash_.T11 : Bool × List (List Nat × List Nat) := (true, [([], []), ([], []), ([1], [1]), ([], []), ([3, 2], [3]), ([], []), ([2, 4, 5], [2, 4, 5]), ([0, 6, 4], [0, 6]), ([7], [7])])
def trash_.B11 : List Nat := [0, 0, 2, 0, 14, 0, 62, 127, 255]
theorem trash_.tab11 : rtab .any (opsOf Tryd.f5 11) = trash_.T11 := by kernel_rfl
theorem trash_.bits11 : waitsOk trash_.T11.2 trash_.B11 = true := by kernel_rfl
-- TABLE END
set_option maxRecDepth 100000 in
set_option maxHeartbeats 4000000 in
theorem trash_calls (w : World) (many which : Int) (back : Bool) (hL : Laid w) : Calls Tryd.prog 5 #[.int .i64 many, .int .i64 which, .bool back] w fun e w' => e = .returned (.bool true) ∧ Below w.heap.size w w' := by
  have hu := Tryd.underlying28
  have hu1 := Tryd.underlying25
  have HL := Aside0.mk hL
  obtain ⟨a1, c1, N, e1, e2, e3, hN1, hN2⟩ := low8 many 12 (by decide) (by decide)
  obtain ⟨a2, c2, k, e4, e5, e6, hk1, hk2⟩ := low8 which N hN1 (by omega)
  have e2' : (a1 : Int).tmod 12 = (c1 : Int) := e2
  have e7 : ((N : Int) = 0) = False := eq_false (by omega)
  have e8 : (N = 0) = False := eq_false (by omega)
  have HN12 := Aside0.mk (show 1 ≤ N ∧ N ≤ 12 from ⟨hN1, hN2⟩)
  have HK12 := Aside0.mk (show 1 ≤ k ∧ k ≤ N from ⟨hk1, hk2⟩)
  clear hL e2 hN1 hN2 hk1 hk2
  go_enter Tryd.func5, Tryd.ntmps5
  go_wp2_with (go_at_call 12; refine (New_calls _).mono ?_; rintro e w1 ⟨g, f, n, rfl, ht, hb⟩; have HT := Aside0.mk ht; have HB := Aside0.mk hb; clear ht hb)
  have HA := Aside0.mk (show TrAt w w1 g f n (trL 0) (.slice none 0 0) ⟨[], [], [], St0⟩ from ⟨HT.out, good_new, rfl, rfl, rfl, HB.out⟩)
  clear HT HB
  try go_frame
  simp only [e3]
  go_loopg [9] 14 (fun kq p wr => ∃ (j : Nat) (v : Value) (T : Tr), Aside0 (kq + j = 14 ∧ j ≤ N) ∧ p = .int .i64 ((j : Int) + 1) ∧ Aside0 (TrAt w wr g f n (trL j) v T))
  case atStart => exact ⟨0, _, _, ⟨by omega, by omega⟩, rfl, HA⟩
  case round =>
    clear HA
    obtain ⟨j, v, T, HK, rfl, HA⟩ := hrel
    obtain ⟨k1, rfl⟩ : ∃ k1, gk = k1 + 1 := ⟨13 - j, by have := HK.out; have := HN12.out; omega⟩
    by_cases h1 : j < N
    · have d1 : decide ((j : Int) + 1 ≤ (N : Int)) = true := decide_eq_true (by omega)
      have H1 := Aside0.mk h1
      have hwj : wrap64 ((j : Int) + 1 + 1) = (j : Int) + 1 + 1 := (tr_few h1 HN12.out).2.2.1
      have HPUT := Aside0.mk (tr_step h1 HN12.out HA.out.fixed HA.out.base HA.out.ops)
      have HCK := Aside0.mk (chk_of (tr_checks j (tr_few h1 HN12.out).2.1).1)
      clear h1
      go_upto_region 9 with fail
      have HX := Aside0.mk (heap_alloc_new wr (.cells #[.int .i64 0, .int .i64 0] 25))
      have HQ := Aside0.mk (below_alloc (Below.refl wr.heap.size wr) (.cells #[.int .i64 0, .int .i64 0] 25))
      obtain ⟨x, hx⟩ : ∃ x, x = wr.heap.size := ⟨_, rfl⟩
      have hxx : wr.heap.size ≤ x := Nat.le_of_eq hx.symm
      rw [← hx] at HX
      rw [← hx]
      clear hx
      generalize wr.alloc (.cells #[.int .i64 0, .int .i64 0] 25) = w2 at HX HQ ⊢
      by_cases h2 : j = 0
      · have d2 : decide (1 < (j : Int) + 1) = false := decide_eq_false (by omega)
        have HJ := Aside0.mk h2
        have HOPE := Aside0.mk (show trO j = ⟨1, ⟨((j : Int) + 1), 1⟩, ⟨((j : Int) + 1), 1⟩, ⟨0, 0⟩, ⟨#[110]⟩, ⟨#[]⟩⟩ by unfold trO; rw [if_pos h2])
        have HOK := Aside0.mk (trO_ok j)
        rw [HOPE.out] at HPUT HCK HOK
        clear h2
        go_upto_region 11 with fail
        replace HA := Aside0.mk ((HA.out.under HQ.out).under (Below.refl w2.heap.size w2).drew)
        replace HX := Aside0.mk (show w2.drew.heap[x]? = _ from HX.out)
        refine start_ (n := 9) (S := fun w' => w'.cell? ⟨x, 0, none⟩ = some (.int .i64 0) ∧ w'.cell? ⟨x, 1, none⟩ = some (.int .i64 0)) (ds := [7]) #[false, false, false, false, false, false, false, false, false] (by kernel_rfl) rfl rfl ⟨(blk_cell HX.out 0), (blk_cell HX.out 1)⟩ (fun hHeld => ?_)
        refine with_tabW trash_.tab11 trash_.bits11 (fun HT_ HW_ => ?_)
        refine pure_ (i := 0) (N := some 36) (v := ?_) (a' := ?_) #[true, false, false, false, false, false, false, false, false] rfl rfl (any_of HT_.out (by kernel_rfl)) (fun _ _ _ h => h) (Or.inl ⟨by rfl, ?_⟩) ?_ ?_
        rotate_left
        · intro w'
          go_simp
          with_reducible rfl
        rotate_left
        · simp only [Act.put, List.setIfInBounds_toArray, List.set_cons_zero, List.set_cons_succ, i64_w, i32_w]
          rfl
        refine pure_ (i := 1) (N := some 37) (v := ?_) (a' := ?_) #[true, true, false, false, false, false, false, false, false] rfl rfl (any_of HT_.out (by kernel_rfl)) (fun _ _ _ h => h) (Or.inl ⟨by rfl, ?_⟩) ?_ ?_
        rotate_left
        · intro w'
          go_simp
          with_reducible rfl
        rotate_left
        · simp only [Act.put, List.setIfInBounds_toArray, List.set_cons_zero, List.set_cons_succ, i64_w, i32_w]
          rfl
        refine pure_ (i := 3) (N := some 39) (v := ?_) (a' := ?_) #[true, true, false, true, false, false, false, false, false] rfl rfl (any_of HT_.out (by kernel_rfl)) (fun _ _ _ h => h) (Or.inl ⟨by rfl, ?_⟩) ?_ ?_
        rotate_left
        · intro w'
          go_simp
          with_reducible rfl
        rotate_left
        · simp only [Act.put, List.setIfInBounds_toArray, List.set_cons_zero, List.set_cons_succ, i64_w, i32_w]
          rfl
        refine take_ (i := 5) (N := some 41) (v := ?_) (a' := ?_) #[true, true, false, true, false, true, false, false, false] rfl rfl (take_ofW HT_.out HW_.out (by kernel_rfl)) (fun _ _ _ h => h) (Or.inl ⟨by rfl, ?_⟩) hHeld ?_ ?_
        rotate_left
        · rintro w' ⟨s0, s1⟩
          go_simp
          with_reducible rfl
        rotate_left
        · simp only [Act.put, List.setIfInBounds_toArray, List.set_cons_zero, List.set_cons_succ, i64_w, i32_w]
          rfl
        refine one_ (i := 2) (N := some 38) #[true, true, true, true, false, true, false, false, false] rfl rfl (one_of HT_.out (by kernel_rfl)) (by decide) (fun K hK => ?_)
        refine goes_ Tryd.func13 (by kernel_rfl) rfl #[.int .i64 ((j : Int) + 1), .int .i64 1] (by rfl) rfl rfl (by simp only [List.map_toArray, List.map_cons, List.map_nil]; rfl) ?_
        with_reducible refine (samphirelaw11_at.calls _ _ _ _ _ rfl).mono ?_
        rintro e w5 ⟨rfl, hb⟩
        refine ⟨_, rfl, ?_⟩
        replace HA := Aside0.mk (HA.out.under hb)
        replace HX := Aside0.mk (blk_below HX.out hb)
        clear hb
        refine hK.out _ _ ⟨(blk_cell HX.out 0), (blk_cell HX.out 1)⟩ (fun hHeld => ?_)
        clear hK K
        refine norm_ (a' := ?_) ?_ ?_
        rotate_left
        · show Act.put _ (some 38) _ = _
          simp only [Act.put, List.setIfInBounds_toArray, List.set_cons_zero, List.set_cons_succ, i64_w, i32_w]
          rfl
        refine one_ (i := 4) (N := some 40) #[true, true, true, true, true, true, false, false, false] rfl rfl (one_of HT_.out (by kernel_rfl)) (by decide) (fun K hK => ?_)
        refine goes_ Tryd.func13 (by kernel_rfl) rfl #[.int .i64 ((j : Int) + 1), .int .i64 1] (by rfl) rfl rfl (by simp only [List.map_toArray, List.map_cons, List.map_nil]; rfl) ?_
        with_reducible refine (samphirelaw11_at.calls _ _ _ _ _ rfl).mono ?_
        rintro e w5 ⟨rfl, hb⟩
        refine ⟨_, rfl, ?_⟩
        replace HA := Aside0.mk (HA.out.under hb)
        replace HX := Aside0.mk (blk_below HX.out hb)
        clear hb
        refine hK.out _ _ ⟨(blk_cell HX.out 0), (blk_cell HX.out 1)⟩ (fun hHeld => ?_)
        clear hK K
        refine norm_ (a' := ?_) ?_ ?_
        rotate_left
        · show Act.put _ (some 40) _ = _
          simp only [Act.put, List.setIfInBounds_toArray, List.set_cons_zero, List.set_cons_succ, i64_w, i32_w]
          rfl
        refine pure_ (i := 6) (N := some 42) (v := ?_) (a' := ?_) #[true, true, true, true, true, true, true, false, false] rfl rfl (any_of HT_.out (by kernel_rfl)) (fun _ _ _ h => h) (Or.inl ⟨by rfl, ?_⟩) ?_ ?_
        rotate_left
        · intro w'
          go_simp
          with_reducible rfl
        rotate_left
        · simp only [Act.put, List.setIfInBounds_toArray, List.set_cons_zero, List.set_cons_succ, i64_w, i32_w]
          rfl
        refine last_ (i := 7) (N := some 43) #[true, true, true, true, true, true, true, true, false] rfl rfl (one_of HT_.out (by kernel_rfl)) (by decide) (fun K hK => ?_)
        refine goes_ Tryd.func14 (by kernel_rfl) rfl #[.pointer (some ⟨g, 0, none⟩), .agg #[.int .i64 1, .int .i64 ((j : Int) + 1), .int .i64 1, .int .i64 ((j : Int) + 1), .int .i64 1, .int .i64 0, .int .i64 0, .string ⟨#[110]⟩, .string ⟨#[]⟩]] (by rfl) rfl rfl (by simp only [List.map_toArray, List.map_cons, List.map_nil]; rfl) ?_
        with_reducible refine (Apply_calls _ _ g f n _ T ⟨1, ⟨((j : Int) + 1), 1⟩, ⟨((j : Int) + 1), 1⟩, ⟨0, 0⟩, ⟨#[110]⟩, ⟨#[]⟩⟩ 40 0 HA.out.tree HA.out.good HCK.out (fun _ => HOK.out) (HL.out.below HA.out.below)).mono ?_
        rintro e w6 ⟨T', v', rfl, ht, hg, h1, h2, h3, h4, h5⟩
        rw [HPUT.out] at h3 ⊢
        refine ⟨_, rfl, ?_⟩
        have HA' := Aside0.mk (HA.out.step ht hg h1 h2 h3 h4)
        clear ht hg h1 h2 h3 h4 h5
        refine hK.out _ _ ?_
        clear hK K
        refine norm_ (a' := ?_) ?_ ?_
        rotate_left
        · show Act.put _ (some 43) _ = _
          simp only [Act.put, List.setIfInBounds_toArray, List.set_cons_zero, List.set_cons_succ, i64_w, i32_w]
          rfl
        refine pure_ (i := 8) (N := some 44) (v := ?_) (a' := ?_) #[true, true, true, true, true, true, true, true, true] rfl rfl (any_of HT_.out (by kernel_rfl)) (fun _ _ _ h => h) (Or.inl ⟨by rfl, ?_⟩) ?_ ?_
        rotate_left
        · intro w'
          go_simp
          with_reducible rfl
        rotate_left
        · simp only [Act.put, List.setIfInBounds_toArray, List.set_cons_zero, List.set_cons_succ, i64_w, i32_w]
          rfl
        refine done_ (done_of HT_.out (by kernel_rfl)) ?_

        go_wp2
        go_roundg k1
        case measure => exact Nat.lt_succ_self _
        case rel => exact ⟨j + 1, v', T', ⟨tr_k HK.out H1.out⟩, rfl, HA'⟩
      · have d2 : decide (1 < (j : Int) + 1) = true := decide_eq_true (by omega)
        have hjm : wrap64 (j : Int) = (j : Int) := (tr_few H1.out HN12.out).2.2.2
        have HJ := Aside0.mk h2
        have HOPE := Aside0.mk (show trO j = ⟨1, ⟨((j : Int) + 1), 1⟩, ⟨((j : Int) + 1), 1⟩, ⟨(j : Int), 1⟩, ⟨#[110]⟩, ⟨#[]⟩⟩ by unfold trO; rw [if_neg h2])
        have HOK := Aside0.mk (trO_ok j)
        rw [HOPE.out] at HPUT HCK HOK
        clear h2
        go_upto_region 10 with fail
        obtain ⟨z0, z1, z2, z3⟩ := Z2 HX.out
        go_upto_region 11 with (first | (go_at_call 13; refine (samphirelaw11_at.calls _ _ _ _ _ rfl).mono ?_; rintro e w1 ⟨rfl, hb⟩; replace HQ := Aside0.mk (below_then HQ.out HQ.out.size hb); replace HX := Aside0.mk (blk_below HX.out hb); clear hb; obtain ⟨z0, z1, z2, z3⟩ := Z2 HX.out) | fail)
        generalize w1 = w3 at HQ HX ⊢
        replace HQ := Aside0.mk (below_set (j := 0) (v := .int .i64 (j : Int)) HQ.out hxx)
        replace HX := Aside0.mk (blk_put HX.out 0 (.int .i64 (j : Int)) (show (#[.int .i64 0, .int .i64 0] : Array Value).setIfInBounds 0 (.int .i64 (j : Int)) = #[.int .i64 (j : Int), .int .i64 0] from rfl))
        generalize w3.setCell ⟨x, 0, none⟩ (.int .i64 (j : Int)) = y1 at HQ HX ⊢
        replace HQ := Aside0.mk (below_set (j := 1) (v := .int .i64 1) HQ.out hxx)
        replace HX := Aside0.mk (blk_put HX.out 1 (.int .i64 1) (show (#[.int .i64 (j : Int), .int .i64 0] : Array Value).setIfInBounds 1 (.int .i64 1) = #[.int .i64 (j : Int), .int .i64 1] from rfl))
        generalize y1.setCell ⟨x, 1, none⟩ (.int .i64 1) = w2 at HQ HX ⊢
        replace HA := Aside0.mk ((HA.out.under HQ.out).under (Below.refl w2.heap.size w2).drew)
        replace HX := Aside0.mk (show w2.drew.heap[x]? = _ from HX.out)
        refine start_ (n := 9) (S := fun w' => w'.cell? ⟨x, 0, none⟩ = some (.int .i64 (j : Int)) ∧ w'.cell? ⟨x, 1, none⟩ = some (.int .i64 1)) (ds := [7]) #[false, false, false, false, false, false, false, false, false] (by kernel_rfl) rfl rfl ⟨(blk_cell HX.out 0), (blk_cell HX.out 1)⟩ (fun hHeld => ?_)
        refine with_tabW trash_.tab11 trash_.bits11 (fun HT_ HW_ => ?_)
        refine pure_ (i := 0) (N := some 36) (v := ?_) (a' := ?_) #[true, false, false, false, false, false, false, false, false] rfl rfl (any_of HT_.out (by kernel_rfl)) (fun _ _ _ h => h) (Or.inl ⟨by rfl, ?_⟩) ?_ ?_
        rotate_left
        · intro w'
          go_simp
          with_reducible rfl
        rotate_left
        · simp only [Act.put, List.setIfInBounds_toArray, List.set_cons_zero, List.set_cons_succ, i64_w, i32_w]
          rfl
        refine pure_ (i := 1) (N := some 37) (v := ?_) (a' := ?_) #[true, true, false, false, false, false, false, false, false] rfl rfl (any_of HT_.out (by kernel_rfl)) (fun _ _ _ h => h) (Or.inl ⟨by rfl, ?_⟩) ?_ ?_
        rotate_left
        · intro w'
          go_simp
          with_reducible rfl
        rotate_left
        · simp only [Act.put, List.setIfInBounds_toArray, List.set_cons_zero, List.set_cons_succ, i64_w, i32_w]
          rfl
        refine pure_ (i := 3) (N := some 39) (v := ?_) (a' := ?_) #[true, true, false, true, false, false, false, false, false] rfl rfl (any_of HT_.out (by kernel_rfl)) (fun _ _ _ h => h) (Or.inl ⟨by rfl, ?_⟩) ?_ ?_
        rotate_left
        · intro w'
          go_simp
          with_reducible rfl
        rotate_left
        · simp only [Act.put, List.setIfInBounds_toArray, List.set_cons_zero, List.set_cons_succ, i64_w, i32_w]
          rfl
        refine take_ (i := 5) (N := some 41) (v := ?_) (a' := ?_) #[true, true, false, true, false, true, false, false, false] rfl rfl (take_ofW HT_.out HW_.out (by kernel_rfl)) (fun _ _ _ h => h) (Or.inl ⟨by rfl, ?_⟩) hHeld ?_ ?_
        rotate_left
        · rintro w' ⟨s0, s1⟩
          go_simp
          with_reducible rfl
        rotate_left
        · simp only [Act.put, List.setIfInBounds_toArray, List.set_cons_zero, List.set_cons_succ, i64_w, i32_w]
          rfl
        refine one_ (i := 2) (N := some 38) #[true, true, true, true, false, true, false, false, false] rfl rfl (one_of HT_.out (by kernel_rfl)) (by decide) (fun K hK => ?_)
        refine goes_ Tryd.func13 (by kernel_rfl) rfl #[.int .i64 ((j : Int) + 1), .int .i64 1] (by rfl) rfl rfl (by simp only [List.map_toArray, List.map_cons, List.map_nil]; rfl) ?_
        with_reducible refine (samphirelaw11_at.calls _ _ _ _ _ rfl).mono ?_
        rintro e w5 ⟨rfl, hb⟩
        refine ⟨_, rfl, ?_⟩
        replace HA := Aside0.mk (HA.out.under hb)
        replace HX := Aside0.mk (blk_below HX.out hb)
        clear hb
        refine hK.out _ _ ⟨(blk_cell HX.out 0), (blk_cell HX.out 1)⟩ (fun hHeld => ?_)
        clear hK K
        refine norm_ (a' := ?_) ?_ ?_
        rotate_left
        · show Act.put _ (some 38) _ = _
          simp only [Act.put, List.setIfInBounds_toArray, List.set_cons_zero, List.set_cons_succ, i64_w, i32_w]
          rfl
        refine one_ (i := 4) (N := some 40) #[true, true, true, true, true, true, false, false, false] rfl rfl (one_of HT_.out (by kernel_rfl)) (by decide) (fun K hK => ?_)
        refine goes_ Tryd.func13 (by kernel_rfl) rfl #[.int .i64 ((j : Int) + 1), .int .i64 1] (by rfl) rfl rfl (by simp only [List.map_toArray, List.map_cons, List.map_nil]; rfl) ?_
        with_reducible refine (samphirelaw11_at.calls _ _ _ _ _ rfl).mono ?_
        rintro e w5 ⟨rfl, hb⟩
        refine ⟨_, rfl, ?_⟩
        replace HA := Aside0.mk (HA.out.under hb)
        replace HX := Aside0.mk (blk_below HX.out hb)
        clear hb
        refine hK.out _ _ ⟨(blk_cell HX.out 0), (blk_cell HX.out 1)⟩ (fun hHeld => ?_)
        clear hK K
        refine norm_ (a' := ?_) ?_ ?_
        rotate_left
        · show Act.put _ (some 40) _ = _
          simp only [Act.put, List.setIfInBounds_toArray, List.set_cons_zero, List.set_cons_succ, i64_w, i32_w]
          rfl
        refine pure_ (i := 6) (N := some 42) (v := ?_) (a' := ?_) #[true, true, true, true, true, true, true, false, false] rfl rfl (any_of HT_.out (by kernel_rfl)) (fun _ _ _ h => h) (Or.inl ⟨by rfl, ?_⟩) ?_ ?_
        rotate_left
        · intro w'
          go_simp
          with_reducible rfl
        rotate_left
        · simp only [Act.put, List.setIfInBounds_toArray, List.set_cons_zero, List.set_cons_succ, i64_w, i32_w]
          rfl
        refine last_ (i := 7) (N := some 43) #[true, true, true, true, true, true, true, true, false] rfl rfl (one_of HT_.out (by kernel_rfl)) (by decide) (fun K hK => ?_)
        refine goes_ Tryd.func14 (by kernel_rfl) rfl #[.pointer (some ⟨g, 0, none⟩), .agg #[.int .i64 1, .int .i64 ((j : Int) + 1), .int .i64 1, .int .i64 ((j : Int) + 1), .int .i64 1, .int .i64 (j : Int), .int .i64 1, .string ⟨#[110]⟩, .string ⟨#[]⟩]] (by rfl) rfl rfl (by simp only [List.map_toArray, List.map_cons, List.map_nil]; rfl) ?_
        with_reducible refine (Apply_calls _ _ g f n _ T ⟨1, ⟨((j : Int) + 1), 1⟩, ⟨((j : Int) + 1), 1⟩, ⟨(j : Int), 1⟩, ⟨#[110]⟩, ⟨#[]⟩⟩ 40 0 HA.out.tree HA.out.good HCK.out (fun _ => HOK.out) (HL.out.below HA.out.below)).mono ?_
        rintro e w6 ⟨T', v', rfl, ht, hg, h1, h2, h3, h4, h5⟩
        rw [HPUT.out] at h3 ⊢
        refine ⟨_, rfl, ?_⟩
        have HA' := Aside0.mk (HA.out.step ht hg h1 h2 h3 h4)
        clear ht hg h1 h2 h3 h4 h5
        refine hK.out _ _ ?_
        clear hK K
        refine norm_ (a' := ?_) ?_ ?_
        rotate_left
        · show Act.put _ (some 43) _ = _
          simp only [Act.put, List.setIfInBounds_toArray, List.set_cons_zero, List.set_cons_succ, i64_w, i32_w]
          rfl
        refine pure_ (i := 8) (N := some 44) (v := ?_) (a' := ?_) #[true, true, true, true, true, true, true, true, true] rfl rfl (any_of HT_.out (by kernel_rfl)) (fun _ _ _ h => h) (Or.inl ⟨by rfl, ?_⟩) ?_ ?_
        rotate_left
        · intro w'
          go_simp
          with_reducible rfl
        rotate_left
        · simp only [Act.put, List.setIfInBounds_toArray, List.set_cons_zero, List.set_cons_succ, i64_w, i32_w]
          rfl
        refine done_ (done_of HT_.out (by kernel_rfl)) ?_

        go_wp2
        go_roundg k1
        case measure => exact Nat.lt_succ_self _
        case rel => exact ⟨j + 1, v', T', ⟨tr_k HK.out H1.out⟩, rfl, HA'⟩
    · have d1 : decide ((j : Int) + 1 ≤ (N : Int)) = false := decide_eq_false (by omega)
      have HJN := Aside0.mk (show j = N by have := HK.out; omega)
      clear h1
      have HPT := Aside0.mk (tr_put1 k HN12.out HA.out.fixed HA.out.base (HA.out.ops.trans (by rw [HJN.out])))
      have HC1 := Aside0.mk (tr_chk1 HN12.out HK12.out)
      cases back
      · go_upto_region 16 with (first
          | (go_at_call 13; refine (samphirelaw11_at.calls _ _ _ _ _ rfl).mono ?_; rintro e w1 ⟨rfl, hb⟩; replace HA := Aside0.mk (HA.out.under hb); clear hb)
          | (go_at_call 14; have hp_ := HPT.out; have h_p := Aside0.mk hp_; clear hp_; refine (Apply_calls _ _ g f n _ _ (trT k) 40 0 HA.out.tree HA.out.good HC1.out.1 (fun _ => trT_ok HK12.out.1) (HL.out.below HA.out.below)).mono ?_; rintro e w' ⟨T', v', rfl, ht, hg, h1, h2, h3, h4, h5⟩; rw [h_p.out] at h3 ⊢; replace HA := Aside0.mk (HA.out.step ht hg h1 h2 h3 h4); clear ht hg h1 h2 h3 h4 h5 h_p HPT))
        have HF := Aside0.mk (TrFin.of (N := N) (k := k) (back := false) ⟨HA.out.tree, HA.out.good, HA.out.fixed, HA.out.base, HA.out.ops.trans (List.append_nil _).symm, HA.out.below⟩ HN12.out HK12.out)
        clear HA HC1 HK HJN
        try clear HPT
        try clear e1
        clear e2' e3 e4 e5 e6 e7 e8
        go_wp2_with fail
        try go_frame
        go_loopg [12] 14 (fun kq p wr => ∃ (j : Nat) (v : Value) (T : Tr), Aside0 (kq + j = 14 ∧ j ≤ N) ∧ p = .int .i64 ((j : Int) + 1) ∧ Aside0 (TrFin w wr g f n N k false v T))
        case atStart => exact ⟨0, _, _, ⟨by omega, by omega⟩, rfl, HF⟩
        case round =>
          clear HF
          obtain ⟨j, v, T, HK, rfl, HF⟩ := hrel
          obtain ⟨k1, rfl⟩ : ∃ k1, gk = k1 + 1 := ⟨13 - j, by have := HK.out; have := HN12.out; omega⟩
          by_cases h1 : j < N
          · have d1 : decide ((j : Int) + 1 ≤ (N : Int)) = true := decide_eq_true (by omega)
            have H1 := Aside0.mk h1
            have hwj : wrap64 ((j : Int) + 1 + 1) = (j : Int) + 1 + 1 := (tr_few h1 HN12.out).2.2.1
            clear h1
            go_upto_region 20 with (go_at_call 13; refine (samphirelaw11_at.calls _ _ _ _ _ rfl).mono ?_; rintro e w1 ⟨rfl, hb⟩; replace HF := Aside0.mk (HF.out.under hb); clear hb)
            have HX := Aside0.mk (heap_alloc_new w1 (.cells #[.int .i64 ((j : Int) + 1), .int .i64 1] 25))
            have HQ := Aside0.mk (below_alloc (Below.refl w1.heap.size w1) (.cells #[.int .i64 ((j : Int) + 1), .int .i64 1] 25))
            obtain ⟨x, hx⟩ : ∃ x, x = w1.heap.size := ⟨_, rfl⟩
            have hxx : w.heap.size ≤ x := by rw [hx]; exact HF.out.below.size
            have HNF := Aside0.mk HF.out.tree.not_foot
            replace HF := Aside0.mk (HF.out.under HQ.out)
            rw [← hx] at HX HNF
            rw [← hx]
            clear hx HQ
            generalize w1.alloc (.cells #[.int .i64 ((j : Int) + 1), .int .i64 1] 25) = w2 at HX HF ⊢
            go_wp2_with fail
            try go_frame
            go_loopg [14] 15 (fun kq p wr => ∃ (s : Nat) (q : Stp), Aside0 (kq + s = 15 ∧ s ≤ 13) ∧ p = .int .i64 (s : Int) ∧ Aside0 (wr.heap[x]? = some (.cells #[.int .i64 q.f0, .int .i64 q.f1] 25 (0, 0))) ∧ Aside0 (TrPath k false (j + 1) s q) ∧ Aside0 (TrFin w wr g f n N k false v T))
            case atStart => exact ⟨0, ⟨((j : Int) + 1), 1⟩, ⟨by omega, by omega⟩, rfl, HX, ⟨tr_start k false j⟩, HF⟩
            case round =>
              clear HX HF
              obtain ⟨s, q, HS, rfl, HX, HPA, HF⟩ := hrel
              obtain ⟨k2, rfl⟩ : ∃ k2, gk = k2 + 1 := ⟨14 - s, by have := HS.out; omega⟩
              obtain ⟨z0, z1, z2, z3⟩ := Z2 HX.out
              rcases HPA.out with ⟨m, hs, hm, rfl, hkm⟩ | ⟨rfl, hs⟩
              · have HM := Aside0.mk (show s + m = j + 1 ∧ 1 ≤ m ∧ (k ≤ j + 1 → k ≤ m) from ⟨hs, hm, hkm⟩)
                have d3 : decide ((s : Int) ≤ (N : Int)) = true := decide_eq_true (tr_le HM.out.1 H1.out)
                have d8 : (s ≤ N) = True := eq_true (Int.ofNat_le.1 (tr_le HM.out.1 H1.out))
                have d4 : decide ((0 : Int) < (m : Int)) = true := decide_eq_true (by omega)
                have d6 : decide (0 < m) = true := decide_eq_true (by omega)
                have d7 : (0 < m) = True := eq_true (by omega)
                have hws : wrap64 ((s : Int) + 1) = (s : Int) + 1 := tr_w HS.out.2
                have hn := HF.out.node m hm (tr_le2 HM.out.1 H1.out)
                have hh : has T.now ⟨(m : Int), 1⟩ = true := hn.1
                have HP := Aside0.mk hn.2
                clear hs hm hkm hn
                go_upto_region 24 with (go_at_call 19; refine (Get_calls _ _ g f n v T ⟨_, _⟩ HF.out.tree).mono ?_; rintro e w1 ⟨rfl, hb⟩; replace HF := Aside0.mk (HF.out.under hb); replace HX := Aside0.mk (blk_below HX.out hb); clear hb)
                generalize look T.now ⟨(m : Int), 1⟩ = y at HP ⊢
                have HY := Aside0.mk (heap_alloc_new w1 (.cells #[.int .i64 y.f0.f0, .int .i64 y.f0.f1, .int .i64 y.f1.f0, .int .i64 y.f1.f1, .string y.f2, .string y.f3] 36))
                replace HX := Aside0.mk (blk_below HX.out (below_alloc (Below.refl w1.heap.size w1) (.cells #[.int .i64 y.f0.f0, .int .i64 y.f0.f1, .int .i64 y.f1.f0, .int .i64 y.f1.f1, .string y.f2, .string y.f3] 36)))
                replace HF := Aside0.mk (HF.out.under (below_alloc (Below.refl w1.heap.size w1) (.cells #[.int .i64 y.f0.f0, .int .i64 y.f0.f1, .int .i64 y.f1.f0, .int .i64 y.f1.f1, .string y.f2, .string y.f3] 36)))
                generalize w1.heap.size = xy at HY ⊢
                generalize w1.alloc (.cells #[.int .i64 y.f0.f0, .int .i64 y.f0.f1, .int .i64 y.f1.f0, .int .i64 y.f1.f1, .string y.f2, .string y.f3] 36) = w3 at HX HF HY ⊢
                obtain ⟨y0, y1, y2, y3, y4, y5⟩ := Y6 HY.out
                obtain ⟨x0, x1, x2, x3⟩ := Z2 HX.out
                clear z0 z1 z2 z3
                go_wp2
                have HX5 := Aside0.mk (blk_put (blk_put HX.out 0 (.int .i64 y.f1.f0) (show (#[.int .i64 (m : Int), .int .i64 1] : Array Value).setIfInBounds 0 (.int .i64 y.f1.f0) = #[.int .i64 y.f1.f0, .int .i64 1] from rfl)) 1 (.int .i64 y.f1.f1) (show (#[.int .i64 y.f1.f0, .int .i64 1] : Array Value).setIfInBounds 1 (.int .i64 y.f1.f1) = #[.int .i64 y.f1.f0, .int .i64 y.f1.f1] from rfl))
                have HF5 := Aside0.mk (HF.out.set2 hxx HNF.out y.f1.f0 y.f1.f1)
                go_roundg k2
                case measure => exact Nat.lt_succ_self _
                case rel => exact ⟨s + 1, y.f1, ⟨tr_s HS.out HM.out H1.out HN12.out⟩, (by first | rfl | (rw [hws]; rfl)), HX5, ⟨by rw [HP.out]; exact tr_next HK12.out.1 HM.out⟩, HF5⟩
              · have d3 : decide ((s : Int) ≤ (N : Int)) = true := decide_eq_true (tr_le3 hs H1.out)
                have d8 : (s ≤ N) = True := eq_true (Int.ofNat_le.1 (tr_le3 hs H1.out))
                clear hs
                by_cases hki : k ≤ j + 1
                · have d5 : decide ((k : Int) ≤ (j : Int) + 1) = true := decide_eq_true (by omega)
                  have hW : trW k false (j + 1) = ⟨0, 1⟩ := by unfold trW; simp [hki]
                  simp only [hW] at z0 z1 z2 z3
                  have HXW := Aside0.mk (show wr.heap[x]? = some (.cells #[.int .i64 0, .int .i64 1] 25 (0, 0)) by have := HX.out; rw [hW] at this; exact this)
                  clear hki hW
                  have hxlt : x < wr.heap.size := blk_lt HXW.out
                  replace HF := Aside0.mk (HF.out.under (below_alloc (Below.refl wr.heap.size wr) (.cells #[.int .i64 0, .int .i64 1] 25)))
                  go_wp2
                  go_roundg k1
                  case measure => exact Nat.lt_succ_self _
                  case rel => exact ⟨j + 1, v, T, ⟨tr_k HK.out H1.out⟩, (by first | rfl | (rw [hwj]; rfl)), HF⟩
                · have d5 : decide ((k : Int) ≤ (j : Int) + 1) = false := decide_eq_false (by omega)
                  have hW : trW k false (j + 1) = ⟨0, 0⟩ := by unfold trW; simp [hki]
                  simp only [hW] at z0 z1 z2 z3
                  have HXW := Aside0.mk (show wr.heap[x]? = some (.cells #[.int .i64 0, .int .i64 0] 25 (0, 0)) by have := HX.out; rw [hW] at this; exact this)
                  clear hki hW
                  go_upto_region 30 with fail
                  have HW := Aside0.mk (heap_alloc_new wr (.cells #[.int .i64 0, .int .i64 0] 25))
                  replace HXW := Aside0.mk (blk_below HXW.out (below_alloc (Below.refl wr.heap.size wr) (.cells #[.int .i64 0, .int .i64 0] 25)))
                  replace HF := Aside0.mk (HF.out.under (below_alloc (Below.refl wr.heap.size wr) (.cells #[.int .i64 0, .int .i64 0] 25)))
                  clear z0 z1 z2 z3
                  generalize wr.heap.size = xw at HW ⊢
                  generalize wr.alloc (.cells #[.int .i64 0, .int .i64 0] 25) = w5 at HXW HW HF ⊢
                  obtain ⟨x0, x1⟩ := Y2 HXW.out
                  obtain ⟨y0, y1⟩ := Y2 HW.out
                  go_wp2
                  go_roundg k1
                  case measure => exact Nat.lt_succ_self _
                  case rel => exact ⟨j + 1, v, T, ⟨tr_k HK.out H1.out⟩, (by first | rfl | (rw [hwj]; rfl)), HF⟩
          · have d1 : decide ((j : Int) + 1 ≤ (N : Int)) = false := decide_eq_false (by omega)
            clear h1
            go_wp2_with (go_at_call 16; refine (awake_calls _ (HL.out.below HF.out.below)).mono ?_; rintro e w1 ⟨rfl, hb⟩; have HQ := Aside0.mk (below_then HF.out.below HF.out.below.size hb); clear hb)
            go_ret
            exact ⟨rfl, HQ.out⟩
      · go_upto_region 16 with (first
          | (go_at_call 13; refine (samphirelaw11_at.calls _ _ _ _ _ rfl).mono ?_; rintro e w1 ⟨rfl, hb⟩; replace HA := Aside0.mk (HA.out.under hb); clear hb)
          | (go_at_call 14; have hp_ := HPT.out; have h_p := Aside0.mk hp_; clear hp_; refine (Apply_calls _ _ g f n _ _ (trT k) 40 0 HA.out.tree HA.out.good HC1.out.1 (fun _ => trT_ok HK12.out.1) (HL.out.below HA.out.below)).mono ?_; rintro e w' ⟨T', v', rfl, ht, hg, h1, h2, h3, h4, h5⟩; rw [h_p.out] at h3 ⊢; replace HA := Aside0.mk (HA.out.step ht hg h1 h2 h3 h4); clear ht hg h1 h2 h3 h4 h5 h_p HPT)
          | (go_at_call 14; have hp_ := tr_put2 k HN12.out HA.out.fixed HA.out.base HA.out.ops; have h_p := Aside0.mk hp_; clear hp_; refine (Apply_calls _ _ g f n _ _ (trM k) 40 0 HA.out.tree HA.out.good HC1.out.2 (fun _ => trM_ok HK12.out.1) (HL.out.below HA.out.below)).mono ?_; rintro e w' ⟨T', v', rfl, ht, hg, h1, h2, h3, h4, h5⟩; rw [h_p.out] at h3 ⊢; replace HA := Aside0.mk (HA.out.step ht hg h1 h2 h3 h4); clear ht hg h1 h2 h3 h4 h5 h_p))
        have HF := Aside0.mk (TrFin.of (N := N) (k := k) (back := true) ⟨HA.out.tree, HA.out.good, HA.out.fixed, HA.out.base, HA.out.ops, HA.out.below⟩ HN12.out HK12.out)
        clear HA HC1 HK HJN
        try clear HPT
        try clear e1
        clear e2' e3 e4 e5 e6 e7 e8
        go_wp2_with fail
        try go_frame
        go_loopg [12] 14 (fun kq p wr => ∃ (j : Nat) (v : Value) (T : Tr), Aside0 (kq + j = 14 ∧ j ≤ N) ∧ p = .int .i64 ((j : Int) + 1) ∧ Aside0 (TrFin w wr g f n N k true v T))
        case atStart => exact ⟨0, _, _, ⟨by omega, by omega⟩, rfl, HF⟩
        case round =>
          clear HF
          obtain ⟨j, v, T, HK, rfl, HF⟩ := hrel
          obtain ⟨k1, rfl⟩ : ∃ k1, gk = k1 + 1 := ⟨13 - j, by have := HK.out; have := HN12.out; omega⟩
          by_cases h1 : j < N
          · have d1 : decide ((j : Int) + 1 ≤ (N : Int)) = true := decide_eq_true (by omega)
            have H1 := Aside0.mk h1
            have hwj : wrap64 ((j : Int) + 1 + 1) = (j : Int) + 1 + 1 := (tr_few h1 HN12.out).2.2.1
            clear h1
            go_upto_region 20 with (go_at_call 13; refine (samphirelaw11_at.calls _ _ _ _ _ rfl).mono ?_; rintro e w1 ⟨rfl, hb⟩; replace HF := Aside0.mk (HF.out.under hb); clear hb)
            have HX := Aside0.mk (heap_alloc_new w1 (.cells #[.int .i64 ((j : Int) + 1), .int .i64 1] 25))
            have HQ := Aside0.mk (below_alloc (Below.refl w1.heap.size w1) (.cells #[.int .i64 ((j : Int) + 1), .int .i64 1] 25))
            obtain ⟨x, hx⟩ : ∃ x, x = w1.heap.size := ⟨_, rfl⟩
            have hxx : w.heap.size ≤ x := by rw [hx]; exact HF.out.below.size
            have HNF := Aside0.mk HF.out.tree.not_foot
            replace HF := Aside0.mk (HF.out.under HQ.out)
            rw [← hx] at HX HNF
            rw [← hx]
            clear hx HQ
            generalize w1.alloc (.cells #[.int .i64 ((j : Int) + 1), .int .i64 1] 25) = w2 at HX HF ⊢
            go_wp2_with fail
            try go_frame
            go_loopg [14] 15 (fun kq p wr => ∃ (s : Nat) (q : Stp), Aside0 (kq + s = 15 ∧ s ≤ 13) ∧ p = .int .i64 (s : Int) ∧ Aside0 (wr.heap[x]? = some (.cells #[.int .i64 q.f0, .int .i64 q.f1] 25 (0, 0))) ∧ Aside0 (TrPath k true (j + 1) s q) ∧ Aside0 (TrFin w wr g f n N k true v T))
            case atStart => exact ⟨0, ⟨((j : Int) + 1), 1⟩, ⟨by omega, by omega⟩, rfl, HX, ⟨tr_start k true j⟩, HF⟩
            case round =>
              clear HX HF
              obtain ⟨s, q, HS, rfl, HX, HPA, HF⟩ := hrel
              obtain ⟨k2, rfl⟩ : ∃ k2, gk = k2 + 1 := ⟨14 - s, by have := HS.out; omega⟩
              obtain ⟨z0, z1, z2, z3⟩ := Z2 HX.out
              rcases HPA.out with ⟨m, hs, hm, rfl, hkm⟩ | ⟨rfl, hs⟩
              · have HM := Aside0.mk (show s + m = j + 1 ∧ 1 ≤ m ∧ (k ≤ j + 1 → k ≤ m) from ⟨hs, hm, hkm⟩)
                have d3 : decide ((s : Int) ≤ (N : Int)) = true := decide_eq_true (tr_le HM.out.1 H1.out)
                have d8 : (s ≤ N) = True := eq_true (Int.ofNat_le.1 (tr_le HM.out.1 H1.out))
                have d4 : decide ((0 : Int) < (m : Int)) = true := decide_eq_true (by omega)
                have d6 : decide (0 < m) = true := decide_eq_true (by omega)
                have d7 : (0 < m) = True := eq_true (by omega)
                have hws : wrap64 ((s : Int) + 1) = (s : Int) + 1 := tr_w HS.out.2
                have hn := HF.out.node m hm (tr_le2 HM.out.1 H1.out)
                have hh : has T.now ⟨(m : Int), 1⟩ = true := hn.1
                have HP := Aside0.mk hn.2
                clear hs hm hkm hn
                go_upto_region 24 with (go_at_call 19; refine (Get_calls _ _ g f n v T ⟨_, _⟩ HF.out.tree).mono ?_; rintro e w1 ⟨rfl, hb⟩; replace HF := Aside0.mk (HF.out.under hb); replace HX := Aside0.mk (blk_below HX.out hb); clear hb)
                generalize look T.now ⟨(m : Int), 1⟩ = y at HP ⊢
                have HY := Aside0.mk (heap_alloc_new w1 (.cells #[.int .i64 y.f0.f0, .int .i64 y.f0.f1, .int .i64 y.f1.f0, .int .i64 y.f1.f1, .string y.f2, .string y.f3] 36))
                replace HX := Aside0.mk (blk_below HX.out (below_alloc (Below.refl w1.heap.size w1) (.cells #[.int .i64 y.f0.f0, .int .i64 y.f0.f1, .int .i64 y.f1.f0, .int .i64 y.f1.f1, .string y.f2, .string y.f3] 36)))
                replace HF := Aside0.mk (HF.out.under (below_alloc (Below.refl w1.heap.size w1) (.cells #[.int .i64 y.f0.f0, .int .i64 y.f0.f1, .int .i64 y.f1.f0, .int .i64 y.f1.f1, .string y.f2, .string y.f3] 36)))
                generalize w1.heap.size = xy at HY ⊢
                generalize w1.alloc (.cells #[.int .i64 y.f0.f0, .int .i64 y.f0.f1, .int .i64 y.f1.f0, .int .i64 y.f1.f1, .string y.f2, .string y.f3] 36) = w3 at HX HF HY ⊢
                obtain ⟨y0, y1, y2, y3, y4, y5⟩ := Y6 HY.out
                obtain ⟨x0, x1, x2, x3⟩ := Z2 HX.out
                clear z0 z1 z2 z3
                go_wp2
                have HX5 := Aside0.mk (blk_put (blk_put HX.out 0 (.int .i64 y.f1.f0) (show (#[.int .i64 (m : Int), .int .i64 1] : Array Value).setIfInBounds 0 (.int .i64 y.f1.f0) = #[.int .i64 y.f1.f0, .int .i64 1] from rfl)) 1 (.int .i64 y.f1.f1) (show (#[.int .i64 y.f1.f0, .int .i64 1] : Array Value).setIfInBounds 1 (.int .i64 y.f1.f1) = #[.int .i64 y.f1.f0, .int .i64 y.f1.f1] from rfl))
                have HF5 := Aside0.mk (HF.out.set2 hxx HNF.out y.f1.f0 y.f1.f1)
                go_roundg k2
                case measure => exact Nat.lt_succ_self _
                case rel => exact ⟨s + 1, y.f1, ⟨tr_s HS.out HM.out H1.out HN12.out⟩, (by first | rfl | (rw [hws]; rfl)), HX5, ⟨by rw [HP.out]; exact tr_next HK12.out.1 HM.out⟩, HF5⟩
              · have d3 : decide ((s : Int) ≤ (N : Int)) = true := decide_eq_true (tr_le3 hs H1.out)
                have d8 : (s ≤ N) = True := eq_true (Int.ofNat_le.1 (tr_le3 hs H1.out))
                clear hs
                by_cases hki : k ≤ j + 1
                · have d5 : decide ((k : Int) ≤ (j : Int) + 1) = true := decide_eq_true (by omega)
                  have hW : trW k true (j + 1) = ⟨0, 0⟩ := by unfold trW; simp
                  simp only [hW] at z0 z1 z2 z3
                  have HXW := Aside0.mk (show wr.heap[x]? = some (.cells #[.int .i64 0, .int .i64 0] 25 (0, 0)) by have := HX.out; rw [hW] at this; exact this)
                  clear hki hW
                  go_upto_region 30 with fail
                  have HW := Aside0.mk (heap_alloc_new wr (.cells #[.int .i64 0, .int .i64 0] 25))
                  replace HXW := Aside0.mk (blk_below HXW.out (below_alloc (Below.refl wr.heap.size wr) (.cells #[.int .i64 0, .int .i64 0] 25)))
                  replace HF := Aside0.mk (HF.out.under (below_alloc (Below.refl wr.heap.size wr) (.cells #[.int .i64 0, .int .i64 0] 25)))
                  clear z0 z1 z2 z3
                  generalize wr.heap.size = xw at HW ⊢
                  generalize wr.alloc (.cells #[.int .i64 0, .int .i64 0] 25) = w5 at HXW HW HF ⊢
                  obtain ⟨x0, x1⟩ := Y2 HXW.out
                  obtain ⟨y0, y1⟩ := Y2 HW.out
                  go_wp2
                  go_roundg k1
                  case measure => exact Nat.lt_succ_self _
                  case rel => exact ⟨j + 1, v, T, ⟨tr_k HK.out H1.out⟩, (by first | rfl | (rw [hwj]; rfl)), HF⟩
                · have d5 : decide ((k : Int) ≤ (j : Int) + 1) = false := decide_eq_false (by omega)
                  have hW : trW k true (j + 1) = ⟨0, 0⟩ := by unfold trW; simp [hki]
                  simp only [hW] at z0 z1 z2 z3
                  have HXW := Aside0.mk (show wr.heap[x]? = some (.cells #[.int .i64 0, .int .i64 0] 25 (0, 0)) by have := HX.out; rw [hW] at this; exact this)
                  clear hki hW
                  go_upto_region 30 with fail
                  have HW := Aside0.mk (heap_alloc_new wr (.cells #[.int .i64 0, .int .i64 0] 25))
                  replace HXW := Aside0.mk (blk_below HXW.out (below_alloc (Below.refl wr.heap.size wr) (.cells #[.int .i64 0, .int .i64 0] 25)))
                  replace HF := Aside0.mk (HF.out.under (below_alloc (Below.refl wr.heap.size wr) (.cells #[.int .i64 0, .int .i64 0] 25)))
                  clear z0 z1 z2 z3
                  generalize wr.heap.size = xw at HW ⊢
                  generalize wr.alloc (.cells #[.int .i64 0, .int .i64 0] 25) = w5 at HXW HW HF ⊢
                  obtain ⟨x0, x1⟩ := Y2 HXW.out
                  obtain ⟨y0, y1⟩ := Y2 HW.out
                  go_wp2
                  go_roundg k1
                  case measure => exact Nat.lt_succ_self _
                  case rel => exact ⟨j + 1, v, T, ⟨tr_k HK.out H1.out⟩, (by first | rfl | (rw [hwj]; rfl)), HF⟩
          · have d1 : decide ((j : Int) + 1 ≤ (N : Int)) = false := decide_eq_false (by omega)
            clear h1
            go_wp2_with (go_at_call 16; refine (awake_calls _ (HL.out.below HF.out.below)).mono ?_; rintro e w1 ⟨rfl, hb⟩; have HQ := Aside0.mk (below_then HF.out.below HF.out.below.size hb); clear hb)
            go_ret
            exact ⟨rfl, HQ.out⟩
end Go.Proofs.YtiffeljmeahmkaaDoor.S
