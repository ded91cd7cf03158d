/- A map of stamps to nodes, as a list of nodes with numbers of their own: looking up, storing, clearing, ranging. -/
import Derived.Test.YtlfgdaiegefjiaaDoorSA
import Derived.LoopTactic
import Derived.WideMake
import Derived.Maps.OwnOps
import Derived.Maps.RangeRun
import Derived.Laws.IdiomRangeMap
import Derived.Laws.StructEq
import Derived.Test.YtlfgdaiegefjiaaDoorWEqStruct
import Derived.Test.YtlfgdaiegefjiaaDoorSx4
import Derived.Test.YtlfgdaiegefjiaaDoorQa
namespace Go.Proofs.YtlfgdaiegefjiaaDoor.S
open Go.RowKit Go.Proofs.YtlfgdaiegefjiaaDoorW.PrintWords Go.Proofs.YtlfgdaiegefjiaaDoorW.PrintLast Go.Proofs.YtlfgdaiegefjiaaDoorW.PrintMore
set_option linter.unusedVariables false
set_option linter.unusedSimpArgs false
abbrev Stp := S23
abbrev Opn := S25
abbrev Nod := S72
abbrev zNod : Nod := z72
abbrev St0 : Stp := z23
def S23.val (s : Stp) : Value := .agg #[.int .i64 s.f0, .int .i64 s.f1]
def S72.val (n : Nod) : Value := .agg #[.int .i64 n.f0.f0, .int .i64 n.f0.f1, .int .i64 n.f1.f0, .int .i64 n.f1.f1, .string n.f2, .string n.f3]
def eqS (a b : Stp) : Bool := a.f0 == b.f0 && a.f1 == b.f1
theorem eqS_iff {a b : Stp} : eqS a b = true ↔ a = b := by
 obtain ⟨a0, a1⟩ := a
 obtain ⟨b0, b1⟩ := b
 simp [eqS]
theorem eqS_self (a : Stp) : eqS a a = true := eqS_iff.2 rfl
theorem eqS_false {a b : Stp} (h : a ≠ b) : eqS a b = false := by
 cases he : eqS a b with
 | false => rfl
 | true => exact absurd (eqS_iff.1 he) h
theorem eqS_comm (a b : Stp) : eqS a b = eqS b a := by
 by_cases h : a = b
 · rw [h]
 · rw [eqS_false h, eqS_false (fun e => h e.symm)]
theorem uMap : Tryd.prog.underlying 135 = some (.map 23 72) := by kernel_rfl
theorem mEq (d : Nat) (w : World) (x0 y0 x1 y1 : Int) : (Op.equalIn (d + 2) 23 (.agg #[.int .i64 x0, .int .i64 x1]) (.agg #[.int .i64 y0, .int .i64 y1])).run Tryd.prog w = .ok (x0 == y0 && x1 == y1) w := by
 refine eqA_of Tryd.underlying23 (by kernel_rfl) ?_
 refine eqf_cons (by rfl) (by go_simp; rfl) (by go_simp; rfl) (by go_simp) ?_
 exact eqf_last (by rfl) (by go_simp; rfl) (by go_simp; rfl) (by go_simp)
theorem keyEq (w : World) (a b : Stp) : (Op.equal 23 a.val b.val).run Tryd.prog w = .ok (eqS a b) w := mEq 9998 w _ _ _ _
/-- The first node of a number, and where it stands. -/
def lk : List Nod → Stp → Option (Nat × Nod)
 | [], _ => none
 | n :: l, s => if eqS s n.f0 = true then some (0, n) else (lk l s).map fun x => (x.1 + 1, x.2)
def look (l : List Nod) (s : Stp) : Nod := match lk l s with | some x => x.2 | none => zNod
def has (l : List Nod) (s : Stp) : Bool := (lk l s).isSome
/-- Nodes with one in place of its like, or one more. -/
def put : List Nod → Nod → List Nod
 | [], n => [n]
 | x :: l, n => if eqS n.f0 x.f0 = true then n :: l else x :: put l n
def ent (x : Nod × Nat) : MapEntry := ⟨x.1.f0.val, x.1.val, x.2⟩
/-- Block b of w is a map that holds the nodes l, each at its number. -/
def Lies (w : World) (b : Nat) (l : List Nod) : Prop :=
 ∃ (p : List (Nod × Nat)) (clock : Nat), p.map Prod.fst = l ∧ w.heap[b]? = some (.map (p.map ent).toArray clock) ∧ (p.map Prod.snd).Nodup ∧ (∀ x ∈ p, x.2 < clock) ∧ (l.map fun n => n.f0).Nodup
theorem Lies.lt {w : World} {b : Nat} {l : List Nod} (h : Lies w b l) : b < w.heap.size := by
 obtain ⟨p, c, _, h, _⟩ := h
 exact blk_lt h
theorem Lies.nodup {w : World} {b : Nat} {l : List Nod} (h : Lies w b l) : (l.map fun n => n.f0).Nodup := by
 obtain ⟨p, c, _, _, _, _, h⟩ := h
 exact h
theorem Lies.same {w w' : World} {b : Nat} {l : List Nod} (h : Lies w b l) (he : w'.heap[b]? = w.heap[b]?) : Lies w' b l := by
 obtain ⟨p, c, h1, h2, h3⟩ := h
 exact ⟨p, c, h1, he.trans h2, h3⟩
theorem Lies.below {w w' : World} {b : Nat} {l : List Nod} (h : Lies w b l) (hb : Below w.heap.size w w') : Lies w' b l := h.same (hb.block b h.lt)
theorem Lies.new (w : World) : Lies (w.alloc (.map #[] 0)) w.heap.size [] := ⟨[], 0, rfl, heap_alloc_new _ _, by simp, by simp, by simp⟩
theorem find_run (w : World) (s : Stp) : ∀ (p : List (Nod × Nat)) (i : Nat), (Instr.findAsking 23 s.val (p.map ent) i).run Tryd.prog w = .ok ((lk (p.map Prod.fst) s).map fun x => (i + x.1, x.2.val)) w
 | [], i => by simp [Instr.findAsking, lk]
 | x :: p, i => by
  rw [List.map_cons, List.map_cons]
  unfold Instr.findAsking lk
  rw [Sem.run_bind, show (ent x).key = x.1.f0.val from rfl, keyEq w s x.1.f0]
  simp only [Result.andThen]
  by_cases h : eqS s x.1.f0 = true
  · rw [if_pos h, if_pos h]
    simp [ent]
  · rw [if_neg h, if_neg h, find_run w s p (i + 1)]
    cases lk (p.map Prod.fst) s with
    | none => rfl
    | some y => simp only [Option.map_some, Result.ok.injEq, Option.some.injEq, Prod.mk.injEq, and_true]; omega
theorem findKey_run (w : World) (s : Stp) (p : List (Nod × Nat)) : (Instr.findKey 23 s.val (p.map ent)).run Tryd.prog w = .ok ((lk (p.map Prod.fst) s).map fun x => (x.1, x.2.val)) w := by
 unfold Instr.findKey
 rw [Sem.run_bind, run_underlying Tryd.underlying23]
 simp only [Result.andThen]
 cases p with
 | nil => simp [Instr.findNow, lk]
 | cons x p =>
  have := find_run w s (x :: p) 0
  simp only [Nat.zero_add] at this
  have hn : ∀ (fs : Array Field), Instr.findNow (.struct fs) s.val (List.map ent (x :: p)) 0 = none := fun fs => rfl
  rw [hn]
  exact this
theorem check_int (n : Nat) (w : World) (e : Bool) (a : Int) : (Instr.checkKey e (n + 1) 3 (.int .i64 a)).run Tryd.prog w = .ok () w := by
 unfold Instr.checkKey
 simp only [Sem.run_bind, run_underlying Tryd.underlying3, Result.andThen]
 rfl
theorem check_gen (n : Nat) (w : World) (e : Bool) (a b : Int) : (Instr.checkKey e (n + 2) 23 (.agg #[.int .i64 a, .int .i64 b])).run Tryd.prog w = .ok () w := by
 have h0 : (part 3 #[.int .i64 a, .int .i64 b] 0).run Tryd.prog w = .ok (.int .i64 a) w := by go_simp
 have h1 : (part 3 #[.int .i64 a, .int .i64 b] 1).run Tryd.prog w = .ok (.int .i64 b) w   := by go_simp
 unfold Instr.checkKey
 simp only [Sem.run_bind, run_underlying Tryd.underlying23, Result.andThen]
 simp [Sem.run_bind, h0, h1, check_int, Result.andThen]
theorem check_run (w : World) (e : Bool) (s : Stp) : (Instr.checkKey e 10000 23 s.val).run Tryd.prog w = .ok () w := check_gen 9998 w e s.f0 s.f1
theorem zero_run (w : World) : (zeroValue 72).run Tryd.prog w = .ok zNod.val w := by kernel_rfl
theorem look_run {w : World} {b : Nat} {l : List Nod} (h : Lies w b l) (s : Stp) (ok : Bool) : (Instr.lookup 135 (.map (some b)) s.val ok).run Tryd.prog w = .ok (if ok then .tuple #[(look l s).val, .bool (has l s)] else (look l s).val) w := by
 obtain ⟨p, c, rfl, hb, _⟩ := h
 unfold Instr.lookup
 simp only [Sem.run_bind, run_underlying uMap, MapKept.run_getObj_map hb, check_run, Result.andThen, Sem.run_pure]
 unfold look has
 rw [findKey_run]
 cases lk (p.map Prod.fst) s with
 | none => cases ok <;> simp [zero_run, Result.andThen] <;> rfl
 | some y => cases ok <;> simp [Result.andThen]
theorem lk_none {l : List Nod} {s : Stp} (h : lk l s = none) : ∀ n ∈ l, n.f0 ≠ s := by
 induction l with
 | nil => simp
 | cons x l ih =>
  unfold lk at h
  by_cases he : eqS s x.f0 = true
  · rw [if_pos he] at h; cases h
  · rw [if_neg he] at h
    intro n hn
    rcases List.mem_cons.1 hn with rfl | hn
    · intro e; rw [e, eqS_self] at he; exact he rfl
    · exact ih (by cases hx : lk l s with | none => rfl | some y => rw [hx] at h; cases h) n hn
theorem lk_some {l : List Nod} {s : Stp} {j : Nat} {n : Nod} (h : lk l s = some (j, n)) : l[j]? = some n ∧ n.f0 = s := by
 induction l generalizing j with
 | nil => cases h
 | cons x l ih =>
  unfold lk at h
  by_cases he : eqS s x.f0 = true
  · rw [if_pos he] at h
    cases h
    exact ⟨rfl, (eqS_iff.1 he).symm⟩
  · rw [if_neg he] at h
    cases hx : lk l s with
    | none => rw [hx] at h; cases h
    | some y =>
     rw [hx] at h
     obtain ⟨i, m⟩ := y
     cases h
     exact ih hx
theorem put_none {l : List Nod} {n : Nod} (h : lk l n.f0 = none) : put l n = l ++ [n] := by
 induction l with
 | nil => rfl
 | cons x l ih =>
  unfold lk at h
  by_cases he : eqS n.f0 x.f0 = true
  · rw [if_pos he] at h; cases h
  · rw [if_neg he] at h
    unfold put
    rw [if_neg he, ih (by cases hx : lk l n.f0 with | none => rfl | some y => rw [hx] at h; cases h), List.cons_append]
theorem put_some {l : List Nod} {n m : Nod} {j : Nat} (h : lk l n.f0 = some (j, m)) : put l n = l.set j n := by
 induction l generalizing j with
 | nil => cases h
 | cons x l ih =>
  unfold lk at h
  unfold put
  by_cases he : eqS n.f0 x.f0 = true
  · rw [if_pos he] at h
    cases h
    rw [if_pos he]
    rfl
  · rw [if_neg he] at h
    cases hx : lk l n.f0 with
    | none => rw [hx] at h; cases h
    | some y =>
     rw [hx] at h
     obtain ⟨i, m'⟩ := y
     cases h
     rw [if_neg he, ih hx]
     rfl
theorem put_ids (l : List Nod) (n : Nod) : (put l n).map (fun n => n.f0) = if has l n.f0 = true then l.map (fun n => n.f0) else l.map (fun n => n.f0) ++ [n.f0] := by
 unfold has
 cases h : lk l n.f0 with
 | none => rw [put_none h]; simp
 | some y =>
  obtain ⟨j, m⟩ := y
  obtain ⟨h1, h2⟩ := lk_some h
  rw [put_some h, List.map_set]
  simp only [Option.isSome_some, if_true]
  refine List.ext_getElem? fun i => ?_
  rw [List.getElem?_set]
  split
  · rename_i e
    subst e
    rw [List.getElem?_map, h1]
    split
    · simp [h2]
    · rename_i hl
      have := (List.getElem?_eq_some_iff.1 h1).1
      simp at hl
      omega
  · rfl
theorem put_nodup {l : List Nod} (n : Nod) (h : (l.map fun n => n.f0).Nodup) : ((put l n).map fun n => n.f0).Nodup := by
 rw [put_ids]
 split
 · exact h
 · rename_i hh
   have : lk l n.f0 = none := by
    unfold has at hh
    cases hx : lk l n.f0 with
    | none => rfl
    | some y => rw [hx] at hh; simp at hh
   refine List.nodup_append.2 ⟨h, by simp, ?_⟩
   intro a ha b hb
   simp only [List.mem_singleton] at hb
   subst hb
   obtain ⟨m, hm, rfl⟩ := List.mem_map.1 ha
   exact lk_none this m hm
theorem stays_run (w : World) (s : Stp) : (Instr.keyThatStays s.val s.val).run Tryd.prog w = .ok s.val w := by
 have : Instr.sameBits 10000 s.val s.val = true := by
  show Instr.sameBits (9998 + 2) (.agg #[.int .i64 s.f0, .int .i64 s.f1]) (.agg #[.int .i64 s.f0, .int .i64 s.f1]) = true
  simp [Instr.sameBits]
 simp [Instr.keyThatStays, this]
theorem put_run {w : World} {b : Nat} {l : List Nod} (h : Lies w b l) (n : Nod) : ∃ o, (Instr.mapUpdate 135 (.map (some b)) n.f0.val n.val).run Tryd.prog w = .ok () { w with heap := w.heap.setIfInBounds b o } ∧ Lies { w with heap := w.heap.setIfInBounds b o } b (put l n) := by
 have hlt := h.lt
 have hnd := put_nodup n h.nodup
 obtain ⟨p, c, rfl, hb, h3, h4, h5⟩ := h
 cases hk : lk (p.map Prod.fst) n.f0 with
 | none =>
  refine ⟨.map ((p ++ [(n, c)]).map ent).toArray (c + 1), ?_, p ++ [(n, c)], c + 1, by rw [put_none hk]; simp, by simp [hlt], ?_, ?_, hnd⟩
  · unfold Instr.mapUpdate
    simp only [Sem.run_bind, run_underlying uMap, MapKept.run_getObj_map hb, check_run, findKey_run, hk, Result.andThen, Option.map_none, MapKept.run_setObj_map _ hb]
    simp [ent]
  · rw [List.map_append]
    refine List.nodup_append.2 ⟨h3, by simp, ?_⟩
    intro a ha b' hb'
    simp at hb'
    subst hb'
    obtain ⟨x, hx, rfl⟩ := List.mem_map.1 ha
    exact Nat.ne_of_lt (h4 x hx)
  · intro x hx
    rcases List.mem_append.1 hx with hx | hx
    · exact Nat.lt_succ_of_lt (h4 x hx)
    · simp at hx; subst hx; exact Nat.lt_succ_self _
 | some y =>
  obtain ⟨j, m⟩ := y
  obtain ⟨h1, h2⟩ := lk_some hk
  obtain ⟨⟨m', k⟩, hx, rfl⟩ : ∃ x, p[j]? = some x ∧ x.1 = m := by
   rw [List.getElem?_map] at h1
   cases hp : p[j]? with
   | none => rw [hp] at h1; cases h1
   | some x => rw [hp] at h1; exact ⟨x, rfl, by simpa using h1⟩
  have hset : ((p.map ent).toArray.modify j fun e => { e with key := n.f0.val, val := n.val }) = ((p.set j (n, k)).map ent).toArray := by
   refine Array.ext_getElem? fun i => ?_
   rw [Array.getElem?_modify]
   simp only [List.getElem?_toArray, List.getElem?_map, List.getElem?_set]
   by_cases hij : j = i
   · subst hij
     rw [if_pos rfl, if_pos rfl, hx]
     have := (List.getElem?_eq_some_iff.1 hx).1
     rw [if_pos this]
     simp [ent]
   · rw [if_neg hij, if_neg hij]
  refine ⟨.map ((p.set j (n, k)).map ent).toArray c, ?_, p.set j (n, k), c, by rw [put_some hk, List.map_set], by simp [hlt], ?_, ?_, hnd⟩
  · unfold Instr.mapUpdate
    simp only [Sem.run_bind, run_underlying uMap, MapKept.run_getObj_map hb, check_run, findKey_run, hk, Result.andThen, Option.map_some]
    have he : ((((p.map ent).toArray[j]?).map (·.key)).getD n.f0.val) = n.f0.val := by
     have h2' : m'.f0 = n.f0 := h2
     simp [hx, ent, h2']
    rw [he, stays_run]
    simp only [Result.andThen]
    rw [hset, MapKept.run_setObj_map _ hb]
  · have : (p.set j (n, k)).map Prod.snd = p.map Prod.snd := by
     rw [List.map_set]
     refine List.ext_getElem? fun i => ?_
     rw [List.getElem?_set]
     split
     · rename_i e
       subst e
       have := (List.getElem?_eq_some_iff.1 hx).1
       rw [List.getElem?_map, hx]
       simp [this]
     · rfl
    rw [this]
    exact h3
  · intro x hm
    rcases List.mem_or_eq_of_mem_set hm with hm | rfl
    · exact h4 x hm
    · exact h4 (m', k) (List.mem_of_getElem? hx)
end Go.Proofs.YtlfgdaiegefjiaaDoor.S
/- What stays as it is beside some blocks; the laws of a map of nodes at the operation; has, below, do, as the machine walks them. -/
namespace Go.Proofs.YtlfgdaiegefjiaaDoor.S
open Go.RowKit Go.Proofs.YtlfgdaiegefjiaaDoorW.PrintWords Go.Proofs.YtlfgdaiegefjiaaDoorW.PrintLast Go.Proofs.YtlfgdaiegefjiaaDoorW.PrintMore
set_option linter.unusedVariables false
set_option linter.unusedSimpArgs false
/-- Beside the blocks of S all is as it was; none has gone. -/
structure Stay (w w1 : World) (S : Nat → Prop) : Prop where
 os : w1.os = w.os
 tape : w1.tape = w.tape
 output : w1.output = w.output
 size : w.heap.size ≤ w1.heap.size
 block : ∀ k, k < w.heap.size → ¬ S k → w1.heap[k]? = w.heap[k]?
section
variable {w w1 w2 : World} {S S' : Nat → Prop}
theorem Stay.refl (w : World) (S : Nat → Prop) : Stay w w S := ⟨rfl, rfl, rfl, Nat.le_refl _, fun _ _ _ => rfl⟩
theorem Stay.of (h : Below w.heap.size w w1) (S : Nat → Prop) : Stay w w1 S := ⟨h.os, h.tape, h.output, h.size, fun k hk _ => h.block k hk⟩
theorem Stay.trans (h : Stay w w1 S) (h' : Stay w1 w2 S') (hs : ∀ k, S' k → S k ∨ w.heap.size ≤ k) : Stay w w2 S :=
 ⟨h'.os.trans h.os, h'.tape.trans h.tape, h'.output.trans h.output, Nat.le_trans h.size h'.size, fun k hk hn => (h'.block k (Nat.lt_of_lt_of_le hk h.size) (fun h2 => (hs k h2).elim hn (fun h3 => by omega))).trans (h.block k hk hn)⟩
theorem Stay.mono (h : Stay w w1 S) (hs : ∀ k, S k → S' k) : Stay w w1 S' := ⟨h.os, h.tape, h.output, h.size, fun k hk hn => h.block k hk (fun h2 => hn (hs k h2))⟩
theorem Stay.below (h : Stay w w1 S) (hb : Below w1.heap.size w1 w2) : Stay w w2 S := h.trans (Stay.of hb (fun _ => False)) (fun _ hk => hk.elim)
theorem Stay.back (h : Stay w w1 S) {b : Nat} {w0 : World} (hb : Below b w0 w) (hle : b ≤ w.heap.size) (hs : ∀ k, S k → b ≤ k) : Below b w0 w1 :=
 hb.trans ⟨h.os, h.tape, h.output, h.size, fun k hk => h.block k (Nat.lt_of_lt_of_le hk hle) (fun h2 => by have := hs k h2; omega)⟩
theorem Stay.blk (h : Stay w w1 S) {g : Nat} {o : Obj} (hg : w.heap[g]? = some o) (hn : ¬ S g) : w1.heap[g]? = some o := (h.block g (blk_lt hg) hn).trans hg
theorem Lies.stay {b : Nat} {l : List Nod} (hl : Lies w b l) (h : Stay w w1 S) (hn : ¬ S b) : Lies w1 b l := hl.same (h.block b hl.lt hn)
theorem Stay.set (w : World) (b : Nat) (o : Obj) : Stay w { w with heap := w.heap.setIfInBounds b o } (· = b) :=
 ⟨rfl, rfl, rfl, by simp, fun k hk hn => by
  rw [Array.getElem?_setIfInBounds]
  split
  · rename_i e; exact absurd e.symm hn
  · rfl⟩
theorem Stay.cell (w : World) (a : Addr) (u : Value) : Stay w (w.setCell a u) (· = a.block) :=
 ⟨rfl, rfl, rfl, by simp [World.setCell], fun k _ hn => Below.heap_setCell w a u k hn⟩
end
section
variable {ops : Array Oper} {rest : List Oper} {o : Oper} {a : Act} {Q : Exit → Act → World → Prop} {w : World}
theorem wl_ok (b : Nat) (l : List Nod) (s : Stp) (y : Nod) (hy : look l s = y) (m x : Operand) (hop : o.op = Op.lookup 135 m x true) (hm : a.eval m = .map (some b)) (hx : a.eval x = .agg #[.int .i64 s.f0, .int .i64 s.f1]) (hl : Lies w b l)
 (h : wpList Tryd.prog ops Q rest (a.put o.dst (.tuple #[.agg #[.int .i64 y.f0.f0, .int .i64 y.f0.f1, .int .i64 y.f1.f0, .int .i64 y.f1.f1, .string y.f2, .string y.f3], .bool (has l s)])) w) (hg : o.guard = none := by rfl) : wpList Tryd.prog ops Q (o :: rest) a w := by
 refine wpList_plain hg fun K' hK' => ?_
 have hrun : (Instr.lookup 135 (.map (some b)) (.agg #[.int .i64 s.f0, .int .i64 s.f1]) true).run Tryd.prog w = .ok (.tuple #[.agg #[.int .i64 y.f0.f0, .int .i64 y.f0.f1, .int .i64 y.f1.f0, .int .i64 y.f1.f1, .string y.f2, .string y.f3], .bool (has l s)]) w := by subst hy; exact look_run hl s true
 unfold Oper.wp
 simp [execOp, hop, hm, hx, hrun, Result.andThen]
 exact hK' _ _ h
theorem wl_one (b : Nat) (l : List Nod) (s : Stp) (m x : Operand) (hop : o.op = Op.lookup 135 m x false) (hm : a.eval m = .map (some b)) (hx : a.eval x = .agg #[.int .i64 s.f0, .int .i64 s.f1]) (hl : Lies w b l)
 (h : wpList Tryd.prog ops Q rest (a.put o.dst (.agg #[.int .i64 (look l s).f0.f0, .int .i64 (look l s).f0.f1, .int .i64 (look l s).f1.f0, .int .i64 (look l s).f1.f1, .string (look l s).f2, .string (look l s).f3])) w) (hg : o.guard = none := by rfl) : wpList Tryd.prog ops Q (o :: rest) a w := by
 refine wpList_plain hg fun K' hK' => ?_
 have hrun : (Instr.lookup 135 (.map (some b)) (.agg #[.int .i64 s.f0, .int .i64 s.f1]) false).run Tryd.prog w = .ok (.agg #[.int .i64 (look l s).f0.f0, .int .i64 (look l s).f0.f1, .int .i64 (look l s).f1.f0, .int .i64 (look l s).f1.f1, .string (look l s).f2, .string (look l s).f3]) w := look_run hl s false
 unfold Oper.wp
 simp [execOp, hop, hm, hx, hrun, Result.andThen]
 exact hK' _ _ h
theorem wl_put (b : Nat) (l : List Nod) (n : Nod) (m k x : Operand) (hop : o.op = Op.mapUpdate 135 m k x) (hm : a.eval m = .map (some b)) (hk : a.eval k = n.f0.val) (hx : a.eval x = n.val) (hl : Lies w b l)
 (h : ∀ w1, Lies w1 b (put l n) → Stay w w1 (· = b) → wpList Tryd.prog ops Q rest (a.put o.dst undef) w1) (hg : o.guard = none := by rfl) : wpList Tryd.prog ops Q (o :: rest) a w := by
 refine wpList_plain hg fun K' hK' => ?_
 obtain ⟨o', hrun, hl'⟩ := put_run hl n
 unfold Oper.wp
 simp [execOp, hop, hm, hk, hx, hrun, Result.andThen]
 exact hK' _ _ (h _ hl' (Stay.set w b o'))
end
def outerB (s : Stp) : Bool := s.f0 == 0 && (s.f1 == 0 || s.f1 == 1)
attribute [local go_sem high] mEq
theorem outer_f (s : Stp) : tree_outer.f s.f0 s.f1 = some (outerB s) := by
 unfold tree_outer.f outerB
 cases s.f0 == 0 <;> cases s.f1 == 0 <;> simp
theorem field_par (a b c d : Int) (e f : ByteArray) (w : World) : (Instr.field 72 (.agg #[.int .i64 a, .int .i64 b, .int .i64 c, .int .i64 d, .string e, .string f]) 1).run Tryd.prog w = .ok (.agg #[.int .i64 c, .int .i64 d]) w := by
 unfold Instr.field
 simp only [Sem.run_bind, run_underlying Tryd.underlying72, Result.andThen]
 go_simp
 simp [asAgg, Result.andThen]
set_option maxHeartbeats 8000000 in
set_option maxRecDepth 100000 in
theorem has_calls (b : Nat) (l : List Nod) (s : Stp) (w : World) (hl : Lies w b l) : Calls Tryd.prog 108 #[.map (some b), .agg #[.int .i64 s.f0, .int .i64 s.f1]] w fun e w' => e = .returned (.bool (has l s || outerB s)) ∧ Below w.heap.size w w' := by
 have HL := Aside0.mk hl
 clear hl
 cases hh : has l s with
 | true =>
  go_enter Tryd.func108, Tryd.ntmps108
  go_wp2_with (at_lookup; refine wl_ok b l s (look l s) rfl _ _ rfl rfl rfl (HL.out.below (below_alloc (Below.refl _ _) _)) ?_)
  go_ret
  exact ⟨rfl, below_alloc (below_alloc (Below.refl _ _) _) _⟩
 | false =>
  go_enter Tryd.func108, Tryd.ntmps108
  go_wp2_with (first | (at_lookup; refine wl_ok b l s (look l s) rfl _ _ rfl rfl rfl (HL.out.below (below_alloc (Below.refl _ _) _)) ?_) | (go_at_call 61; refine (tree_outer.calls _ _ _ _ (outer_f s)).mono ?_; rintro e w1 ⟨rfl, hb⟩))
  go_ret
  exact ⟨rfl, below_step (below_alloc (below_alloc (Below.refl _ _) _) _) hb⟩
theorem blk_set2 {w : World} {g : Nat} {t : TypeId} {c0 c1 d0 d1 : Value} (h : w.heap[g]? = some (.cells #[c0, c1] t (0, 0))) : ((w.setCell ⟨g, 0, none⟩ d0).setCell ⟨g, 1, none⟩ d1).heap[g]? = some (.cells #[d0, d1] t (0, 0)) := blk_put (blk_put h 0 d0 rfl) 1 d1 rfl
attribute [local go_sem high] field_par
/-- Whether the parents of a number lead to a node; so many steps at the most. -/
def bel (l : List Nod) (id : Stp) : Nat → Stp → Option Bool
 | 0, _ => none
 | k + 1, s => if outerB s = true then some false else if (s.f0 == id.f0 && s.f1 == id.f1) = true then some true else bel l id k (look l s).f1
set_option maxHeartbeats 8000000 in
set_option maxRecDepth 100000 in
theorem below_calls (b : Nat) (l : List Nod) (s id : Stp) (k : Nat) (r : Bool) (w : World) (hl : Lies w b l) (h : bel l id k s = some r) :
 Calls Tryd.prog 109 #[.map (some b), .agg #[.int .i64 s.f0, .int .i64 s.f1], .agg #[.int .i64 id.f0, .int .i64 id.f1]] w fun e w' => e = .returned (.bool r) ∧ Below w.heap.size w w' := by
 have HL := Aside0.mk hl
 have HK := Aside0.mk h
 clear hl h
 go_enter Tryd.func109, Tryd.ntmps109
 go_wp2
 have hb0 := below_alloc (below_alloc (Below.refl w.heap.size w) (.cells #[.int .i64 s.f0, .int .i64 s.f1] 23)) (.cells #[.int .i64 id.f0, .int .i64 id.f1] 23)
 have e0 : (w.alloc (.cells #[.int .i64 s.f0, .int .i64 s.f1] 23)).heap.size = w.heap.size + 1 := by simp
 have hg0 : ((w.alloc (.cells #[.int .i64 s.f0, .int .i64 s.f1] 23)).alloc (.cells #[.int .i64 id.f0, .int .i64 id.f1] 23)).heap[w.heap.size]? = some (.cells #[.int .i64 s.f0, .int .i64 s.f1] 23) := (heap_alloc_old _ _ (by rw [e0]; omega)).trans (heap_alloc_new _ _)
 have hg1 : ((w.alloc (.cells #[.int .i64 s.f0, .int .i64 s.f1] 23)).alloc (.cells #[.int .i64 id.f0, .int .i64 id.f1] 23)).heap[w.heap.size + 1]? = some (.cells #[.int .i64 id.f0, .int .i64 id.f1] 23) := by rw [← e0]; exact heap_alloc_new _ _
 have BK0 := Aside0.mk hg0
 have BK1 := Aside0.mk hg1
 have HB := Aside0.mk hb0
 clear hg0 hg1 hb0 e0
 go_loopg [9] k (fun kq _ wr => ∃ s' : Stp, Aside0 (bel l id kq s' = some r) ∧ Aside0 (wr.heap[w.heap.size]? = some (.cells #[.int .i64 s'.f0, .int .i64 s'.f1] 23)) ∧ Aside0 (wr.heap[w.heap.size + 1]? = some (.cells #[.int .i64 id.f0, .int .i64 id.f1] 23)) ∧ Aside0 (Below w.heap.size w wr))
 case atStart => exact ⟨s, HK, BK0, BK1, HB⟩
 case round =>
  clear HK BK0 BK1 HB
  obtain ⟨s', HK, BK0, BK1, HB⟩ := hrel
  cases gk with
  | zero => exact absurd HK.out (by simp [bel])
  | succ k1 =>
   have H := HK.out
   clear HK
   simp only [bel] at H
   obtain ⟨z0, z1, z2, z3⟩ := Z2 BK0.out
   cases ho : outerB s' with
   | true =>
    rw [if_pos ho] at H
    obtain rfl := Option.some.inj H
    go_wp2_with (go_at_call 61; refine (tree_outer.calls _ _ _ _ (outer_f s')).mono ?_; rintro e w1 ⟨rfl, hb⟩; have HB1 := Aside0.mk (below_step HB.out hb); clear hb z0 z1 z2 z3)
    go_ret
    exact ⟨by simp [ho], HB1.out⟩
   | false =>
    rw [if_neg (by rw [ho]; simp)] at H
    by_cases he : (s'.f0 == id.f0 && s'.f1 == id.f1) = true
    · rw [if_pos he] at H
      obtain rfl := Option.some.inj H
      go_wp2_with (go_at_call 61; refine (tree_outer.calls _ _ _ _ (outer_f s')).mono ?_; rintro e w1 ⟨rfl, hb⟩; have n0 := Aside0.mk (blk_below BK0.out hb); have n1 := Aside0.mk (blk_below BK1.out hb); have HB1 := Aside0.mk (below_step HB.out hb); have HL1 := Aside0.mk ((HL.out.below HB.out).below hb); clear hb z0 z1 z2 z3 BK0 BK1 HB HL; obtain ⟨z0, z1, z2, z3⟩ := Z2 n0.out; obtain ⟨y0, y1⟩ := Y2 n1.out)
      go_ret
      exact ⟨rfl, HB1.out⟩
    · rw [if_neg he] at H
      have he' : (s'.f0 == id.f0 && s'.f1 == id.f1) = false := by simpa using he
      clear he
      have HK1 := Aside0.mk H
      clear H
      go_wp2_with (first | (go_at_call 61; refine (tree_outer.calls _ _ _ _ (outer_f s')).mono ?_; rintro e w1 ⟨rfl, hb⟩; have n0 := Aside0.mk (blk_below BK0.out hb); have n1 := Aside0.mk (blk_below BK1.out hb); have HB1 := Aside0.mk (below_step HB.out hb); have HL1 := Aside0.mk ((HL.out.below HB.out).below hb); clear hb z0 z1 z2 z3 BK0 BK1 HB HL; obtain ⟨z0, z1, z2, z3⟩ := Z2 n0.out; obtain ⟨y0, y1⟩ := Y2 n1.out) | (at_lookup; refine wl_one b l s' _ _ rfl rfl rfl HL1.out ?_))
      go_roundg k1
      case measure => omega
      case rel => exact ⟨(look l s').f1, HK1, ⟨blk_set2 n0.out⟩, ⟨blk_far (blk_far n1.out (by simp) _) (by simp) _⟩, ⟨below_set (below_set HB1.out (Nat.le_refl _)) (Nat.le_refl _)⟩⟩
end Go.Proofs.YtlfgdaiegefjiaaDoor.S
