/- A map of stamps to nodes, as a list of nodes with numbers of their own: looking up, storing, clearing, ranging. -/
import Derived.Test.YtiffeljmeahmkaaDoorSx0
import Derived.LoopTactic
import Derived.WideMake
import Derived.Maps.OwnOps
import Derived.Maps.RangeRun
import Derived.Laws.IdiomRangeMap
import Derived.Laws.StructEq
import Derived.Test.YtiffeljmeahmkaaDoorWEqStruct
namespace Go.Proofs.YtiffeljmeahmkaaDoor.S
open Go.RowKit Go.Proofs.YtiffeljmeahmkaaDoorW.PrintWords Go.Proofs.YtiffeljmeahmkaaDoorW.PrintLast Go.Proofs.YtiffeljmeahmkaaDoorW.PrintMore
set_option linter.unusedVariables false
set_option linter.unusedSimpArgs false
abbrev Stp := S25
abbrev Opn := S28
abbrev Nod := S36
abbrev zNod : Nod := z36
abbrev St0 : Stp := z25
def S25.val (s : Stp) : Value := .agg #[.int .i64 s.f0, .int .i64 s.f1]
def S36.val (n : Nod) : Value := .agg #[.int .i64 n.f0.f0, .int .i64 n.f0.f1, .int .i64 n.f1.f0, .int .i64 n.f1.f1, .string n.f2, .string n.f3]
def eqS (a b : Stp) : Bool := a.f0 == b.f0 && a.f1 == b.f1
theorem eqS_iff {a b : Stp} : eqS a b = true ↔ a = b := by
  obtain ⟨a0, a1⟩ := a
  obtain ⟨b0, b1⟩ := b
  simp [eqS]
theorem eqS_self (a : Stp) : eqS a a = true := eqS_iff.2 rfl
theorem eqS_false {a b : Stp} (h : a ≠ b) : eqS a b = false := by
  cases he : eqS a b with
  | false => rfl
  | true => exact absurd (eqS_iff.1 he) h
theorem eqS_comm (a b : Stp) : eqS a b = eqS b a := by
  by_cases h : a = b
  · rw [h]
  · rw [eqS_false h, eqS_false (fun e => h e.symm)]
theorem uMap : Tryd.prog.underlying 64 = some (.map 25 36) := by kernel_rfl
theorem mEq (d : Nat) (w : World) (x0 y0 x1 y1 : Int) : (Op.equalIn (d + 2) 25 (.agg #[.int .i64 x0, .int .i64 x1]) (.agg #[.int .i64 y0, .int .i64 y1])).run Tryd.prog w = .ok (x0 == y0 && x1 == y1) w := by
  refine eqA_of Tryd.underlying25 (by kernel_rfl) ?_
  refine eqf_cons (by rfl) (by go_simp; rfl) (by go_simp; rfl) (by go_simp) ?_
  exact eqf_last (by rfl) (by go_simp; rfl) (by go_simp; rfl) (by go_simp)
theorem keyEq (w : World) (a b : Stp) : (Op.equal 25 a.val b.val).run Tryd.prog w = .ok (eqS a b) w := mEq 9998 w _ _ _ _
/-- The first node of a number, and where it stands. -/
def lk : List Nod → Stp → Option (Nat × Nod)
  | [], _ => none
  | n :: l, s => if eqS s n.f0 = true then some (0, n) else (lk l s).map fun x => (x.1 + 1, x.2)
def look (l : List Nod) (s : Stp) : Nod := match lk l s with | some x => x.2 | none => zNod
def has (l : List Nod) (s : Stp) : Bool := (lk l s).isSome
/-- Nodes with one in place of its like, or one more. -/
def put : List Nod → Nod → List Nod
  | [], n => [n]
  | x :: l, n => if eqS n.f0 x.f0 = true then n :: l else x :: put l n
def ent (x : Nod × Nat) : MapEntry := ⟨x.1.f0.val, x.1.val, x.2⟩
/-- Block b of w is a map that holds the nodes l, each at its number. -/
def Lies (w : World) (b : Nat) (l : List Nod) : Prop :=
  ∃ (p : List (Nod × Nat)) (clock : Nat), p.map Prod.fst = l ∧ w.heap[b]? = some (.map (p.map ent).toArray clock) ∧ (p.map Prod.snd).Nodup ∧ (∀ x ∈ p, x.2 < clock) ∧ (l.map fun n => n.f0).Nodup
theorem Lies.lt {w : World} {b : Nat} {l : List Nod} (h : Lies w b l) : b < w.heap.size := by
  obtain ⟨p, c, _, h, _⟩ := h
  exact blk_lt h
theorem Lies.nodup {w : World} {b : Nat} {l : List Nod} (h : Lies w b l) : (l.map fun n => n.f0).Nodup := by
  obtain ⟨p, c, _, _, _, _, h⟩ := h
  exact h
theorem Lies.same {w w' : World} {b : Nat} {l : List Nod} (h : Lies w b l) (he : w'.heap[b]? = w.heap[b]?) : Lies w' b l := by
  obtain ⟨p, c, h1, h2, h3⟩ := h
  exact ⟨p, c, h1, he.trans h2, h3⟩
theorem Lies.below {w w' : World} {b : Nat} {l : List Nod} (h : Lies w b l) (hb : Below w.heap.size w w') : Lies w' b l := h.same (hb.block b h.lt)
theorem Lies.new (w : World) : Lies (w.alloc (.map #[] 0)) w.heap.size [] := ⟨[], 0, rfl, heap_alloc_new _ _, by simp, by simp, by simp⟩
theorem find_run (w : World) (s : Stp) : ∀ (p : List (Nod × Nat)) (i : Nat), (Instr.findAsking 25 s.val (p.map ent) i).run Tryd.prog w = .ok ((lk (p.map Prod.fst) s).map fun x => (i + x.1, x.2.val)) w
  | [], i => by simp [Instr.findAsking, lk]
  | x :: p, i => by
    rw [List.map_cons, List.map_cons]
    unfold Instr.findAsking lk
    rw [Sem.run_bind, show (ent x).key = x.1.f0.val from rfl, keyEq w s x.1.f0]
    simp only [Result.andThen]
    by_cases h : eqS s x.1.f0 = true
    · rw [if_pos h, if_pos h]
      simp [ent]
    · rw [if_neg h, if_neg h, find_run w s p (i + 1)]
      cases lk (p.map Prod.fst) s with
      | none => rfl
      | some y => simp only [Option.map_some, Result.ok.injEq, Option.some.injEq, Prod.mk.injEq, and_true]; omega
theorem findKey_run (w : World) (s : Stp) (p : List (Nod × Nat)) : (Instr.findKey 25 s.val (p.map ent)).run Tryd.prog w = .ok ((lk (p.map Prod.fst) s).map fun x => (x.1, x.2.val)) w := by
  unfold Instr.findKey
  rw [Sem.run_bind, run_underlying Tryd.underlying25]
  simp only [Result.andThen]
  cases p with
  | nil => simp [Instr.findNow, lk]
  | cons x p =>
    have := find_run w s (x :: p) 0
    simp only [Nat.zero_add] at this
    have hn : ∀ (fs : Array Field), Instr.findNow (.struct fs) s.val (List.map ent (x :: p)) 0 = none := fun fs => rfl
    rw [hn]
    exact this
theorem check_int (n : Nat) (w : World) (e : Bool) (a : Int) : (Instr.checkKey e (n + 1) 3 (.int .i64 a)).run Tryd.prog w = .ok () w := by
  unfold Instr.checkKey
  simp only [Sem.run_bind, run_underlying Tryd.underlying3, Result.andThen]
  rfl
theorem check_gen (n : Nat) (w : World) (e : Bool) (a b : Int) : (Instr.checkKey e (n + 2) 25 (.agg #[.int .i64 a, .int .i64 b])).run Tryd.prog w = .ok () w := by
  have h0 : (part 3 #[.int .i64 a, .int .i64 b] 0).run Tryd.prog w = .ok (.int .i64 a) w := by go_simp
  have h1 : (part 3 #[.int .i64 a, .int .i64 b] 1).run Tryd.prog w = .ok (.int .i64 b) w   := by go_simp
  unfold Instr.checkKey
  simp only [Sem.run_bind, run_underlying Tryd.underlying25, Result.andThen]
  simp [Sem.run_bind, h0, h1, check_int, Result.andThen]
theorem check_run (w : World) (e : Bool) (s : Stp) : (Instr.checkKey e 10000 25 s.val).run Tryd.prog w = .ok () w := check_gen 9998 w e s.f0 s.f1
theorem zero_run (w : World) : (zeroValue 36).run Tryd.prog w = .ok zNod.val w := by kernel_rfl
theorem look_run {w : World} {b : Nat} {l : List Nod} (h : Lies w b l) (s : Stp) (ok : Bool) : (Instr.lookup 64 (.map (some b)) s.val ok).run Tryd.prog w = .ok (if ok then .tuple #[(look l s).val, .bool (has l s)] else (look l s).val) w := by
  obtain ⟨p, c, rfl, hb, _⟩ := h
  unfold Instr.lookup
  simp only [Sem.run_bind, run_underlying uMap, MapKept.run_getObj_map hb, check_run, Result.andThen, Sem.run_pure]
  unfold look has
  rw [findKey_run]
  cases lk (p.map Prod.fst) s with
  | none => cases ok <;> simp [zero_run, Result.andThen] <;> rfl
  | some y => cases ok <;> simp [Result.andThen]
theorem lk_none {l : List Nod} {s : Stp} (h : lk l s = none) : ∀ n ∈ l, n.f0 ≠ s := by
  induction l with
  | nil => simp
  | cons x l ih =>
    unfold lk at h
    by_cases he : eqS s x.f0 = true
    · rw [if_pos he] at h; cases h
    · rw [if_neg he] at h
      intro n hn
      rcases List.mem_cons.1 hn with rfl | hn
      · intro e; rw [e, eqS_self] at he; exact he rfl
      · exact ih (by cases hx : lk l s with | none => rfl | some y => rw [hx] at h; cases h) n hn
theorem lk_some {l : List Nod} {s : Stp} {j : Nat} {n : Nod} (h : lk l s = some (j, n)) : l[j]? = some n ∧ n.f0 = s := by
  induction l generalizing j with
  | nil => cases h
  | cons x l ih =>
    unfold lk at h
    by_cases he : eqS s x.f0 = true
    · rw [if_pos he] at h
      cases h
      exact ⟨rfl, (eqS_iff.1 he).symm⟩
    · rw [if_neg he] at h
      cases hx : lk l s with
      | none => rw [hx] at h; cases h
      | some y =>
        rw [hx] at h
        obtain ⟨i, m⟩ := y
        cases h
        exact ih hx
theorem put_none {l : List Nod} {n : Nod} (h : lk l n.f0 = none) : put l n = l ++ [n] := by
  induction l with
  | nil => rfl
  | cons x l ih =>
    unfold lk at h
    by_cases he : eqS n.f0 x.f0 = true
    · rw [if_pos he] at h; cases h
    · rw [if_neg he] at h
      unfold put
      rw [if_neg he, ih (by cases hx : lk l n.f0 with | none => rfl | some y => rw [hx] at h; cases h), List.cons_append]
theorem put_some {l : List Nod} {n m : Nod} {j : Nat} (h : lk l n.f0 = some (j, m)) : put l n = l.set j n := by
  induction l generalizing j with
  | nil => cases h
  | cons x l ih =>
    unfold lk at h
    unfold put
    by_cases he : eqS n.f0 x.f0 = true
    · rw [if_pos he] at h
      cases h
      rw [if_pos he]
      rfl
    · rw [if_neg he] at h
      cases hx : lk l n.f0 with
      | none => rw [hx] at h; cases h
      | some y =>
        rw [hx] at h
        obtain ⟨i, m'⟩ := y
        cases h
        rw [if_neg he, ih hx]
        rfl
theorem put_ids (l : List Nod) (n : Nod) : (put l n).map (fun n => n.f0) = if has l n.f0 = true then l.map (fun n => n.f0) else l.map (fun n => n.f0) ++ [n.f0] := by
  unfold has
  cases h : lk l n.f0 with
  | none => rw [put_none h]; simp
  | some y =>
    obtain ⟨j, m⟩ := y
    obtain ⟨h1, h2⟩ := lk_some h
    rw [put_some h, List.map_set]
    simp only [Option.isSome_some, if_true]
    refine List.ext_getElem? fun i => ?_
    rw [List.getElem?_set]
    split
    · rename_i e
      subst e
      rw [List.getElem?_map, h1]
      split
      · simp [h2]
      · rename_i hl
        have := (List.getElem?_eq_some_iff.1 h1).1
        simp at hl
        omega
    · rfl
theorem put_nodup {l : List Nod} (n : Nod) (h : (l.map fun n => n.f0).Nodup) : ((put l n).map fun n => n.f0).Nodup := by
  rw [put_ids]
  split
  · exact h
  · rename_i hh
    have : lk l n.f0 = none := by
      unfold has at hh
      cases hx : lk l n.f0 with
      | none => rfl
      | some y => rw [hx] at hh; simp at hh
    refine List.nodup_append.2 ⟨h, by simp, ?_⟩
    intro a ha b hb
    simp only [List.mem_singleton] at hb
    subst hb
    obtain ⟨m, hm, rfl⟩ := List.mem_map.1 ha
    exact lk_none this m hm
theorem stays_run (w : World) (s : Stp) : (Instr.keyThatStays s.val s.val).run Tryd.prog w = .ok s.val w := by
  have : Instr.sameBits 10000 s.val s.val = true := by
    show Instr.sameBits (9998 + 2) (.agg #[.int .i64 s.f0, .int .i64 s.f1]) (.agg #[.int .i64 s.f0, .int .i64 s.f1]) = true
    simp [Instr.sameBits]
  simp [Instr.keyThatStays, this]
theorem put_run {w : World} {b : Nat} {l : List Nod} (h : Lies w b l) (n : Nod) : ∃ o, (Instr.mapUpdate 64 (.map (some b)) n.f0.val n.val).run Tryd.prog w = .ok () { w with heap := w.heap.setIfInBounds b o } ∧ Lies { w with heap := w.heap.setIfInBounds b o } b (put l n) := by
  have hlt := h.lt
  have hnd := put_nodup n h.nodup
  obtain ⟨p, c, rfl, hb, h3, h4, h5⟩ := h
  cases hk : lk (p.map Prod.fst) n.f0 with
  | none =>
    refine ⟨.map ((p ++ [(n, c)]).map ent).toArray (c + 1), ?_, p ++ [(n, c)], c + 1, by rw [put_none hk]; simp, by simp [hlt], ?_, ?_, hnd⟩
    · unfold Instr.mapUpdate
      simp only [Sem.run_bind, run_underlying uMap, MapKept.run_getObj_map hb, check_run, findKey_run, hk, Result.andThen, Option.map_none, MapKept.run_setObj_map _ hb]
      simp [ent]
    · rw [List.map_append]
      refine List.nodup_append.2 ⟨h3, by simp, ?_⟩
      intro a ha b' hb'
      simp at hb'
      subst hb'
      obtain ⟨x, hx, rfl⟩ := List.mem_map.1 ha
      exact Nat.ne_of_lt (h4 x hx)
    · intro x hx
      rcases List.mem_append.1 hx with hx | hx
      · exact Nat.lt_succ_of_lt (h4 x hx)
      · simp at hx; subst hx; exact Nat.lt_succ_self _
  | some y =>
    obtain ⟨j, m⟩ := y
    obtain ⟨h1, h2⟩ := lk_some hk
    obtain ⟨⟨m', k⟩, hx, rfl⟩ : ∃ x, p[j]? = some x ∧ x.1 = m := by
      rw [List.getElem?_map] at h1
      cases hp : p[j]? with
      | none => rw [hp] at h1; cases h1
      | some x => rw [hp] at h1; exact ⟨x, rfl, by simpa using h1⟩
    have hset : ((p.map ent).toArray.modify j fun e => { e with key := n.f0.val, val := n.val }) = ((p.set j (n, k)).map ent).toArray := by
      refine Array.ext_getElem? fun i => ?_
      rw [Array.getElem?_modify]
      simp only [List.getElem?_toArray, List.getElem?_map, List.getElem?_set]
      by_cases hij : j = i
      · subst hij
        rw [if_pos rfl, if_pos rfl, hx]
        have := (List.getElem?_eq_some_iff.1 hx).1
        rw [if_pos this]
        simp [ent]
      · rw [if_neg hij, if_neg hij]
    refine ⟨.map ((p.set j (n, k)).map ent).toArray c, ?_, p.set j (n, k), c, by rw [put_some hk, List.map_set], by simp [hlt], ?_, ?_, hnd⟩
    · unfold Instr.mapUpdate
      simp only [Sem.run_bind, run_underlying uMap, MapKept.run_getObj_map hb, check_run, findKey_run, hk, Result.andThen, Option.map_some]
      have he : ((((p.map ent).toArray[j]?).map (·.key)).getD n.f0.val) = n.f0.val := by
        have h2' : m'.f0 = n.f0 := h2
        simp [hx, ent, h2']
      rw [he, stays_run]
      simp only [Result.andThen]
      rw [hset, MapKept.run_setObj_map _ hb]
    · have : (p.set j (n, k)).map Prod.snd = p.map Prod.snd := by
        rw [List.map_set]
        refine List.ext_getElem? fun i => ?_
        rw [List.getElem?_set]
        split
        · rename_i e
          subst e
          have := (List.getElem?_eq_some_iff.1 hx).1
          rw [List.getElem?_map, hx]
          simp [this]
        · rfl
      rw [this]
      exact h3
    · intro x hm
      rcases List.mem_or_eq_of_mem_set hm with hm | rfl
      · exact h4 x hm
      · exact h4 (m', k) (List.mem_of_getElem? hx)
end Go.Proofs.YtiffeljmeahmkaaDoor.S
