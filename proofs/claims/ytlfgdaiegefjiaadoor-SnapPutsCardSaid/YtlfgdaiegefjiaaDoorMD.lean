/- Ranging over a map of nodes; maps.Copy into an empty one, as the machine walks it. -/
import Derived.Test.YtlfgdaiegefjiaaDoorSA
import Derived.Test.YtlfgdaiegefjiaaDoorMc
import Derived.Maps.RangeWalk
import Derived.WalkSpells
import Derived.StillTailTactics
namespace Go.Proofs.YtlfgdaiegefjiaaDoor.S
open Go.RowKit Go.Proofs.YtlfgdaiegefjiaaDoorW.PrintWords Go.Proofs.YtlfgdaiegefjiaaDoorW.PrintLast Go.Proofs.YtlfgdaiegefjiaaDoorW.PrintMore
set_option linter.unusedVariables false
set_option linter.unusedSimpArgs false
/-- Block r is an iterator over the map of block f, which holds l: done have come up, rest have not. -/
def Rng (w : World) (r f : Nat) (l done rest : List Nod) : Prop :=
 ∃ (p dp rp : List (Nod × Nat)) (clock : Nat), p.map Prod.fst = l ∧ dp.map Prod.fst = done ∧ rp.map Prod.fst = rest ∧ (dp ++ rp).Perm p ∧ w.heap[f]? = some (.map (p.map ent).toArray clock) ∧ (p.map Prod.snd).Nodup ∧ (∀ x ∈ p, x.2 < clock) ∧
  (l.map fun n => n.f0).Nodup ∧ w.heap[r]? = some (.mapIter (some f) clock (dp.map Prod.snd).toArray clock)
theorem Rng.perm {w : World} {r f : Nat} {l done rest : List Nod} (h : Rng w r f l done rest) : (done ++ rest).Perm l := by
 obtain ⟨p, dp, rp, c, rfl, rfl, rfl, hp, _⟩ := h
 rw [← List.map_append]
 exact hp.map _
theorem Rng.nodup {w : World} {r f : Nat} {l done rest : List Nod} (h : Rng w r f l done rest) : (l.map fun n => n.f0).Nodup := by
 obtain ⟨p, dp, rp, c, rfl, rfl, rfl, hp, _, _, _, h, _⟩ := h
 exact h
theorem Rng.lies {w : World} {r f : Nat} {l done rest : List Nod} (h : Rng w r f l done rest) : Lies w f l := by
 obtain ⟨p, dp, rp, c, rfl, rfl, rfl, hp, h1, h2, h3, h4, _⟩ := h
 exact ⟨p, c, rfl, h1, h2, h3, h4⟩
theorem Rng.stay {w w1 : World} {S : Nat → Prop} {r f : Nat} {l done rest : List Nod} (h : Rng w r f l done rest) (hs : Stay w w1 S) (hf : ¬ S f) (hr : ¬ S r) : Rng w1 r f l done rest := by
 obtain ⟨p, dp, rp, c, h0, h00, h000, hp, h1, h2, h3, h4, h5⟩ := h
 exact ⟨p, dp, rp, c, h0, h00, h000, hp, hs.blk h1 hf, h2, h3, h4, hs.blk h5 hr⟩
theorem range_run {w : World} {f : Nat} {l : List Nod} (h : Lies w f l) : ∃ o, (Instr.range 135 (.map (some f))).run Tryd.prog w = .ok (.pointer (some ⟨w.heap.size, 0, none⟩)) (w.alloc o) ∧ Rng (w.alloc o) w.heap.size f l [] l := by
 obtain ⟨p, c, rfl, hb, h1, h2, h3⟩ := h
 exact ⟨_, run_range_map (P := Tryd.prog) w 135 23 72 f _ c uMap hb, p, [], p, c, rfl, rfl, rfl, .refl _, (heap_alloc_old _ _ (blk_lt hb)).trans hb, h1, h2, h3, heap_alloc_new _ _⟩
theorem next_run {w : World} {r f : Nat} {l done rest : List Nod} (h : Rng w r f l done rest) (ty : TypeId) :
 (rest = [] ∧ (Instr.next (.pointer (some ⟨r, 0, none⟩)) false ty).run Tryd.prog w = .ok (.tuple #[.bool false]) w) ∨
 ∃ n rest' w', (n :: rest').Perm rest ∧ (Instr.next (.pointer (some ⟨r, 0, none⟩)) false ty).run Tryd.prog w = .ok (.tuple #[.bool true, n.f0.val, n.val]) w' ∧ Rng w' r f l (done ++ [n]) rest' ∧ Stay w w' (· = r) ∧ w'.heap.size = w.heap.size ∧
  (Instr.entry (.pointer (some ⟨r, 0, none⟩))).run Tryd.prog w' = .ok (.tuple #[n.f0.val, n.val]) w' := by
 obtain ⟨p, dp, rp, c, rfl, rfl, rfl, hp, hf, hn, hc, hi, hr⟩ := h
 have hnd : (dp.map Prod.snd ++ rp.map Prod.snd).Nodup := by
  rw [← List.map_append]
  exact (hp.map Prod.snd).nodup_iff.2 hn
 have hleft : ∀ x ∈ rp, ent x ∈ (leftOf (p.map ent).toArray (dp.map Prod.snd).toArray).toList := by
  intro x hx
  have hxp : x ∈ p := hp.mem_iff.1 (List.mem_append.2 (.inr hx))
  simp only [leftOf, Array.toList_filter, List.mem_filter]
  refine ⟨List.mem_map_of_mem hxp, ?_⟩
  have : x.2 ∉ dp.map Prod.snd := fun h => (List.nodup_append.1 hnd).2.2 _ h _ (List.mem_map_of_mem hx) rfl
  simpa [ent] using this
 rcases run_next_at (P := Tryd.prog) w ty r f c c (dp.map Prod.snd).toArray (p.map ent).toArray c hr hf (by intro e he; obtain ⟨x, hx, rfl⟩ := List.mem_map.1 (show e ∈ p.map ent by simpa using he); exact hc x hx) (Nat.le_refl _) with ⟨h0, hrun⟩ | ⟨e, he, w1, hw1, hrun⟩
 · refine .inl ⟨?_, hrun⟩
   cases rp with
   | nil => rfl
   | cons x rp =>
    have := hleft x (by simp)
    rw [show (leftOf (p.map ent).toArray (dp.map Prod.snd).toArray) = #[] from Array.eq_empty_of_size_eq_zero h0] at this
    simp at this
 · have he' := he
   simp only [leftOf, Array.toList_filter, List.mem_filter] at he'
   obtain ⟨hm, hb⟩ := he'
   obtain ⟨x, hxp, rfl⟩ := List.mem_map.1 hm
   have hxr : x ∈ rp := by
    rcases List.mem_append.1 (hp.mem_iff.2 hxp) with h | h
    · have : x.2 ∈ dp.map Prod.snd := List.mem_map_of_mem h
      simp [ent] at hb
      exact absurd h (by obtain ⟨a, b⟩ := x; exact hb a)
    · exact h
   obtain ⟨ra, rb, rfl⟩ := List.append_of_mem hxr
   have hstay : Stay w (ChangeMaps.setBlock w1 r (.mapIter (some f) c ((dp.map Prod.snd).toArray.push x.2) c)) (· = r) := by
    have : Stay w w1 (· = r) := by
     rcases hw1 with rfl | rfl
     · exact Stay.refl _ _
     · exact Stay.of (below_drew1 (Below.refl _ _)) _
    exact this.trans (Stay.set w1 r _) (fun _ h => .inl h)
   have hr1 : w1.heap.size = w.heap.size := by rcases hw1 with rfl | rfl <;> rfl
   have hfr : f ≠ r := by rintro rfl; rw [hf] at hr; cases hr
   have hf' := hstay.blk hf hfr
   have hit : (ChangeMaps.setBlock w1 r (.mapIter (some f) c ((dp.map Prod.snd).toArray.push x.2) c)).heap[r]? = some (.mapIter (some f) c ((dp.map Prod.snd).toArray.push x.2) c) := by
    have := blk_lt hr
    simp [ChangeMaps.setBlock, hr1, this]
   refine .inr ⟨x.1, (ra ++ rb).map Prod.fst, _, ?_, hrun, ⟨p, dp ++ [x], ra ++ rb, c, rfl, by simp, rfl, ?_, hf', hn, hc, hi, ?_⟩, hstay, by simp [ChangeMaps.setBlock, hr1], ?_⟩
   · rw [← List.map_cons (f := Prod.fst) (a := x)]
     exact ((List.perm_middle (a := x) (l₁ := ra) (l₂ := rb)).symm).map _
   · rw [List.append_assoc]
     exact (List.Perm.append_left dp (List.perm_middle (a := x) (l₁ := ra) (l₂ := rb)).symm).trans hp
   · refine Eq.trans hit ?_
     simp
   · exact run_entry_at (P := Tryd.prog) _ r f c (dp.map Prod.snd).toArray (p.map ent).toArray c (ent x) hit hf' (by simpa using hm) (by simpa [Function.comp_def, ent] using hn)
section
variable {ops : Array Oper} {rest : List Oper} {o : Oper} {a : Act} {Q : Exit → Act → World → Prop} {w : World}
theorem wl_range (f : Nat) (l : List Nod) (m : Operand) (hop : o.op = Op.range 135 m) (hm : a.eval m = .map (some f)) (hl : Lies w f l)
 (h : ∀ w1, Rng w1 w.heap.size f l [] l → Below w.heap.size w w1 → wpList Tryd.prog ops Q rest (a.put o.dst (.pointer (some ⟨w.heap.size, 0, none⟩))) w1) (hg : o.guard = none := by rfl) : wpList Tryd.prog ops Q (o :: rest) a w := by
 refine wpList_plain hg fun K' hK' => ?_
 obtain ⟨o', hrun, hr⟩ := range_run hl
 unfold Oper.wp
 simp [execOp, hop, hm, hrun, Result.andThen]
 exact hK' _ _ (h _ hr (below_alloc (Below.refl _ _) _))
theorem wl_next (r f : Nat) (l done rst : List Nod) (it : Operand) (hop : o.op = Op.next it false) (hit : a.eval it = .pointer (some ⟨r, 0, none⟩)) (h : Rng w r f l done rst)
 (hDone : rst = [] → wpList Tryd.prog ops Q rest (a.put o.dst (.tuple #[.bool false])) w)
 (hMore : ∀ (n : Nod) (rst' : List Nod) (w' : World), (n :: rst').Perm rst → Rng w' r f l (done ++ [n]) rst' → Stay w w' (· = r) → w'.heap.size = w.heap.size →
  (Instr.entry (.pointer (some ⟨r, 0, none⟩))).run Tryd.prog w' = .ok (.tuple #[.agg #[.int .i64 n.f0.f0, .int .i64 n.f0.f1], .agg #[.int .i64 n.f0.f0, .int .i64 n.f0.f1, .int .i64 n.f1.f0, .int .i64 n.f1.f1, .string n.f2, .string n.f3]]) w' →
  wpList Tryd.prog ops Q rest (a.put o.dst (.tuple #[.bool true, .agg #[.int .i64 n.f0.f0, .int .i64 n.f0.f1], .agg #[.int .i64 n.f0.f0, .int .i64 n.f0.f1, .int .i64 n.f1.f0, .int .i64 n.f1.f1, .string n.f2, .string n.f3]])) w')
 (hg : o.guard = none := by rfl) : wpList Tryd.prog ops Q (o :: rest) a w := by
 refine wpList_plain hg fun K' hK' => ?_
 unfold Oper.wp
 rcases next_run h o.type with ⟨h0, hrun⟩ | ⟨n, rst', w', hp, hrun, hr, hs, hz, he⟩
 · simp [execOp, hop, hit, hrun, Result.andThen]
   exact hK' _ _ (hDone h0)
 · simp [execOp, hop, hit, hrun, Result.andThen]
   exact hK' _ _ (hMore n rst' w' hp hr hs hz he)
end
theorem lk_none_of {l : List Nod} {s : Stp} (h : ∀ n ∈ l, n.f0 ≠ s) : lk l s = none := by
 cases hk : lk l s with
 | none => rfl
 | some y =>
  obtain ⟨j, n⟩ := y
  obtain ⟨h1, h2⟩ := lk_some hk
  exact absurd h2 (h n (List.mem_of_getElem? h1))
theorem len_run {w : World} {f : Nat} {l : List Nod} (h : Lies w f l) (ty : TypeId) : (Builtin.len_ #[135] ty #[.map (some f)]).run Tryd.prog w = .ok (.int .i64 l.length) w := by
 obtain ⟨p, c, rfl, hb, h1, h2, h3⟩ := h
 simp [Builtin.len_, MapKept.run_getObj_map hb, run_underlying uMap, Result.andThen]
 rfl
theorem clear_run {w : World} {f : Nat} {l : List Nod} (h : Lies w f l) (ty : TypeId) : ∃ w', (Builtin.clear_ #[135] ty #[.map (some f)]).run Tryd.prog w = .ok (.tuple #[]) w' ∧ Lies w' f [] ∧ Stay w w' (· = f) := by
 obtain ⟨p, c, rfl, hb, h1, h2, h3⟩ := h
 refine ⟨{ w with heap := w.heap.setIfInBounds f (.map #[] c) }, ?_, ⟨[], c, rfl, by simp [blk_lt hb], by simp, by simp, by simp⟩, Stay.set w f _⟩
 simp [Builtin.clear_, run_underlying uMap, MapKept.run_getObj_map hb, setObj, Sem.run, hb, Result.andThen]
attribute [local go_sem high] mEq
set_option maxHeartbeats 8000000 in
set_option maxRecDepth 100000 in
theorem Copy_calls (d f : Nat) (l : List Nod) (w : World) (hd : Lies w d []) (hf : Lies w f l) (hne : d ≠ f) :
 Calls Tryd.prog 100 #[.map (some d), .map (some f)] w fun e w' => e = .returned (.tuple #[]) ∧ (∃ l', l'.Perm l ∧ Lies w' d l') ∧ Stay w w' (· = d) := by
 have HD := Aside0.mk hd
 have HF := Aside0.mk hf
 have HN := Aside0.mk hne
 clear hd hf hne
 go_enter Tryd.func100, Tryd.ntmps100
 go_wp2_with (at_range; refine wl_range f l _ rfl rfl HF.out ?_; intro w1 hr1 hb1)
 go_frame
 have HR := Aside0.mk hr1
 have HB := Aside0.mk hb1
 have HDR := Aside0.mk (show d ≠ w.heap.size from Nat.ne_of_lt HD.out.lt)
 clear hr1 hb1
 go_loopg [8, 9] (l.length + 1) (fun kq _ _ wr => ∃ done rest : List Nod, Aside0 (rest.length + 1 = kq) ∧ Aside0 (Rng wr w.heap.size f l done rest) ∧ Aside0 (Lies wr d done) ∧ Aside0 (Stay w wr (· = d)))
 case atStart => exact ⟨[], l, ⟨rfl⟩, HR, ⟨HD.out.below HB.out⟩, ⟨Stay.of HB.out _⟩⟩
 case round =>
  clear HR HB
  obtain ⟨done, rest, HK, HR, HL, HS⟩ := hrel
  obtain ⟨k1, rfl⟩ : ∃ k1, gk = k1 + 1 := ⟨rest.length, HK.out.symm⟩
  go_wp2_with (at_next; refine wl_next w.heap.size f l done rest _ rfl rfl HR.out ?_ ?_)
  · intro h0
    have H0 := Aside0.mk h0
    clear h0
    go_wp2
    go_end0
    exact ⟨rfl, ⟨done, by have := HR.out.perm; rw [H0.out, List.append_nil] at this; exact this, HL.out⟩, HS.out⟩
  · intro n rst' w2 hp hr2 hs2 hz2 he2
    have HP := Aside0.mk hp
    have HR2 := Aside0.mk hr2
    have HS2 := Aside0.mk (HS.out.trans hs2 (fun k hk => .inr (Nat.le_of_eq hk.symm)))
    have HL2 := Aside0.mk (HL.out.stay hs2 HDR.out)
    clear hp hr2 hs2 hz2
    go_wp2_with (at_mapUpdate; refine wl_put d done n _ _ _ rfl rfl rfl rfl (HL2.out.below (two_below _ _ _)) ?_; intro w3 hl3 hs3; have HL3 := Aside0.mk hl3; have HS3 := Aside0.mk hs3; clear hl3 hs3)
    go_frame
    have HPU : put done n = done ++ [n] := put_none (lk_none_of (fun m hm he => by
     have hnd := HR2.out.nodup
     rw [← (HR2.out.perm.map fun n => n.f0).nodup_iff, List.append_assoc, List.map_append] at hnd
     exact (List.nodup_append.1 hnd).2.2 _ (List.mem_map_of_mem hm) _ (List.mem_map_of_mem (List.mem_append.2 (.inl (List.mem_singleton.2 rfl)))) he))
    rw [HPU] at HL3
    go_roundg k1
    case measure => omega
    case rel => exact ⟨done ++ [n], rst', ⟨by have := HP.out.length_eq; have := HK.out; simp only [List.length_cons] at *; omega⟩, ⟨HR2.out.stay ((Stay.of (two_below _ _ _) _).trans HS3.out (fun _ h => .inl h)) HN.out.symm HDR.out.symm⟩, HL3, ⟨HS2.out.trans ((Stay.of (two_below _ _ _) _).trans HS3.out (fun _ h => .inl h)) (fun _ h => .inl h)⟩⟩
end Go.Proofs.YtlfgdaiegefjiaaDoor.S
/- A tree as it lies; New, given, full, again, as the machine walks them. -/
namespace Go.Proofs.YtlfgdaiegefjiaaDoor.S
open Go.RowKit Go.Proofs.YtlfgdaiegefjiaaDoorW.PrintWords Go.Proofs.YtlfgdaiegefjiaaDoorW.PrintLast Go.Proofs.YtlfgdaiegefjiaaDoorW.PrintMore
set_option linter.unusedVariables false
set_option linter.unusedSimpArgs false
attribute [local go_sem high] mEq field_par
/-- A tree: nodes that are for good, nodes as they are now, operations, in order, the base. -/
structure Tr where
 fixed : List Nod
 now : List Nod
 ops : List Opn
 base : Stp
abbrev OpsAt (w : World) (B : Nat) (v : Value) (l : List Opn) : Prop := Kd.R k25 25 w B (fun _ => True) v l
/-- The tree T lies at block g of w, its maps at f and n, its operations at v; all from block B on. -/
structure TreeAt (w : World) (B g f n : Nat) (v : Value) (T : Tr) : Prop where
 blk : w.heap[g]? = some (.cells #[.map (some f), .map (some n), v, .int .i64 T.base.f0, .int .i64 T.base.f1] 137 (0, 0))
 fix : Lies w f T.fixed
 now : Lies w n T.now
 ops : OpsAt w B v T.ops
 ne : f ≠ n
 bg : B ≤ g
 bf : B ≤ f
 bn : B ≤ n
/-- The blocks of a tree. -/
def foot (g f n : Nat) (v : Value) (k : Nat) : Prop := k = g ∨ k = f ∨ k = n ∨ v.ownBlock = some k
theorem OpsAt.stay {w w1 : World} {S : Nat → Prop} {B : Nat} {v : Value} {l : List Opn} (h : OpsAt w B v l) (hs : Stay w w1 S) (hn : ∀ k, v.ownBlock = some k → ¬ S k) : OpsAt w1 B v l := by
 have h2 : Kd.R k25 25 w B (fun k => v.ownBlock = some k) v l := ⟨fun k hk => hk, by
  obtain ⟨_, inner, ho, hr⟩ := h
  exact ⟨inner, ho, hr.imp_ (fun _ _ hp => hp)⟩⟩
 exact Kd.R_mono (Kd.R_step h2 (fun k hk hlt => hs.block k hlt (hn k hk))) (fun _ _ => trivial)
theorem OpsAt.own_ne {w : World} {B g : Nat} {v : Value} {l : List Opn} {cs : Array Value} (h : OpsAt w B v l) (hb : w.heap[g]? = some (.cells cs 137 (0, 0))) : v.ownBlock ≠ some g := fun e => Kd.R_ne h hb (by decide) e.symm
theorem OpsAt.own_map {w : World} {B f : Nat} {v : Value} {l : List Opn} {ln : List Nod} (h : OpsAt w B v l) (hb : Lies w f ln) : v.ownBlock ≠ some f := fun e => by
 obtain ⟨_, inner, ho, hr⟩ := h
 obtain ⟨cells, hc⟩ := own_typed ho f e
 obtain ⟨p, c, _, hm, _⟩ := hb
 rw [hc] at hm
 cases hm
theorem TreeAt.gf {w : World} {B g f n : Nat} {v : Value} {T : Tr} (h : TreeAt w B g f n v T) : g ≠ f := by
 rintro rfl
 obtain ⟨p, c, _, hm, _⟩ := h.fix
 rw [h.blk] at hm
 cases hm
theorem TreeAt.gn {w : World} {B g f n : Nat} {v : Value} {T : Tr} (h : TreeAt w B g f n v T) : g ≠ n := by
 rintro rfl
 obtain ⟨p, c, _, hm, _⟩ := h.now
 rw [h.blk] at hm
 cases hm
theorem TreeAt.stay {w w1 : World} {S : Nat → Prop} {B g f n : Nat} {v : Value} {T : Tr} (h : TreeAt w B g f n v T) (hs : Stay w w1 S) (hn : ∀ k, foot g f n v k → ¬ S k) : TreeAt w1 B g f n v T :=
 ⟨hs.blk h.blk (hn _ (.inl rfl)), h.fix.stay hs (hn _ (.inr (.inl rfl))), h.now.stay hs (hn _ (.inr (.inr (.inl rfl)))), h.ops.stay hs (fun k hk => hn k (.inr (.inr (.inr hk)))), h.ne, h.bg, h.bf, h.bn⟩
theorem TreeAt.below {w w1 : World} {B g f n : Nat} {v : Value} {T : Tr} (h : TreeAt w B g f n v T) (hb : Below w.heap.size w w1) : TreeAt w1 B g f n v T := h.stay (Stay.of hb (fun _ => False)) (fun _ _ hk => hk)
/-- Only now turns. -/
theorem TreeAt.turn {w w1 : World} {B g f n : Nat} {v : Value} {T : Tr} (h : TreeAt w B g f n v T) (hs : Stay w w1 (· = n)) {l : List Nod} (hl : Lies w1 n l) : TreeAt w1 B g f n v { T with now := l } :=
 ⟨hs.blk h.blk h.gn, h.fix.stay hs h.ne, hl, h.ops.stay hs (fun k hk e => by subst e; exact h.ops.own_map h.now hk), h.ne, h.bg, h.bf, h.bn⟩
set_option maxHeartbeats 8000000 in
set_option maxRecDepth 100000 in
theorem New_calls (w : World) : Calls Tryd.prog 92 #[] w fun e w' => ∃ g f n, e = .returned (.pointer (some ⟨g, 0, none⟩)) ∧ TreeAt w' w.heap.size g f n (.slice none 0 0) ⟨[], [], [], St0⟩ ∧ Below w.heap.size w w' := by
 go_enter Tryd.func92, Tryd.ntmps92
 have h1 : ∀ w : World, (Instr.makeMap 135 none).run Tryd.prog w = .ok (.map (some w.heap.size)) (w.alloc (.map #[] 0)) := fun w => run_makeMap_plain w 135
 go_wp2
 go_ret
 have s1 : (w.alloc (.map #[] 0)).heap.size = w.heap.size + 1 := by simp
 have s2 : ((w.alloc (.map #[] 0)).alloc (.map #[] 0)).heap.size = w.heap.size + 1 + 1 := by simp
 have a3 := heap_alloc_new ((w.alloc (.map #[] 0)).alloc (.map #[] 0)) (.cells #[.map (some w.heap.size), .map (some (w.heap.size + 1)), .slice none 0 0, .int .i64 0, .int .i64 0] 137)
 rw [s2] at a3
 have l1 := Lies.new w
 have l2 := Lies.new (w.alloc (.map #[] 0))
 rw [s1] at l2
 have b1 := below_alloc (Below.refl (w.alloc (.map #[] 0)).heap.size (w.alloc (.map #[] 0))) (.map #[] 0)
 have b2 := below_alloc (Below.refl ((w.alloc (.map #[] 0)).alloc (.map #[] 0)).heap.size ((w.alloc (.map #[] 0)).alloc (.map #[] 0))) (.cells #[.map (some w.heap.size), .map (some (w.heap.size + 1)), .slice none 0 0, .int .i64 0, .int .i64 0] 137)
 refine ⟨w.heap.size + 1 + 1, w.heap.size, w.heap.size + 1, rfl, ⟨a3, (l1.below b1).below b2, l2.below b2, Kd.R_nil _ _ _ _ _, by omega, by omega, by omega, by omega⟩, below_alloc (below_alloc (below_alloc (Below.refl _ _) _) _) _⟩
set_option maxHeartbeats 8000000 in
set_option maxRecDepth 100000 in
theorem given_calls (w : World) (B g f n : Nat) (v : Value) (T : Tr) (h : TreeAt w B g f n v T) : Calls Tryd.prog 102 #[.pointer (some ⟨g, 0, none⟩)] w fun e w' => e = .returned (.bool true) ∧ w = w' := by
 obtain ⟨z0, z1, z2, z3, z4⟩ := Y5 h.blk
 clear h
 have hq := run_neq_map_nil (P := Tryd.prog) w 135 23 72 (some f) uMap
 go_enter Tryd.func102, Tryd.ntmps102
 go_wp2
 go_ret
 exact ⟨rfl, rfl⟩
def creates (l : List Opn) : Nat := (l.filter fun o => o.f0 == 1).length
def fullB (T : Tr) (o : Opn) : Bool := decide (512 ≤ T.ops.length) || ((o.f0 == 1) && decide (512 ≤ T.fixed.length + creates T.ops))
theorem ret_bool {a b : Bool} (h : a = b) : Ending.returned (.bool a) = Ending.returned (.bool b) := by rw [h]
theorem full_one {T : Tr} {o : Opn} (h : 512 ≤ (T.ops.length : Int)) : true = fullB T o := by
 unfold fullB
 rw [decide_eq_true (by omega)]
 rfl
theorem full_two {T : Tr} {o : Opn} {m : Nat} (hm : m = T.fixed.length + creates T.ops) (h : ¬ 512 ≤ (T.ops.length : Int)) (h2 : o.f0 = 1) : decide (512 ≤ (m : Int)) = fullB T o := by
 unfold fullB
 rw [decide_eq_false (show ¬ 512 ≤ T.ops.length by omega), h2, ← hm]
 simp only [beq_self_eq_true, Bool.true_and, Bool.false_or, decide_eq_decide]
 omega
theorem full_three {T : Tr} {o : Opn} (h : ¬ 512 ≤ (T.ops.length : Int)) (h2 : o.f0 ≠ 1) : false = fullB T o := by
 unfold fullB
 rw [decide_eq_false (show ¬ 512 ≤ T.ops.length by omega), beq_eq_false_iff_ne.mpr h2]
 rfl
theorem creates_succ (l : List Opn) (x : Int) (h0 : 0 ≤ x) (h1 : x < l.length) : creates (l.take (x + 1).toNat) = creates (l.take x.toNat) + (if (rd_T25 l x).f0 = 1 then 1 else 0) := by
 obtain ⟨k, rfl⟩ : ∃ k : Nat, x = k := ⟨x.toNat, by omega⟩
 have hk : k < l.length := by omega
 rw [show ((k : Int) + 1).toNat = k + 1 by omega, show ((k : Int)).toNat = k by omega, List.take_succ_eq_append_getElem hk]
 unfold creates
 rw [List.filter_append, List.length_append]
 have : rd_T25 l (k : Int) = l[k] := by
  unfold rd_T25
  rw [show ((k : Int)).toNat = k by omega]
  simp [List.getD, hk]
 rw [this]
 by_cases h : l[k].f0 = 1 <;> simp [h]
theorem creates_le (l : List Opn) : creates l ≤ l.length := List.length_filter_le _ _
set_option maxHeartbeats 8000000 in
set_option maxRecDepth 100000 in
theorem full_calls (w : World) (B g f n : Nat) (v : Value) (T : Tr) (o : Opn) (h : TreeAt w B g f n v T) (hfl : T.fixed.length ≤ 1000000) (hol : T.ops.length ≤ 1000000) :
 Calls Tryd.prog 106 #[.pointer (some ⟨g, 0, none⟩), .agg #[.int .i64 o.f0, .int .i64 o.f1.f0, .int .i64 o.f1.f1, .int .i64 o.f2.f0, .int .i64 o.f2.f1, .int .i64 o.f3.f0, .int .i64 o.f3.f1, .string o.f4, .string o.f5]] w fun e w' => e = .returned (.bool (fullB T o)) ∧ Below w.heap.size w w' := by
 obtain ⟨A, c, hv, hc, hC⟩ := Kd.R_reads h.ops
 subst hv
 have H := Aside0.mk h
 have HF := Aside0.mk hfl
 have HO := Aside0.mk hol
 have HCL := Aside0.mk hc
 have HC := Aside0.mk hC
 have hu := Tryd.underlying25
 have hlen := len_run (h.fix.below (below_alloc (Below.refl _ _) (.cells #[.int .i64 o.f0, .int .i64 o.f1.f0, .int .i64 o.f1.f1, .int .i64 o.f2.f0, .int .i64 o.f2.f1, .int .i64 o.f3.f0, .int .i64 o.f3.f1, .string o.f4, .string o.f5] 25)))
 obtain ⟨z0, z1, z2, z3, z4⟩ := Y5 h.blk
 have hlt := blk_lt h.blk
 clear h hfl hol hc hC
 go_enter Tryd.func106, Tryd.ntmps106
 go_wp2
 have BK := Aside0.mk (heap_alloc_new w (.cells #[.int .i64 o.f0, .int .i64 o.f1.f0, .int .i64 o.f1.f1, .int .i64 o.f2.f0, .int .i64 o.f2.f1, .int .i64 o.f3.f0, .int .i64 o.f3.f1, .string o.f4, .string o.f5] 25))
 have HB := Aside0.mk (below_alloc (Below.refl w.heap.size w) (.cells #[.int .i64 o.f0, .int .i64 o.f1.f0, .int .i64 o.f1.f1, .int .i64 o.f2.f0, .int .i64 o.f2.f1, .int .i64 o.f3.f0, .int .i64 o.f3.f1, .string o.f4, .string o.f5] 25))
 clear hlen z0 z1 z2 z3 z4
 go_loopw [5, 18] (fun u5 u18 wr => ∃ x : Int, Aside0 (0 ≤ x) ∧ Aside0 (x ≤ T.ops.length) ∧ u18 = .int .i64 x ∧ u5 = .int .i64 ((T.fixed.length + creates (T.ops.take x.toNat) : Nat) : Int) ∧ Aside0 (wr.heap[w.heap.size]? = some (.cells #[.int .i64 o.f0, .int .i64 o.f1.f0, .int .i64 o.f1.f1, .int .i64 o.f2.f0, .int .i64 o.f2.f1, .int .i64 o.f3.f0, .int .i64 o.f3.f1, .string o.f4, .string o.f5] 25)) ∧ Aside0 (Below w.heap.size w wr)) (fun _ u18 _ => (T.ops.length - intOf u18).toNat)
 case atStart => exact ⟨0, ⟨Int.le_refl _⟩, ⟨by omega⟩, rfl, by simp [creates], BK, HB⟩
 case round =>
  clear BK HB
  obtain ⟨x, H0, H1, rfl, rfl, BK, HB⟩ := hrel
  by_cases hx : x < (T.ops.length : Int)
  · have c4b0 : decide (x < (T.ops.length : Int)) = true := decide_eq_true hx
    have c5b0 : decide (0 ≤ x) = true := decide_eq_true H0.out
    have hsucc := creates_succ T.ops x H0.out hx
    have hle := creates_le (T.ops.take x.toNat)
    obtain ⟨ad, e, hx0, hx1, hx2, hx3, hx4, hx5, hx6, hx7, hx8⟩ := at_T25 (Kd.C_below HC.out HB.out) x H0.out hx
    cases e
    have p1 := eq_true H0.out
    have q1 := eq_true hx
    have hbx : x ≤ 1000000 := by have := HO.out; omega
    obtain ⟨m, hm⟩ : ∃ m : Nat, m = T.fixed.length + creates (T.ops.take x.toNat) := ⟨_, rfl⟩
    have hmb : (m : Int) ≤ 3000000 := by have := HO.out; have := HF.out; have := List.length_take_le x.toNat T.ops; have hl2 : (T.ops.take x.toNat).length ≤ T.ops.length := by rw [List.length_take]; omega
                                         omega
    rw [← hm]
    have HM := Aside0.mk hm
    have HSU := Aside0.mk hsucc
    have h0 := H0.out
    have hx' := hx
    clear hm hsucc hle
    by_cases h1 : (rd_T25 T.ops x).f0 = 1
    · have c6b0 : ((rd_T25 T.ops x).f0 == 1) = true := beq_iff_eq.mpr h1
      have HH := Aside0.mk h1
      clear h1
      go_wp2
      go_roundw
      case rel => exact ⟨x + 1, ⟨by omega⟩, ⟨by omega⟩, rfl, by rw [HSU.out, if_pos HH.out]; have := HM.out; go_num, ⟨Qk⟩, ⟨Qh⟩⟩
      case measure => simp [intOf]; omega
    · have c6b0 : ((rd_T25 T.ops x).f0 == 1) = false := beq_eq_false_iff_ne.mpr h1
      have HH := Aside0.mk h1
      clear h1
      go_wp2
      go_roundw
      case rel => exact ⟨x + 1, ⟨by omega⟩, ⟨by omega⟩, rfl, by rw [HSU.out, if_neg HH.out]; have := HM.out; go_num, ⟨Qk⟩, ⟨Qh⟩⟩
      case measure => simp [intOf]; omega
  · obtain rfl : x = T.ops.length := by have := H1.out; omega
    have c4b0 : decide ((T.ops.length : Int) < (T.ops.length : Int)) = false := by simp
    obtain ⟨z0, z1, z2, z3, z4⟩ := Y5 (blk_below H.out.blk HB.out)
    obtain ⟨y0, y1, y2, y3, y4, y5, y6, y7, y8⟩ := Y9 BK.out
    rw [show ((T.ops.length : Int)).toNat = T.ops.length by omega, List.take_length]
    obtain ⟨m, hm⟩ : ∃ m : Nat, m = T.fixed.length + creates T.ops := ⟨_, rfl⟩
    rw [← hm]
    have HM := Aside0.mk hm
    clear hm c4b0 hx
    by_cases h1 : 512 ≤ (T.ops.length : Int)
    · have d1 : decide (512 ≤ (T.ops.length : Int)) = true := decide_eq_true h1
      have HA := Aside0.mk h1
      clear h1
      go_wp2
      all_goals (go_ret; exact ⟨ret_bool (full_one HA.out), HB.out⟩)
    · have d1 : decide (512 ≤ (T.ops.length : Int)) = false := decide_eq_false h1
      have HA := Aside0.mk h1
      clear h1
      by_cases h2 : o.f0 = 1
      · have d2 : (o.f0 == 1) = true := beq_iff_eq.mpr h2
        have HA2 := Aside0.mk h2
        clear h2
        go_wp2
        all_goals (go_ret; exact ⟨ret_bool (full_two HM.out (by have := HA.out; omega) HA2.out), HB.out⟩)
      · have d2 : (o.f0 == 1) = false := beq_eq_false_iff_ne.mpr h2
        have HA2 := Aside0.mk h2
        clear h2
        go_wp2
        all_goals (go_ret; exact ⟨ret_bool (full_three (by have := HA.out; omega) HA2.out), HB.out⟩)
end Go.Proofs.YtlfgdaiegefjiaaDoor.S
/- What operations make of nodes, in plain words: chains of parents that end; an operation upon nodes that lead to the root leads to such; do at every operation that may be. -/
namespace Go.Proofs.YtlfgdaiegefjiaaDoor.S
open Go.RowKit Go.Proofs.YtlfgdaiegefjiaaDoorW.PrintWords Go.Proofs.YtlfgdaiegefjiaaDoorW.PrintLast Go.Proofs.YtlfgdaiegefjiaaDoorW.PrintMore
set_option linter.unusedVariables false
set_option linter.unusedSimpArgs false
theorem bel_mono {l : List Nod} {id : Stp} : ∀ {k : Nat} {s : Stp} {r : Bool}, bel l id k s = some r → bel l id (k + 1) s = some r
 | 0, _, _, h => by simp [bel] at h
 | k + 1, s, r, h => by
  unfold bel at h ⊢
  split
  · rename_i h1; rw [if_pos h1] at h; exact h
  · rename_i h1
    rw [if_neg h1] at h
    split
    · rename_i h2; rw [if_pos h2] at h; exact h
    · rename_i h2; rw [if_neg h2] at h; exact bel_mono h
theorem bel_more {l : List Nod} {id : Stp} {k : Nat} {s : Stp} {r : Bool} (j : Nat) (h : bel l id k s = some r) : bel l id (k + j) s = some r := by
 induction j with
 | zero => exact h
 | succ j ih => exact bel_mono ih
theorem bel_det {l : List Nod} {id : Stp} {k k' : Nat} {s : Stp} {r r' : Bool} (h : bel l id k s = some r) (h' : bel l id k' s = some r') : r = r' := by
 have h1 := bel_more k' h
 have h2 := bel_more k h'
 rw [Nat.add_comm, h2] at h1
 exact (Option.some.inj h1).symm
/-- Whether a stamp is a node's, or below it. -/
noncomputable def under (l : List Nod) (id s : Stp) : Bool := @decide (∃ k, bel l id k s = some true) (Classical.propDecidable _)
theorem under_of {l : List Nod} {id s : Stp} {k : Nat} {r : Bool} (h : bel l id k s = some r) : under l id s = r := by
 unfold under
 cases r with
 | true => exact @decide_eq_true _ (Classical.propDecidable _) ⟨k, h⟩
 | false => exact @decide_eq_false _ (Classical.propDecidable _) (fun ⟨j, hj⟩ => by have := bel_det h hj; cases this)
def root (l : List Nod) : Nat → Stp → Bool
 | 0, s => outerB s
 | k + 1, s => outerB s || root l k (look l s).f1
theorem root_mono {l : List Nod} : ∀ {k : Nat} {s : Stp}, root l k s = true → root l (k + 1) s = true
 | 0, s, h => by simp only [root] at h ⊢; simp [h]
 | k + 1, s, h => by
  simp only [root, Bool.or_eq_true] at h ⊢
  rcases h with h | h
  · exact .inl h
  · have := root_mono h
    simp only [root, Bool.or_eq_true] at this
    exact .inr this
theorem root_more {l : List Nod} {k : Nat} {s : Stp} (j : Nat) (h : root l k s = true) : root l (k + j) s = true := by
 induction j with
 | zero => exact h
 | succ j ih => exact root_mono ih
theorem bel_root {l : List Nod} (id : Stp) : ∀ {k : Nat} {s : Stp}, root l k s = true → ∃ r, bel l id (k + 1) s = some r
 | 0, s, h => ⟨false, by unfold bel; rw [if_pos (show outerB s = true from h)]⟩
 | k + 1, s, h => by
  unfold bel
  by_cases h1 : outerB s = true
  · exact ⟨false, by rw [if_pos h1]⟩
  · rw [if_neg h1]
    by_cases h2 : (s.f0 == id.f0 && s.f1 == id.f1) = true
    · exact ⟨true, by rw [if_pos h2]⟩
    · rw [if_neg h2]
      simp only [root, Bool.or_eq_true] at h
      exact bel_root id (h.resolve_left h1)
/-- Nodes that lead to the root, or the trash: each parent is there. -/
structure Rooted (l : List Nod) : Prop where
 rt : ∀ s, ∃ k, root l k s = true
 par : ∀ n ∈ l, (has l n.f1 || outerB n.f1) = true
 own : ∀ n ∈ l, outerB n.f0 = false
theorem has_iff {l : List Nod} {s : Stp} : has l s = true ↔ ∃ n ∈ l, n.f0 = s := by
 unfold has
 constructor
 · intro h
   cases hk : lk l s with
   | none => rw [hk] at h; simp at h
   | some y =>
    obtain ⟨j, n⟩ := y
    obtain ⟨h1, h2⟩ := lk_some hk
    exact ⟨n, List.mem_of_getElem? h1, h2⟩
 · rintro ⟨n, hn, rfl⟩
   cases hk : lk l n.f0 with
   | none => exact absurd rfl (lk_none hk n hn)
   | some y => rfl
theorem look_not {l : List Nod} {s : Stp} (h : has l s = false) : look l s = zNod := by
 unfold has at h
 unfold look
 cases hk : lk l s with
 | none => rfl
 | some y => rw [hk] at h; simp at h
theorem look_mem {l : List Nod} {s : Stp} (h : has l s = true) : look l s ∈ l ∧ (look l s).f0 = s := by
 unfold has at h
 unfold look
 cases hk : lk l s with
 | none => rw [hk] at h; simp at h
 | some y =>
  obtain ⟨j, n⟩ := y
  obtain ⟨h1, h2⟩ := lk_some hk
  exact ⟨List.mem_of_getElem? h1, h2⟩
theorem orT {a b : Bool} (h : (a || b) = true) : a = true ∨ b = true := by simpa using h
theorem has_cons (x : Nod) (l : List Nod) (s : Stp) : has (x :: l) s = (eqS s x.f0 || has l s) := by
 unfold has
 rw [lk]
 by_cases h : eqS s x.f0 = true
 · rw [if_pos h, h]; rfl
 · rw [if_neg h]
   have h' : eqS s x.f0 = false := by simpa using h
   rw [h']
   cases lk l s <;> rfl
theorem look_cons (x : Nod) (l : List Nod) (s : Stp) : look (x :: l) s = if eqS s x.f0 = true then x else look l s := by
 unfold look
 rw [lk]
 by_cases h : eqS s x.f0 = true
 · rw [if_pos h, if_pos h]
 · rw [if_neg h, if_neg h]
   cases lk l s <;> rfl
theorem lk_put (l : List Nod) (n : Nod) (s : Stp) : (has (put l n) s = (has l s || eqS s n.f0)) ∧ (look (put l n) s = if eqS s n.f0 = true then n else look l s) := by
 induction l with
 | nil =>
  rw [put, has_cons, look_cons]
  exact ⟨by rw [Bool.or_comm], rfl⟩
 | cons x l ih =>
  unfold put
  by_cases hx : eqS n.f0 x.f0 = true
  · rw [if_pos hx, has_cons, has_cons, look_cons, look_cons, ← eqS_iff.1 hx]
    constructor
    · cases eqS s n.f0 <;> cases has l s <;> rfl
    · split <;> rfl
  · rw [if_neg hx, has_cons, has_cons, look_cons, look_cons, ih.1, ih.2]
    constructor
    · rw [Bool.or_assoc]
    · by_cases h : eqS s x.f0 = true
      · have e := eqS_iff.1 h
        have : eqS s n.f0 = false := by rw [e, eqS_comm]; simpa using hx
        rw [if_pos h, if_neg (by rw [this]; simp), if_pos h]
      · rw [if_neg h, if_neg h]
theorem has_put (l : List Nod) (n : Nod) (s : Stp) : has (put l n) s = (has l s || eqS s n.f0) := (lk_put l n s).1
theorem look_put (l : List Nod) (n : Nod) (s : Stp) : look (put l n) s = if eqS s n.f0 = true then n else look l s := (lk_put l n s).2
theorem mem_put {l : List Nod} {n m : Nod} (h : m ∈ put l n) : m = n ∨ m ∈ l := by
 induction l with
 | nil => simp [put] at h; exact .inl h
 | cons x l ih =>
  unfold put at h
  split at h
  · rcases List.mem_cons.1 h with h | h
    · exact .inl h
    · exact .inr (List.mem_cons_of_mem _ h)
  · rcases List.mem_cons.1 h with h | h
    · exact .inr (by rw [h]; simp)
    · exact (ih h).imp id (fun h => List.mem_cons_of_mem _ h)
/-- Beside one number the parents are the same: what does not come by it leads where it led. -/
theorem root_apart {l l' : List Nod} {id : Stp} (he : ∀ s, s ≠ id → (look l' s).f1 = (look l s).f1) : ∀ {k : Nat} {s : Stp}, bel l id k s = some false → root l' k s = true
 | 0, _, h => by simp [bel] at h
 | k + 1, s, h => by
  unfold bel at h
  by_cases h1 : outerB s = true
  · simp [root, h1]
  · rw [if_neg h1] at h
    by_cases h2 : (s.f0 == id.f0 && s.f1 == id.f1) = true
    · rw [if_pos h2] at h; cases h
    · rw [if_neg h2] at h
      have hs : s ≠ id := fun e => h2 (by rw [e]; simp)
      have := root_apart he h
      rw [← he s hs] at this
      simp [root, this]
theorem root_over {l l' : List Nod} {id p : Stp} {k0 : Nat} (he : ∀ s, s ≠ id → (look l' s).f1 = (look l s).f1) (hp : (look l' id).f1 = p) (h0 : root l' k0 p = true) : ∀ {k : Nat} {s : Stp}, root l k s = true → root l' (k + (k0 + 1)) s = true
 | 0, s, h => by rw [Nat.zero_add]; simp only [root] at h ⊢; simp [h]
 | k + 1, s, h => by
  by_cases hs : s = id
  · subst hs
    have : root l' (k0 + 1) s = true := by simp only [root]; rw [hp, h0]; simp
    have := root_more (k + 1) this
    rw [Nat.add_comm] at this
    exact this
  · simp only [root, Bool.or_eq_true] at h
    rw [show k + 1 + (k0 + 1) = (k + (k0 + 1)) + 1 by omega]
    show (outerB s || root l' (k + (k0 + 1)) (look l' s).f1) = true
    rcases h with h | h
    · rw [h]; rfl
    · rw [he s hs, root_over he hp h0 h, Bool.or_true]
theorem Rooted.put {l : List Nod} (h : Rooted l) (n : Nod) (hid : outerB n.f0 = false) (hpar : (has l n.f1 || outerB n.f1) = true) (hb : ∃ k, bel l n.f0 k n.f1 = some false) : Rooted (put l n) := by
 have he : ∀ s, s ≠ n.f0 → (look (S.put l n) s).f1 = (look l s).f1 := fun s hs => by rw [look_put, if_neg (by rw [eqS_false hs]; simp)]
 have hp : (look (S.put l n) n.f0).f1 = n.f1 := by rw [look_put, if_pos (eqS_self _)]
 refine ⟨fun s => ?_, fun m hm => ?_, fun m hm => ?_⟩
 · obtain ⟨k0, hk0⟩ := hb
   obtain ⟨k, hk⟩ := h.rt s
   exact ⟨_, root_over he hp (root_apart he hk0) hk⟩
 · rw [has_put]
   rcases mem_put hm with rfl | hm
   · rcases orT hpar with h1 | h1 <;> simp [h1]
   · rcases orT (h.par m hm) with h1 | h1 <;> simp [h1]
 · rcases mem_put hm with rfl | hm
   · exact hid
   · exact h.own m hm
/-- What an operation makes of nodes. -/
noncomputable def moveN (l : List Nod) (nd par : Stp) : List Nod :=
 if has l nd = false then l else if (has l par || outerB par) = false then l else if under l nd par = true then l else put l ⟨(look l nd).f0, par, (look l nd).f2, (look l nd).f3⟩
noncomputable def doN (l : List Nod) (o : Opn) : List Nod :=
 if o.f0 = 1 then (if has l o.f2 = true then l else if (has l o.f3 || outerB o.f3) = true then put l ⟨o.f2, o.f3, o.f4, ⟨#[]⟩⟩ else l)
 else if o.f0 = 2 then moveN l o.f2 o.f3
 else if o.f0 = 5 then moveN l o.f2 (stp 0 1)
 else if o.f0 = 3 then (if has l o.f2 = true then put l ⟨(look l o.f2).f0, (look l o.f2).f1, o.f4, (look l o.f2).f3⟩ else l)
 else (if has l o.f2 = true then put l ⟨(look l o.f2).f0, (look l o.f2).f1, (look l o.f2).f2, o.f5⟩ else l)
def OpOk (o : Opn) : Prop := (o.f0 = 1 ∨ o.f0 = 2 ∨ o.f0 = 3 ∨ o.f0 = 4 ∨ o.f0 = 5) ∧ outerB o.f2 = false
theorem Rooted.ends {l : List Nod} (h : Rooted l) (id s : Stp) : ∃ k r, bel l id k s = some r := by
 obtain ⟨k, hk⟩ := h.rt s
 obtain ⟨r, hr⟩ := bel_root id hk
 exact ⟨_, r, hr⟩
theorem moved_is {l : List Nod} (h : Rooted l) (nd par : Stp) : ∃ k, moved k l nd par = some (moveN l nd par) := by
 obtain ⟨k, r, hr⟩ := h.ends nd par
 refine ⟨k, ?_⟩
 unfold moved moveN
 split
 · rfl
 · split
   · rfl
   · rw [hr, under_of hr, Option.map_some]
theorem moveN_rooted {l : List Nod} (h : Rooted l) (nd par : Stp) (ho : outerB nd = false) : Rooted (moveN l nd par) := by
 unfold moveN
 split
 · exact h
 · rename_i h1
   split
   · exact h
   · rename_i h2
     split
     · exact h
     · rename_i h3
       obtain ⟨k, r, hr⟩ := h.ends nd par
       rw [under_of hr] at h3
       have hid : (look l nd).f0 = nd := look_id (by simpa using h1)
       refine h.put _ (by rw [hid]; exact ho) (by cases hx : (has l par || outerB par) with | true => rfl | false => exact absurd hx h2) ⟨k, ?_⟩
       show bel l (look l nd).f0 k par = _
       rw [hid, hr]
       simpa using h3
/-- A parent that is there, of a number that is not: it is not below it. -/
theorem bel_none {l : List Nod} (h : Rooted l) {id : Stp} (hid : has l id = false) (ho : outerB id = false) : ∀ {k : Nat} {s : Stp}, root l k s = true → (has l s || outerB s) = true → bel l id (k + 1) s = some false
 | 0, s, hk, hs => by unfold bel; rw [if_pos (show outerB s = true from hk)]
 | k + 1, s, hk, hs => by
  unfold bel
  by_cases h1 : outerB s = true
  · rw [if_pos h1]
  · rw [if_neg h1]
    have hh : has l s = true := by simpa [h1] using hs
    have h2 : ¬ (s.f0 == id.f0 && s.f1 == id.f1) = true := fun e => by
     have : s = id := eqS_iff.1 e
     rw [this, hid] at hh
     cases hh
    rw [if_neg h2]
    simp only [root, Bool.or_eq_true] at hk
    exact bel_none h hid ho (hk.resolve_left h1) (h.par _ (look_mem hh).1)
theorem Rooted.same {l : List Nod} (h : Rooted l) {nd : Stp} (hh : has l nd = true) (nm vl : ByteArray) : Rooted (S.put l ⟨(look l nd).f0, (look l nd).f1, nm, vl⟩) := by
 obtain ⟨hm, hid⟩ := look_mem hh
 have he : ∀ s, (look (S.put l ⟨(look l nd).f0, (look l nd).f1, nm, vl⟩) s).f1 = (look l s).f1 := fun s => by
  rw [look_put]
  by_cases e : eqS s (look l nd).f0 = true
  · rw [if_pos e]
    have := eqS_iff.1 e
    rw [this, hid]
  · rw [if_neg e]
 have hr : ∀ k s, root l k s = true → root (S.put l ⟨(look l nd).f0, (look l nd).f1, nm, vl⟩) k s = true := by
  intro k
  induction k with
  | zero => intro s h; exact h
  | succ k ih =>
   intro s h
   simp only [root, Bool.or_eq_true] at h ⊢
   rw [he]
   exact h.imp id (ih _)
 refine ⟨fun s => ?_, fun m hm' => ?_, fun m hm' => ?_⟩
 · obtain ⟨k, hk⟩ := h.rt s
   exact ⟨k, hr k s hk⟩
 · rw [has_put]
   rcases mem_put hm' with rfl | hm'
   · rcases orT (h.par _ hm) with h1 | h1 <;> simp [h1]
   · rcases orT (h.par m hm') with h1 | h1 <;> simp [h1]
 · rcases mem_put hm' with rfl | hm'
   · exact h.own (look l nd) hm
   · exact h.own m hm'
theorem doN_rooted {l : List Nod} (h : Rooted l) {o : Opn} (ho : OpOk o) : Rooted (doN l o) := by
 obtain ⟨hk, hn⟩ := ho
 unfold doN
 split
 · split
   · exact h
   · rename_i h1
     split
     · rename_i h2
       obtain ⟨k, hk⟩ := h.rt o.f3
       exact h.put _ hn h2 ⟨_, bel_none h (by simpa using h1) hn hk h2⟩
     · exact h
 · split
   · exact moveN_rooted h _ _ hn
   · split
     · exact moveN_rooted h _ _ hn
     · split
       · split
         · rename_i hh; exact h.same hh _ _
         · exact h
       · split
         · rename_i hh; exact h.same hh _ _
         · exact h
theorem do_calls {l : List Nod} (h : Rooted l) {o : Opn} (ho : OpOk o) (b : Nat) : Does b l (doN l o) [.int .i64 o.f0, .int .i64 o.f1.f0, .int .i64 o.f1.f1, .int .i64 o.f2.f0, .int .i64 o.f2.f1, .int .i64 o.f3.f0, .int .i64 o.f3.f1, .string o.f4, .string o.f5] := by
 obtain ⟨kd, a, nd, par, nm, vl⟩ := o
 obtain ⟨hk, hn⟩ := ho
 simp only at hk hn
 unfold doN
 rcases hk with rfl | rfl | rfl | rfl | rfl
 · exact do_create b l a.f0 a.f1 nd par nm vl
 · obtain ⟨k, hk⟩ := moved_is h nd par
   exact do_move k _ b l a.f0 a.f1 nd par nm vl hk
 · exact do_rename b l a.f0 a.f1 nd par nm vl
 · exact do_set b l a.f0 a.f1 nd par nm vl
 · obtain ⟨k, hk⟩ := moved_is h nd (stp 0 1)
   exact do_trash k _ b l a.f0 a.f1 nd par nm vl hk
theorem mem_uniq {l : List Nod} (hd : (l.map fun n => n.f0).Nodup) {a b : Nod} (ha : a ∈ l) (hb : b ∈ l) (h : a.f0 = b.f0) : a = b := by
 induction l with
 | nil => cases ha
 | cons x l ih =>
  rw [List.map_cons, List.nodup_cons] at hd
  rcases List.mem_cons.1 ha with h1 | h1
  · rcases List.mem_cons.1 hb with h2 | h2
    · rw [h1, h2]
    · exact absurd (show x.f0 ∈ l.map fun n => n.f0 by rw [← h1, h]; exact List.mem_map_of_mem (f := fun n : Nod => n.f0) h2) hd.1
  · rcases List.mem_cons.1 hb with h2 | h2
    · exact absurd (show x.f0 ∈ l.map fun n => n.f0 by rw [← h2, ← h]; exact List.mem_map_of_mem (f := fun n : Nod => n.f0) h1) hd.1
    · exact ih hd.2 h1 h2
theorem has_perm {l l' : List Nod} (hp : l'.Perm l) (s : Stp) : has l' s = has l s := by
 have h1 : has l' s = true ↔ has l s = true := by rw [has_iff, has_iff]; exact ⟨fun ⟨n, hn, e⟩ => ⟨n, hp.mem_iff.1 hn, e⟩, fun ⟨n, hn, e⟩ => ⟨n, hp.mem_iff.2 hn, e⟩⟩
 cases ha : has l' s with
 | true => rw [h1.1 ha]
 | false =>
  cases hb : has l s with
  | false => rfl
  | true => rw [h1.2 hb] at ha; cases ha
theorem look_perm {l l' : List Nod} (hp : l'.Perm l) (hd : (l.map fun n => n.f0).Nodup) (s : Stp) : look l' s = look l s := by
 cases h : has l s with
 | false => rw [look_not h, look_not (by rw [has_perm hp]; exact h)]
 | true =>
  obtain ⟨h1, h2⟩ := look_mem h
  obtain ⟨h3, h4⟩ := look_mem (show has l' s = true by rw [has_perm hp]; exact h)
  exact mem_uniq hd (hp.mem_iff.1 h3) h1 (h4.trans h2.symm)
theorem root_eq {l l' : List Nod} (he : ∀ s, look l' s = look l s) : ∀ (k : Nat) (s : Stp), root l' k s = root l k s
 | 0, _ => rfl
 | k + 1, s => by simp only [root]; rw [he, root_eq he]
theorem Rooted.perm {l l' : List Nod} (h : Rooted l) (hp : l'.Perm l) (hd : (l.map fun n => n.f0).Nodup) : Rooted l' :=
 ⟨fun s => by obtain ⟨k, hk⟩ := h.rt s; exact ⟨k, by rw [root_eq (look_perm hp hd)]; exact hk⟩, fun n hn => by rw [has_perm hp]; exact h.par n (hp.mem_iff.1 hn), fun n hn => h.own n (hp.mem_iff.1 hn)⟩
theorem Rooted.nil : Rooted [] := ⟨fun s => ⟨1, by simp only [root]; rw [show (look [] s).f1 = St0 from rfl]; simp [outerB, show St0 = (⟨0, 0⟩ : Stp) from rfl]⟩, by simp, by simp⟩
theorem fold_rooted : ∀ (os : List Opn) {l : List Nod}, Rooted l → (∀ o ∈ os, OpOk o) → Rooted (os.foldl doN l)
 | [], _, h, _ => h
 | o :: os, _, h, ho => fold_rooted os (doN_rooted h (ho o (by simp))) (fun o' h' => ho o' (by simp [h']))
end Go.Proofs.YtlfgdaiegefjiaaDoor.S
/- again, as the machine walks it: all operations anew, upon what is for good. -/
namespace Go.Proofs.YtlfgdaiegefjiaaDoor.S
open Go.RowKit Go.Proofs.YtlfgdaiegefjiaaDoorW.PrintWords Go.Proofs.YtlfgdaiegefjiaaDoorW.PrintLast Go.Proofs.YtlfgdaiegefjiaaDoorW.PrintMore
set_option linter.unusedVariables false
set_option linter.unusedSimpArgs false
attribute [local go_sem high] mEq field_par
theorem rd_is (l : List Opn) (x : Int) (h0 : 0 ≤ x) (h1 : x < l.length) : ∃ (k : Nat) (hk : k < l.length), x = k ∧ rd_T25 l x = l[k] := by
 obtain ⟨k, rfl⟩ : ∃ k : Nat, x = k := ⟨x.toNat, by omega⟩
 have hk : k < l.length := by omega
 refine ⟨k, hk, rfl, ?_⟩
 unfold rd_T25
 rw [show ((k : Int)).toNat = k by omega]
 simp [List.getD, hk]
theorem rd_mem (l : List Opn) (x : Int) (h0 : 0 ≤ x) (h1 : x < l.length) : rd_T25 l x ∈ l := by
 obtain ⟨k, hk, _, e⟩ := rd_is l x h0 h1
 rw [e]
 exact List.getElem_mem hk
theorem fold_succ (l : List Opn) (x : Int) (h0 : 0 ≤ x) (h1 : x < l.length) {l0 : List Nod} : (l.take (x + 1).toNat).foldl doN l0 = doN ((l.take x.toNat).foldl doN l0) (rd_T25 l x) := by
 obtain ⟨k, hk, rfl, e⟩ := rd_is l x h0 h1
 rw [e, show ((k : Int) + 1).toNat = k + 1 by omega, show ((k : Int)).toNat = k by omega, List.take_succ_eq_append_getElem hk, List.foldl_append]
 rfl
set_option maxHeartbeats 8000000 in
set_option maxRecDepth 100000 in
theorem again_calls (w : World) (B g f n : Nat) (v : Value) (T : Tr) (h : TreeAt w B g f n v T) (hr : Rooted T.fixed) (hok : ∀ o ∈ T.ops, OpOk o) (hol : T.ops.length ≤ 1000000) :
 Calls Tryd.prog 93 #[.pointer (some ⟨g, 0, none⟩)] w fun e w' => e = .returned (.tuple #[]) ∧ (∃ l0, l0.Perm T.fixed ∧ TreeAt w' B g f n v { T with now := T.ops.foldl doN l0 }) ∧ Stay w w' (· = n) := by
 obtain ⟨A, c, hv, hc, hC⟩ := Kd.R_reads h.ops
 subst hv
 have H := Aside0.mk h
 have HR := Aside0.mk hr
 have HOK := Aside0.mk hok
 have HO := Aside0.mk hol
 have hu := Tryd.underlying25
 obtain ⟨z0, z1, z2, z3, z4⟩ := Y5 h.blk
 obtain ⟨w1, hcl, hl1, hs1⟩ := clear_run h.now 0
 have HS1 := Aside0.mk hs1
 have HT1 := Aside0.mk (h.turn hs1 hl1)
 have HF := Aside0.mk h.fix.nodup
 clear h hr hok hol hc hC hl1 hs1
 go_enter Tryd.func93, Tryd.ntmps93
 go_upto_region 1 with fail
 clear z0 z1 z2 z3 z4 hcl
 obtain ⟨z0, z1, z2, z3, z4⟩ := Y5 HT1.out.blk
 go_still_tail 8, (by kernel_rfl)
 go_wp2_with (go_at_call 100; refine (Copy_calls n f T.fixed _ (HT1.out.now.below (Below.refl _ _).drew) (HT1.out.fix.below (Below.refl _ _).drew) H.out.ne.symm).mono ?_; rintro e w2 ⟨rfl, ⟨l0, hp, hl⟩, hs⟩; have HP := Aside0.mk hp; have HS2 := Aside0.mk ((HS1.out.below (Below.refl _ _).drew).trans hs (fun _ h => .inl h)); have HT2 := Aside0.mk ((HT1.out.below (Below.refl _ _).drew).turn hs hl); clear hp hl hs z0 z1 z2 z3 z4; obtain ⟨z0, z1, z2, z3, z4⟩ := Y5 HT2.out.blk)
 clear z0 z1 z2 z3 z4
 go_loopw [22] (fun u22 wr => ∃ x : Int, Aside0 (0 ≤ x) ∧ Aside0 (x ≤ T.ops.length) ∧ u22 = .int .i64 x ∧ Aside0 (TreeAt wr B g f n (.slice A T.ops.length c) { T with now := (T.ops.take x.toNat).foldl doN l0 }) ∧ Aside0 (Stay w wr (· = n))) (fun u22 _ => (T.ops.length - intOf u22).toNat)
 case atStart => exact ⟨0, ⟨Int.le_refl _⟩, ⟨by omega⟩, rfl, HT2, HS2⟩
 case round =>
  clear HT2 HS2
  obtain ⟨x, H0, H1, rfl, HT, HS⟩ := hrel
  by_cases hx : x < (T.ops.length : Int)
  · have c4b0 : decide (x < (T.ops.length : Int)) = true := decide_eq_true hx
    have c5b0 : decide (0 ≤ x) = true := decide_eq_true H0.out
    obtain ⟨A2, c2, e2, hc2, hC2⟩ := Kd.R_reads HT.out.ops
    cases e2
    obtain ⟨ad, e, hx0, hx1, hx2, hx3, hx4, hx5, hx6, hx7, hx8⟩ := at_T25 hC2 x H0.out hx
    cases e
    have p1 := eq_true H0.out
    have q1 := eq_true hx
    have h0 := H0.out
    have hbx : x ≤ 1000000 := by have := HO.out; omega
    clear hc2 hC2
    have HX := Aside0.mk hx
    clear hx
    go_upto_region 5 with fail
    have hbx := below_alloc (Below.refl wr.heap.size wr) (.cells #[.int .i64 (rd_T25 T.ops x).f0, .int .i64 (rd_T25 T.ops x).f1.f0, .int .i64 (rd_T25 T.ops x).f1.f1, .int .i64 (rd_T25 T.ops x).f2.f0, .int .i64 (rd_T25 T.ops x).f2.f1, .int .i64 (rd_T25 T.ops x).f3.f0, .int .i64 (rd_T25 T.ops x).f3.f1, .string (rd_T25 T.ops x).f4, .string (rd_T25 T.ops x).f5] 25)
    have HT3 := Aside0.mk (HT.out.below hbx)
    have HB3 := Aside0.mk hbx
    obtain ⟨y0, y1, y2, y3, y4, y5, y6, y7, y8⟩ := Y9 (heap_alloc_new wr (.cells #[.int .i64 (rd_T25 T.ops x).f0, .int .i64 (rd_T25 T.ops x).f1.f0, .int .i64 (rd_T25 T.ops x).f1.f1, .int .i64 (rd_T25 T.ops x).f2.f0, .int .i64 (rd_T25 T.ops x).f2.f1, .int .i64 (rd_T25 T.ops x).f3.f0, .int .i64 (rd_T25 T.ops x).f3.f1, .string (rd_T25 T.ops x).f4, .string (rd_T25 T.ops x).f5] 25))
    obtain ⟨w3, hw3⟩ : ∃ w3, w3 = wr.alloc (.cells #[.int .i64 (rd_T25 T.ops x).f0, .int .i64 (rd_T25 T.ops x).f1.f0, .int .i64 (rd_T25 T.ops x).f1.f1, .int .i64 (rd_T25 T.ops x).f2.f0, .int .i64 (rd_T25 T.ops x).f2.f1, .int .i64 (rd_T25 T.ops x).f3.f0, .int .i64 (rd_T25 T.ops x).f3.f1, .string (rd_T25 T.ops x).f4, .string (rd_T25 T.ops x).f5] 25) := ⟨_, rfl⟩
    rw [← hw3] at HT3 HB3 y0 y1 y2 y3 y4 y5 y6 y7 y8 ⊢
    clear hw3 hbx hx0 hx1 hx2 hx3 hx4 hx5 hx6 hx7 hx8
    obtain ⟨z0, z1, z2, z3, z4⟩ := Y5 HT3.out.blk
    go_still_tail 5, (by kernel_rfl)
    go_wp2_with (go_at_call 101; refine (do_calls (fold_rooted (T.ops.take x.toNat) (HR.out.perm HP.out HF.out) (fun o ho => HOK.out o (List.mem_of_mem_take ho))) (HOK.out _ (rd_mem T.ops x h0 HX.out)) n _ (HT3.out.now.below (Below.refl _ _).drew)).mono ?_; rintro e w4 ⟨rfl, hl, hs⟩; have HS4 := Aside0.mk ((HS.out.below (HB3.out.drew)).trans hs (fun _ h => .inl h)); have HT4 := Aside0.mk ((HT3.out.below (Below.refl _ _).drew).turn hs hl); clear hl hs z0 z1 z2 z3 z4 y0 y1 y2 y3 y4 y5 y6 y7 y8)
    go_roundw
    case rel => exact ⟨x + 1, ⟨by omega⟩, ⟨by have := HX.out; omega⟩, rfl, ⟨by have := HT4.out; rw [fold_succ T.ops x h0 HX.out]; exact this⟩, HS4⟩
    case measure => have := HX.out; simp [intOf]; omega
  · obtain rfl : x = T.ops.length := by have := H1.out; omega
    have c4b0 : decide ((T.ops.length : Int) < (T.ops.length : Int)) = false := by simp
    have HE := HT.out
    rw [show ((T.ops.length : Int)).toNat = T.ops.length by omega, List.take_length] at HE
    have HE' := Aside0.mk HE
    clear HE hx
    go_wp2
    go_end0
    exact ⟨rfl, ⟨l0, HP.out, HE'.out⟩, HS.out⟩
end Go.Proofs.YtlfgdaiegefjiaaDoor.S
