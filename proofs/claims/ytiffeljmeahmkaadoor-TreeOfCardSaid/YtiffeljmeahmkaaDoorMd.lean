/- Ranging over a map of nodes; maps.Copy into an empty one, as the machine walks it. -/
import Derived.Test.YtiffeljmeahmkaaDoorMc
import Derived.Maps.RangeWalk
namespace Go.Proofs.YtiffeljmeahmkaaDoor.S
open Go.RowKit Go.Proofs.YtiffeljmeahmkaaDoorW.PrintWords Go.Proofs.YtiffeljmeahmkaaDoorW.PrintLast Go.Proofs.YtiffeljmeahmkaaDoorW.PrintMore
set_option linter.unusedVariables false
set_option linter.unusedSimpArgs false
/-- Block r is an iterator over the map of block f, which holds l: done have come up, rest have not. -/
def Rng (w : World) (r f : Nat) (l done rest : List Nod) : Prop :=
  ∃ (p dp rp : List (Nod × Nat)) (clock : Nat), p.map Prod.fst = l ∧ dp.map Prod.fst = done ∧ rp.map Prod.fst = rest ∧ (dp ++ rp).Perm p ∧ w.heap[f]? = some (.map (p.map ent).toArray clock) ∧ (p.map Prod.snd).Nodup ∧ (∀ x ∈ p, x.2 < clock) ∧
    (l.map fun n => n.f0).Nodup ∧ w.heap[r]? = some (.mapIter (some f) clock (dp.map Prod.snd).toArray clock)
theorem Rng.perm {w : World} {r f : Nat} {l done rest : List Nod} (h : Rng w r f l done rest) : (done ++ rest).Perm l := by
  obtain ⟨p, dp, rp, c, rfl, rfl, rfl, hp, _⟩ := h
  rw [← List.map_append]
  exact hp.map _
theorem Rng.nodup {w : World} {r f : Nat} {l done rest : List Nod} (h : Rng w r f l done rest) : (l.map fun n => n.f0).Nodup := by
  obtain ⟨p, dp, rp, c, rfl, rfl, rfl, hp, _, _, _, h, _⟩ := h
  exact h
theorem Rng.lies {w : World} {r f : Nat} {l done rest : List Nod} (h : Rng w r f l done rest) : Lies w f l := by
  obtain ⟨p, dp, rp, c, rfl, rfl, rfl, hp, h1, h2, h3, h4, _⟩ := h
  exact ⟨p, c, rfl, h1, h2, h3, h4⟩
theorem Rng.stay {w w1 : World} {S : Nat → Prop} {r f : Nat} {l done rest : List Nod} (h : Rng w r f l done rest) (hs : Stay w w1 S) (hf : ¬ S f) (hr : ¬ S r) : Rng w1 r f l done rest := by
  obtain ⟨p, dp, rp, c, h0, h00, h000, hp, h1, h2, h3, h4, h5⟩ := h
  exact ⟨p, dp, rp, c, h0, h00, h000, hp, hs.blk h1 hf, h2, h3, h4, hs.blk h5 hr⟩
theorem range_run {w : World} {f : Nat} {l : List Nod} (h : Lies w f l) : ∃ o, (Instr.range 64 (.map (some f))).run Tryd.prog w = .ok (.pointer (some ⟨w.heap.size, 0, none⟩)) (w.alloc o) ∧ Rng (w.alloc o) w.heap.size f l [] l := by
  obtain ⟨p, c, rfl, hb, h1, h2, h3⟩ := h
  exact ⟨_, run_range_map (P := Tryd.prog) w 64 25 36 f _ c uMap hb, p, [], p, c, rfl, rfl, rfl, .refl _, (heap_alloc_old _ _ (blk_lt hb)).trans hb, h1, h2, h3, heap_alloc_new _ _⟩
theorem next_run {w : World} {r f : Nat} {l done rest : List Nod} (h : Rng w r f l done rest) (ty : TypeId) :
    (rest = [] ∧ (Instr.next (.pointer (some ⟨r, 0, none⟩)) false ty).run Tryd.prog w = .ok (.tuple #[.bool false]) w) ∨
    ∃ n rest' w', (n :: rest').Perm rest ∧ (Instr.next (.pointer (some ⟨r, 0, none⟩)) false ty).run Tryd.prog w = .ok (.tuple #[.bool true, n.f0.val, n.val]) w' ∧ Rng w' r f l (done ++ [n]) rest' ∧ Stay w w' (· = r) ∧ w'.heap.size = w.heap.size ∧
      (Instr.entry (.pointer (some ⟨r, 0, none⟩))).run Tryd.prog w' = .ok (.tuple #[n.f0.val, n.val]) w' := by
  obtain ⟨p, dp, rp, c, rfl, rfl, rfl, hp, hf, hn, hc, hi, hr⟩ := h
  have hnd : (dp.map Prod.snd ++ rp.map Prod.snd).Nodup := by
    rw [← List.map_append]
    exact (hp.map Prod.snd).nodup_iff.2 hn
  have hleft : ∀ x ∈ rp, ent x ∈ (leftOf (p.map ent).toArray (dp.map Prod.snd).toArray).toList := by
    intro x hx
    have hxp : x ∈ p := hp.mem_iff.1 (List.mem_append.2 (.inr hx))
    simp only [leftOf, Array.toList_filter, List.mem_filter]
    refine ⟨List.mem_map_of_mem hxp, ?_⟩
    have : x.2 ∉ dp.map Prod.snd := fun h => (List.nodup_append.1 hnd).2.2 _ h _ (List.mem_map_of_mem hx) rfl
    simpa [ent] using this
  rcases run_next_at (P := Tryd.prog) w ty r f c c (dp.map Prod.snd).toArray (p.map ent).toArray c hr hf (by intro e he; obtain ⟨x, hx, rfl⟩ := List.mem_map.1 (show e ∈ p.map ent by simpa using he); exact hc x hx) (Nat.le_refl _) with ⟨h0, hrun⟩ | ⟨e, he, w1, hw1, hrun⟩
  · refine .inl ⟨?_, hrun⟩
    cases rp with
    | nil => rfl
    | cons x rp =>
      have := hleft x (by simp)
      rw [show (leftOf (p.map ent).toArray (dp.map Prod.snd).toArray) = #[] from Array.eq_empty_of_size_eq_zero h0] at this
      simp at this
  · have he' := he
    simp only [leftOf, Array.toList_filter, List.mem_filter] at he'
    obtain ⟨hm, hb⟩ := he'
    obtain ⟨x, hxp, rfl⟩ := List.mem_map.1 hm
    have hxr : x ∈ rp := by
      rcases List.mem_append.1 (hp.mem_iff.2 hxp) with h | h
      · have : x.2 ∈ dp.map Prod.snd := List.mem_map_of_mem h
        simp [ent] at hb
        exact absurd h (by obtain ⟨a, b⟩ := x; exact hb a)
      · exact h
    obtain ⟨ra, rb, rfl⟩ := List.append_of_mem hxr
    have hstay : Stay w (ChangeMaps.setBlock w1 r (.mapIter (some f) c ((dp.map Prod.snd).toArray.push x.2) c)) (· = r) := by
      have : Stay w w1 (· = r) := by
        rcases hw1 with rfl | rfl
        · exact Stay.refl _ _
        · exact Stay.of (below_drew1 (Below.refl _ _)) _
      exact this.trans (Stay.set w1 r _) (fun _ h => .inl h)
    have hr1 : w1.heap.size = w.heap.size := by rcases hw1 with rfl | rfl <;> rfl
    have hfr : f ≠ r := by rintro rfl; rw [hf] at hr; cases hr
    have hf' := hstay.blk hf hfr
    have hit : (ChangeMaps.setBlock w1 r (.mapIter (some f) c ((dp.map Prod.snd).toArray.push x.2) c)).heap[r]? = some (.mapIter (some f) c ((dp.map Prod.snd).toArray.push x.2) c) := by
      have := blk_lt hr
      simp [ChangeMaps.setBlock, hr1, this]
    refine .inr ⟨x.1, (ra ++ rb).map Prod.fst, _, ?_, hrun, ⟨p, dp ++ [x], ra ++ rb, c, rfl, by simp, rfl, ?_, hf', hn, hc, hi, ?_⟩, hstay, by simp [ChangeMaps.setBlock, hr1], ?_⟩
    · rw [← List.map_cons (f := Prod.fst) (a := x)]
      exact ((List.perm_middle (a := x) (l₁ := ra) (l₂ := rb)).symm).map _
    · rw [List.append_assoc]
      exact (List.Perm.append_left dp (List.perm_middle (a := x) (l₁ := ra) (l₂ := rb)).symm).trans hp
    · refine Eq.trans hit ?_
      simp
    · exact run_entry_at (P := Tryd.prog) _ r f c (dp.map Prod.snd).toArray (p.map ent).toArray c (ent x) hit hf' (by simpa using hm) (by simpa [Function.comp_def, ent] using hn)
section
variable {ops : Array Oper} {rest : List Oper} {o : Oper} {a : Act} {Q : Exit → Act → World → Prop} {w : World}
theorem wl_range (f : Nat) (l : List Nod) (m : Operand) (hop : o.op = Op.range 64 m) (hm : a.eval m = .map (some f)) (hl : Lies w f l)
    (h : ∀ w1, Rng w1 w.heap.size f l [] l → Below w.heap.size w w1 → wpList Tryd.prog ops Q rest (a.put o.dst (.pointer (some ⟨w.heap.size, 0, none⟩))) w1) (hg : o.guard = none := by rfl) : wpList Tryd.prog ops Q (o :: rest) a w := by
  refine wpList_plain hg fun K' hK' => ?_
  obtain ⟨o', hrun, hr⟩ := range_run hl
  unfold Oper.wp
  simp [execOp, hop, hm, hrun, Result.andThen]
  exact hK' _ _ (h _ hr (below_alloc (Below.refl _ _) _))
theorem wl_next (r f : Nat) (l done rst : List Nod) (it : Operand) (hop : o.op = Op.next it false) (hit : a.eval it = .pointer (some ⟨r, 0, none⟩)) (h : Rng w r f l done rst)
    (hDone : rst = [] → wpList Tryd.prog ops Q rest (a.put o.dst (.tuple #[.bool false])) w)
    (hMore : ∀ (n : Nod) (rst' : List Nod) (w' : World), (n :: rst').Perm rst → Rng w' r f l (done ++ [n]) rst' → Stay w w' (· = r) → w'.heap.size = w.heap.size →
      (Instr.entry (.pointer (some ⟨r, 0, none⟩))).run Tryd.prog w' = .ok (.tuple #[.agg #[.int .i64 n.f0.f0, .int .i64 n.f0.f1], .agg #[.int .i64 n.f0.f0, .int .i64 n.f0.f1, .int .i64 n.f1.f0, .int .i64 n.f1.f1, .string n.f2, .string n.f3]]) w' →
      wpList Tryd.prog ops Q rest (a.put o.dst (.tuple #[.bool true, .agg #[.int .i64 n.f0.f0, .int .i64 n.f0.f1], .agg #[.int .i64 n.f0.f0, .int .i64 n.f0.f1, .int .i64 n.f1.f0, .int .i64 n.f1.f1, .string n.f2, .string n.f3]])) w')
    (hg : o.guard = none := by rfl) : wpList Tryd.prog ops Q (o :: rest) a w := by
  refine wpList_plain hg fun K' hK' => ?_
  unfold Oper.wp
  rcases next_run h o.type with ⟨h0, hrun⟩ | ⟨n, rst', w', hp, hrun, hr, hs, hz, he⟩
  · simp [execOp, hop, hit, hrun, Result.andThen]
    exact hK' _ _ (hDone h0)
  · simp [execOp, hop, hit, hrun, Result.andThen]
    exact hK' _ _ (hMore n rst' w' hp hr hs hz he)
end
theorem lk_none_of {l : List Nod} {s : Stp} (h : ∀ n ∈ l, n.f0 ≠ s) : lk l s = none := by
  cases hk : lk l s with
  | none => rfl
  | some y =>
    obtain ⟨j, n⟩ := y
    obtain ⟨h1, h2⟩ := lk_some hk
    exact absurd h2 (h n (List.mem_of_getElem? h1))
theorem len_run {w : World} {f : Nat} {l : List Nod} (h : Lies w f l) (ty : TypeId) : (Builtin.len_ #[64] ty #[.map (some f)]).run Tryd.prog w = .ok (.int .i64 l.length) w := by
  obtain ⟨p, c, rfl, hb, h1, h2, h3⟩ := h
  simp [Builtin.len_, MapKept.run_getObj_map hb, run_underlying uMap, Result.andThen]
  rfl
theorem clear_run {w : World} {f : Nat} {l : List Nod} (h : Lies w f l) (ty : TypeId) : ∃ w', (Builtin.clear_ #[64] ty #[.map (some f)]).run Tryd.prog w = .ok (.tuple #[]) w' ∧ Lies w' f [] ∧ Stay w w' (· = f) := by
  obtain ⟨p, c, rfl, hb, h1, h2, h3⟩ := h
  refine ⟨{ w with heap := w.heap.setIfInBounds f (.map #[] c) }, ?_, ⟨[], c, rfl, by simp [blk_lt hb], by simp, by simp, by simp⟩, Stay.set w f _⟩
  simp [Builtin.clear_, run_underlying uMap, MapKept.run_getObj_map hb, setObj, Sem.run, hb, Result.andThen]
attribute [local go_sem high] mEq
set_option maxHeartbeats 8000000 in
set_option maxRecDepth 100000 in
theorem Copy_calls (d f : Nat) (l : List Nod) (w : World) (hd : Lies w d []) (hf : Lies w f l) (hne : d ≠ f) :
    Calls Tryd.prog 60 #[.map (some d), .map (some f)] w fun e w' => e = .returned (.tuple #[]) ∧ (∃ l', l'.Perm l ∧ Lies w' d l') ∧ Stay w w' (· = d) := by
  have HD := Aside0.mk hd
  have HF := Aside0.mk hf
  have HN := Aside0.mk hne
  clear hd hf hne
  go_enter Tryd.func60, Tryd.ntmps60
  go_wp2_with (at_range; refine wl_range f l _ rfl rfl HF.out ?_; intro w1 hr1 hb1)
  go_frame
  have HR := Aside0.mk hr1
  have HB := Aside0.mk hb1
  have HDR := Aside0.mk (show d ≠ w.heap.size from Nat.ne_of_lt HD.out.lt)
  clear hr1 hb1
  go_loopg [8, 9] (l.length + 1) (fun kq _ _ wr => ∃ done rest : List Nod, Aside0 (rest.length + 1 = kq) ∧ Aside0 (Rng wr w.heap.size f l done rest) ∧ Aside0 (Lies wr d done) ∧ Aside0 (Stay w wr (· = d)))
  case atStart => exact ⟨[], l, ⟨rfl⟩, HR, ⟨HD.out.below HB.out⟩, ⟨Stay.of HB.out _⟩⟩
  case round =>
    clear HR HB
    obtain ⟨done, rest, HK, HR, HL, HS⟩ := hrel
    obtain ⟨k1, rfl⟩ : ∃ k1, gk = k1 + 1 := ⟨rest.length, HK.out.symm⟩
    go_wp2_with (at_next; refine wl_next w.heap.size f l done rest _ rfl rfl HR.out ?_ ?_)
    · intro h0
      have H0 := Aside0.mk h0
      clear h0
      go_wp2
      go_end0
      exact ⟨rfl, ⟨done, by have := HR.out.perm; rw [H0.out, List.append_nil] at this; exact this, HL.out⟩, HS.out⟩
    · intro n rst' w2 hp hr2 hs2 hz2 he2
      have HP := Aside0.mk hp
      have HR2 := Aside0.mk hr2
      have HS2 := Aside0.mk (HS.out.trans hs2 (fun k hk => .inr (Nat.le_of_eq hk.symm)))
      have HL2 := Aside0.mk (HL.out.stay hs2 HDR.out)
      clear hp hr2 hs2 hz2
      go_wp2_with (at_mapUpdate; refine wl_put d done n _ _ _ rfl rfl rfl rfl (HL2.out.below (two_below _ _ _)) ?_; intro w3 hl3 hs3; have HL3 := Aside0.mk hl3; have HS3 := Aside0.mk hs3; clear hl3 hs3)
      go_frame
      have HPU : put done n = done ++ [n] := put_none (lk_none_of (fun m hm he => by
        have hnd := HR2.out.nodup
        rw [← (HR2.out.perm.map fun n => n.f0).nodup_iff, List.append_assoc, List.map_append] at hnd
        exact (List.nodup_append.1 hnd).2.2 _ (List.mem_map_of_mem hm) _ (List.mem_map_of_mem (List.mem_append.2 (.inl (List.mem_singleton.2 rfl)))) he))
      rw [HPU] at HL3
      go_roundg k1
      case measure => omega
      case rel => exact ⟨done ++ [n], rst', ⟨by have := HP.out.length_eq; have := HK.out; simp only [List.length_cons] at *; omega⟩, ⟨HR2.out.stay ((Stay.of (two_below _ _ _) _).trans HS3.out (fun _ h => .inl h)) HN.out.symm HDR.out.symm⟩, HL3, ⟨HS2.out.trans ((Stay.of (two_below _ _ _) _).trans HS3.out (fun _ h => .inl h)) (fun _ h => .inl h)⟩⟩
end Go.Proofs.YtiffeljmeahmkaaDoor.S
