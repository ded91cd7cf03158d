/- slices.Insert of one operation, as the machine walks it. -/
import Derived.Test.YtiffeljmeahmkaaDoorMi
import Derived.Lib.Overlaps
namespace Go.Proofs.YtiffeljmeahmkaaDoor.S
open Go.RowKit Go.Proofs.YtiffeljmeahmkaaDoorW.PrintWords Go.Proofs.YtiffeljmeahmkaaDoorW.PrintLast Go.Proofs.YtiffeljmeahmkaaDoorW.PrintMore
set_option linter.unusedVariables false
set_option linter.unusedSimpArgs false
def Inserts (B : Nat) (s : Value) (l : List Opn) (i : Nat) (o : Opn) (vb : Nat) (w : World) : Prop :=
  Calls Tryd.prog 40 #[s, .int .i64 (i : Int), .slice (some ⟨vb, 0, none⟩) 1 1] w fun e w' => ∃ s', e = .returned s' ∧ OpsAt w' B s' (l.take i ++ o :: l.drop i) ∧ Stay w w' (fun k => s.ownBlock = some k) ∧ (∀ k, s'.ownBlock = some k → s.ownBlock = some k ∨ w.heap.size ≤ k)
set_option maxHeartbeats 8000000 in
set_option maxRecDepth 100000 in
theorem insert_end (w : World) (B : Nat) (s : Value) (l : List Opn) (o : Opn) (vb : Nat) (hs : OpsAt w B s l) (hB : B ≤ w.heap.size) (hv : w.heap[vb]? = some (.cells (opC o).toArray 28 (0, 0))) (hl : l.length ≤ 1000000) : Inserts B s l l.length o vb w := by
  obtain ⟨A, c, rfl, hc, hC⟩ := Kd.R_reads hs
  have hsl := slice_low w A l.length c l.length (Nat.le_refl _)
  obtain ⟨q, hq⟩ : ∃ q, q = (if c = l.length then A else A.map (·.add (l.length * 9))) := ⟨_, rfl⟩
  rw [← hq] at hsl
  obtain ⟨n, hn⟩ : ∃ n, n = l.length := ⟨_, rfl⟩
  have HS := Aside0.mk hs
  have HV := Aside0.mk hv
  rw [← hn] at hsl HS
  have HN := Aside0.mk hn
  have HB := Aside0.mk hB
  have HL := Aside0.mk hl
  have hb : n ≤ 1000000 := by omega
  unfold Inserts
  rw [← hn]
  clear hs hB hv hc hC hq hn hl
  go_enter Tryd.func40, Tryd.ntmps40
  go_wp2_with (at_builtin; refine wl_append vb 1 o _ _ rfl rfl rfl HS.out HB.out HV.out HL.out ?_; intro s' w' h1 h2 h3; have H1 := Aside0.mk h1; have H2 := Aside0.mk h2; have H3 := Aside0.mk h3; clear h1 h2 h3)
  go_ret
  exact ⟨s', rfl, by rw [HN.out, List.take_length, List.drop_length]; exact H1.out, H2.out, H3.out⟩
theorem OpsAt.form {w : World} {B : Nat} {s : Value} {l : List Opn} (h : OpsAt w B s l) (hn : 0 < l.length) : ∃ g c cur, s = .slice (some ⟨g, 0, none⟩) l.length c ∧ B ≤ g ∧ w.heap[g]? = some (.cells cur 28 (0, 0)) ∧ l.length ≤ c ∧ c ≤ maxLen ∧ cur.size = c * 9 ∧ cur.toList.take (l.length * 9) = flat l := by
  rcases h.row.2 with ⟨_, h0⟩ | h0
  · omega
  · exact h0
theorem cells_at {w : World} {g : Nat} {cur : Array Value} {t : TypeId} (h : w.heap[g]? = some (.cells cur t (0, 0))) (off n : Nat) (cs : List Value) (hc : (cur.toList.drop off).take n = cs) : ∀ j v, cs[j]? = some v → w.cell? ((⟨g, 0, none⟩ : Addr).add off |>.add j) = some v := by
  intro j v hj
  subst hc
  have e : ((⟨g, 0, none⟩ : Addr).add off).add j = ⟨g, off + j, none⟩ := by
    rw [add_zero']
    unfold Addr.add
    split
    · rename_i h; rw [h]; rfl
    · rfl
  rw [e, cell_of_row w g _ cur t _ h]
  rw [List.getElem?_take] at hj
  split at hj
  · rw [List.getElem?_drop] at hj
    simpa using hj
  · cases hj
theorem addr_at (g k : Nat) : (some (⟨g, 0, none⟩ : Addr)).map (fun x => x.add k) = some ⟨g, k, none⟩ := by rw [Option.map_some, add_zero']
theorem low_at (w : World) (g n c i : Nat) (h : i ≤ n) (hc : i < c) : (Instr.slice 39 (.slice (some ⟨g, 0, none⟩) n c) (some (.int .i64 (i : Int))) none none).run Tryd.prog w = .ok (.slice (some ⟨g, i * 9, none⟩) (n - i) (c - i)) w := by
  rw [slice_low w _ n c i h, if_neg (by omega), addr_at]
theorem low_at1 (w : World) (g n c i : Nat) (h : i + 1 ≤ n) (hc : i + 1 < c) : (Instr.slice 39 (.slice (some ⟨g, 0, none⟩) n c) (some (.int .i64 ((i : Int) + 1))) none none).run Tryd.prog w = .ok (.slice (some ⟨g, (i + 1) * 9, none⟩) (n - (i + 1)) (c - (i + 1))) w :=
  low_at w g n c (i + 1) h hc
/-- A row behind the second copy. -/
theorem row_is {cur1 cur2 cur3 : Array Value} {l : List Opn} {o : Opn} {i c : Nat} (hi : i ≤ l.length) (hc : l.length + 1 ≤ c) (s1 : cur1.size = c * 9) (t1 : cur1.toList.take (i * 9) = flat (l.take i)) (h2 : cur2.toList = cur1.toList.take (i * 9) ++ opC o ++ cur1.toList.drop (i * 9 + 9))
    (h3 : cur3.toList = cur2.toList.take ((i + 1) * 9) ++ flat (l.drop i) ++ cur2.toList.drop ((i + 1) * 9 + (flat (l.drop i)).length)) : cur3.toList.take ((l.take i ++ o :: l.drop i).length * 9) = flat (l.take i ++ o :: l.drop i) := by
  have e1 : cur2.toList.take ((i + 1) * 9) = flat (l.take i ++ [o]) := by
    rw [h2, t1, flat_append, List.append_assoc, ← List.append_assoc, List.take_append_of_le_length, List.take_of_length_le]
    · simp [flat]
    · rw [List.length_append, flat_length, List.length_take, Nat.min_eq_left hi]; simp [opC]; omega
    · rw [List.length_append, flat_length, List.length_take, Nat.min_eq_left hi]; simp [opC]; omega
  have e2 : flat (l.take i ++ o :: l.drop i) = flat (l.take i ++ [o]) ++ flat (l.drop i) := by rw [← flat_append]; simp
  rw [h3, e1, e2, List.take_append_of_le_length, List.take_of_length_le]
  · rw [← e2, flat_length]; omega
  · rw [← e2, flat_length]; omega
theorem blk_here {w : World} {g : Nat} {x : Obj} (hv : w.heap[g]? = some x) : g < w.heap.size := by
  rcases Nat.lt_or_ge g w.heap.size with h | h
  · exact h
  · rw [Array.getElem?_eq_none h] at hv; cases hv
theorem cells_of {w : World} {vb : Nat} {o : Opn} (hv : w.heap[vb]? = some (.cells (opC o).toArray 28 (0, 0))) : ∀ j v, (opC o)[j]? = some v → w.cell? ((⟨vb, 0, none⟩ : Addr).add j) = some v := by
  intro j v hj
  rw [add_zero' vb j, cell_of_row w vb j _ _ _ hv]
  simpa using hj
theorem flat_cells' (o : Opn) : ∀ v ∈ opC o, v.oneCell' = true := fun v hv => flat_one [o] v (by simpa [flat] using hv)
theorem put_cells {w w1 : World} {vb : Nat} {o : Opn} (hv : w.heap[vb]? = some (.cells (opC o).toArray 28 (0, 0))) (h : Below w.heap.size w w1) : ∀ j v, (opC o)[j]? = some v → w1.cell? ((⟨vb, 0, none⟩ : Addr).add j) = some v := by
  intro j v hj
  have hlt : vb < w.heap.size := by
    rcases Nat.lt_or_ge vb w.heap.size with h | h
    · exact h
    · rw [Array.getElem?_eq_none h] at hv; cases hv
  rw [add_zero' vb j, cell_of_row w1 vb j _ _ _ ((h.block vb hlt).trans hv)]
  simpa using hj
theorem rest_cells {w : World} {g : Nat} {cur : Array Value} {t : TypeId} {l : List Opn} (i : Nat) (hi : i ≤ l.length) (h : w.heap[g]? = some (.cells cur t (0, 0))) (ht : cur.toList.take (l.length * 9) = flat l) : ∀ j v, (flat (l.drop i))[j]? = some v → w.cell? ((⟨g, i * 9, none⟩ : Addr).add j) = some v := by
  have := cells_at h (i * 9) ((l.length - i) * 9) (flat (l.drop i)) (by rw [← flat_drop l i, ← ht, List.drop_take]; congr 1; omega)
  rw [add_zero'] at this
  exact this
theorem flat_cells (l : List Opn) : ∀ v ∈ flat l, v.oneCell' = true := fun v hv => flat_one l v hv
set_option maxHeartbeats 8000000 in
set_option maxRecDepth 100000 in
theorem insert_grow (w : World) (B g c : Nat) (l : List Opn) (i : Nat) (hi : i < l.length) (o : Opn) (vb : Nat) (hs : OpsAt w B (.slice (some ⟨g, 0, none⟩) l.length c) l) (hB : B ≤ w.heap.size) (hv : w.heap[vb]? = some (.cells (opC o).toArray 28 (0, 0))) (hl : l.length ≤ 1000000) (hc : c < l.length + 1) : Inserts B (.slice (some ⟨g, 0, none⟩) l.length c) l i o vb w := by
  obtain ⟨g', c', cur, he, hBg, hcur, hlc, hcm, hcs, htk⟩ := hs.form (by omega)
  cases he
  obtain ⟨m, hm⟩ : ∃ m, l.length + 1 = i + m := ⟨l.length + 1 - i, by omega⟩
  obtain ⟨n, hn⟩ : ∃ n, n = l.length := ⟨_, rfl⟩
  have HI := Aside0.mk (show i < n by omega)
  have hrow : w.ownsRow B 28 9 (.slice (some ⟨g, 0, none⟩) i c) i (flat (l.take i)) := ⟨by rw [flat_length, List.length_take, Nat.min_eq_left (by omega)], .inr ⟨g, c, cur, rfl, hBg, hcur, by omega, hcm, hcs, by rw [← flat_take, ← htk, List.take_take, Nat.min_eq_left (by omega)]⟩⟩
  have hs1 := fun w => low_at w g n c i (by omega) (by omega)
  have hs2 := fun w => slice_high w g n c i (by omega)
  have HR := Aside0.mk hrow
  have HV := Aside0.mk hv
  have HN := Aside0.mk hn
  have HM := Aside0.mk hm
  have HB := Aside0.mk hB
  have HL := Aside0.mk hl
  have HC := Aside0.mk hc
  have HG := Aside0.mk hcur
  have HT := Aside0.mk htk
  have hb : n ≤ 1000000 := by omega
  have hib : i < n := by omega
  have d1 : decide (i = n) = false := decide_eq_false (by omega)
  have d2 : ((i : Int) == (n : Int)) = false := beq_eq_false_iff_ne.mpr (by omega)
  have d3 : decide ((c : Int) < (n : Int) + 1) = true := decide_eq_true (by omega)
  unfold Inserts
  rw [← hn]
  clear hs hB hv hc hn hl hrow hm hcur hlc hcm hcs htk hBg hi
  go_enter Tryd.func40, Tryd.ntmps40
  go_wp2_with (at_builtin; refine wl_grow g i c m _ _ _ rfl rfl (show Value.int .i64 ((n : Int) + 1 - i) = .int .i64 ((m : Nat) : Int) from (by have := HM.out; have := HN.out; congr 1; omega)) HR.out (by have := HC.out; have := HM.out; omega) (by have := HM.out; have := HI.out; have := HN.out; omega) (by have := HM.out; have := HL.out; omega) HB.out ?_
               intro w1 c1 cur1 g1 g2 g3 g4 g5 g6 g7
               have hm1 : 1 < m := by have := HM.out; have := HI.out; have := HN.out; omega
               have hm0 : 0 < m := by omega
               go_loud (obtain ⟨w2, cur2, k1, k2, k3, k4, k5, k6⟩ := copy_run w1 w.heap.size (i * 9) m (c1 - i) ⟨vb, 0, none⟩ 1 1 cur1 (opC o) g1 (by rw [show Nat.min 1 m = 1 from Nat.min_eq_left hm0]; rfl) (put_cells HV.out g6) (by rw [g4]; simp [opC]; omega) (fun v hv => flat_one [o] v (by simpa [flat] using hv)) 3)
               have hcl : i < c1 := by have := HM.out; have := HI.out; have := HN.out; omega
               have hbm : m ≤ 1000001 := by have := HM.out; have := HL.out; omega
               go_loud (have hs3 := fun w9 => low_at1 w9 w.heap.size (i + m) c1 i (by omega) (by omega))
               have G1 := Aside0.mk g1
               have G2 := Aside0.mk g2
               have G3 := Aside0.mk g3
               have G4 := Aside0.mk g4
               have G5 := Aside0.mk g5
               have G6 := Aside0.mk g6
               have G7 := Aside0.mk g7
               have K2 := Aside0.mk k2
               have K3 := Aside0.mk k3
               have K4 := Aside0.mk k4
               have K5 := Aside0.mk k5
               have K6 := Aside0.mk k6
               clear g1 g2 g3 g4 g5 g6 g7 k2 k3 k4 k5 k6)
  have hgw : g < w.heap.size := blk_here HG.out
  have hg2 : w2.drew.heap[g]? = some (.cells cur 28 (0, 0)) := ((K5.out.block g (by have := G7.out; omega) (by omega)).trans (G6.out.block g hgw)).trans HG.out
  have hmn : m - 1 = n - i := by have := HM.out; have := HN.out; omega
  obtain ⟨w3, cur3, q1, q2, q3, q4, q5, q6⟩ := copy_run w2.drew w.heap.size ((i + 1) * 9) (i + m - (i + 1)) (c1 - (i + 1)) ⟨g, i * 9, none⟩ (n - i) (c - i) cur2 (flat (l.drop i)) K2.out (by rw [flat_length, List.length_drop, ← HN.out, show i + m - (i + 1) = n - i by omega, show Nat.min (n - i) (n - i) = n - i from Nat.min_self _]) (rest_cells i (by have := HN.out; omega) hg2 HT.out) (by have := G2.out; rw [K3.out, G4.out, flat_length, List.length_drop, ← HN.out]; omega) (flat_cells _) 3
  have Q2 := Aside0.mk q2
  have Q3 := Aside0.mk q3
  have Q4 := Aside0.mk q4
  have Q5 := Aside0.mk q5
  have Q6 := Aside0.mk q6
  clear q2 q3 q4 q5 q6 hg2 hmn k1
  have z1 : IntKind.i64.wrap ((i : Int) + 1) = (i : Int) + 1 := by rw [IntKind.wrap_i64]; omega
  have z2 : 0 ≤ (i : Int) + 1 := by omega
  have z3 : (i : Int) + 1 ≤ (i : Int) + (m : Int) := by omega
  have z4 : ((i : Int) + 1).toNat = i + 1 := by omega
  have z5 : ¬ (c1 = i + 1) := by have := G2.out; omega
  go_still_tail 8, (by kernel_rfl)
  go_wp2
  go_ret
  have eN := HN.out
  have eM := HM.out
  have hil : i ≤ l.length := by omega
  have hlen : (l.take i ++ o :: l.drop i).length = i + m := by rw [List.length_append, List.length_cons, List.length_take, List.length_drop]; omega
  refine ⟨_, rfl, OpsAt.of_row ⟨flat_length _, .inr ⟨w.heap.size, c1, cur3, by rw [hlen]; rfl, HB.out, Q2.out, by rw [hlen]; exact G2.out, G3.out, by rw [Q3.out, K3.out, G4.out], ?_⟩⟩, ?_, ?_⟩
  · refine row_is (cur1 := cur1) (cur2 := cur2) hil (by have := G2.out; omega) G4.out ?_ ?_ Q4.out
    · rw [G5.out]
    · have := K4.out
      simpa [opC] using this
  · refine ⟨by rw [Q5.out.os]; exact K5.out.os.trans G6.out.os, by rw [Q5.out.tape]; exact K5.out.tape.trans G6.out.tape, by rw [Q5.out.output]; exact K5.out.output.trans G6.out.output, by have h1 := Q5.out.size; have h2 := K5.out.size; have h3 := G6.out.size; exact Nat.le_trans (Nat.le_trans h3 h2) h1, fun k hk hn => ?_⟩
    have h1 := K5.out.block k (by have := G7.out; omega) (by omega)
    have h2 := Q5.out.block k (by rw [show w2.drew.heap.size = w2.heap.size from rfl, K6.out, G7.out]; omega) (by omega)
    exact (h2.trans h1).trans (G6.out.block k hk)
  · intro k hk
    exact .inr (Nat.le_of_eq (Option.some.inj hk))
theorem slice_high1 (w : World) (g n c i : Nat) (h : i + 1 ≤ c) : (Instr.slice 39 (.slice (some ⟨g, 0, none⟩) n c) none (some (.int .i64 ((i : Int) + 1))) none).run Tryd.prog w = .ok (.slice (some ⟨g, 0, none⟩) (i + 1) c) w :=
  slice_high w g n c (i + 1) h
/-- A row behind both copies, where there was room. -/
theorem row_room {cur cur2 cur3 : Array Value} {l : List Opn} {o : Opn} {i c : Nat} (hi : i ≤ l.length) (hc : l.length + 1 ≤ c) (s1 : cur.size = c * 9) (t1 : cur.toList.take (l.length * 9) = flat l) (h2 : cur2.toList = cur.toList.take ((i + 1) * 9) ++ flat (l.drop i) ++ cur.toList.drop ((i + 1) * 9 + (flat (l.drop i)).length))
    (h3 : cur3.toList = cur2.toList.take (i * 9) ++ opC o ++ cur2.toList.drop (i * 9 + (opC o).length)) : cur3.toList.take ((l.take i ++ o :: l.drop i).length * 9) = flat (l.take i ++ o :: l.drop i) := by
  have hsz : cur.toList.length = c * 9 := by rw [Array.length_toList, s1]
  have hl1 : (cur.toList.take ((i + 1) * 9)).length = (i + 1) * 9 := by rw [List.length_take, hsz]; omega
  have ho : (opC o).length = 9 := rfl
  have e1 : cur2.toList.take (i * 9) = flat (l.take i) := by
    rw [h2, List.append_assoc, List.take_append_of_le_length (by omega), List.take_take, Nat.min_eq_left (by omega), ← flat_take, ← t1, List.take_take, Nat.min_eq_left (by omega)]
  have e2 : cur2.toList.drop (i * 9 + (opC o).length) = flat (l.drop i) ++ cur.toList.drop ((i + 1) * 9 + (flat (l.drop i)).length) := by
    rw [h2, List.append_assoc, List.drop_left' (by rw [hl1, ho]; omega)]
  have e3 : flat (l.take i ++ o :: l.drop i) = flat (l.take i) ++ opC o ++ flat (l.drop i) := by simp [flat]
  rw [h3, e1, e2, e3, ← List.append_assoc, List.take_append_of_le_length, List.take_of_length_le]
  · rw [← e3, flat_length]; omega
  · rw [← e3, flat_length]; omega
set_option maxHeartbeats 8000000 in
set_option maxRecDepth 100000 in
theorem insert_room (w : World) (B g c : Nat) (l : List Opn) (i : Nat) (hi : i < l.length) (o : Opn) (vb : Nat) (hs : OpsAt w B (.slice (some ⟨g, 0, none⟩) l.length c) l) (hB : B ≤ w.heap.size) (hv : w.heap[vb]? = some (.cells (opC o).toArray 28 (0, 0))) (hvg : vb ≠ g) (hl : l.length ≤ 1000000) (hc : l.length + 1 ≤ c) : Inserts B (.slice (some ⟨g, 0, none⟩) l.length c) l i o vb w := by
  obtain ⟨g', c', cur, he, hBg, hcur, hlc, hcm, hcs, htk⟩ := hs.form (by omega)
  cases he
  have hlt : g < w.heap.size := blk_here hcur
  have hov : ∀ x lb cb, (callFunc 56 #[.slice (some ⟨vb, 0, none⟩) 1 1, .slice (some ⟨g, x, none⟩) lb cb]).run Tryd.prog w = .ok (.value (.bool false)) w := fun x lb cb => by
    rw [run_callFunc_extern Tryd.func56 (by kernel_rfl) (by kernel_rfl) (by kernel_rfl) (e := Extern.SlicesOverlaps.overlaps #[39, 39] #[4]) (by kernel_rfl),
      Lib.run_overlaps_apart w 39 4 28 Tryd.underlying39 9 (fun w => sizeOp w) ⟨vb, 0, none⟩ ⟨g, x, none⟩ 1 1 lb cb hvg 28 28 9 (c * 9) (by unfold World.shape?; rw [hv]; rfl) (by unfold World.shape?; rw [hcur, ← hcs]) (by omega) (blk_frozen hv _) (blk_frozen hv _)]
    rfl
  obtain ⟨n, hn⟩ : ∃ n, n = l.length := ⟨_, rfl⟩
  have hs1 := fun w => low_at w g n c i (by omega) (by omega)
  have hs2 := fun w => slice_high1 w g n c n (by omega)
  have hb : n ≤ 1000000 := by omega
  have hib : i < n := by omega
  have hnc : n < c := by omega
  obtain ⟨w2, cur2, k1, k2, k3, k4, k5, k6⟩ := copy_run w.drew g ((i + 1) * 9) (n - i) (c - (i + 1)) ⟨g, i * 9, none⟩ (n + 1 - i) (c - i) cur (flat (l.drop i)) hcur (by rw [flat_length, List.length_drop, ← hn, show Nat.min (n + 1 - i) (n - i) = n - i from Nat.min_eq_right (by omega)]) (rest_cells (w := w.drew) i (by omega) hcur htk) (by rw [hcs, flat_length, List.length_drop, ← hn]; omega) (flat_cells _) 3
  obtain ⟨w3, cur3, q1, q2, q3, q4, q5, q6⟩ := copy_run w2 g (i * 9) (n + 1 - i) (c - i) ⟨vb, 0, none⟩ 1 1 cur2 (opC o) k2 (by rw [show Nat.min 1 (n + 1 - i) = 1 from Nat.min_eq_left (by omega)]; rfl) (cells_of ((k5.block vb (blk_here hv) hvg).trans hv)) (by rw [k3, hcs]; simp [opC]; omega) (flat_cells' o) 3
  have d1 : decide (i = n) = false := decide_eq_false (by omega)
  have d2 : ((i : Int) == (n : Int)) = false := beq_eq_false_iff_ne.mpr (by omega)
  have d3 : decide ((c : Int) < (n : Int) + 1) = false := decide_eq_false (by omega)
  have z1 : IntKind.i64.wrap ((i : Int) + 1) = (i : Int) + 1 := by rw [IntKind.wrap_i64]; omega
  have z2 : 0 ≤ (i : Int) + 1 := by omega
  have z3 : (i : Int) + 1 ≤ (n : Int) + 1 := by omega
  have z4 : ((i : Int) + 1).toNat = i + 1 := by omega
  have z5 : ¬ (c = i + 1) := by omega
  have z6 : ¬ (c = i) := by omega
  have z7 : IntKind.i64.wrap ((n : Int) + 1) = (n : Int) + 1 := by rw [IntKind.wrap_i64]; omega
  have z8 : ((n : Int) + 1).toNat = n + 1 := by omega
  have z9 : (i : Int) ≤ (n : Int) + 1 := by omega
  have HN := Aside0.mk hn
  have HB := Aside0.mk hB
  have HBG := Aside0.mk hBg
  have HL := Aside0.mk hl
  have HC := Aside0.mk hc
  have HG := Aside0.mk hcur
  have HT := Aside0.mk htk
  have HS := Aside0.mk hcs
  have HM := Aside0.mk hcm
  have K3 := Aside0.mk k3
  have K4 := Aside0.mk k4
  have K5 := Aside0.mk k5
  have K6 := Aside0.mk k6
  have Q2 := Aside0.mk q2
  have Q3 := Aside0.mk q3
  have Q4 := Aside0.mk q4
  have Q5 := Aside0.mk q5
  have Q6 := Aside0.mk q6
  unfold Inserts
  rw [← hn]
  clear hs hB hv hc hn hl hcur hlc hcm hcs htk hBg hi k2 k3 k4 k5 k6 q2 q3 q4 q5 q6
  go_enter Tryd.func40, Tryd.ntmps40
  go_wp2_with (simp only [hov])
  go_still_tail 8, (by kernel_rfl)
  go_wp2
  go_ret
  have eN := HN.out
  have hlen : (l.take i ++ o :: l.drop i).length = n + 1 := by rw [List.length_append, List.length_cons, List.length_take, List.length_drop]; omega
  refine ⟨_, rfl, OpsAt.of_row ⟨flat_length _, .inr ⟨g, c, cur3, by rw [hlen]; rfl, HBG.out, Q2.out, by rw [hlen]; omega, HM.out, by rw [Q3.out, K3.out, HS.out], ?_⟩⟩, ?_, ?_⟩
  · exact row_room (cur := cur) (cur2 := cur2) (c := c) (by omega) HC.out HS.out HT.out K4.out Q4.out
  · refine ⟨by rw [Q5.out.os]; exact K5.out.os, by rw [Q5.out.tape]; exact K5.out.tape, by rw [Q5.out.output]; exact K5.out.output, Nat.le_trans K5.out.size Q5.out.size, fun k hk hn => ?_⟩
    have hkg : k ≠ g := fun e => hn (by rw [e]; rfl)
    exact (Q5.out.block k (Nat.lt_of_lt_of_le hk K5.out.size) hkg).trans (K5.out.block k hk hkg)
  · intro k hk
    exact .inl hk
theorem insert_calls (w : World) (B : Nat) (s : Value) (l : List Opn) (i : Nat) (hi : i ≤ l.length) (o : Opn) (vb : Nat) (hs : OpsAt w B s l) (hB : B ≤ w.heap.size) (hv : w.heap[vb]? = some (.cells (opC o).toArray 28 (0, 0))) (hvg : s.ownBlock ≠ some vb) (hl : l.length ≤ 1000000) : Inserts B s l i o vb w := by
  rcases Nat.lt_or_ge i l.length with h | h
  · obtain ⟨g, c, cur, rfl, hBg, hcur, hlc, hcm, hcs, htk⟩ := hs.form (by omega)
    rcases Nat.lt_or_ge c (l.length + 1) with hc | hc
    · exact insert_grow w B g c l i h o vb hs hB hv hl hc
    · exact insert_room w B g c l i h o vb hs hB hv (fun e => hvg (by rw [e]; rfl)) hl hc
  · obtain rfl : i = l.length := by omega
    exact insert_end w B s l o vb hs hB hv hl
end Go.Proofs.YtiffeljmeahmkaaDoor.S
