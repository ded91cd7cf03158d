/- slices.Delete of the first operations, as the machine walks it. -/
import Derived.Test.YtiffeljmeahmkaaDoorMn
namespace Go.Proofs.YtiffeljmeahmkaaDoor.S
open Go.RowKit Go.Proofs.YtiffeljmeahmkaaDoorW.PrintWords Go.Proofs.YtiffeljmeahmkaaDoorW.PrintLast Go.Proofs.YtiffeljmeahmkaaDoorW.PrintMore
set_option linter.unusedVariables false
set_option linter.unusedSimpArgs false
abbrev zOp : Value := .agg #[.int .i64 0, .int .i64 0, .int .i64 0, .int .i64 0, .int .i64 0, .int .i64 0, .int .i64 0, .string ⟨#[]⟩, .string ⟨#[]⟩]
theorem zero_one (n : Nat) : ∀ v ∈ (Builtin.zeroCells zOp.cells n).toList, v.oneCell' = true := by
  intro v hv
  unfold Builtin.zeroCells at hv
  simp only [Array.toList_map, List.mem_map] at hv
  obtain ⟨i, _, rfl⟩ := hv
  have hz : zOp.cells.size = 9 := rfl
  rw [hz]
  have h9 : i % 9 < 9 := Nat.mod_lt _ (by decide)
  generalize i % 9 = j at h9
  have : ∀ j, j < 9 → (zOp.cells[j]!).oneCell' = true := by decide
  exact this j h9
theorem clear_ops (w : World) (g off n c : Nat) (cur : Array Value) (hg : w.heap[g]? = some (.cells cur 28 (0, 0))) (hfit : off + n * 9 ≤ cur.size) (ty : TypeId) :
    ∃ w' cur', (Builtin.clear_ #[39] ty #[.slice (some ⟨g, off, none⟩) n c]).run Tryd.prog w = .ok (.tuple #[]) w' ∧ w'.heap[g]? = some (.cells cur' 28 (0, 0)) ∧ cur'.size = cur.size ∧ cur'.toList.take off = cur.toList.take off ∧ Stay w w' (· = g) ∧ w'.heap.size = w.heap.size := by
  cases n with
  | zero => exact ⟨w, cur, by simp [Builtin.clear_, run_underlying Tryd.underlying39], hg, rfl, rfl, Stay.refl _ _, rfl⟩
  | succ n =>
    obtain ⟨cs, hcs⟩ : ∃ cs, cs = (Builtin.zeroCells zOp.cells (n + 1)).toList := ⟨_, rfl⟩
    have hlen : cs.length = (n + 1) * 9 := by rw [hcs, Array.length_toList, size_zeroCells]; rfl
    obtain ⟨cur', h3, h4, h5⟩ := setCells_row cs off w cur hg (by omega)
    obtain ⟨s1, s2, s3, s4⟩ := setCells_same g cs off w
    have hst := run_storeCells_cells (P := Tryd.prog) g off cs 0 w (fun j hj => by rw [cell_of_row w g _ cur _ (0, 0) hg]; simp; omega) (fun j _ => blk_frozen hg _) (by rw [hcs]; exact zero_one _)
    refine ⟨w.setCells g off cs, cur', ?_, h3, h4, ?_, ⟨s1, s2, s3, by rw [s4]; exact Nat.le_refl _, fun k _ hk => setCells_far cs _ k hk⟩, s4⟩
    · simp only [Nat.add_zero] at hst
      simp [Builtin.clear_, run_underlying Tryd.underlying39, zeroOp, ← hcs, hst, Result.andThen]
    · have : (cur.toList.take off).length = off := by rw [List.length_take, Array.length_toList]; omega
      rw [h5, List.append_assoc, List.take_left' this]
theorem append_in (w : World) (g c m : Nat) (ad : Addr) (sc : Nat) (cur : Array Value) (cs : List Value) (hg : w.heap[g]? = some (.cells cur 28 (0, 0))) (hm : cs.length = m * 9) (hmc : m ≤ c) (hc : cur.size = c * 9)
    (hsrc : ∀ j v, cs[j]? = some v → w.cell? (ad.add j) = some v) (h1 : ∀ v ∈ cs, v.oneCell' = true) (ty : TypeId) :
    ∃ w' cur', (Builtin.append_ #[39, 39] ty #[.slice (some ⟨g, 0, none⟩) 0 c, .slice (some ad) m sc]).run Tryd.prog w = .ok (.slice (some ⟨g, 0, none⟩) m c) w' ∧ w'.heap[g]? = some (.cells cur' 28 (0, 0)) ∧ cur'.size = cur.size ∧ cur'.toList.take (m * 9) = cs ∧ Stay w w' (· = g) ∧ w'.heap.size = w.heap.size := by
  obtain ⟨cur', h3, h4, h5⟩ := setCells_row cs 0 w cur hg (by rw [hm, hc]; omega)
  obtain ⟨s1, s2, s3, s4⟩ := setCells_same g cs 0 w
  have hl := run_loadCells_list (P := Tryd.prog) w ad cs hsrc
  have hst := run_storeCells_cells (P := Tryd.prog) g 0 cs 0 w (fun j hj => by rw [cell_of_row w g _ cur _ (0, 0) hg]; simp; omega) (fun j _ => blk_frozen hg _) h1
  refine ⟨w.setCells g 0 cs, cur', ?_, h3, h4, ?_, ⟨s1, s2, s3, by rw [s4]; exact Nat.le_refl _, fun k _ hk => setCells_far cs _ k hk⟩, s4⟩
  · have ha : (⟨g, 0, none⟩ : Addr).add (0 * 9) = ⟨g, 0, none⟩ := by rw [add_zero']
    simp only [Nat.add_zero] at hst
    simp [Builtin.append_, run_underlying Tryd.underlying39, Builtin.lenOf, Builtin.firstCells, sizeOp, hmc, ← hm, hl, hst, Result.andThen, Addr.add]
  · rw [h5, List.take_zero, List.nil_append, List.take_left' hm]
section
variable {ops : Array Oper} {rest : List Oper} {oo : Oper} {a : Act} {Q : Exit → Act → World → Prop} {w : World}
theorem wl_app {v x v' : Value} {w' : World} (s y : Operand) (hop : oo.op = .call { callee := .builtin .append, args := #[s, y], argTypes := #[39, 39] }) (hs : a.eval s = v) (hx : a.eval y = x) (hrun : (Builtin.append_ #[39, 39] oo.type #[v, x]).run Tryd.prog w = .ok v' w')
    (h : wpList Tryd.prog ops Q rest (a.put oo.dst v') w') (hg : oo.guard = none := by rfl) : wpList Tryd.prog ops Q (oo :: rest) a w := by
  refine wpList_plain hg fun K' hK' => ?_
  unfold Oper.wp execOp
  simp only [hop, resolve, invoke, builtin, Sem.run_bind, Sem.run_pure, Result.andThen_ok, List.map_toArray, List.map_cons, List.map_nil, hs, hx, hrun]
  exact hK' _ _ h
end
theorem Stay.undrew {w w1 : World} {S : Nat → Prop} (h : Stay w.drew w1 S) : Stay w w1 S := ⟨h.os, h.tape, h.output, h.size, h.block⟩
theorem drop_src {w : World} {g n c k : Nat} {cur : Array Value} {l : List Opn} (hk : k ≤ l.length) (hcur : w.heap[g]? = some (.cells cur 28 (0, 0))) (ht : cur.toList.take (l.length * 9) = flat l) : ∀ j v, (flat (l.drop k))[j]? = some v → w.cell? ((⟨g, k * 9, none⟩ : Addr).add j) = some v := rest_cells k hk hcur ht
/-- The address of s[k:]: nil of what is left over moves on, but at the end of the room. -/
theorem low_any (w : World) (g n c k : Nat) (h : k ≤ n) (ad : Addr) (ha : ad = if c = k then ⟨g, 0, none⟩ else ⟨g, k * 9, none⟩) : (Instr.slice 39 (.slice (some ⟨g, 0, none⟩) n c) (some (.int .i64 (k : Int))) none none).run Tryd.prog w = .ok (.slice (some ad) (n - k) (c - k)) w := by
  rw [slice_low w _ n c k h, ha]
  by_cases hc : c = k
  · rw [if_pos hc, if_pos hc]
  · rw [if_neg hc, if_neg hc, addr_at]
set_option maxHeartbeats 8000000 in
set_option maxRecDepth 100000 in
theorem delete_calls (w : World) (B : Nat) (s : Value) (l : List Opn) (k : Nat) (hk : k ≤ l.length) (hs : OpsAt w B s l) (hl : l.length ≤ 1000000) :
    Calls Tryd.prog 44 #[s, .int .i64 0, .int .i64 (k : Int)] w fun e w' => ∃ s', e = .returned s' ∧ OpsAt w' B s' (l.drop k) ∧ Stay w w' (fun q => s.ownBlock = some q) ∧ s'.ownBlock = s.ownBlock := by
  rcases Nat.eq_zero_or_pos k with rfl | hk0
  · rcases hs.row.2 with ⟨rfl, h0⟩ | ⟨g, c, cur, rfl, hBg, hcur, hlc, hcm, hcs, htk⟩
    · obtain rfl : l = [] := List.eq_nil_of_length_eq_zero h0
      go_enter Tryd.func44, Tryd.ntmps44
      go_wp2
      go_ret
      exact ⟨_, rfl, Kd.R_nil _ _ _ _ _, Stay.refl _ _, rfl⟩
    · have H := Aside0.mk hs
      clear hs hcur htk hBg hcm hcs
      go_enter Tryd.func44, Tryd.ntmps44
      go_wp2
      go_ret
      exact ⟨_, rfl, H.out, Stay.refl _ _, rfl⟩
  · obtain ⟨g, c, cur, rfl, hBg, hcur, hlc, hcm, hcs, htk⟩ := hs.form (by omega)
    obtain ⟨ad, had⟩ : ∃ ad : Addr, ad = if c = k then ⟨g, 0, none⟩ else ⟨g, k * 9, none⟩ := ⟨_, rfl⟩
    obtain ⟨n, hn⟩ : ∃ n, n = l.length := ⟨_, rfl⟩
    have hsrc : ∀ j v, (flat (l.drop k))[j]? = some v → w.drew.cell? (ad.add j) = some v := by
      by_cases hc : c = k
      · intro j v hj
        rw [List.drop_of_length_le (by omega)] at hj
        simp [flat] at hj
      · rw [had, if_neg hc]
        exact drop_src (w := w.drew) (n := n) (c := c) hk hcur htk
    obtain ⟨w2, cur2, k1, k2, k3, k4, k5, k6⟩ := append_in w.drew g c (n - k) ad (c - k) cur (flat (l.drop k)) hcur (by rw [flat_length, List.length_drop, hn]) (by omega) hcs hsrc (flat_cells _) 39
    obtain ⟨w3, cur3, q1, q2, q3, q4, q5, q6⟩ := clear_ops w2 g ((n - k) * 9) k (c - (n - k)) cur2 k2 (by rw [k3, hcs]; omega) 0
    have HN := Aside0.mk hn
    have hb : n ≤ 1000000 := by omega
    have hkn : k ≤ n := by omega
    have hnc : n ≤ c := by omega
    have H := Aside0.mk (And.intro hBg (And.intro hcm hcs))
    clear hs hBg hcm htk hn
    by_cases hck : c = k
    · subst hck
      obtain rfl : n = c := by omega
      rw [if_pos rfl] at had
      subst had
      clear k1 k2 k3 k4 k5 k6 q1 q2 q3 q4 q5 q6
      obtain ⟨w4, cur4, q1, q2, q3, q4, q5, q6⟩ := clear_ops w.drew g 0 n n cur hcur (by rw [hcs]; omega) 0
      have Q2 := Aside0.mk q2
      have Q := Aside0.mk (And.intro q3 (And.intro q4 (And.intro q5 q6)))
      clear hcur hcs hsrc q2 q3 q4 q5 q6 hlc
      rw [← HN.out]
      clear hl hk
      go_enter Tryd.func44, Tryd.ntmps44
      go_upto_region 5 with fail
      go_still_tail 6, (by kernel_rfl)
      go_wp2
      go_ret
      refine ⟨_, rfl, ?_, (Stay.undrew Q.out.2.2.1).mono (fun q hq => by rw [hq]; rfl), rfl⟩
      rw [List.drop_of_length_le (by rw [← HN.out]; exact Nat.le_refl _)]
      exact OpsAt.of_row ⟨by simp [flat], .inr ⟨g, n, cur4, rfl, H.out.1, Q2.out, Nat.zero_le _, H.out.2.1, by rw [Q.out.1, H.out.2.2], by simp [flat]⟩⟩
    · rw [if_neg hck] at had
      subst had
      have dk : ((k : Int) == 0) = false := beq_eq_false_iff_ne.mpr (by omega)
      have z1 : ¬ (c = n - k) := by omega
      have z2 : ((n - k : Nat) : Int) ≤ n := by omega
      have z3 : n - (n - k) = k := by omega
      have z4 : n - k ≤ n := by omega
      have K := Aside0.mk (And.intro k3 (And.intro k4 (And.intro k5 k6)))
      have Q2 := Aside0.mk q2
      have Q := Aside0.mk (And.intro q3 (And.intro q4 (And.intro q5 q6)))
      clear hcur hcs hsrc k2 k3 k4 k5 k6 q2 q3 q4 q5 q6 hlc
      rw [← HN.out]
      clear hl hk
      go_enter Tryd.func44, Tryd.ntmps44
      go_upto_region 5 with fail
      have KR := Aside0.mk k1
      clear k1
      go_still_tail 6, (by kernel_rfl)
      go_wp2_with (at_builtin; refine wl_app _ _ rfl rfl rfl KR.out ?_)
      go_ret
      refine ⟨_, rfl, OpsAt.of_row ⟨flat_length _, .inr ⟨g, c, cur3, by rw [List.length_drop, ← HN.out]; rfl, H.out.1, Q2.out, by rw [List.length_drop, ← HN.out]; omega, H.out.2.1, by rw [Q.out.1, K.out.1, H.out.2.2], ?_⟩⟩, ?_, rfl⟩
      · rw [List.length_drop, ← HN.out, Q.out.2.1, K.out.2.1]
      · exact ((Stay.undrew K.out.2.2.1).trans Q.out.2.2.1 (fun q hq => .inl hq)).mono (fun q hq => by rw [hq]; rfl)
end Go.Proofs.YtiffeljmeahmkaaDoor.S
