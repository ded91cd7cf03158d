/- slices.AppendSeq and slices.Collect over nodes, whatever the iterator. -/
import Derived.Test.YtiffeljmeahmkaaDoorMt
import Derived.Test.YtiffeljmeahmkaaDoorMr
import Derived.Maps.AppendAt
namespace Go.Proofs.YtiffeljmeahmkaaDoor.S
open Go.RowKit Go.Shelf Go.Proofs.YtiffeljmeahmkaaDoorW.PrintWords Go.Proofs.YtiffeljmeahmkaaDoorW.PrintLast Go.Proofs.YtiffeljmeahmkaaDoorW.PrintMore
attribute [local go_sem] Oper.semAt_some
set_option linter.unusedVariables false
set_option linter.unusedSimpArgs false
theorem infoNode : (Tryd.prog.info? 36).map (fun i => (i.zero, i.size, i.bytes)) = some (some (.agg #[.int .i64 0, .int .i64 0, .int .i64 0, .int .i64 0, .string ⟨#[]⟩, .string ⟨#[]⟩]), 6, 64) := by kernel_rfl
theorem cells_own {β : Type} (B : Nat) (o : Obj) (ho : o.isCells = true) : Own (fun (_ : β) W => W.heap[B]? = some o) := fun s X Y row hs hg hrow =>
  (hg.block B (Array.getElem?_eq_some_iff.1 hs).1 (fun e => by obtain ⟨o', h1, h2⟩ := hrow B e.symm; rw [hs] at h1; cases h1; rw [ho] at h2; cases h2)).trans hs
abbrev nodBox (x : Nod) : Obj := .cells #[.int .i64 x.f0.f0, .int .i64 x.f0.f1, .int .i64 x.f1.f0, .int .i64 x.f1.f1, .string x.f2, .string x.f3] 36
theorem new_cells (W : World) (x : Nod) : ∀ j u, (nodC x)[j]? = some u → (W.alloc (nodBox x)).cell? ((⟨W.heap.size, 0, none⟩ : Addr).add j) = some u := by
  intro j u hj
  have h := blk_cell (heap_alloc_new W (nodBox x)) j
  rw [show (⟨W.heap.size, 0, none⟩ : Addr).add j = ⟨W.heap.size, j, none⟩ by unfold Addr.add; split <;> simp_all, h, ← hj]
  simp [nodC]
/-- The temporaries of AppendSeq's loop. -/
abbrev apT (g : Nat) (lb : Array Value) (Bs : Nat) (v5 v7 : Value) : Act := { tmps := #[.slice none 0 0, .func (.func g) #[] lb, .pointer (some ⟨Bs, 0, none⟩), undef, .slice none 0 0, v5, .func (.func g) #[] lb, v7, undef, undef, undef, undef, undef], defers := [] }
set_option maxRecDepth 100000 in
set_option maxHeartbeats 4000000 in
theorem appendSeq_in (F : Fence) (n : Nat) (h80 : F.fn 80) (hro : F.round = none) (hn : 3 ≤ n) (g : Nat) (lb : Array Value) (hFg : F.fn g) (eg : ∀ args w, (callFunc g args).run Tryd.prog w = .ok (.enter g args) w)
    (S Sp : List Nod → Prop) (N : Nat) (hN : N ≤ maxLen) (hNb : N * 64 ≤ 140737488355328) (w : World) (hseq : SeqStops F (n - 1) Tryd.prog g lb encN S Sp N w) (hSN : ∀ xs, S xs → xs.length ≤ N) :
    CallsIn F n Tryd.prog 80 #[.slice none 0 0, .func (.func g) #[] lb] w fun e W' => ∃ (v : Value) (xs : List Nod), e = .returned v ∧ S xs ∧ NodesAt W' w.heap.size v xs ∧ Below w.heap.size w W' := by
  have h1 : 1 ≤ n := by omega
  obtain ⟨i0, hi, hz0, hz1, hz2⟩ := info_parts infoNode
  refine callsIn_of_wp_marks Tryd.func80 rfl h80 ?_ hro
  simp only [Tryd.ntmps80, List.size_toArray, List.length_cons, List.length_nil, Nat.reduceAdd, Nat.reduceSub, Array.replicate_succ, Array.replicate_zero, List.push_toArray, List.append_toArray, List.nil_append, List.cons_append]
  gi_wp2
  have bO := Boxed.new w 48 (.slice none 0 0)
  have hB0 : Below w.heap.size w (w.alloc (.cells #[.slice none 0 0] 48)) := (Below.refl _ w).alloc (Nat.le_refl _) _
  refine wpIn_rangeFunc_ownH hro h1 (gf := g) (lb := lb) (encs := fun x => #[encN x]) (Kp := KeepsWalks) rfl hFg eg hseq walksK_t walksK_b hB0 (fun _ => rfl)
    (fun pre W => (∃ v, Boxed W w.heap.size 48 v ∧ W.ownsRow w.heap.size 36 6 v pre.length (flatN pre) ∧ True) ∧ Below w.heap.size w W)
    (fun _ _ _ => False)
    (OwnFrom.and (Own.from (holdsRow_own w.heap.size w.heap.size 48 36 6 (fun pre => pre.length) flatN (fun pre v => True)) _) (ownFrom_below (Nat.le_refl _) (by simp)))
    (fun _ _ _ _ _ hs _ _ => hs)
    ⟨⟨_, bO, World.ownsRow_nil _ _ _ _, trivial⟩, hB0⟩
    (fun x a' W => ∃ Bx, w.heap.size < Bx ∧ W.heap[Bx]? = some (nodBox x) ∧ a' = apT g lb w.heap.size (.pointer (some ⟨Bx, 0, none⟩)) (encN x))
    (fun x a' s X Y row hs hg hr => by
      obtain ⟨Bx, hBx, hb, ha⟩ := hs
      exact ⟨Bx, hBx, (cells_own (β := Unit) Bx _ rfl) () X Y row hb hg (fun r e => (hr r e).2), ha⟩) ?assign ?body ?done ?stop
  case assign =>
    rintro l pre x W K hi' hK
    obtain ⟨⟨v, hv, hrow, _⟩, hB⟩ := hi'
    have HK := Aside0.mk hK
    have HV := Aside0.mk hv
    have HR := Aside0.mk hrow
    have HB := Aside0.mk hB
    clear hK hv hrow hB
    dsimp only [encN]
    gi_wp2
    refine HK.out _ _ ((KeepsOthers.alloc _ _).from _) (KeepsWalks.alloc _ _) ⟨⟨v, HV.out.alloc _, HR.out.alloc _, trivial⟩, below_then HB.out HB.out.size (below_alloc (Below.refl _ _) _)⟩ ⟨W.heap.size, (show Boxed W w.heap.size 48 v from HV.out).lt, heap_alloc_new _ _, rfl⟩
  case body =>
    rintro l pre x a' W hl ⟨rl, hrl⟩ ⟨⟨v, hv, hrow, _⟩, hB⟩ ⟨Bx, hBx, hbx, rfl⟩ hlt
    have hlen : pre.length < N := hlt
    obtain ⟨b0, b1, b2, b3, b4, b5, c0, c1, c2, c3, c4, c5⟩ := Z6 hbx
    have hc := hv.cell
    dsimp only [encN]
    gi_wp2_with (gi_at_builtin; refine wpListIn_append_own _ rfl _ _ 48 rfl w.heap.size 36 i0 _ 6 64 Tryd.underlying48 hi hz0 hz1 hz2 rfl (by decide) _ _ _ rfl (hrow.alloc _) ⟨W.heap.size, 0, none⟩ 1 1 (nodC x) rfl rfl (new_cells W x) (nodC_one x) (by omega) (by omega) (by have := hB.size; simp; omega) ?_; intro v' w1 hown' hgrow _; obtain ⟨g', cap', rfl⟩ := ownsRow_succ hown'; obtain ⟨hv1, hv2, hr2, hk2, hb2⟩ := hv.appended (by decide) hrow hB.size (Nat.le_refl _) hown' hgrow; have hc1 := hv1.cell; have hf1 := hv1.frozen)
    refine ⟨hk2.from _, hk2.walks, ⟨_, hv2, ?_, trivial⟩, hB.trans hb2⟩
    rw [List.length_append, flatN_append]
    simpa [flatN] using hr2
  case done =>
    rintro D ys W hD hS ⟨⟨v, hv, hrow, _⟩, hB⟩ hK
    have hc := hv.cell
    gi_wp2
    refine ⟨by simp, .inl ⟨_, _, rfl, run_takeDeferred hK, ?_⟩⟩
    exact ⟨_, results_tmp rfl _ _ _, v, ys, rfl, hS, ownsRow_putObj hrow _ hK rfl, hB.trans (belowK_b (w := w) (Nat.le_refl _) W D _ _ (by simp at hD; omega) hK rfl rfl)⟩
  case stop =>
    rintro D c pre W hD hpre h hK
    exact h.elim
set_option maxRecDepth 100000 in
set_option maxHeartbeats 4000000 in
theorem collect_in (F : Fence) (n : Nat) (h70 : F.fn 70) (h80 : F.fn 80) (hro : F.round = none) (hn : 4 ≤ n) (g : Nat) (lb : Array Value) (hFg : F.fn g) (eg : ∀ args w, (callFunc g args).run Tryd.prog w = .ok (.enter g args) w)
    (S Sp : List Nod → Prop) (N : Nat) (hN : N ≤ maxLen) (hNb : N * 64 ≤ 140737488355328) (w : World) (hseq : SeqStops F (n - 1 - 1) Tryd.prog g lb encN S Sp N w) (hSN : ∀ xs, S xs → xs.length ≤ N) :
    CallsIn F n Tryd.prog 70 #[.func (.func g) #[] lb] w fun e W' => ∃ (v : Value) (xs : List Nod), e = .returned v ∧ S xs ∧ NodesAt W' w.heap.size v xs ∧ Below w.heap.size w W' := by
  have h1 : 1 ≤ n := by omega
  refine callsIn_of_wp Tryd.func70 rfl h70 ?_ hro
  simp only [Tryd.ntmps70, List.size_toArray, List.length_cons, List.length_nil, Nat.reduceAdd, Nat.reduceSub, Array.replicate_succ, Array.replicate_zero, List.push_toArray, List.append_toArray, List.nil_append, List.cons_append]
  gi_wp2_with (gi_at_call 80; refine (appendSeq_in F (n - 1) h80 hro (by omega) g lb hFg eg S Sp N hN hNb w hseq hSN).mono ?_; rintro e w' ⟨v, xs, rfl, hS, hrow, hb⟩)

  go_ret
  exact ⟨v, xs, rfl, hS, hrow, hb⟩
end Go.Proofs.YtiffeljmeahmkaaDoor.S
