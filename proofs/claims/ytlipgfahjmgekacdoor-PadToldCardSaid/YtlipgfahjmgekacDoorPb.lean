/- pad.Size, as the machine walks it: every number. -/
import Derived.Test.YtlipgfahjmgekacDoorPa
import Derived.RangeFuncFrom
namespace Go.Proofs.YtlipgfahjmgekacDoor.S
open Go.RowKit Go.Shelf Go.Proofs.YtlipgfahjmgekacDoorW.PrintWords Go.Proofs.YtlipgfahjmgekacDoorW.PrintLast Go.Proofs.YtlipgfahjmgekacDoorW.PrintMore
attribute [local go_sem] Oper.semAt_some
set_option linter.unusedVariables false
set_option linter.unusedSimpArgs false
theorem cell_of_box_l {W : World} {B : Nat} {v : Value} {t : TypeId} (h : W.heap[B]? = some (.cells #[v] t (0, 0))) : W.cell? ⟨B, 0, none⟩ = some v ∧ W.frozen? ⟨B, 0, none⟩ = false := by
  constructor <;> simp [World.cell?, World.frozen?, h]
theorem cell_new_l (W : World) (v : Value) (t : TypeId) : (W.alloc (.cells #[v] t)).cell? ⟨W.heap.size, 0, none⟩ = some v ∧ (W.alloc (.cells #[v] t)).frozen? ⟨W.heap.size, 0, none⟩ = false :=
  cell_of_box_l (World.alloc_heap_new W _)
theorem cell_alloc_l {W : World} {a : Addr} {v : Value} (o : Obj) (h : W.cell? a = some v) : (W.alloc o).cell? a = some v := cell_kept h (World.grownBy_alloc W o none) (fun r e => by cases e)
theorem frozen_alloc_l {W : World} {a : Addr} {v : Value} (o : Obj) (h : W.cell? a = some v) (hf : W.frozen? a = false) : (W.alloc o).frozen? a = false := (frozen_kept h (World.grownBy_alloc W o none) (fun r e => by cases e)).trans hf
/-- Does a size hold so many bytes? -/
def hit (a y : Int) : Bool := decide (0 ≤ a) && decide (a < y)
def szL (a : Int) (l : List Int) : Int × Int := match l.find? (hit a) with | some y => (y, 0) | none => (0, 2)
def sz (a : Int) : Int × Int := szL a (upto 9)
def NoHit (a : Int) (l : List Int) : Prop := ∀ y ∈ l, hit a y = false
theorem szL_none {a : Int} {l : List Int} (h : NoHit a l) : szL a l = (0, 2) := by
  have : l.find? (hit a) = none := List.find?_eq_none.2 (fun y hy => by rw [h y hy]; simp)
  unfold szL
  rw [this]
theorem szL_some {a x : Int} {q r : List Int} (h : NoHit a q) (hx : hit a x = true) : szL a (q ++ [x] ++ r) = (x, 0) := by
  have hq : q.find? (hit a) = none := List.find?_eq_none.2 (fun y hy => by rw [h y hy]; simp)
  have : (q ++ [x] ++ r).find? (hit a) = some x := by
    rw [List.find?_append, List.find?_append, hq]
    simp [hx]
  unfold szL
  rw [this]
theorem upto_more (k : Nat) (h : k ≤ 9) : ∃ r, upto 9 = upto k ++ r := by
  refine ⟨(upto 9).drop k, ?_⟩
  have e : upto k = (upto 9).take k := by
    unfold upto
    rw [← List.map_take, List.take_range, Nat.min_eq_left h]
  rw [e, List.take_append_drop]
theorem sizes_in (F : Fence) (n : Nat) (h19 : F.fn 19) (hro : F.round = none) (w : World) : CallsIn F n Tryd.prog 19 #[] w fun e w' => e = .returned (.func (.func 24) #[] #[]) ∧ w = w' := by
  refine callsIn_of_wp Tryd.func19 rfl h19 ?_ hro
  simp only [Tryd.ntmps19, List.size_toArray, List.length_cons, List.length_nil, Nat.reduceAdd, Nat.reduceSub, Array.replicate_succ, Array.replicate_zero, List.push_toArray, List.append_toArray, List.nil_append, List.cons_append]
  gi_wp2
  refine bodyPost_ret (results_tmp rfl _ _ _) rfl ?_
  exact ⟨rfl, rfl⟩
def SizeIs (a : Int) (w : World) (e : Ending) (W' : World) : Prop := e = .returned (.tuple #[.int .i64 (sz a).1, .int .i64 (sz a).2]) ∧ Below w.heap.size w W'
set_option maxRecDepth 100000 in
set_option maxHeartbeats 4000000 in
theorem size_in (F : Fence) (n : Nat) (h9 : F.fn 9) (h19 : F.fn 19) (h24 : F.fn 24) (hro : F.round = none) (hn : 3 ≤ n) (a : Int) (w : World) :
    CallsIn F n Tryd.prog 9 #[.int .i64 a] w (SizeIs a w) := by
  have h1 : 1 ≤ n := by omega
  refine callsIn_of_wp_marks Tryd.func9 rfl h9 ?_ hro
  simp only [Tryd.ntmps9, List.size_toArray, List.length_cons, List.length_nil, Nat.reduceAdd, Nat.reduceSub, Array.replicate_succ, Array.replicate_zero, List.push_toArray, List.append_toArray, List.nil_append, List.cons_append]
  gi_wp2_with (gi_at_call 19; refine (sizes_in F (n - 1) h19 hro _).mono ?_; rintro e w' ⟨rfl, rfl⟩)
  have c0 := cell_new_l w (.int .i64 a) 3
  have c1 := cell_new_l (w.alloc (.cells #[.int .i64 a] 3)) (.int .i64 0) 3
  have c2 := cell_new_l ((w.alloc (.cells #[.int .i64 a] 3)).alloc (.cells #[.int .i64 0] 3)) (.int .i64 0) 22
  simp only [World.size_alloc] at c1 c2
  have hB0 : Below w.heap.size w (((w.alloc (.cells #[.int .i64 a] 3)).alloc (.cells #[.int .i64 0] 3)).alloc (.cells #[.int .i64 0] 22)) := (((Below.refl _ w).alloc (Nat.le_refl _) _).alloc (by simp) _).alloc (by simp; omega) _
  refine wpIn_rangeFunc_ownF hro h1 (gf := 24) (lb := #[]) (encs := fun v : Int => #[Value.int .i64 v]) (Kp := KeepsWalks) rfl h24 (enters_of Tryd.func24 (by kernel_rfl) rfl)
    (sizes_stops F (n - 1) h24 hro (by omega) _) walksK_t walksK_b (Below.refl _ _) (fun _ => rfl)
    (fun pre W => (NoHit a pre ∧ W.cell? ⟨w.heap.size, 0, none⟩ = some (.int .i64 a) ∧ W.cell? ⟨w.heap.size + 1, 0, none⟩ = some (.int .i64 0) ∧ W.frozen? ⟨w.heap.size + 1, 0, none⟩ = false ∧ W.cell? ⟨w.heap.size + 1 + 1, 0, none⟩ = some (.int .i64 0) ∧ W.frozen? ⟨w.heap.size + 1 + 1, 0, none⟩ = false) ∧ Below w.heap.size w W)
    (fun c pre W => (c = .ret ∧ (∃ q x, pre = q ++ [x] ∧ NoHit a q ∧ hit a x = true ∧ W.cell? ⟨w.heap.size + 1, 0, none⟩ = some (.int .i64 x)) ∧ W.cell? ⟨w.heap.size + 1 + 1, 0, none⟩ = some (.int .i64 0)) ∧ Below w.heap.size w W)
    (OwnFrom.and (Own.from (fun s A B row hs hg hr => ⟨hs.1, cell_kept hs.2.1 hg hr, cell_kept hs.2.2.1 hg hr, (frozen_kept hs.2.2.1 hg hr).trans hs.2.2.2.1, cell_kept hs.2.2.2.2.1 hg hr, (frozen_kept hs.2.2.2.2.1 hg hr).trans hs.2.2.2.2.2⟩) _) (ownFrom_below (Nat.le_refl _) (by simp; omega)))
    (fun c => OwnFrom.and (Own.from (fun s A B row hs hg hr => ⟨hs.1, (by obtain ⟨q, x, e1, e2, e3, e4⟩ := hs.2.1; exact ⟨q, x, e1, e2, e3, cell_kept e4 hg hr⟩), cell_kept hs.2.2 hg hr⟩) _) (ownFrom_below (Nat.le_refl _) (by simp; omega)))
    ⟨⟨fun y hy => by simp at hy, cell_alloc_l _ (cell_alloc_l _ c0.1), cell_alloc_l _ c1.1, frozen_alloc_l _ c1.1 c1.2, c2.1, c2.2⟩, hB0⟩
    (fun x => { tmps := #[.int .i64 a, .pointer (some ⟨w.heap.size, 0, none⟩), .pointer (some ⟨w.heap.size + 1, 0, none⟩), .pointer (some ⟨w.heap.size + 1 + 1, 0, none⟩), .int .i64 x, .func (.func 24) #[] #[], .int .i64 x, undef, undef, undef, undef, undef, undef, undef, undef], defers := [] }) ?assign ?body ?done ?stop
  case assign =>
    intro l x W K hK
    gi_wp2
    exact hK
  case body =>
    rintro l pre x W ⟨⟨hp, hca, hc1, hf1, hc2, hf2⟩, hB⟩ _
    by_cases ha : 0 ≤ a
    · have d1 : decide (0 ≤ a) = true := decide_eq_true ha
      by_cases hx : a < x
      · have d2 : decide (a < x) = true := decide_eq_true hx
        have hh : hit a x = true := by simp [hit, ha, hx]
        clear ha hx
        gi_wp2
        refine ⟨(KeepsOthers.setCell _ _ _).trans (KeepsOthers.setCell _ _ _), ⟨rfl, ⟨pre, x, rfl, hp, hh, ?_⟩, ?_⟩, (hB.setCell (p := ⟨w.heap.size + 1, 0, none⟩) (by simp) _).setCell (p := ⟨w.heap.size + 1 + 1, 0, none⟩) (by simp; omega) _⟩
        · simp [go_sem, hc1]
        · simp [go_sem, hc2]
      · have d2 : decide (a < x) = false := decide_eq_false hx
        have hh : hit a x = false := by simp [hit, hx]
        clear ha hx
        gi_wp2
        exact ⟨KeepsOthers.refl _, (KeepsOthers.refl _).walks, ⟨fun y hy => (List.mem_append.1 hy).elim (hp y) (fun e => by simp at e; subst e; exact hh), hca, hc1, hf1, hc2, hf2⟩, hB⟩
    · have d1 : decide (0 ≤ a) = false := decide_eq_false ha
      have hh : hit a x = false := by simp [hit, ha]
      clear ha
      gi_wp2
      exact ⟨KeepsOthers.refl _, (KeepsOthers.refl _).walks, ⟨fun y hy => (List.mem_append.1 hy).elim (hp y) (fun e => by simp at e; subst e; exact hh), hca, hc1, hf1, hc2, hf2⟩, hB⟩
  case done =>
    rintro D ys W hD rfl ⟨⟨hp, _, hc1, hf1, hc2, hf2⟩, hB⟩ hK
    gi_wp2
    have hK1 := (KeepsOthers.setCell W ⟨w.heap.size + 1, 0, none⟩ (.int .i64 0)).same D _ hK rfl
    have hK2 := (KeepsOthers.setCell (W.setCell ⟨w.heap.size + 1, 0, none⟩ (.int .i64 0)) ⟨w.heap.size + 1 + 1, 0, none⟩ (.int .i64 2)).same D _ hK1 rfl
    have r1 : ((W.setCell ⟨w.heap.size + 1, 0, none⟩ (.int .i64 0)).setCell ⟨w.heap.size + 1 + 1, 0, none⟩ (.int .i64 2)).cell? ⟨w.heap.size + 1, 0, none⟩ = some (.int .i64 0) := by simp [go_sem, hc1]
    have r2 : ((W.setCell ⟨w.heap.size + 1, 0, none⟩ (.int .i64 0)).setCell ⟨w.heap.size + 1 + 1, 0, none⟩ (.int .i64 2)).cell? ⟨w.heap.size + 1 + 1, 0, none⟩ = some (.int .i64 2) := by simp [go_sem, hc2]
    have hB2 := (hB.setCell (p := ⟨w.heap.size + 1, 0, none⟩) (by simp) (.int .i64 0)).setCell (p := ⟨w.heap.size + 1 + 1, 0, none⟩) (by simp; omega) (.int .i64 2)
    generalize (W.setCell ⟨w.heap.size + 1, 0, none⟩ (.int .i64 0)).setCell ⟨w.heap.size + 1 + 1, 0, none⟩ (.int .i64 2) = W2 at hK2 r1 r2 hB2 ⊢
    have q1 := cell_kept r1 (grownBy_putObj' _ D (.deferred none)) (fun r e => by cases e; exact ⟨_, hK2, rfl⟩)
    have q2 := cell_kept r2 (grownBy_putObj' _ D (.deferred none)) (fun r e => by cases e; exact ⟨_, hK2, rfl⟩)
    refine ⟨by simp, .inl ⟨_, _, rfl, run_takeDeferred hK2, ?_⟩⟩
    refine ⟨.tuple #[.int .i64 0, .int .i64 2], ?_, ⟨by unfold sz; rw [szL_none hp], hB2.trans (belowK_b (w := w) (Nat.le_refl _) _ D _ _ (by simp at hD; omega) hK2 rfl rfl)⟩⟩
    simp [results, Tryd.f9, go_sem, q1, q2]
  case stop =>
    rintro D c pre W hD hpre ⟨⟨rfl, ⟨q, x, e1, e2, e3, e4⟩, hc2⟩, hB⟩ hK
    gi_wp2
    refine ⟨by simp, .inl ⟨_, _, rfl, run_takeDeferred hK, ?_⟩⟩
    have q1 := cell_kept e4 (grownBy_putObj' _ D (.deferred none)) (fun r e => by cases e; exact ⟨_, hK, rfl⟩)
    have q2 := cell_kept hc2 (grownBy_putObj' _ D (.deferred none)) (fun r e => by cases e; exact ⟨_, hK, rfl⟩)
    refine ⟨.tuple #[.int .i64 x, .int .i64 0], ?_, ⟨?_, hB.trans (belowK_b (w := w) (Nat.le_refl _) W D _ _ (by simp at hD; omega) hK rfl rfl)⟩⟩
    · simp [results, Tryd.f9, go_sem, q1, q2]
    · obtain ⟨k, hk, e5⟩ := hpre
      obtain ⟨r, hr⟩ := upto_more k hk
      unfold sz
      rw [hr, ← e5, e1, szL_some e2 e3]
def pad_Size.f (a : Int) : Option (Int × Int) := some (sz a)
theorem pad_Size.calls (a0 : Int) (r1 : Int) (r2 : Int) (w : World) (h : pad_Size.f a0 = some (r1, r2)) :
    Calls Tryd.prog 9 #[.int .i64 a0] w fun e w' => e = .returned (.tuple #[.int .i64 r1, .int .i64 r2]) ∧ Below w.heap.size w w' := by
  have e := Option.some.inj h
  have h2 := (callsIn_wide (n := 3)).1 (size_in Fence.wide 3 trivial trivial trivial rfl (by omega) a0 w)
  refine h2.mono fun e' w' he => ?_
  unfold SizeIs at he
  rw [e] at he
  exact he
end Go.Proofs.YtlipgfahjmgekacDoor.S
